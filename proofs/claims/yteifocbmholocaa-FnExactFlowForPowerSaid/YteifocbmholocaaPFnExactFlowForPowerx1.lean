-- Printed by a program of this session (wip/hprint.sh: the kit's print with hand-proved contracts put in); not by print.sh itself.
import Derived.Test.YteifocbmholocaaPFnExactFlowForPowerx0
namespace Go.Proofs.Yteifocbmholocaa.PFnExactFlowForPower
open Go.RowKit Go.Proofs.YteifocbmholocaaW.PrintWords Go.Proofs.YteifocbmholocaaW.PrintLast Go.Proofs.YteifocbmholocaaW.PrintMore
attribute [local go_sem] max2_int min2_int max_two min_two max_three min_three max_four min_four   -- for this text's walks alone
set_option linter.unusedVariables false
set_option linter.unusedSimpArgs false

/-! ### spec_l00In: function 47 -/
def spec_l00In.f (a0 : Int) (a1 : Int) (a2 : Int) : Option (Bool) := if a0 ≥ a1 then (some (decide (a0 ≤ a2))) else (some false)
set_option maxHeartbeats 8000000 in
set_option maxRecDepth 100000 in
theorem spec_l00In.calls (a0 : Int) (a1 : Int) (a2 : Int) (r : Bool) (w : World) (h : spec_l00In.f a0 a1 a2 = some r) :
    Calls Try.prog 47 #[.int .i64 a0, .int .i64 a1, .int .i64 a2] w fun e w' => e = .returned (.bool r) ∧ Drawn0 w w' := by
  have H : (if a0 ≥ a1 then (some (decide (a0 ≤ a2))) else (some false)) = some r := h
  clear h
  by_cases c4 : a0 ≥ a1
  · rw [if_pos c4] at H
    have c4b0 : decide (a1 ≤ a0) = true := decide_eq_true c4
    clear c4
    obtain rfl := Option.some.inj H
    go_enter Try.func47, Try.ntmps47
    go_wp2
    go_ret
    exact ⟨by first | rfl | (simp; done) | (simp [*]; done), by repeat (first | exact Drawn0.refl _ | apply Drawn0.step)⟩
  · rw [if_neg c4] at H
    have c4b0 : decide (a1 ≤ a0) = false := decide_eq_false c4
    clear c4
    obtain rfl := Option.some.inj H
    go_enter Try.func47, Try.ntmps47
    go_wp2
    go_ret
    exact ⟨by first | rfl | (simp; done) | (simp [*]; done), by repeat (first | exact Drawn0.refl _ | apply Drawn0.step)⟩

open Go.Proofs.YteifocbmholocaaM
def spec_l00In_.f (a0 a1 a2 : Int) : Option Bool := some (decide (a1 ≤ a0 ∧ a0 ≤ a2))
theorem spec_l00In_.calls (a0 a1 a2 : Int) (r : Bool) (w : World) (h : spec_l00In_.f a0 a1 a2 = some r) :
    Calls Try.prog 47 #[.int .i64 a0, .int .i64 a1, .int .i64 a2] w fun e w' => e = .returned (.bool r) ∧ Drawn0 w w' :=
  spec_l00In.calls a0 a1 a2 r w ((in_both a0 a1 a2).trans h)

/-! ### spec_l02Degrees: function 51 -/
def spec_l02Degrees.f (a0 : Int) : Option (Bool) := (spec_l00In_.f a0 0 18000).bind fun t101 => (some t101)
set_option maxHeartbeats 8000000 in
set_option maxRecDepth 100000 in
theorem spec_l02Degrees.calls (a0 : Int) (r : Bool) (w : World) (h : spec_l02Degrees.f a0 = some r) :
    Calls Try.prog 51 #[.int .i64 a0] w fun e w' => e = .returned (.bool r) ∧ Drawn0 w w' := by
  have H : ((spec_l00In_.f a0 0 18000).bind fun t101 => (some t101)) = some r := h
  clear h
  replace H := Option.bind_eq_some_iff.mp H
  obtain ⟨t101, A20, H⟩ := H
  replace H : (some t101) = some r := H
  have A2 := Aside0.mk A20
  clear A20
  obtain rfl := Option.some.inj H
  go_enter Try.func51, Try.ntmps51
  go_wp2_with (first | ((with_reducible refine gate_callee (f := 47) rfl ?_); refine goesL_ (some 4) rfl rfl Try.func47 (by kernel_rfl) rfl #[.int .i64 a0, .int .i64 0, .int .i64 18000] rfl (by (try simp only [List.map_toArray, List.map_cons, List.map_nil]); first | done | rfl | (simp only [List.length_drop, List.length_take]; rfl)) ?_; (with_reducible refine (spec_l00In_.calls a0 0 18000 t101 _ A2.out).mono ?_); rintro e w' ⟨rfl, ⟨nd, rfl⟩⟩; refine ⟨_, rfl, ?_⟩))
  go_ret
  exact ⟨by first | rfl | (simp; done) | (simp [*]; done), by repeat (first | exact Drawn0.refl _ | apply Drawn0.step)⟩

/-! ### spec_l02Watts: function 61 -/
def spec_l02Watts.f (a0 : Int) : Option (Bool) := (spec_l00In_.f a0 0 100000000).bind fun t102 => (some t102)
set_option maxHeartbeats 8000000 in
set_option maxRecDepth 100000 in
theorem spec_l02Watts.calls (a0 : Int) (r : Bool) (w : World) (h : spec_l02Watts.f a0 = some r) :
    Calls Try.prog 61 #[.int .i64 a0] w fun e w' => e = .returned (.bool r) ∧ Drawn0 w w' := by
  have H : ((spec_l00In_.f a0 0 100000000).bind fun t102 => (some t102)) = some r := h
  clear h
  replace H := Option.bind_eq_some_iff.mp H
  obtain ⟨t102, A20, H⟩ := H
  replace H : (some t102) = some r := H
  have A2 := Aside0.mk A20
  clear A20
  obtain rfl := Option.some.inj H
  go_enter Try.func61, Try.ntmps61
  go_wp2_with (first | ((with_reducible refine gate_callee (f := 47) rfl ?_); refine goesL_ (some 4) rfl rfl Try.func47 (by kernel_rfl) rfl #[.int .i64 a0, .int .i64 0, .int .i64 100000000] rfl (by (try simp only [List.map_toArray, List.map_cons, List.map_nil]); first | done | rfl | (simp only [List.length_drop, List.length_take]; rfl)) ?_; (with_reducible refine (spec_l00In_.calls a0 0 100000000 t102 _ A2.out).mono ?_); rintro e w' ⟨rfl, ⟨nd, rfl⟩⟩; refine ⟨_, rfl, ?_⟩))
  go_ret
  exact ⟨by first | rfl | (simp; done) | (simp [*]; done), by repeat (first | exact Drawn0.refl _ | apply Drawn0.step)⟩

/-! ### spec_l01Div: function 52 -/
def spec_l01Div.f (a0 : Int) (a1 : Int) : Option (Int) := if a1 < 0 then (if (wrap64 (-a0)) < 0 then (if (wrap64 (2 * (wrap64 (-a1)))) = 0 then (none) else (some (wrap64 (-(wrap64 (Int.tdiv (wrap64 ((wrap64 (-a1)) - (wrap64 (2 * (wrap64 (-a0)))))) (wrap64 (2 * (wrap64 (-a1)))))))))) else (if (wrap64 (2 * (wrap64 (-a1)))) = 0 then (none) else (some (wrap64 (Int.tdiv (wrap64 ((wrap64 (2 * (wrap64 (-a0)))) + (wrap64 (-a1)))) (wrap64 (2 * (wrap64 (-a1))))))))) else (if a0 < 0 then (if (wrap64 (2 * a1)) = 0 then (none) else (some (wrap64 (-(wrap64 (Int.tdiv (wrap64 (a1 - (wrap64 (2 * a0)))) (wrap64 (2 * a1)))))))) else (if (wrap64 (2 * a1)) = 0 then (none) else (some (wrap64 (Int.tdiv (wrap64 ((wrap64 (2 * a0)) + a1)) (wrap64 (2 * a1)))))))
set_option maxHeartbeats 8000000 in
set_option maxRecDepth 100000 in
theorem spec_l01Div.calls (a0 : Int) (a1 : Int) (r : Int) (w : World) (h : spec_l01Div.f a0 a1 = some r) :
    Calls Try.prog 52 #[.int .i64 a0, .int .i64 a1] w fun e w' => e = .returned (.int .i64 r) ∧ Drawn0 w w' := by
  have H : (if a1 < 0 then (if (wrap64 (-a0)) < 0 then (if (wrap64 (2 * (wrap64 (-a1)))) = 0 then (none) else (some (wrap64 (-(wrap64 (Int.tdiv (wrap64 ((wrap64 (-a1)) - (wrap64 (2 * (wrap64 (-a0)))))) (wrap64 (2 * (wrap64 (-a1)))))))))) else (if (wrap64 (2 * (wrap64 (-a1)))) = 0 then (none) else (some (wrap64 (Int.tdiv (wrap64 ((wrap64 (2 * (wrap64 (-a0)))) + (wrap64 (-a1)))) (wrap64 (2 * (wrap64 (-a1))))))))) else (if a0 < 0 then (if (wrap64 (2 * a1)) = 0 then (none) else (some (wrap64 (-(wrap64 (Int.tdiv (wrap64 (a1 - (wrap64 (2 * a0)))) (wrap64 (2 * a1)))))))) else (if (wrap64 (2 * a1)) = 0 then (none) else (some (wrap64 (Int.tdiv (wrap64 ((wrap64 (2 * a0)) + a1)) (wrap64 (2 * a1)))))))) = some r := h
  clear h
  by_cases c3 : a1 < 0
  · rw [if_pos c3] at H
    have c3b0 : decide (a1 < 0) = true := decide_eq_true c3
    clear c3
    by_cases c4 : (wrap64 (-a0)) < 0
    · rw [if_pos c4] at H
      have c4b0 : decide ((wrap64 (-a0)) < 0) = true := decide_eq_true c4
      clear c4
      by_cases c5 : (wrap64 (2 * (wrap64 (-a1)))) = 0
      · rw [if_pos c5] at H
        exact absurd H (by simp)
      · rw [if_neg c5] at H
        have c5b0 : ((wrap64 (2 * (wrap64 (-a1)))) == 0) = false := beq_eq_false_iff_ne.mpr c5
        have c5b1 : ((wrap64 (2 * (wrap64 (-a1)))) != 0) = true := bne_iff_ne.mpr c5
        obtain rfl := Option.some.inj H
        go_enter Try.func52, Try.ntmps52
        go_wp2
        go_ret
        exact ⟨by first | rfl | (simp; done) | (simp [*]; done), by repeat (first | exact Drawn0.refl _ | apply Drawn0.step)⟩
    · rw [if_neg c4] at H
      have c4b0 : decide ((wrap64 (-a0)) < 0) = false := decide_eq_false c4
      clear c4
      by_cases c6 : (wrap64 (2 * (wrap64 (-a1)))) = 0
      · rw [if_pos c6] at H
        exact absurd H (by simp)
      · rw [if_neg c6] at H
        have c6b0 : ((wrap64 (2 * (wrap64 (-a1)))) == 0) = false := beq_eq_false_iff_ne.mpr c6
        have c6b1 : ((wrap64 (2 * (wrap64 (-a1)))) != 0) = true := bne_iff_ne.mpr c6
        obtain rfl := Option.some.inj H
        go_enter Try.func52, Try.ntmps52
        go_wp2
        go_ret
        exact ⟨by first | rfl | (simp; done) | (simp [*]; done), by repeat (first | exact Drawn0.refl _ | apply Drawn0.step)⟩
  · rw [if_neg c3] at H
    have c3b0 : decide (a1 < 0) = false := decide_eq_false c3
    clear c3
    by_cases c7 : a0 < 0
    · rw [if_pos c7] at H
      have c7b0 : decide (a0 < 0) = true := decide_eq_true c7
      clear c7
      by_cases c8 : (wrap64 (2 * a1)) = 0
      · rw [if_pos c8] at H
        exact absurd H (by simp)
      · rw [if_neg c8] at H
        have c8b0 : ((wrap64 (2 * a1)) == 0) = false := beq_eq_false_iff_ne.mpr c8
        have c8b1 : ((wrap64 (2 * a1)) != 0) = true := bne_iff_ne.mpr c8
        obtain rfl := Option.some.inj H
        go_enter Try.func52, Try.ntmps52
        go_wp2
        go_ret
        exact ⟨by first | rfl | (simp; done) | (simp [*]; done), by repeat (first | exact Drawn0.refl _ | apply Drawn0.step)⟩
    · rw [if_neg c7] at H
      have c7b0 : decide (a0 < 0) = false := decide_eq_false c7
      clear c7
      by_cases c9 : (wrap64 (2 * a1)) = 0
      · rw [if_pos c9] at H
        exact absurd H (by simp)
      · rw [if_neg c9] at H
        have c9b0 : ((wrap64 (2 * a1)) == 0) = false := beq_eq_false_iff_ne.mpr c9
        have c9b1 : ((wrap64 (2 * a1)) != 0) = true := bne_iff_ne.mpr c9
        obtain rfl := Option.some.inj H
        go_enter Try.func52, Try.ntmps52
        go_wp2
        go_ret
        exact ⟨by first | rfl | (simp; done) | (simp [*]; done), by repeat (first | exact Drawn0.refl _ | apply Drawn0.step)⟩

open Go.Proofs.YteifocbmholocaaM
def spec_l01Div_.f (a0 a1 : Int) : Option Int := if a1 ≠ 0 ∧ -2305843009213693952 ≤ a0 ∧ a0 ≤ 2305843009213693952 ∧ -2305843009213693952 ≤ a1 ∧ a1 ≤ 2305843009213693952 then some (rdiv a0 a1) else none
theorem spec_l01Div_.calls (a0 a1 : Int) (r : Int) (w : World) (h : spec_l01Div_.f a0 a1 = some r) :
    Calls Try.prog 52 #[.int .i64 a0, .int .i64 a1] w fun e w' => e = .returned (.int .i64 r) ∧ Drawn0 w w' := by
  unfold spec_l01Div_.f at h
  split at h
  · rename_i hc
    obtain ⟨hb, h1, h2, h3, h4⟩ := hc
    exact spec_l01Div.calls a0 a1 r w (by rw [← h]; exact spec_div a0 a1 hb h1 h2 h3 h4)
  · exact absurd h (by simp)

/-! ### spec_l02Power: function 86 -/
def spec_l02Power.f (a0 : Int) (a1 : Int) (a2 : Int) : Option (Int) := (spec_l01Div_.f (wrap64 ((wrap64 (a0 * 4186)) * (wrap64 (a1 - a2)))) 100000).bind fun t103 => (some t103)
set_option maxHeartbeats 8000000 in
set_option maxRecDepth 100000 in
theorem spec_l02Power.calls (a0 : Int) (a1 : Int) (a2 : Int) (r : Int) (w : World) (h : spec_l02Power.f a0 a1 a2 = some r) :
    Calls Try.prog 86 #[.int .i64 a0, .int .i64 a1, .int .i64 a2] w fun e w' => e = .returned (.int .i64 r) ∧ Drawn0 w w' := by
  have H : ((spec_l01Div_.f (wrap64 ((wrap64 (a0 * 4186)) * (wrap64 (a1 - a2)))) 100000).bind fun t103 => (some t103)) = some r := h
  clear h
  replace H := Option.bind_eq_some_iff.mp H
  obtain ⟨t103, A40, H⟩ := H
  replace H : (some t103) = some r := H
  have A4 := Aside0.mk A40
  clear A40
  obtain rfl := Option.some.inj H
  go_enter Try.func86, Try.ntmps86
  go_wp2_with (first | ((with_reducible refine gate_callee (f := 52) rfl ?_); refine goesL_ (some 13) rfl rfl Try.func52 (by kernel_rfl) rfl #[.int .i64 (wrap64 ((wrap64 (a0 * 4186)) * (wrap64 (a1 - a2)))), .int .i64 100000] rfl (by (try simp only [List.map_toArray, List.map_cons, List.map_nil]); first | done | rfl | (simp only [List.length_drop, List.length_take]; rfl)) ?_; (with_reducible refine (spec_l01Div_.calls (wrap64 ((wrap64 (a0 * 4186)) * (wrap64 (a1 - a2)))) 100000 t103 _ A4.out).mono ?_); rintro e w' ⟨rfl, ⟨nd, rfl⟩⟩; refine ⟨_, rfl, ?_⟩))
  go_ret
  exact ⟨by first | rfl | (simp; done) | (simp [*]; done), by repeat (first | exact Drawn0.refl _ | apply Drawn0.step)⟩

open Go.Proofs.YteifocbmholocaaM
def spec_l02Power_.f (a0 a1 a2 : Int) : Option Int := if (0 ≤ a0 ∧ a0 ≤ 100000) ∧ (0 ≤ a2 ∧ a2 ≤ a1 ∧ a1 ≤ 18000) then some (powerI a0 a1 a2) else none
theorem spec_l02Power_.same (a0 a1 a2 : Int) (h0 : 0 ≤ a0 ∧ a0 ≤ 100000) (h1 : 0 ≤ a2 ∧ a2 ≤ a1 ∧ a1 ≤ 18000) : spec_l02Power.f a0 a1 a2 = some (powerI a0 a1 a2) := by
  unfold spec_l02Power.f powerI
  have hm := power_num (q := a0) (a := a1) (b := a2) h0.1 h0.2 (by omega) (by omega)
  rw [w64 (x := a0 * 4186) (by omega) (by omega), w64 (x := a1 - a2) (by omega) (by omega), w64 (x := a0 * 4186 * (a1 - a2)) (by omega) (by omega)]
  simp only [spec_l01Div_.f]
  rw [if_pos (by omega)]
  rfl
theorem spec_l02Power_.calls (a0 a1 a2 : Int) (r : Int) (w : World) (h : spec_l02Power_.f a0 a1 a2 = some r) :
    Calls Try.prog 86 #[.int .i64 a0, .int .i64 a1, .int .i64 a2] w fun e w' => e = .returned (.int .i64 r) ∧ Drawn0 w w' := by
  unfold spec_l02Power_.f at h
  split at h
  · rename_i hc
    exact spec_l02Power.calls a0 a1 a2 r w (by rw [← h]; exact spec_l02Power_.same a0 a1 a2 hc.1 hc.2)
  · exact absurd h (by simp)

/-! ### spec_l02Needed: function 62 -/
def spec_l02Needed.l0 : Nat → Int → Int → Int → Int → Int → Option (Int)
  | 0, _, _, _, _, _ => none
  | k + 1, x0, x1, x2, x7, x8 => if (wrap64 (x8 - x7)) > 1 then ((spec_l02Power_.f (wrap64 (Int.tdiv (wrap64 (x7 + x8)) 2)) x1 x2).bind fun t104 => (if t104 ≥ x0 then (spec_l02Needed.l0 k x0 x1 x2 x7 (wrap64 (Int.tdiv (wrap64 (x7 + x8)) 2))) else (spec_l02Needed.l0 k x0 x1 x2 (wrap64 (Int.tdiv (wrap64 (x7 + x8)) 2)) x8))) else (some x8)
def spec_l02Needed.f (k : Nat) (a0 : Int) (a1 : Int) (a2 : Int) : Option (Int) := spec_l02Needed.l0 k a0 a1 a2 (-1) 100001
theorem spec_l02Needed.mono_l : ∀ k, (∀ y0 y1 y2 y3 y4, LeO (spec_l02Needed.l0 k y0 y1 y2 y3 y4) (spec_l02Needed.l0 (k + 1) y0 y1 y2 y3 y4))
  | 0 => fun _ _ _ _ _ r h => by simp [spec_l02Needed.l0] at h
  | k + 1 => by
    have ih0 := spec_l02Needed.mono_l k
    · intro y0 y1 y2 y3 y4
      unfold spec_l02Needed.l0
      repeat' first
      | (with_reducible exact ih0 _ _ _ _ _)
      | (with_reducible exact LeO.refl _)
      | (with_reducible exact LeO.none _)
      | (with_reducible refine LeO.ite ?_ ?_)
      | (with_reducible refine LeO.bind ?_ (fun _ => ?_))
      | exact ih0 _ _ _ _ _
      | exact LeO.none _
      | refine LeO.ite ?_ ?_
      | refine LeO.bind ?_ (fun _ => ?_)
theorem spec_l02Needed.mono : ∀ a0 a1 a2 k, LeO (spec_l02Needed.f k a0 a1 a2) (spec_l02Needed.f (k + 1) a0 a1 a2) := by
  intro a0 a1 a2 k
  have ih0 := spec_l02Needed.mono_l k
  unfold spec_l02Needed.f
  repeat' first
      | (with_reducible exact ih0 _ _ _ _ _)
      | (with_reducible exact LeO.refl _)
      | (with_reducible exact LeO.none _)
      | (with_reducible refine LeO.ite ?_ ?_)
      | (with_reducible refine LeO.bind ?_ (fun _ => ?_))
      | exact ih0 _ _ _ _ _
      | exact LeO.none _
      | refine LeO.ite ?_ ?_
      | refine LeO.bind ?_ (fun _ => ?_)
set_option maxHeartbeats 8000000 in
set_option maxRecDepth 100000 in
theorem spec_l02Needed.calls (k : Nat) (a0 : Int) (a1 : Int) (a2 : Int) (r : Int) (w : World) (h : spec_l02Needed.f k a0 a1 a2 = some r) :
    Calls Try.prog 62 #[.int .i64 a0, .int .i64 a1, .int .i64 a2] w fun e w' => e = .returned (.int .i64 r) ∧ Drawn0 w w' := by
  have H : (spec_l02Needed.l0 k a0 a1 a2 (-1) 100001) = some r := h
  clear h
  have H' := Aside0.mk H
  clear H
  go_enter Try.func62, Try.ntmps62
  go_wp2
  go_loopg [7, 8] k (fun kq v7 v8 w' => ∃ (x7_1 : Int) (x8_1 : Int), v7 = .int .i64 x7_1 ∧ v8 = .int .i64 x8_1 ∧ Aside0 (spec_l02Needed.l0 kq a0 a1 a2 x7_1 x8_1 = some r) ∧ Aside0 (kq ≤ k) ∧ Drawn0 w w')
  case atStart => exact ⟨((-1)), (100001), (by first | rfl | (simp; done) | (simp [*]; done)), (by first | rfl | (simp; done) | (simp [*]; done)), H', ⟨Nat.le_refl _⟩, by repeat (first | exact Drawn0.refl _ | apply Drawn0.step)⟩
  case round =>
    clear H'
    try clear p2
    obtain ⟨x7_1, x8_1, rfl, rfl, HA, HK1, ⟨m1, rfl⟩⟩ := hrel
    cases gk with
    | zero => exact absurd HA.out (by simp [spec_l02Needed.l0])
    | succ k1 =>
      have H := HA.out
      clear HA
      simp only [spec_l02Needed.l0] at H
      by_cases c4 : (wrap64 (x8_1 - x7_1)) > 1
      · rw [if_pos c4] at H
        have c4b0 : decide (1 < (wrap64 (x8_1 - x7_1))) = true := decide_eq_true c4
        clear c4
        replace H := Option.bind_eq_some_iff.mp H
        obtain ⟨t104, A50, H⟩ := H
        replace H : (if t104 ≥ a0 then (spec_l02Needed.l0 k1 a0 a1 a2 x7_1 (wrap64 (Int.tdiv (wrap64 (x7_1 + x8_1)) 2))) else (spec_l02Needed.l0 k1 a0 a1 a2 (wrap64 (Int.tdiv (wrap64 (x7_1 + x8_1)) 2)) x8_1)) = some r := H
        have A5 := Aside0.mk A50
        clear A50
        by_cases c6 : t104 ≥ a0
        · rw [if_pos c6] at H
          have c6b0 : decide (a0 ≤ t104) = true := decide_eq_true c6
          clear c6
          have H' := Aside0.mk H
          clear H
          go_wp2_with (first | ((with_reducible refine gate_callee (f := 86) rfl ?_); refine goesL_ (some 21) rfl rfl Try.func86 (by kernel_rfl) rfl #[.int .i64 (wrap64 (Int.tdiv (wrap64 (x7_1 + x8_1)) 2)), .int .i64 a1, .int .i64 a2] rfl (by (try simp only [List.map_toArray, List.map_cons, List.map_nil]); first | done | rfl | (simp only [List.length_drop, List.length_take]; rfl)) ?_; (with_reducible refine (spec_l02Power_.calls (wrap64 (Int.tdiv (wrap64 (x7_1 + x8_1)) 2)) a1 a2 t104 _ A5.out).mono ?_); rintro e w' ⟨rfl, ⟨nd, rfl⟩⟩; refine ⟨_, rfl, ?_⟩))
          go_roundg k1
          case measure => have := HK1.out; omega
          case rel => exact ⟨(x7_1), (wrap64 (Int.tdiv (wrap64 (x7_1 + x8_1)) 2)), (by first | rfl | (simp; done) | (simp [*]; done)), (by first | rfl | (simp; done) | (simp [*]; done)), H', ⟨by have := HK1.out; omega⟩, by repeat (first | exact Drawn0.refl _ | apply Drawn0.step)⟩
        · rw [if_neg c6] at H
          have c6b0 : decide (a0 ≤ t104) = false := decide_eq_false c6
          clear c6
          have H' := Aside0.mk H
          clear H
          go_wp2_with (first | ((with_reducible refine gate_callee (f := 86) rfl ?_); refine goesL_ (some 21) rfl rfl Try.func86 (by kernel_rfl) rfl #[.int .i64 (wrap64 (Int.tdiv (wrap64 (x7_1 + x8_1)) 2)), .int .i64 a1, .int .i64 a2] rfl (by (try simp only [List.map_toArray, List.map_cons, List.map_nil]); first | done | rfl | (simp only [List.length_drop, List.length_take]; rfl)) ?_; (with_reducible refine (spec_l02Power_.calls (wrap64 (Int.tdiv (wrap64 (x7_1 + x8_1)) 2)) a1 a2 t104 _ A5.out).mono ?_); rintro e w' ⟨rfl, ⟨nd, rfl⟩⟩; refine ⟨_, rfl, ?_⟩))
          go_roundg k1
          case measure => have := HK1.out; omega
          case rel => exact ⟨(wrap64 (Int.tdiv (wrap64 (x7_1 + x8_1)) 2)), (x8_1), (by first | rfl | (simp; done) | (simp [*]; done)), (by first | rfl | (simp; done) | (simp [*]; done)), H', ⟨by have := HK1.out; omega⟩, by repeat (first | exact Drawn0.refl _ | apply Drawn0.step)⟩
      · rw [if_neg c4] at H
        have c4b0 : decide (1 < (wrap64 (x8_1 - x7_1))) = false := decide_eq_false c4
        clear c4
        obtain rfl := Option.some.inj H
        go_wp2
        go_ret
        exact ⟨by first | rfl | (simp; done) | (simp [*]; done), by repeat (first | exact Drawn0.refl _ | apply Drawn0.step)⟩

open Go.Proofs.YteifocbmholocaaM
def spec_l02Needed_.f (a0 a1 a2 : Int) : Option Int := if 0 ≤ a2 ∧ a2 ≤ a1 ∧ a1 ≤ 18000 then some ((firstTrue (fun i => decide (a0 ≤ powerI (i : Int) a1 a2)) 100001 : Nat) : Int) else none
theorem spec_l02Needed_.same (a0 a1 a2 : Int) (h : 0 ≤ a2 ∧ a2 ≤ a1 ∧ a1 ≤ 18000) : spec_l02Needed.f 100003 a0 a1 a2 = some ((firstTrue (fun i => decide (a0 ≤ powerI (i : Int) a1 a2)) 100001 : Nat) : Int) := by
  unfold spec_l02Needed.f
  have := bin_first (fun k lo hi => spec_l02Needed.l0 k a0 a1 a2 lo hi) (fun _ hi => hi) (fun x => decide (a0 ≤ powerI x a1 a2)) (-1) 100001 100001 (by omega)
    (fun k lo hi h1 h2 h3 => by
      simp only [spec_l02Needed.l0]
      rw [w64 (x := hi - lo) (by omega) (by omega)]
      by_cases c : hi - lo > 1
      · rw [if_pos c, if_pos c, w64 (x := lo + hi) (by omega) (by omega), Int.tdiv_eq_ediv_of_nonneg (by omega), w64 (x := (lo + hi) / 2) (by omega) (by omega)]
        unfold spec_l02Power_.f
        rw [if_pos ⟨by omega, h⟩]
        simp only [Option.bind_some, ge_iff_le, decide_eq_true_eq]
      · rw [if_neg c, if_neg c])
    (fun a b _ hab _ hp => decide_eq_true (Int.le_trans (of_decide_eq_true hp) (power_mono h.2.1 hab))) 100003 (by omega)
  rw [this]
  have e : (fun i : Nat => decide (a0 ≤ powerI (-1 + 1 + (i : Int)) a1 a2)) = fun i : Nat => decide (a0 ≤ powerI (i : Int) a1 a2) := by funext i; rw [show -1 + 1 + (i : Int) = (i : Int) by omega]
  rw [e]
  congr 1
  omega
theorem spec_l02Needed_.calls (a0 a1 a2 : Int) (r : Int) (w : World) (h : spec_l02Needed_.f a0 a1 a2 = some r) :
    Calls Try.prog 62 #[.int .i64 a0, .int .i64 a1, .int .i64 a2] w fun e w' => e = .returned (.int .i64 r) ∧ Drawn0 w w' := by
  unfold spec_l02Needed_.f at h
  split at h
  · rename_i hc
    exact spec_l02Needed.calls 100003 a0 a1 a2 r w (by rw [← h]; exact spec_l02Needed_.same a0 a1 a2 hc)
  · exact absurd h (by simp)

/-! ### spec_FlowForPower: function 28 -/
def spec_FlowForPower.j0 : Nat → Int → Int → Int → Bool → Option (Int × Int)
  | 0, _, _, _, _ => none
  | k + 1, x0, x1, x2, x22 => if x22 = true then (some (0, 2)) else ((spec_l02Needed_.f x0 x1 x2).bind fun t108 => (if t108 > 100000 then (some (0, 6)) else (some (t108, 0))))
def spec_FlowForPower.f (k : Nat) (a0 : Int) (a1 : Int) (a2 : Int) : Option (Int × Int) := (spec_l02Watts.f a0).bind fun t105 => (if t105 = true then ((spec_l02Degrees.f a1).bind fun t106 => (if t106 = true then ((spec_l00In_.f a2 0 a1).bind fun t107 => (spec_FlowForPower.j0 k a0 a1 a2 (!t107))) else (spec_FlowForPower.j0 k a0 a1 a2 true))) else (spec_FlowForPower.j0 k a0 a1 a2 true))
theorem spec_FlowForPower.mono_l : ∀ k, (∀ y0 y1 y2 y3, LeO (spec_FlowForPower.j0 k y0 y1 y2 y3) (spec_FlowForPower.j0 (k + 1) y0 y1 y2 y3))
  | 0 => fun _ _ _ _ r h => by simp [spec_FlowForPower.j0] at h
  | k + 1 => by
    have ih0 := spec_FlowForPower.mono_l k
    · intro y0 y1 y2 y3
      unfold spec_FlowForPower.j0
      repeat' first
      | (with_reducible exact ih0 _ _ _ _)
      | (with_reducible exact LeO.refl _)
      | (with_reducible exact LeO.none _)
      | (with_reducible refine LeO.ite ?_ ?_)
      | (with_reducible refine LeO.bind ?_ (fun _ => ?_))
      | exact ih0 _ _ _ _
      | exact LeO.none _
      | refine LeO.ite ?_ ?_
      | refine LeO.bind ?_ (fun _ => ?_)
theorem spec_FlowForPower.mono : ∀ a0 a1 a2 k, LeO (spec_FlowForPower.f k a0 a1 a2) (spec_FlowForPower.f (k + 1) a0 a1 a2) := by
  intro a0 a1 a2 k
  have ih0 := spec_FlowForPower.mono_l k
  unfold spec_FlowForPower.f
  repeat' first
      | (with_reducible exact ih0 _ _ _ _)
      | (with_reducible exact LeO.refl _)
      | (with_reducible exact LeO.none _)
      | (with_reducible refine LeO.ite ?_ ?_)
      | (with_reducible refine LeO.bind ?_ (fun _ => ?_))
      | exact ih0 _ _ _ _
      | exact LeO.none _
      | refine LeO.ite ?_ ?_
      | refine LeO.bind ?_ (fun _ => ?_)
set_option maxHeartbeats 8000000 in
set_option maxRecDepth 100000 in
theorem spec_FlowForPower.calls (k : Nat) (a0 : Int) (a1 : Int) (a2 : Int) (r1 : Int) (r2 : Int) (w : World) (h : spec_FlowForPower.f k a0 a1 a2 = some (r1, r2)) :
    Calls Try.prog 28 #[.int .i64 a0, .int .i64 a1, .int .i64 a2] w fun e w' => e = .returned (.tuple #[.int .i64 r1, .int .i64 r2]) ∧ Drawn0 w w' := by
  have H : ((spec_l02Watts.f a0).bind fun t105 => (if t105 = true then ((spec_l02Degrees.f a1).bind fun t106 => (if t106 = true then ((spec_l00In_.f a2 0 a1).bind fun t107 => (spec_FlowForPower.j0 k a0 a1 a2 (!t107))) else (spec_FlowForPower.j0 k a0 a1 a2 true))) else (spec_FlowForPower.j0 k a0 a1 a2 true))) = some (r1, r2) := h
  clear h
  have HC4 := Aside0.mk H
  clear H
  go_enter Try.func28, Try.ntmps28
  go_upto_region 1 with (fail)
  go_cut [22] (fun v22 wc => ∃ (kq : Nat) (x22_3 : Bool), v22 = .bool x22_3 ∧ Aside0 (spec_FlowForPower.j0 kq a0 a1 a2 x22_3 = some (r1, r2)) ∧ Aside0 (kq ≤ k) ∧ Drawn0 w wc)
  case first =>
    have H := HC4.out
    clear HC4
    replace H := Option.bind_eq_some_iff.mp H
    obtain ⟨t105, A50, H⟩ := H
    replace H : (if t105 = true then ((spec_l02Degrees.f a1).bind fun t106 => (if t106 = true then ((spec_l00In_.f a2 0 a1).bind fun t107 => (spec_FlowForPower.j0 k a0 a1 a2 (!t107))) else (spec_FlowForPower.j0 k a0 a1 a2 true))) else (spec_FlowForPower.j0 k a0 a1 a2 true)) = some (r1, r2) := H
    have A5 := Aside0.mk A50
    clear A50
    by_cases c6 : t105 = true
    · subst c6
      have H1 : ((spec_l02Degrees.f a1).bind fun t106 => (if t106 = true then ((spec_l00In_.f a2 0 a1).bind fun t107 => (spec_FlowForPower.j0 k a0 a1 a2 (!t107))) else (spec_FlowForPower.j0 k a0 a1 a2 true))) = some (r1, r2) := by rw [if_pos rfl] at H; exact H
      clear H
      have H := H1
      clear H1
      replace H := Option.bind_eq_some_iff.mp H
      obtain ⟨t106, A70, H⟩ := H
      replace H : (if t106 = true then ((spec_l00In_.f a2 0 a1).bind fun t107 => (spec_FlowForPower.j0 k a0 a1 a2 (!t107))) else (spec_FlowForPower.j0 k a0 a1 a2 true)) = some (r1, r2) := H
      have A7 := Aside0.mk A70
      clear A70
      by_cases c8 : t106 = true
      · subst c8
        have H1 : ((spec_l00In_.f a2 0 a1).bind fun t107 => (spec_FlowForPower.j0 k a0 a1 a2 (!t107))) = some (r1, r2) := by rw [if_pos rfl] at H; exact H
        clear H
        have H := H1
        clear H1
        replace H := Option.bind_eq_some_iff.mp H
        obtain ⟨t107, A90, H⟩ := H
        replace H : (spec_FlowForPower.j0 k a0 a1 a2 (!t107)) = some (r1, r2) := H
        have A9 := Aside0.mk A90
        clear A90
        have H' := Aside0.mk H
        clear H
        go_wp2_with (first | ((with_reducible refine gate_callee (f := 61) rfl ?_); refine goesL_ (some 10) rfl rfl Try.func61 (by kernel_rfl) rfl #[.int .i64 a0] rfl (by (try simp only [List.map_toArray, List.map_cons, List.map_nil]); first | done | rfl | (simp only [List.length_drop, List.length_take]; rfl)) ?_; (with_reducible refine (spec_l02Watts.calls a0 true _ A5.out).mono ?_); rintro e w' ⟨rfl, ⟨nd, rfl⟩⟩; refine ⟨_, rfl, ?_⟩) | (go_at_call 51; (with_reducible refine (spec_l02Degrees.calls a1 true _ A7.out).mono ?_); rintro e w' ⟨rfl, ⟨nd, rfl⟩⟩) | (go_at_call 47; (with_reducible refine (spec_l00In_.calls a2 0 a1 t107 _ A9.out).mono ?_); rintro e w' ⟨rfl, ⟨nd, rfl⟩⟩))
        go_meet
        case rel => exact ⟨_, (!t107), (by first | rfl | (simp; done) | (simp [*]; done)), H', ⟨by first | omega | exact Nat.le_refl _⟩, by repeat (first | exact Drawn0.refl _ | apply Drawn0.step)⟩
      · replace c8 := Bool.eq_false_iff.mpr c8
        subst c8
        have H1 : (spec_FlowForPower.j0 k a0 a1 a2 true) = some (r1, r2) := by rw [if_neg (show ¬ (false = true) by decide)] at H; exact H
        clear H
        have H := H1
        clear H1
        have H' := Aside0.mk H
        clear H
        go_wp2_with (first | ((with_reducible refine gate_callee (f := 61) rfl ?_); refine goesL_ (some 10) rfl rfl Try.func61 (by kernel_rfl) rfl #[.int .i64 a0] rfl (by (try simp only [List.map_toArray, List.map_cons, List.map_nil]); first | done | rfl | (simp only [List.length_drop, List.length_take]; rfl)) ?_; (with_reducible refine (spec_l02Watts.calls a0 true _ A5.out).mono ?_); rintro e w' ⟨rfl, ⟨nd, rfl⟩⟩; refine ⟨_, rfl, ?_⟩) | (go_at_call 51; (with_reducible refine (spec_l02Degrees.calls a1 false _ A7.out).mono ?_); rintro e w' ⟨rfl, ⟨nd, rfl⟩⟩))
        go_meet
        case rel => exact ⟨_, (true), (by first | rfl | (simp; done) | (simp [*]; done)), H', ⟨by first | omega | exact Nat.le_refl _⟩, by repeat (first | exact Drawn0.refl _ | apply Drawn0.step)⟩
    · replace c6 := Bool.eq_false_iff.mpr c6
      subst c6
      have H1 : (spec_FlowForPower.j0 k a0 a1 a2 true) = some (r1, r2) := by rw [if_neg (show ¬ (false = true) by decide)] at H; exact H
      clear H
      have H := H1
      clear H1
      have H' := Aside0.mk H
      clear H
      go_wp2_with (first | ((with_reducible refine gate_callee (f := 61) rfl ?_); refine goesL_ (some 10) rfl rfl Try.func61 (by kernel_rfl) rfl #[.int .i64 a0] rfl (by (try simp only [List.map_toArray, List.map_cons, List.map_nil]); first | done | rfl | (simp only [List.length_drop, List.length_take]; rfl)) ?_; (with_reducible refine (spec_l02Watts.calls a0 false _ A5.out).mono ?_); rintro e w' ⟨rfl, ⟨nd, rfl⟩⟩; refine ⟨_, rfl, ?_⟩))
      go_meet
      case rel => exact ⟨_, (true), (by first | rfl | (simp; done) | (simp [*]; done)), H', ⟨by first | omega | exact Nat.le_refl _⟩, by repeat (first | exact Drawn0.refl _ | apply Drawn0.step)⟩
  case rest =>
    clear HC4
    try clear c2
    try clear p2
    try clear c6
    try clear c8
    obtain ⟨kq, x22_3, rfl, HA, HJ3, ⟨mc3, rfl⟩⟩ := hcut
    cases kq with
    | zero => exact absurd HA.out (by simp [spec_FlowForPower.j0])
    | succ kj3 =>
      have H := HA.out
      clear HA
      simp only [spec_FlowForPower.j0] at H
      by_cases c10 : x22_3 = true
      · subst c10
        have H1 : (some (0, 2)) = some (r1, r2) := by rw [if_pos rfl] at H; exact H
        clear H
        have H := H1
        clear H1
        simp only [Option.some.injEq, Prod.mk.injEq] at H
        obtain ⟨rfl, rfl⟩ := H
        go_wp2
        go_ret2
        exact ⟨by first | rfl | (simp; done) | (simp [*]; done), by repeat (first | exact Drawn0.refl _ | apply Drawn0.step)⟩
      · replace c10 := Bool.eq_false_iff.mpr c10
        subst c10
        have H1 : ((spec_l02Needed_.f a0 a1 a2).bind fun t108 => (if t108 > 100000 then (some (0, 6)) else (some (t108, 0)))) = some (r1, r2) := by rw [if_neg (show ¬ (false = true) by decide)] at H; exact H
        clear H
        have H := H1
        clear H1
        replace H := Option.bind_eq_some_iff.mp H
        obtain ⟨t108, A110, H⟩ := H
        replace H : (if t108 > 100000 then (some (0, 6)) else (some (t108, 0))) = some (r1, r2) := H
        have A11 := Aside0.mk A110
        clear A110
        by_cases c12 : t108 > 100000
        · rw [if_pos c12] at H
          have c12b0 : decide (100000 < t108) = true := decide_eq_true c12
          clear c12
          simp only [Option.some.injEq, Prod.mk.injEq] at H
          obtain ⟨rfl, rfl⟩ := H
          go_wp2_with (first | ((with_reducible refine gate_callee (f := 62) rfl ?_); refine goesL_ (some 26) rfl rfl Try.func62 (by kernel_rfl) rfl #[.int .i64 a0, .int .i64 a1, .int .i64 a2] rfl (by (try simp only [List.map_toArray, List.map_cons, List.map_nil]); first | done | rfl | (simp only [List.length_drop, List.length_take]; rfl)) ?_; (with_reducible refine (spec_l02Needed_.calls a0 a1 a2 t108 _ A11.out).mono ?_); rintro e w' ⟨rfl, ⟨nd, rfl⟩⟩; refine ⟨_, rfl, ?_⟩))
          go_ret2
          exact ⟨by first | rfl | (simp; done) | (simp [*]; done), by repeat (first | exact Drawn0.refl _ | apply Drawn0.step)⟩
        · rw [if_neg c12] at H
          have c12b0 : decide (100000 < t108) = false := decide_eq_false c12
          clear c12
          simp only [Option.some.injEq, Prod.mk.injEq] at H
          obtain ⟨rfl, rfl⟩ := H
          go_wp2_with (first | ((with_reducible refine gate_callee (f := 62) rfl ?_); refine goesL_ (some 26) rfl rfl Try.func62 (by kernel_rfl) rfl #[.int .i64 a0, .int .i64 a1, .int .i64 a2] rfl (by (try simp only [List.map_toArray, List.map_cons, List.map_nil]); first | done | rfl | (simp only [List.length_drop, List.length_take]; rfl)) ?_; (with_reducible refine (spec_l02Needed_.calls a0 a1 a2 t108 _ A11.out).mono ?_); rintro e w' ⟨rfl, ⟨nd, rfl⟩⟩; refine ⟨_, rfl, ?_⟩))
          go_ret2
          exact ⟨by first | rfl | (simp; done) | (simp [*]; done), by repeat (first | exact Drawn0.refl _ | apply Drawn0.step)⟩

/-! ### impl_within: function 49 -/
def impl_within.f (a0 : Int) (a1 : Int) (a2 : Int) : Option (Bool) := if a0 ≥ a1 then (some (decide (a0 ≤ a2))) else (some false)
set_option maxHeartbeats 8000000 in
set_option maxRecDepth 100000 in
theorem impl_within.calls (a0 : Int) (a1 : Int) (a2 : Int) (r : Bool) (w : World) (h : impl_within.f a0 a1 a2 = some r) :
    Calls Try.prog 49 #[.int .i64 a0, .int .i64 a1, .int .i64 a2] w fun e w' => e = .returned (.bool r) ∧ Drawn0 w w' := by
  have H : (if a0 ≥ a1 then (some (decide (a0 ≤ a2))) else (some false)) = some r := h
  clear h
  by_cases c4 : a0 ≥ a1
  · rw [if_pos c4] at H
    have c4b0 : decide (a1 ≤ a0) = true := decide_eq_true c4
    clear c4
    obtain rfl := Option.some.inj H
    go_enter Try.func49, Try.ntmps49
    go_wp2
    go_ret
    exact ⟨by first | rfl | (simp; done) | (simp [*]; done), by repeat (first | exact Drawn0.refl _ | apply Drawn0.step)⟩
  · rw [if_neg c4] at H
    have c4b0 : decide (a1 ≤ a0) = false := decide_eq_false c4
    clear c4
    obtain rfl := Option.some.inj H
    go_enter Try.func49, Try.ntmps49
    go_wp2
    go_ret
    exact ⟨by first | rfl | (simp; done) | (simp [*]; done), by repeat (first | exact Drawn0.refl _ | apply Drawn0.step)⟩

open Go.Proofs.YteifocbmholocaaM
def impl_within_.f (a0 a1 a2 : Int) : Option Bool := some (decide (a1 ≤ a0 ∧ a0 ≤ a2))
theorem impl_within_.calls (a0 a1 a2 : Int) (r : Bool) (w : World) (h : impl_within_.f a0 a1 a2 = some r) :
    Calls Try.prog 49 #[.int .i64 a0, .int .i64 a1, .int .i64 a2] w fun e w' => e = .returned (.bool r) ∧ Drawn0 w w' :=
  impl_within.calls a0 a1 a2 r w ((in_both a0 a1 a2).trans h)

/-! ### impl_waterOk: function 54 -/
def impl_waterOk.f (a0 : Int) : Option (Bool) := (impl_within_.f a0 0 18000).bind fun t109 => (some t109)
set_option maxHeartbeats 8000000 in
set_option maxRecDepth 100000 in
theorem impl_waterOk.calls (a0 : Int) (r : Bool) (w : World) (h : impl_waterOk.f a0 = some r) :
    Calls Try.prog 54 #[.int .i64 a0] w fun e w' => e = .returned (.bool r) ∧ Drawn0 w w' := by
  have H : ((impl_within_.f a0 0 18000).bind fun t109 => (some t109)) = some r := h
  clear h
  replace H := Option.bind_eq_some_iff.mp H
  obtain ⟨t109, A20, H⟩ := H
  replace H : (some t109) = some r := H
  have A2 := Aside0.mk A20
  clear A20
  obtain rfl := Option.some.inj H
  go_enter Try.func54, Try.ntmps54
  go_wp2_with (first | ((with_reducible refine gate_callee (f := 49) rfl ?_); refine goesL_ (some 4) rfl rfl Try.func49 (by kernel_rfl) rfl #[.int .i64 a0, .int .i64 0, .int .i64 18000] rfl (by (try simp only [List.map_toArray, List.map_cons, List.map_nil]); first | done | rfl | (simp only [List.length_drop, List.length_take]; rfl)) ?_; (with_reducible refine (impl_within_.calls a0 0 18000 t109 _ A2.out).mono ?_); rintro e w' ⟨rfl, ⟨nd, rfl⟩⟩; refine ⟨_, rfl, ?_⟩))
  go_ret
  exact ⟨by first | rfl | (simp; done) | (simp [*]; done), by repeat (first | exact Drawn0.refl _ | apply Drawn0.step)⟩


/-! ### sort_Search: function 87 -/
open Go.Proofs.YteifocbmholocaaM
def SearchPost (n : Nat) (p : Nat → Bool) (w : World) (e : Ending) (w' : World) : Prop :=
  e = .returned (.int .i64 (firstTrue p n : Nat)) ∧ Below w.heap.size w w'
set_option maxHeartbeats 4000000 in
set_option maxRecDepth 100000 in
/-- sort.Search over n places with a function value that reads: how far the property fails. -/
theorem search_any (g : Nat) (cb : Array Value) (n : Nat) (p : Nat → Bool) (w : World) (eg : Enters Try.prog g) (hsz : n < 4611686018427387904)
    (hf : ∀ (W : World) (i : Nat), Below w.heap.size w W → i < n → Calls Try.prog g (#[.int .i64 i] ++ cb) W fun e w' => e = .returned (.bool (p i)) ∧ Below W.heap.size W w')
    (hmono : ∀ a b, a ≤ b → b < n → p a = true → p b = true) :
    Calls Try.prog 87 #[.int .i64 n, .func (.func g) #[] cb] w (SearchPost n p w) := by
  have HF := Aside0.mk hf
  have M := Aside0.mk hmono
  clear hf hmono
  have eg' : ∀ args w, (callFunc g args).run Try.prog w = .ok (.enter g args) w := eg
  clear eg
  obtain ⟨Q, hQ0⟩ : ∃ Q : Ending → World → Prop, SearchPost n p w = Q := ⟨_, rfl⟩
  have hQ := Aside0.mk hQ0
  rw [hQ0]
  clear hQ0
  go_enter Try.func87, Try.ntmps87
  go_wp2
  go_loopg [5, 6] n (fun kx s5 s6 wr => ∃ (lo hi : Nat), s5 = .int .i64 lo ∧ s6 = .int .i64 hi ∧ lo ≤ hi ∧ hi ≤ n ∧ hi - lo ≤ kx ∧ Aside0 (Below w.heap.size w wr) ∧
    Aside0 ((∀ t, t < lo → p t = false) ∧ (∀ t, hi ≤ t → t < n → p t = true)))
  case atStart => exact ⟨0, n, rfl, rfl, Nat.zero_le _, Nat.le_refl _, by omega, ⟨Below.refl _ _⟩, ⟨fun t ht => absurd ht (Nat.not_lt_zero _), fun t h1 h2 => by omega⟩⟩
  case round =>
    obtain ⟨lo, hi, rfl, rfl, hlh, hin, hg, HB, I⟩ := hrel
    by_cases hlt : lo < hi
    · have hc := HF.out wr ((lo + hi) / 2) HB.out (by omega)
      rw [show (((lo + hi) / 2 : Nat) : Int) = ((lo : Int) + (hi : Int)) / 2 by omega] at hc
      cases hp : p ((lo + hi) / 2) <;> rw [hp] at hc
      · have HP := Aside0.mk hp
        clear hp
        go_wp2_with (go_at_fn g; refine hc.mono ?_; rintro e w' ⟨rfl, hb⟩)
        go_roundg (hi - ((lo + hi) / 2 + 1))
        case measure => omega
        case rel =>
          exact ⟨(lo + hi) / 2 + 1, hi, by rw [show ((lo : Int) + (hi : Int)) / 2 + 1 = (((lo + hi) / 2 + 1 : Nat) : Int) by omega], rfl, by omega, hin, Nat.le_refl _, ⟨below_then HB.out HB.out.size hb⟩, ⟨fun t ht => (by
            cases h : p t with
            | false => rfl
            | true => have := M.out t ((lo + hi) / 2) (by omega) (by omega) h; rw [HP.out] at this; cases this), I.out.2⟩⟩
      · have HP := Aside0.mk hp
        clear hp
        go_wp2_with (go_at_fn g; refine hc.mono ?_; rintro e w' ⟨rfl, hb⟩)
        go_roundg ((lo + hi) / 2 - lo)
        case measure => omega
        case rel =>
          exact ⟨lo, (lo + hi) / 2, rfl, by rw [show ((lo : Int) + (hi : Int)) / 2 = (((lo + hi) / 2 : Nat) : Int) by omega], by omega, by omega, Nat.le_refl _, ⟨below_then HB.out HB.out.size hb⟩, ⟨I.out.1, fun t ht htn => M.out ((lo + hi) / 2) t ht htn HP.out⟩⟩
    · obtain rfl : hi = lo := by omega
      go_wp2
      rw [← hQ.out]
      exact ⟨by rw [firstTrue_unique p n hi hin I.out.1 I.out.2]; rfl, HB.out⟩


/-! ### impl_firstIn: function 63 -/
open Go.Proofs.YteifocbmholocaaM
def FirstPost (low : Int) (n : Nat) (p : Int → Bool) (w : World) (e : Ending) (w' : World) : Prop :=
  e = .returned (.tuple #[.int .i64 (low + (firstTrue (fun i => p (low + (i : Int))) n : Nat)), .bool (decide (firstTrue (fun i => p (low + (i : Int))) n < n))]) ∧ Below w.heap.size w w'
set_option maxHeartbeats 2000000 in
set_option maxRecDepth 100000 in
theorem firstIn_closure (g : Nat) (cb : Array Value) (B0 B1 : Nat) (low x : Int) (b : Bool) (W : World) (i : Nat) (eg : Enters Try.prog g) (hx : low + (i : Int) = x) (h1 : -4611686018427387904 ≤ low) (h2 : low ≤ 4611686018427387904) (h3 : i < 4611686018427387904)
    (c0 : W.cell? ⟨B0, 0, none⟩ = some (.int .i64 low)) (c1 : W.cell? ⟨B1, 0, none⟩ = some (.func (.func g) #[] cb))
    (hf : Calls Try.prog g (#[.int .i64 x] ++ cb) W fun e w' => e = .returned (.bool b) ∧ Below W.heap.size W w') :
    Calls Try.prog 88 (#[.int .i64 i] ++ #[.pointer (some ⟨B1, 0, none⟩), .pointer (some ⟨B0, 0, none⟩)]) W fun e w' => e = .returned (.bool b) ∧ Below W.heap.size W w' := by
  rw [← hx] at hf
  clear hx
  have HF := Aside0.mk hf
  clear hf
  have eg' : ∀ args w, (callFunc g args).run Try.prog w = .ok (.enter g args) w := eg
  clear eg
  go_enter Try.func88, Try.ntmps88
  go_wp2_with (go_at_fn g; refine HF.out.mono ?_; rintro e w' ⟨rfl, hb⟩)
  go_ret
  exact ⟨rfl, hb⟩
set_option maxHeartbeats 2000000 in
set_option maxRecDepth 100000 in
/-- The least number from low to high with a property that all greater ones have, too. -/
theorem firstIn_any (g : Nat) (cb : Array Value) (low high : Int) (n : Nat) (p : Int → Bool) (w : World) (eg : Enters Try.prog g) (hn : high - low + 1 = (n : Int)) (h1 : -1000000000000 ≤ low) (h2 : low ≤ 1000000000000) (h3 : -1000000000000 ≤ high) (h4 : high ≤ 1000000000000)
    (hf : ∀ (W : World) (x : Int), Below w.heap.size w W → low ≤ x → x ≤ high → Calls Try.prog g (#[.int .i64 x] ++ cb) W fun e w' => e = .returned (.bool (p x)) ∧ Below W.heap.size W w')
    (hmono : ∀ a b, low ≤ a → a ≤ b → b ≤ high → p a = true → p b = true) :
    Calls Try.prog 63 #[.int .i64 low, .int .i64 high, .func (.func g) #[] cb] w (FirstPost low n p w) := by
  obtain ⟨W, hW⟩ : ∃ W, (w.alloc (.cells #[.int .i64 low] 2)).alloc (.cells #[.func (.func g) #[] cb] 30) = W := ⟨_, rfl⟩
  have hb : Below w.heap.size w W := by rw [← hW]; exact below_alloc (below_alloc (Below.refl _ _) _) _
  have hs : W.heap.size = w.heap.size + 1 + 1 := by rw [← hW]; simp
  have d0 : W.cell? ⟨w.heap.size, 0, none⟩ = some (.int .i64 low) := by rw [← hW]; simp
  have d1 : W.cell? ⟨w.heap.size + 1, 0, none⟩ = some (.func (.func g) #[] cb) := by rw [← hW]; simp
  have ek : Enters Try.prog 88 := enters_of Try.func88 (by kernel_rfl) rfl
  have hS := search_any 88 #[.pointer (some ⟨w.heap.size + 1, 0, none⟩), .pointer (some ⟨w.heap.size, 0, none⟩)] n (fun i => p (low + (i : Int))) W ek (by omega)
    (fun W' i hb' hi => firstIn_closure g cb w.heap.size (w.heap.size + 1) low (low + (i : Int)) _ W' i eg rfl (by omega) (by omega) (by omega)
      ((hb'.cell (p := ⟨w.heap.size, 0, none⟩) (by rw [hs]; show w.heap.size < _; omega)).trans d0) ((hb'.cell (p := ⟨w.heap.size + 1, 0, none⟩) (by rw [hs]; show w.heap.size + 1 < _; omega)).trans d1)
      (hf W' _ (hb.trans (hb'.mono (by omega))) (by omega) (by omega)))
    (fun a b hab hbn hp => hmono _ _ (by omega) (by omega) (by omega) hp)
  unfold SearchPost at hS
  unfold FirstPost
  have hk : firstTrue (fun i => p (low + (i : Int))) n ≤ n := firstTrue_le _ _
  generalize firstTrue (fun i => p (low + (i : Int))) n = k at hS hk ⊢
  have HS := Aside0.mk hS
  have HBW := Aside0.mk hb
  have HN := Aside0.mk hn
  have HS0 := Aside0.mk hs
  clear hS hf hmono hb hn ek eg d1 hs
  have hn : 0 ≤ high - low + 1 := by have := HN.out; omega
  have hk2 : (k : Int) ≤ 3000000000000 := by have := HN.out; omega
  go_enter Try.func63, Try.ntmps63
  go_wp2_with (go_at_call 87; rw [HN.out]; refine HS.out.mono ?_; rintro e w' ⟨rfl, hb⟩; have d2 := (hb.cell (p := ⟨w.heap.size, 0, none⟩) (by rw [HS0.out]; show w.heap.size < _; omega)).trans d0)
  go_ret2
  exact ⟨rfl, below_then HBW.out HBW.out.size hb⟩


/-! ### impl_abs: function 84 -/
open Go.Proofs.YteifocbmholocaaM
def impl_abs.f (a0 : Int) : Option Int := if -9223372036854775808 < a0 ∧ a0 ≤ 9223372036854775807 then some (absI a0) else none
theorem absI_mx (a : Int) (h : -9223372036854775808 < a ∧ a ≤ 9223372036854775807) : mx a (wrap64 (-a)) = absI a := by
  rw [w64 (by omega) (by omega)]
  unfold mx absI
  by_cases c : a < 0
  · rw [if_pos (by omega), if_pos c]
  · rw [if_neg c]
    by_cases c' : a < -a
    · omega
    · rw [if_neg c']
set_option maxHeartbeats 1000000 in
theorem impl_abs.calls (a0 : Int) (r : Int) (w : World) (h : impl_abs.f a0 = some r) :
    Calls Try.prog 84 #[.int .i64 a0] w fun e w' => e = .returned (.int .i64 r) ∧ Drawn0 w w' := by
  unfold impl_abs.f at h
  split at h
  · rename_i hb
    obtain rfl := Option.some.inj h
    have H := Aside0.mk (absI_mx a0 hb)
    clear h hb
    rw [← H.out]
    go_enter Try.func84, Try.ntmps84
    go_wp2
    all_goals go_ret
    all_goals exact ⟨by unfold mx; split <;> first | rfl | (exfalso; omega), by repeat (first | exact Drawn0.refl _ | apply Drawn0.step)⟩
  · exact absurd h (by simp)


/-! ### impl_divRound: function 55 -/
open Go.Proofs.YteifocbmholocaaM
def impl_divRound.f (a0 a1 : Int) : Option Int := if a1 ≠ 0 ∧ -2305843009213693952 ≤ a0 ∧ a0 ≤ 2305843009213693952 ∧ -2305843009213693952 ≤ a1 ∧ a1 ≤ 2305843009213693952 then some (rdiv a0 a1) else none
theorem tmod_abs (a b : Int) (hb : b ≠ 0) (b1 : -2305843009213693952 ≤ b) (b2 : b ≤ 2305843009213693952) : -2305843009213693952 ≤ Int.tmod a b ∧ Int.tmod a b ≤ 2305843009213693952 := by
  have hm : Int.natAbs (Int.tmod a b) < Int.natAbs b := by rw [Int.natAbs_tmod]; exact Nat.mod_lt _ (by omega)
  omega
def impl_divRound.val (a b t t' : Int) : Int := if wrap64 (t' - t) ≤ t then (if (decide (a < 0) == decide (b < 0)) = true then wrap64 (wrap64 (Int.tdiv a b) + 1) else wrap64 (wrap64 (Int.tdiv a b) - 1)) else wrap64 (Int.tdiv a b)
set_option maxHeartbeats 2000000 in
set_option maxRecDepth 100000 in
theorem impl_divRound.core (a b t t' : Int) (w : World) (hb : ¬ b = 0) (z0 : (b == 0) = false) (z1 : (b != 0) = true) (A : Aside0 (impl_abs.f (Int.tmod a b) = some t)) (B : Aside0 (impl_abs.f b = some t')) :
    Calls Try.prog 55 #[.int .i64 a, .int .i64 b] w fun e w' => e = .returned (.int .i64 (impl_divRound.val a b t t')) ∧ Drawn0 w w' := by
  unfold impl_divRound.val
  by_cases c1 : wrap64 (t' - t) ≤ t
  · rw [if_pos c1]
    have c1b : decide (wrap64 (t' - t) ≤ t) = true := decide_eq_true c1
    clear c1
    by_cases c2 : (decide (a < 0) == decide (b < 0)) = true
    · rw [if_pos c2]
      go_enter Try.func55, Try.ntmps55
      go_wp2
      go_quiet ((go_at_call 84; exact Calls.quiet_of ((impl_abs.calls _ t _ A.out).mono fun e w' ⟨he, hd⟩ => ⟨he, hd.out⟩)))
      go_wp2_with (go_at_call 84; (with_reducible refine (impl_abs.calls b t' _ B.out).mono ?_); rintro e w' ⟨rfl, ⟨nd, rfl⟩⟩)
      go_ret
      exact ⟨rfl, by repeat (first | exact Drawn0.refl _ | apply Drawn0.step)⟩
    · rw [if_neg c2]
      have c2b : (decide (a < 0) == decide (b < 0)) = false := by simpa using c2
      (try (have c7b1 : decide ((decide (a < 0)) = (decide (b < 0))) = false := by simpa using c2))
      (try (have c7b3 : ¬ ((decide (a < 0)) = (decide (b < 0))) := by simpa using c2))
      clear c2
      go_enter Try.func55, Try.ntmps55
      go_wp2
      go_quiet ((go_at_call 84; exact Calls.quiet_of ((impl_abs.calls _ t _ A.out).mono fun e w' ⟨he, hd⟩ => ⟨he, hd.out⟩)))
      go_wp2_with (go_at_call 84; (with_reducible refine (impl_abs.calls b t' _ B.out).mono ?_); rintro e w' ⟨rfl, ⟨nd, rfl⟩⟩)
      go_ret
      exact ⟨rfl, by repeat (first | exact Drawn0.refl _ | apply Drawn0.step)⟩
  · rw [if_neg c1]
    have c1b : decide (wrap64 (t' - t) ≤ t) = false := decide_eq_false c1
    clear c1
    go_enter Try.func55, Try.ntmps55
    go_wp2
    go_quiet ((go_at_call 84; exact Calls.quiet_of ((impl_abs.calls _ t _ A.out).mono fun e w' ⟨he, hd⟩ => ⟨he, hd.out⟩)))
    go_wp2_with (go_at_call 84; (with_reducible refine (impl_abs.calls b t' _ B.out).mono ?_); rintro e w' ⟨rfl, ⟨nd, rfl⟩⟩)
    go_ret
    exact ⟨rfl, by repeat (first | exact Drawn0.refl _ | apply Drawn0.step)⟩
theorem impl_divRound.calls (a0 a1 : Int) (r : Int) (w : World) (h : impl_divRound.f a0 a1 = some r) :
    Calls Try.prog 55 #[.int .i64 a0, .int .i64 a1] w fun e w' => e = .returned (.int .i64 r) ∧ Drawn0 w w' := by
  unfold impl_divRound.f at h
  split at h
  · rename_i hc
    obtain ⟨hb, h1, h2, h3, h4⟩ := hc
    have hm := tmod_abs a0 a1 hb h3 h4
    have A : impl_abs.f (Int.tmod a0 a1) = some (absI (Int.tmod a0 a1)) := by unfold impl_abs.f; rw [if_pos (by omega)]
    have B : impl_abs.f a1 = some (absI a1) := by unfold impl_abs.f; rw [if_pos (by omega)]
    have key := impl_div a0 a1 hb h1 h2 h3 h4 (absI (Int.tmod a0 a1)) (absI a1) (by unfold absI; split <;> split <;> omega) (by unfold absI; split <;> split <;> omega)
    have e : impl_divRound.val a0 a1 (absI (Int.tmod a0 a1)) (absI a1) = r := by
      rw [← Option.some.inj h]
      refine Option.some.inj (Eq.trans ?_ key)
      unfold impl_divRound.val
      simp only [ge_iff_le]
      split
      · split <;> rfl
      · rfl
    have := impl_divRound.core a0 a1 _ _ w hb (beq_eq_false_iff_ne.mpr hb) (bne_iff_ne.mpr hb) ⟨A⟩ ⟨B⟩
    rw [e] at this
    exact this
  · exact absurd h (by simp)

/-! ### impl_heatPower: function 65 -/
def impl_heatPower.f (a0 : Int) (a1 : Int) (a2 : Int) : Option (Int) := (impl_divRound.f (wrap64 ((wrap64 (a0 * 4186)) * (wrap64 (a1 - a2)))) 100000).bind fun t110 => (some t110)
set_option maxHeartbeats 8000000 in
set_option maxRecDepth 100000 in
theorem impl_heatPower.calls (a0 : Int) (a1 : Int) (a2 : Int) (r : Int) (w : World) (h : impl_heatPower.f a0 a1 a2 = some r) :
    Calls Try.prog 65 #[.int .i64 a0, .int .i64 a1, .int .i64 a2] w fun e w' => e = .returned (.int .i64 r) ∧ Drawn0 w w' := by
  have H : ((impl_divRound.f (wrap64 ((wrap64 (a0 * 4186)) * (wrap64 (a1 - a2)))) 100000).bind fun t110 => (some t110)) = some r := h
  clear h
  replace H := Option.bind_eq_some_iff.mp H
  obtain ⟨t110, A40, H⟩ := H
  replace H : (some t110) = some r := H
  have A4 := Aside0.mk A40
  clear A40
  obtain rfl := Option.some.inj H
  go_enter Try.func65, Try.ntmps65
  go_wp2_with (first | ((with_reducible refine gate_callee (f := 55) rfl ?_); refine goesL_ (some 13) rfl rfl Try.func55 (by kernel_rfl) rfl #[.int .i64 (wrap64 ((wrap64 (a0 * 4186)) * (wrap64 (a1 - a2)))), .int .i64 100000] rfl (by (try simp only [List.map_toArray, List.map_cons, List.map_nil]); first | done | rfl | (simp only [List.length_drop, List.length_take]; rfl)) ?_; (with_reducible refine (impl_divRound.calls (wrap64 ((wrap64 (a0 * 4186)) * (wrap64 (a1 - a2)))) 100000 t110 _ A4.out).mono ?_); rintro e w' ⟨rfl, ⟨nd, rfl⟩⟩; refine ⟨_, rfl, ?_⟩))
  go_ret
  exact ⟨by first | rfl | (simp; done) | (simp [*]; done), by repeat (first | exact Drawn0.refl _ | apply Drawn0.step)⟩

open Go.Proofs.YteifocbmholocaaM
def impl_heatPower_.f (a0 a1 a2 : Int) : Option Int := if (0 ≤ a0 ∧ a0 ≤ 100000) ∧ (0 ≤ a2 ∧ a2 ≤ a1 ∧ a1 ≤ 18000) then some (powerI a0 a1 a2) else none
theorem impl_heatPower_.same (a0 a1 a2 : Int) (h0 : 0 ≤ a0 ∧ a0 ≤ 100000) (h1 : 0 ≤ a2 ∧ a2 ≤ a1 ∧ a1 ≤ 18000) : impl_heatPower.f a0 a1 a2 = some (powerI a0 a1 a2) := by
  unfold impl_heatPower.f powerI
  have hm := power_num (q := a0) (a := a1) (b := a2) h0.1 h0.2 (by omega) (by omega)
  rw [w64 (x := a0 * 4186) (by omega) (by omega), w64 (x := a1 - a2) (by omega) (by omega), w64 (x := a0 * 4186 * (a1 - a2)) (by omega) (by omega)]
  simp only [impl_divRound.f]
  rw [if_pos (by omega)]
  rfl
theorem impl_heatPower_.calls (a0 a1 a2 : Int) (r : Int) (w : World) (h : impl_heatPower_.f a0 a1 a2 = some r) :
    Calls Try.prog 65 #[.int .i64 a0, .int .i64 a1, .int .i64 a2] w fun e w' => e = .returned (.int .i64 r) ∧ Drawn0 w w' := by
  unfold impl_heatPower_.f at h
  split at h
  · rename_i hc
    exact impl_heatPower.calls a0 a1 a2 r w (by rw [← h]; exact impl_heatPower_.same a0 a1 a2 hc.1 hc.2)
  · exact absurd h (by simp)


/-! ### impl_FlowForPower: function 29 -/
open Go.Proofs.YteifocbmholocaaM
def impl_FlowForPower.f (a0 a1 a2 : Int) : Option (Int × Int) := if (0 ≤ a0 ∧ a0 ≤ 100000000) ∧ (0 ≤ a1 ∧ a1 ≤ 18000) ∧ (0 ≤ a2 ∧ a2 ≤ a1) then (if firstTrue (fun i => decide (a0 ≤ powerI (i : Int) a1 a2)) 100001 < 100001 then some (((firstTrue (fun i => decide (a0 ≤ powerI (i : Int) a1 a2)) 100001 : Nat) : Int), 0) else some (0, 6)) else some (0, 2)
set_option maxHeartbeats 2000000 in
set_option maxRecDepth 100000 in
theorem ffp_closure (B0 B1 B2 : Nat) (power warm cold x : Int) (W : World) (h0 : 0 ≤ x) (h1 : x ≤ 100000) (h2 : 0 ≤ cold) (h3 : cold ≤ warm) (h4 : warm ≤ 18000)
    (c0 : W.cell? ⟨B0, 0, none⟩ = some (.int .i64 power)) (c1 : W.cell? ⟨B1, 0, none⟩ = some (.int .i64 warm)) (c2 : W.cell? ⟨B2, 0, none⟩ = some (.int .i64 cold)) :
    Calls Try.prog 64 (#[.int .i64 x] ++ #[.pointer (some ⟨B1, 0, none⟩), .pointer (some ⟨B2, 0, none⟩), .pointer (some ⟨B0, 0, none⟩)]) W fun e w' => e = .returned (.bool (decide (power ≤ powerI x warm cold))) ∧ Below W.heap.size W w' := by
  have E : Aside0 (impl_heatPower_.f x warm cold = some (powerI x warm cold)) := ⟨by unfold impl_heatPower_.f; rw [if_pos ⟨⟨h0, h1⟩, h2, h3, h4⟩]⟩
  generalize powerI x warm cold = y at E
  go_enter Try.func64, Try.ntmps64
  go_wp2_with fail
  go_quiet ((go_at_call 65; exact Calls.quiet_of ((impl_heatPower_.calls _ _ _ y _ E.out).mono fun e w' ⟨he, hd⟩ => ⟨he, hd.out⟩)))
  go_wp2
  go_ret
  exact ⟨rfl, by repeat (first | exact Below.refl _ _ | apply pw_below_drewN | apply below_drew1)⟩
theorem within_b (x lo hi : Int) (w : World) (b : Bool) (h : decide (lo ≤ x ∧ x ≤ hi) = b) : Calls Try.prog 49 #[.int .i64 x, .int .i64 lo, .int .i64 hi] w fun e w' => e = .returned (.bool b) ∧ Drawn0 w w' :=
  impl_within_.calls x lo hi b w (by rw [← h]; rfl)
theorem waterOk_b (x : Int) (w : World) (b : Bool) (h : decide (0 ≤ x ∧ x ≤ 18000) = b) : Calls Try.prog 54 #[.int .i64 x] w fun e w' => e = .returned (.bool b) ∧ Drawn0 w w' :=
  impl_waterOk.calls x b w (by unfold impl_waterOk.f impl_within_.f; rw [← h]; rfl)
set_option maxHeartbeats 4000000 in
set_option maxRecDepth 100000 in
theorem impl_FlowForPower.calls (a0 a1 a2 : Int) (r1 r2 : Int) (w : World) (h : impl_FlowForPower.f a0 a1 a2 = some (r1, r2)) :
    Calls Try.prog 29 #[.int .i64 a0, .int .i64 a1, .int .i64 a2] w fun e w' => e = .returned (.tuple #[.int .i64 r1, .int .i64 r2]) ∧ Below w.heap.size w w' := by
  unfold impl_FlowForPower.f at h
  have HB := Aside0.mk (below_alloc (below_alloc (below_alloc (Below.refl w.heap.size w) (.cells #[.int .i64 a0] 2)) (.cells #[.int .i64 a1] 2)) (.cells #[.int .i64 a2] 2))
  obtain ⟨W, hW⟩ : ∃ W, ((w.alloc (.cells #[.int .i64 a0] 2)).alloc (.cells #[.int .i64 a1] 2)).alloc (.cells #[.int .i64 a2] 2) = W := ⟨_, rfl⟩
  have hs : W.heap.size = w.heap.size + 1 + 1 + 1 := by rw [← hW]; simp
  have d0 : W.cell? ⟨w.heap.size, 0, none⟩ = some (.int .i64 a0) := by rw [← hW]; exact cell_kept _ (cell_kept _ (cell_new1 w _ _))
  have d1 : W.cell? ⟨w.heap.size + 1, 0, none⟩ = some (.int .i64 a1) := by rw [← hW]; exact cell_kept _ (by have := cell_new1 (w.alloc (.cells #[.int .i64 a0] 2)) (.int .i64 a1) 2; rwa [World.size_alloc] at this)
  have d2 : W.cell? ⟨w.heap.size + 1 + 1, 0, none⟩ = some (.int .i64 a2) := by rw [← hW]; have := cell_new1 ((w.alloc (.cells #[.int .i64 a0] 2)).alloc (.cells #[.int .i64 a1] 2)) (.int .i64 a2) 2; rwa [World.size_alloc, World.size_alloc] at this
  rw [hW] at HB
  obtain ⟨b1, hc1⟩ : ∃ b, decide (0 ≤ a0 ∧ a0 ≤ 100000000) = b := ⟨_, rfl⟩
  obtain ⟨b2, hc2⟩ : ∃ b, decide (0 ≤ a1 ∧ a1 ≤ 18000) = b := ⟨_, rfl⟩
  obtain ⟨b3, hc3⟩ : ∃ b, decide (0 ≤ a2 ∧ a2 ≤ a1) = b := ⟨_, rfl⟩
  have hall : (b1 && (b2 && b3)) = decide ((0 ≤ a0 ∧ a0 ≤ 100000000) ∧ (0 ≤ a1 ∧ a1 ≤ 18000) ∧ (0 ≤ a2 ∧ a2 ≤ a1)) := by rw [← hc1, ← hc2, ← hc3]; simp only [Bool.decide_and]
  have C1 := Aside0.mk hc1
  have C2 := Aside0.mk hc2
  have C3 := Aside0.mk hc3
  clear hc1 hc2 hc3
  have hno : (b1 && (b2 && b3)) = false → r1 = 0 ∧ r2 = 2 := fun hf => by
    rw [hall] at hf
    rw [if_neg (of_decide_eq_false hf)] at h
    simp only [Option.some.injEq, Prod.mk.injEq] at h
    exact ⟨h.1.symm, h.2.symm⟩
  cases b1
  · obtain ⟨rfl, rfl⟩ := hno rfl
    clear hno hall h
    go_enter Try.func29, Try.ntmps29
    go_wp2_with (first | (go_at_call 49; (with_reducible refine (within_b a0 0 100000000 _ false C1.out).mono ?_); rintro e w' ⟨rfl, ⟨nd, rfl⟩⟩) | (go_at_call 54; (with_reducible refine (waterOk_b a1 _ b2 C2.out).mono ?_); rintro e w' ⟨rfl, ⟨nd, rfl⟩⟩) | (go_at_call 49; (with_reducible refine (within_b a2 0 a1 _ b3 C3.out).mono ?_); rintro e w' ⟨rfl, ⟨nd, rfl⟩⟩))
    go_ret2
    exact ⟨rfl, by repeat (first | exact HB.out | apply pw_below_drewN | apply below_drew1)⟩
  cases b2
  · obtain ⟨rfl, rfl⟩ := hno rfl
    clear hno hall h
    go_enter Try.func29, Try.ntmps29
    go_wp2_with (first | (go_at_call 49; (with_reducible refine (within_b a0 0 100000000 _ true C1.out).mono ?_); rintro e w' ⟨rfl, ⟨nd, rfl⟩⟩) | (go_at_call 54; (with_reducible refine (waterOk_b a1 _ false C2.out).mono ?_); rintro e w' ⟨rfl, ⟨nd, rfl⟩⟩) | (go_at_call 49; (with_reducible refine (within_b a2 0 a1 _ b3 C3.out).mono ?_); rintro e w' ⟨rfl, ⟨nd, rfl⟩⟩))
    go_ret2
    exact ⟨rfl, by repeat (first | exact HB.out | apply pw_below_drewN | apply below_drew1)⟩
  cases b3
  · obtain ⟨rfl, rfl⟩ := hno rfl
    clear hno hall h
    go_enter Try.func29, Try.ntmps29
    go_wp2_with (first | (go_at_call 49; (with_reducible refine (within_b a0 0 100000000 _ true C1.out).mono ?_); rintro e w' ⟨rfl, ⟨nd, rfl⟩⟩) | (go_at_call 54; (with_reducible refine (waterOk_b a1 _ true C2.out).mono ?_); rintro e w' ⟨rfl, ⟨nd, rfl⟩⟩) | (go_at_call 49; (with_reducible refine (within_b a2 0 a1 _ false C3.out).mono ?_); rintro e w' ⟨rfl, ⟨nd, rfl⟩⟩))
    go_ret2
    exact ⟨rfl, by repeat (first | exact HB.out | apply pw_below_drewN | apply below_drew1)⟩
  obtain ⟨c1, c2, c3⟩ := of_decide_eq_true hall.symm
  clear hno hall
  rw [if_pos ⟨c1, c2, c3⟩] at h
  have eg : Enters Try.prog 64 := enters_of Try.func64 (by kernel_rfl) rfl
  have hF := fun (W' : World) (hb0 : Below W.heap.size W W') => firstIn_any 64 #[.pointer (some ⟨w.heap.size + 1, 0, none⟩), .pointer (some ⟨w.heap.size + 1 + 1, 0, none⟩), .pointer (some ⟨w.heap.size, 0, none⟩)] 0 100000 100001 (fun x => decide (a0 ≤ powerI x a1 a2)) W' eg (by omega) (by omega) (by omega) (by omega) (by omega)
    (fun W2 x hb hx0 hx1 => by
      have hb' := hb0.trans (hb.mono hb0.size)
      exact ffp_closure w.heap.size (w.heap.size + 1) (w.heap.size + 1 + 1) a0 a1 a2 x W2 hx0 hx1 c3.1 c3.2 c2.2 ((hb'.cell (p := ⟨w.heap.size, 0, none⟩) (by rw [hs]; show w.heap.size < _; omega)).trans d0) ((hb'.cell (p := ⟨w.heap.size + 1, 0, none⟩) (by rw [hs]; show w.heap.size + 1 < _; omega)).trans d1) ((hb'.cell (p := ⟨w.heap.size + 1 + 1, 0, none⟩) (by rw [hs]; show w.heap.size + 1 + 1 < _; omega)).trans d2))
    (fun a b _ hab _ hp => decide_eq_true (Int.le_trans (of_decide_eq_true hp) (power_mono c3.2 hab)))
  unfold FirstPost at hF
  have e0 : (fun i : Nat => decide (a0 ≤ powerI (0 + (i : Int)) a1 a2)) = fun i : Nat => decide (a0 ≤ powerI (i : Int) a1 a2) := by funext i; rw [Int.zero_add]
  rw [e0] at hF
  have hk := firstTrue_le (fun i : Nat => decide (a0 ≤ powerI (i : Int) a1 a2)) 100001
  generalize firstTrue (fun i : Nat => decide (a0 ≤ powerI (i : Int) a1 a2)) 100001 = k at h hF hk
  rw [Int.zero_add] at hF
  have HF := Aside0.mk hF
  clear hF e0 eg
  have HS := Aside0.mk hs
  clear hs
  by_cases ck : k < 100001
  · rw [if_pos ck] at h
    simp only [Option.some.injEq, Prod.mk.injEq] at h
    obtain ⟨rfl, rfl⟩ := h
    have ck' := Aside0.mk (decide_eq_true ck)
    clear ck
    go_enter Try.func29, Try.ntmps29
    go_wp2_with (first | (go_at_call 49; (with_reducible refine (within_b a0 0 100000000 _ true C1.out).mono ?_); rintro e w' ⟨rfl, ⟨nd, rfl⟩⟩) | (go_at_call 54; (with_reducible refine (waterOk_b a1 _ true C2.out).mono ?_); rintro e w' ⟨rfl, ⟨nd, rfl⟩⟩) | (go_at_call 49; (with_reducible refine (within_b a2 0 a1 _ true C3.out).mono ?_); rintro e w' ⟨rfl, ⟨nd, rfl⟩⟩) | (go_at_call 63; refine (HF.out _ (by repeat (first | exact Below.refl _ _ | apply pw_below_drewN | apply below_drew1))).mono ?_; rw [ck'.out]; rintro e w' ⟨rfl, hb⟩))
    go_ret2
    exact ⟨rfl, below_then (by repeat (first | exact HB.out | apply pw_below_drewN | apply below_drew1)) (by simp; exact HB.out.size) hb⟩
  · rw [if_neg ck] at h
    simp only [Option.some.injEq, Prod.mk.injEq] at h
    obtain ⟨rfl, rfl⟩ := h
    have ck' := Aside0.mk (decide_eq_false ck)
    clear ck
    go_enter Try.func29, Try.ntmps29
    go_wp2_with (first | (go_at_call 49; (with_reducible refine (within_b a0 0 100000000 _ true C1.out).mono ?_); rintro e w' ⟨rfl, ⟨nd, rfl⟩⟩) | (go_at_call 54; (with_reducible refine (waterOk_b a1 _ true C2.out).mono ?_); rintro e w' ⟨rfl, ⟨nd, rfl⟩⟩) | (go_at_call 49; (with_reducible refine (within_b a2 0 a1 _ true C3.out).mono ?_); rintro e w' ⟨rfl, ⟨nd, rfl⟩⟩) | (go_at_call 63; refine (HF.out _ (by repeat (first | exact Below.refl _ _ | apply pw_below_drewN | apply below_drew1))).mono ?_; rw [ck'.out]; rintro e w' ⟨rfl, hb⟩))
    go_ret2
    exact ⟨rfl, below_then (by repeat (first | exact HB.out | apply pw_below_drewN | apply below_drew1)) (by simp; exact HB.out.size) hb⟩

end Go.Proofs.Yteifocbmholocaa.PFnExactFlowForPower
