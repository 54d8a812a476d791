-- Printed by a program of this session (wip/hprint.sh: the kit's print with hand-proved contracts put in); not by print.sh itself.
import Derived.Test.YthgfkbkobnfnaaaPFnExactWorkingFlowx0
import Derived.Test.YthgfkbkobnfnaaaPFnExactWorkingFlowx2
import Derived.Test.YthgfkbkobnfnaaaPFnExactWorkingFlowx3
namespace Go.Proofs.Ythgfkbkobnfnaaa.PFnExactWorkingFlow
open Go.RowKit Go.Proofs.YthgfkbkobnfnaaaW.PrintWords Go.Proofs.YthgfkbkobnfnaaaW.PrintLast Go.Proofs.YthgfkbkobnfnaaaW.PrintMore Go.Proofs.YthgfkbkobnfnaaaM
attribute [local go_sem] max2_int min2_int max_two min_two max_three min_three max_four min_four   -- for this text's walks alone
set_option linter.unusedVariables false
set_option linter.unusedSimpArgs false

/-! ### spec_l01Div: function 72 -/
def spec_l01Div.f (a0 : Int) (a1 : Int) : Option (Int) := if a1 < 0 then (if (wrap64 (-a0)) < 0 then (if (wrap64 (2 * (wrap64 (-a1)))) = 0 then (none) else (some (wrap64 (-(wrap64 (Int.tdiv (wrap64 ((wrap64 (-a1)) - (wrap64 (2 * (wrap64 (-a0)))))) (wrap64 (2 * (wrap64 (-a1)))))))))) else (if (wrap64 (2 * (wrap64 (-a1)))) = 0 then (none) else (some (wrap64 (Int.tdiv (wrap64 ((wrap64 (2 * (wrap64 (-a0)))) + (wrap64 (-a1)))) (wrap64 (2 * (wrap64 (-a1))))))))) else (if a0 < 0 then (if (wrap64 (2 * a1)) = 0 then (none) else (some (wrap64 (-(wrap64 (Int.tdiv (wrap64 (a1 - (wrap64 (2 * a0)))) (wrap64 (2 * a1)))))))) else (if (wrap64 (2 * a1)) = 0 then (none) else (some (wrap64 (Int.tdiv (wrap64 ((wrap64 (2 * a0)) + a1)) (wrap64 (2 * a1)))))))
set_option maxHeartbeats 8000000 in
set_option maxRecDepth 100000 in
theorem spec_l01Div.calls (a0 : Int) (a1 : Int) (r : Int) (w : World) (h : spec_l01Div.f a0 a1 = some r) :
  Calls Try.prog 72 #[.int .i64 a0, .int .i64 a1] w fun e w' => e = .returned (.int .i64 r) ∧ Drawn0 w w' := by
 have H : (if a1 < 0 then (if (wrap64 (-a0)) < 0 then (if (wrap64 (2 * (wrap64 (-a1)))) = 0 then (none) else (some (wrap64 (-(wrap64 (Int.tdiv (wrap64 ((wrap64 (-a1)) - (wrap64 (2 * (wrap64 (-a0)))))) (wrap64 (2 * (wrap64 (-a1)))))))))) else (if (wrap64 (2 * (wrap64 (-a1)))) = 0 then (none) else (some (wrap64 (Int.tdiv (wrap64 ((wrap64 (2 * (wrap64 (-a0)))) + (wrap64 (-a1)))) (wrap64 (2 * (wrap64 (-a1))))))))) else (if a0 < 0 then (if (wrap64 (2 * a1)) = 0 then (none) else (some (wrap64 (-(wrap64 (Int.tdiv (wrap64 (a1 - (wrap64 (2 * a0)))) (wrap64 (2 * a1)))))))) else (if (wrap64 (2 * a1)) = 0 then (none) else (some (wrap64 (Int.tdiv (wrap64 ((wrap64 (2 * a0)) + a1)) (wrap64 (2 * a1)))))))) = some r := h
 clear h
 by_cases c3 : a1 < 0
 ·rw [if_pos c3] at H
  have c3b0 : decide (a1 < 0) = true := decide_eq_true c3
  clear c3
  by_cases c4 : (wrap64 (-a0)) < 0
  ·rw [if_pos c4] at H
   have c4b0 : decide ((wrap64 (-a0)) < 0) = true := decide_eq_true c4
   clear c4
   by_cases c5 : (wrap64 (2 * (wrap64 (-a1)))) = 0
   ·rw [if_pos c5] at H
    exact absurd H (by simp)
   ·rw [if_neg c5] at H
    have c5b0 : ((wrap64 (2 * (wrap64 (-a1)))) == 0) = false := beq_eq_false_iff_ne.mpr c5
    have c5b1 : ((wrap64 (2 * (wrap64 (-a1)))) != 0) = true := bne_iff_ne.mpr c5
    obtain rfl := Option.some.inj H
    go_enter Try.func72, Try.ntmps72
    go_wp2
    go_ret
    exact ⟨by first | rfl | (simp; done) | (simp [*]; done), by repeat (first | exact Drawn0.refl _ | apply Drawn0.step)⟩
  ·rw [if_neg c4] at H
   have c4b0 : decide ((wrap64 (-a0)) < 0) = false := decide_eq_false c4
   clear c4
   by_cases c6 : (wrap64 (2 * (wrap64 (-a1)))) = 0
   ·rw [if_pos c6] at H
    exact absurd H (by simp)
   ·rw [if_neg c6] at H
    have c6b0 : ((wrap64 (2 * (wrap64 (-a1)))) == 0) = false := beq_eq_false_iff_ne.mpr c6
    have c6b1 : ((wrap64 (2 * (wrap64 (-a1)))) != 0) = true := bne_iff_ne.mpr c6
    obtain rfl := Option.some.inj H
    go_enter Try.func72, Try.ntmps72
    go_wp2
    go_ret
    exact ⟨by first | rfl | (simp; done) | (simp [*]; done), by repeat (first | exact Drawn0.refl _ | apply Drawn0.step)⟩
 ·rw [if_neg c3] at H
  have c3b0 : decide (a1 < 0) = false := decide_eq_false c3
  clear c3
  by_cases c7 : a0 < 0
  ·rw [if_pos c7] at H
   have c7b0 : decide (a0 < 0) = true := decide_eq_true c7
   clear c7
   by_cases c8 : (wrap64 (2 * a1)) = 0
   ·rw [if_pos c8] at H
    exact absurd H (by simp)
   ·rw [if_neg c8] at H
    have c8b0 : ((wrap64 (2 * a1)) == 0) = false := beq_eq_false_iff_ne.mpr c8
    have c8b1 : ((wrap64 (2 * a1)) != 0) = true := bne_iff_ne.mpr c8
    obtain rfl := Option.some.inj H
    go_enter Try.func72, Try.ntmps72
    go_wp2
    go_ret
    exact ⟨by first | rfl | (simp; done) | (simp [*]; done), by repeat (first | exact Drawn0.refl _ | apply Drawn0.step)⟩
  ·rw [if_neg c7] at H
   have c7b0 : decide (a0 < 0) = false := decide_eq_false c7
   clear c7
   by_cases c9 : (wrap64 (2 * a1)) = 0
   ·rw [if_pos c9] at H
    exact absurd H (by simp)
   ·rw [if_neg c9] at H
    have c9b0 : ((wrap64 (2 * a1)) == 0) = false := beq_eq_false_iff_ne.mpr c9
    have c9b1 : ((wrap64 (2 * a1)) != 0) = true := bne_iff_ne.mpr c9
    obtain rfl := Option.some.inj H
    go_enter Try.func72, Try.ntmps72
    go_wp2
    go_ret
    exact ⟨by first | rfl | (simp; done) | (simp [*]; done), by repeat (first | exact Drawn0.refl _ | apply Drawn0.step)⟩

open Go.Proofs.YthgfkbkobnfnaaaM
def spec_l01Div_.f (a0 a1 : Int) : Option Int := if a1 ≠ 0 ∧ -2305843009213693952 ≤ a0 ∧ a0 ≤ 2305843009213693952 ∧ -2305843009213693952 ≤ a1 ∧ a1 ≤ 2305843009213693952 then some (rdiv a0 a1) else none
theorem spec_l01Div_.calls (a0 a1 : Int) (r : Int) (w : World) (h : spec_l01Div_.f a0 a1 = some r) :
    Calls Try.prog 72 #[.int .i64 a0, .int .i64 a1] w fun e w' => e = .returned (.int .i64 r) ∧ Drawn0 w w' := by
  unfold spec_l01Div_.f at h
  split at h
  · rename_i hc
    obtain ⟨hb, h1, h2, h3, h4⟩ := hc
    exact spec_l01Div.calls a0 a1 r w (by rw [← h]; exact spec_div a0 a1 hb h1 h2 h3 h4)
  · exact absurd h (by simp)

/-! ### spec_l01Line: function 115 -/
def spec_l01Line.j0 : Nat → Int → Int → Int → Int → Int → Bool → Option (Int)
 | 0, _, _, _, _, _, _ => none
 | k + 1, x0, x1, x2, x3, x4, x18 => if x18 = true then (some x1) else (if x4 ≥ x2 then (some x3) else ((spec_l01Div_.f (wrap64 ((wrap64 (x3 - x1)) * (wrap64 (x4 - x0)))) (wrap64 (x2 - x0))).bind fun t149 => (some (wrap64 (x1 + t149)))))
def spec_l01Line.f (k : Nat) (a0 : Int) (a1 : Int) (a2 : Int) (a3 : Int) (a4 : Int) : Option (Int) := if a4 ≤ a0 then (spec_l01Line.j0 k a0 a1 a2 a3 a4 true) else (spec_l01Line.j0 k a0 a1 a2 a3 a4 (decide (a2 ≤ a0)))
theorem spec_l01Line.mono_l : ∀ k, (∀ y0 y1 y2 y3 y4 y5, LeO (spec_l01Line.j0 k y0 y1 y2 y3 y4 y5) (spec_l01Line.j0 (k + 1) y0 y1 y2 y3 y4 y5))
 | 0 => fun _ _ _ _ _ _ r h => by simp [spec_l01Line.j0] at h
 | k + 1 => by
  have ih0 := spec_l01Line.mono_l k
  ·intro y0 y1 y2 y3 y4 y5
   unfold spec_l01Line.j0
   repeat' first
   | (with_reducible exact ih0 _ _ _ _ _ _)
   | (with_reducible exact LeO.refl _)
   | (with_reducible exact LeO.none _)
   | (with_reducible refine LeO.ite ?_ ?_)
   | (with_reducible refine LeO.bind ?_ (fun _ => ?_))
   | exact ih0 _ _ _ _ _ _
   | exact LeO.none _
   | refine LeO.ite ?_ ?_
   | refine LeO.bind ?_ (fun _ => ?_)
theorem spec_l01Line.mono : ∀ a0 a1 a2 a3 a4 k, LeO (spec_l01Line.f k a0 a1 a2 a3 a4) (spec_l01Line.f (k + 1) a0 a1 a2 a3 a4) := by
 intro a0 a1 a2 a3 a4 k
 have ih0 := spec_l01Line.mono_l k
 unfold spec_l01Line.f
 repeat' first
   | (with_reducible exact ih0 _ _ _ _ _ _)
   | (with_reducible exact LeO.refl _)
   | (with_reducible exact LeO.none _)
   | (with_reducible refine LeO.ite ?_ ?_)
   | (with_reducible refine LeO.bind ?_ (fun _ => ?_))
   | exact ih0 _ _ _ _ _ _
   | exact LeO.none _
   | refine LeO.ite ?_ ?_
   | refine LeO.bind ?_ (fun _ => ?_)
set_option maxHeartbeats 8000000 in
set_option maxRecDepth 100000 in
theorem spec_l01Line.calls (k : Nat) (a0 : Int) (a1 : Int) (a2 : Int) (a3 : Int) (a4 : Int) (r : Int) (w : World) (h : spec_l01Line.f k a0 a1 a2 a3 a4 = some r) :
  Calls Try.prog 115 #[.int .i64 a0, .int .i64 a1, .int .i64 a2, .int .i64 a3, .int .i64 a4] w fun e w' => e = .returned (.int .i64 r) ∧ Drawn0 w w' := by
 have H : (if a4 ≤ a0 then (spec_l01Line.j0 k a0 a1 a2 a3 a4 true) else (spec_l01Line.j0 k a0 a1 a2 a3 a4 (decide (a2 ≤ a0)))) = some r := h
 clear h
 have HC6 := Aside0.mk H
 clear H
 go_enter Try.func115, Try.ntmps115
 go_upto_region 1 with (fail)
 go_cut [18] (fun v18 wc => ∃ (kq : Nat) (x18_5 : Bool), v18 = .bool x18_5 ∧ Aside0 (spec_l01Line.j0 kq a0 a1 a2 a3 a4 x18_5 = some r) ∧ Aside0 (kq ≤ k) ∧ Drawn0 w wc)
 case first =>
  have H := HC6.out
  clear HC6
  by_cases c7 : a4 ≤ a0
  ·rw [if_pos c7] at H
   have c7b0 : decide (a4 ≤ a0) = true := decide_eq_true c7
   clear c7
   (first | rw [c7b0] | (simp only [i64_w, i32_w]; rw [c7b0]) | rw [c7b2] | skip)
   have H' := Aside0.mk H
   clear H
   go_wp2
   go_meet
   case rel => exact ⟨_, (true), (by first | rfl | (simp; done) | (simp [*]; done)), H', ⟨by first | omega | exact Nat.le_refl _⟩, by repeat (first | exact Drawn0.refl _ | apply Drawn0.step)⟩
  ·rw [if_neg c7] at H
   have c7b0 : decide (a4 ≤ a0) = false := decide_eq_false c7
   clear c7
   (first | rw [c7b0] | (simp only [i64_w, i32_w]; rw [c7b0]) | rw [c7b2] | skip)
   have H' := Aside0.mk H
   clear H
   go_wp2
   go_meet
   case rel => exact ⟨_, (decide (a2 ≤ a0)), (by first | rfl | (simp; done) | (simp [*]; done)), H', ⟨by first | omega | exact Nat.le_refl _⟩, by repeat (first | exact Drawn0.refl _ | apply Drawn0.step)⟩
 case rest =>
  clear HC6
  try clear c1
  try clear p2
  try clear c7
  try clear c7b0
  try clear c7b2
  obtain ⟨kq, x18_5, rfl, HA, HJ5, ⟨mc5, rfl⟩⟩ := hcut
  cases kq with
  | zero => exact absurd HA.out (by simp [spec_l01Line.j0])
  | succ kj5 =>
   have H := HA.out
   clear HA
   simp only [spec_l01Line.j0] at H
   by_cases c8 : x18_5 = true
   ·subst c8
    have H1 : (some a1) = some r := by rw [if_pos rfl] at H; exact H
    clear H
    have H := H1
    clear H1
    obtain rfl := Option.some.inj H
    go_wp2
    go_ret
    exact ⟨by first | rfl | (simp; done) | (simp [*]; done), by repeat (first | exact Drawn0.refl _ | apply Drawn0.step)⟩
   ·replace c8 := Bool.eq_false_iff.mpr c8
    subst c8
    have H1 : (if a4 ≥ a2 then (some a3) else ((spec_l01Div_.f (wrap64 ((wrap64 (a3 - a1)) * (wrap64 (a4 - a0)))) (wrap64 (a2 - a0))).bind fun t149 => (some (wrap64 (a1 + t149))))) = some r := by rw [if_neg (show ¬ (false = true) by decide)] at H; exact H
    clear H
    have H := H1
    clear H1
    by_cases c9 : a4 ≥ a2
    ·rw [if_pos c9] at H
     have c9b0 : decide (a2 ≤ a4) = true := decide_eq_true c9
     clear c9
     obtain rfl := Option.some.inj H
     go_wp2
     go_ret
     exact ⟨by first | rfl | (simp; done) | (simp [*]; done), by repeat (first | exact Drawn0.refl _ | apply Drawn0.step)⟩
    ·rw [if_neg c9] at H
     have c9b0 : decide (a2 ≤ a4) = false := decide_eq_false c9
     clear c9
     replace H := Option.bind_eq_some_iff.mp H
     obtain ⟨t149, A100, H⟩ := H
     replace H : (some (wrap64 (a1 + t149))) = some r := H
     have A10 := Aside0.mk A100
     clear A100
     obtain rfl := Option.some.inj H
     go_wp2_with (first | ((with_reducible refine gate_callee (f := 72) rfl ?_); refine goesL_ (some 35) rfl rfl Try.func72 (by kernel_rfl) rfl #[.int .i64 (wrap64 ((wrap64 (a3 - a1)) * (wrap64 (a4 - a0)))), .int .i64 (wrap64 (a2 - a0))] rfl (by (try simp only [List.map_toArray, List.map_cons, List.map_nil]); first | done | rfl | (simp only [List.length_drop, List.length_take]; rfl)) ?_; (with_reducible refine (spec_l01Div_.calls (wrap64 ((wrap64 (a3 - a1)) * (wrap64 (a4 - a0)))) (wrap64 (a2 - a0)) t149 _ A10.out).mono ?_); rintro e w' ⟨rfl, ⟨nd, rfl⟩⟩; refine ⟨_, rfl, ?_⟩))
     go_ret
     exact ⟨by first | rfl | (simp; done) | (simp [*]; done), by repeat (first | exact Drawn0.refl _ | apply Drawn0.step)⟩

open Go.Proofs.YthgfkbkobnfnaaaM
def spec_l01Line_.f (a0 a1 a2 a3 a4 : Int) : Option Int := if (-10000000 ≤ a0 ∧ a0 ≤ 10000000) ∧ (-10000000 ≤ a1 ∧ a1 ≤ 10000000) ∧ (-10000000 ≤ a2 ∧ a2 ≤ 10000000) ∧ (-10000000 ≤ a3 ∧ a3 ≤ 10000000) then some (lineI a0 a1 a2 a3 a4) else none
theorem spec_l01Line_.same (a0 a1 a2 a3 a4 : Int) (h0 : -10000000 ≤ a0 ∧ a0 ≤ 10000000) (h1 : -10000000 ≤ a1 ∧ a1 ≤ 10000000) (h2 : -10000000 ≤ a2 ∧ a2 ≤ 10000000) (h3 : -10000000 ≤ a3 ∧ a3 ≤ 10000000) : spec_l01Line.f 1 a0 a1 a2 a3 a4 = some (lineI a0 a1 a2 a3 a4) := by
  unfold spec_l01Line.f lineI
  by_cases c1 : a4 ≤ a0
  · rw [if_pos c1, if_pos (Or.inl c1)]; simp [spec_l01Line.j0]
  · rw [if_neg c1]
    by_cases c2 : a2 ≤ a0
    · rw [if_pos (Or.inr c2), decide_eq_true c2]; simp [spec_l01Line.j0]
    · have c3 : ¬ (a4 ≤ a0 ∨ a2 ≤ a0) := by omega
      rw [if_neg c3, decide_eq_false c2]
      simp only [spec_l01Line.j0, Bool.false_eq_true, if_false, ge_iff_le]
      by_cases c4 : a2 ≤ a4
      · rw [if_pos c4, if_pos c4]
      · have hl := line_bound c3 c4 h0.1 h2.2 h1.1 h1.2 h3.1 h3.2
        rw [if_neg c4, if_neg c4, w64 (x := a3 - a1) (by omega) (by omega), w64 (x := a4 - a0) (by omega) (by omega), w64 (x := (a3 - a1) * (a4 - a0)) (by omega) (by omega), w64 (x := a2 - a0) (by omega) (by omega)]
        simp only [spec_l01Div_.f]
        rw [if_pos (by omega)]
        simp only [Option.bind_some]
        rw [w64 (by omega) (by omega)]
theorem spec_l01Line_.calls (a0 a1 a2 a3 a4 : Int) (r : Int) (w : World) (h : spec_l01Line_.f a0 a1 a2 a3 a4 = some r) :
    Calls Try.prog 115 #[.int .i64 a0, .int .i64 a1, .int .i64 a2, .int .i64 a3, .int .i64 a4] w fun e w' => e = .returned (.int .i64 r) ∧ Drawn0 w w' := by
  unfold spec_l01Line_.f at h
  split at h
  · rename_i hc
    exact spec_l01Line.calls 1 a0 a1 a2 a3 a4 r w (by rw [← h]; exact spec_l01Line_.same a0 a1 a2 a3 a4 hc.1 hc.2.1 hc.2.2.1 hc.2.2.2)
  · exact absurd h (by simp)

/-! ### spec_l08Head: function 69 -/
def spec_l08Head.l0 : Nat → Int → Int → ByteArray → List (List Int) → Option (Int)
 | 0, _, _, _, _ => none
 | k + 1, x1, x5, x1000, x1001 => if x5 < (x1001.length : Int) then (if 0 ≤ (wrap64 (x5 - 1)) then (if (wrap64 (x5 - 1)) < (x1001.length : Int) then (if 0 ≤ x5 then (if 0 < ((rd_L1 x1001 x5).length : Int) then (if x1 ≤ (rd (rd_L1 x1001 x5) 0) then (if 0 < ((rd_L1 x1001 (wrap64 (x5 - 1))).length : Int) then (if 1 < ((rd_L1 x1001 (wrap64 (x5 - 1))).length : Int) then (if 1 < ((rd_L1 x1001 x5).length : Int) then ((spec_l01Line_.f (rd (rd_L1 x1001 (wrap64 (x5 - 1))) 0) (rd (rd_L1 x1001 (wrap64 (x5 - 1))) 1) (rd (rd_L1 x1001 x5) 0) (rd (rd_L1 x1001 x5) 1) x1).bind fun t157 => (some t157)) else (none)) else (none)) else (none)) else (spec_l08Head.l0 k x1 (wrap64 (x5 + 1)) x1000 x1001)) else (none)) else (none)) else (none)) else (none)) else (some 0)
def spec_l08Head.f (k : Nat) (a0_0 : ByteArray) (l0_1 : List (List Int)) (a1 : Int) : Option (Int) := spec_l08Head.l0 k a1 1 a0_0 l0_1
theorem spec_l08Head.mono_l : ∀ k, (∀ y0 y1 y2 y3, LeO (spec_l08Head.l0 k y0 y1 y2 y3) (spec_l08Head.l0 (k + 1) y0 y1 y2 y3))
 | 0 => fun _ _ _ _ r h => by simp [spec_l08Head.l0] at h
 | k + 1 => by
  have ih0 := spec_l08Head.mono_l k
  ·intro y0 y1 y2 y3
   unfold spec_l08Head.l0
   repeat' first
   | (with_reducible exact ih0 _ _ _ _)
   | (with_reducible exact LeO.refl _)
   | (with_reducible exact LeO.none _)
   | (with_reducible refine LeO.ite ?_ ?_)
   | (with_reducible refine LeO.bind ?_ (fun _ => ?_))
   | exact ih0 _ _ _ _
   | exact LeO.none _
   | refine LeO.ite ?_ ?_
   | refine LeO.bind ?_ (fun _ => ?_)
theorem spec_l08Head.mono : ∀ a0 a1 a2 k, LeO (spec_l08Head.f k a0 a1 a2) (spec_l08Head.f (k + 1) a0 a1 a2) := by
 intro a0 a1 a2 k
 have ih0 := spec_l08Head.mono_l k
 unfold spec_l08Head.f
 repeat' first
   | (with_reducible exact ih0 _ _ _ _)
   | (with_reducible exact LeO.refl _)
   | (with_reducible exact LeO.none _)
   | (with_reducible refine LeO.ite ?_ ?_)
   | (with_reducible refine LeO.bind ?_ (fun _ => ?_))
   | exact ih0 _ _ _ _
   | exact LeO.none _
   | refine LeO.ite ?_ ?_
   | refine LeO.bind ?_ (fun _ => ?_)
set_option maxHeartbeats 8000000 in
set_option maxRecDepth 100000 in
theorem spec_l08Head.calls (k : Nat) (gr0 : Nat) (a0_0 : ByteArray) (A0_1 : Option Addr) (c0_1 : Nat) (l0_1 : List (List Int)) (a1 : Int) (r : Int) (w : World) (hb0 : w.heap[gr0]? = some (.cells #[.string a0_0, .slice A0_1 l0_1.length c0_1] 27 (0, 0))) (hr0_1 : Kd.C (Kd.slice 2 (Kd.int .i64)) w A0_1 l0_1.length l0_1) (hc0_1 : l0_1.length ≤ c0_1) (h : spec_l08Head.f k a0_0 l0_1 a1 = some r) :
  Calls Try.prog 69 #[.pointer (some ⟨gr0, 0, none⟩), .int .i64 a1] w fun e w' => e = .returned (.int .i64 r) ∧ Drawn0 w w' := by
 have HR0_1 := Aside0.mk hr0_1
 have HC0_1 := Aside0.mk hc0_1
 clear hr0_1 hc0_1
 have BK0 := Aside0.mk hb0
 clear hb0
 have H : (spec_l08Head.l0 k a1 1 a0_0 l0_1) = some r := h
 clear h
 have H' := Aside0.mk H
 clear H
 go_enter Try.func69, Try.ntmps69
 go_wp2
 repeat (go_quiet (fail); try go_wp2)
 go_loopg [5] k (fun kq v5 w' => ∃ (x5_1 : Int), v5 = .int .i64 x5_1 ∧ Aside0 (spec_l08Head.l0 kq a1 x5_1 a0_0 l0_1 = some r) ∧ Aside0 (kq ≤ k) ∧ Aside0 (w'.heap[gr0]? = some (.cells #[.string a0_0, (.slice A0_1 l0_1.length c0_1)] 27 (0, 0))) ∧ Drawn0 w w')
 case atStart => exact ⟨(1), (by first | rfl | (simp; done) | (simp [*]; done)), H', ⟨Nat.le_refl _⟩, ⟨by (with_reducible repeat (first | refine blk_drewN ?_ _ | refine blk_drew ?_ | refine blk_alloc ?_ _)); exact BK0.out⟩, by repeat (first | exact Drawn0.refl _ | apply Drawn0.step)⟩
 case round =>
  clear H'
  try clear p2
  obtain ⟨x5_1, rfl, HA, HK1, BK0, ⟨m1, rfl⟩⟩ := hrel
  cases gk with
  | zero => exact absurd HA.out (by simp [spec_l08Head.l0])
  | succ k1 =>
   have H := HA.out
   clear HA
   simp only [spec_l08Head.l0] at H
   by_cases c3 : x5_1 < (l0_1.length : Int)
   ·rw [if_pos c3] at H
    have c3b0 : decide (x5_1 < (l0_1.length : Int)) = true := decide_eq_true c3
    clear c3
    obtain ⟨ji4, hji4⟩ : ∃ j_ : Int, (wrap64 (x5_1 - 1)) = j_ := ⟨_, rfl⟩
    replace H : (if 0 ≤ (ji4) then (if (ji4) < (l0_1.length : Int) then (if 0 ≤ x5_1 then (if 0 < ((rd_L1 l0_1 x5_1).length : Int) then (if a1 ≤ (rd (rd_L1 l0_1 x5_1) 0) then (if 0 < ((rd_L1 l0_1 (ji4)).length : Int) then (if 1 < ((rd_L1 l0_1 (ji4)).length : Int) then (if 1 < ((rd_L1 l0_1 x5_1).length : Int) then ((spec_l01Line_.f (rd (rd_L1 l0_1 (ji4)) 0) (rd (rd_L1 l0_1 (ji4)) 1) (rd (rd_L1 l0_1 x5_1) 0) (rd (rd_L1 l0_1 x5_1) 1) a1).bind fun t157 => (some t157)) else (none)) else (none)) else (none)) else (spec_l08Head.l0 k1 a1 (wrap64 (x5_1 + 1)) a0_0 l0_1)) else (none)) else (none)) else (none)) else (none)) = some r := by first | (rw [hji4] at H; exact H) | (simp only [hji4] at H ⊢; exact H)
    have hji4w : (IntKind.i64.wrap (x5_1 - 1)) = ji4 := (i64_w _).trans hji4
    by_cases c5 : 0 ≤ (ji4)
    ·rw [if_pos c5] at H
     have c5b0 : decide (0 ≤ (ji4)) = true := decide_eq_true c5
     clear c5
     by_cases c6 : (ji4) < (l0_1.length : Int)
     ·rw [if_pos c6] at H
      have c6b0 : decide ((ji4) < (l0_1.length : Int)) = true := decide_eq_true c6
      clear c6
      by_cases c7 : 0 ≤ x5_1
      ·rw [if_pos c7] at H
       have c7b0 : decide (0 ≤ x5_1) = true := decide_eq_true c7
       clear c7
       by_cases c8 : 0 < ((rd_L1 l0_1 x5_1).length : Int)
       ·rw [if_pos c8] at H
        have c8b0 : decide (0 < ((rd_L1 l0_1 x5_1).length : Int)) = true := decide_eq_true c8
        have c8b1 : decide (0 < (rd_L1 l0_1 x5_1).length) = true := decide_eq_true (by omega)
        clear c8
        by_cases c9 : a1 ≤ (rd (rd_L1 l0_1 x5_1) 0)
        ·rw [if_pos c9] at H
         have c9b0 : decide (a1 ≤ (rd (rd_L1 l0_1 x5_1) 0)) = true := decide_eq_true c9
         clear c9
         by_cases c10 : 0 < ((rd_L1 l0_1 (ji4)).length : Int)
         ·rw [if_pos c10] at H
          have c10b0 : decide (0 < ((rd_L1 l0_1 (ji4)).length : Int)) = true := decide_eq_true c10
          have c10b1 : decide (0 < (rd_L1 l0_1 (ji4)).length) = true := decide_eq_true (by omega)
          clear c10
          by_cases c11 : 1 < ((rd_L1 l0_1 (ji4)).length : Int)
          ·rw [if_pos c11] at H
           have c11b0 : decide (1 < ((rd_L1 l0_1 (ji4)).length : Int)) = true := decide_eq_true c11
           have c11b1 : decide (1 < (rd_L1 l0_1 (ji4)).length) = true := decide_eq_true (by omega)
           clear c11
           by_cases c12 : 1 < ((rd_L1 l0_1 x5_1).length : Int)
           ·rw [if_pos c12] at H
            have c12b0 : decide (1 < ((rd_L1 l0_1 x5_1).length : Int)) = true := decide_eq_true c12
            have c12b1 : decide (1 < (rd_L1 l0_1 x5_1).length) = true := decide_eq_true (by omega)
            clear c12
            replace H := Option.bind_eq_some_iff.mp H
            obtain ⟨t157, A130, H⟩ := H
            replace H : (some t157) = some r := H
            have A13 := Aside0.mk A130
            clear A130
            obtain rfl := Option.some.inj H
            have hcz14_0 : w.cell? ⟨gr0, 0, none⟩ = some (.string a0_0) := (blk_cell BK0.out 0).trans rfl
            have hcz14_1 : w.cell? ⟨gr0, 1, none⟩ = some (.slice A0_1 l0_1.length c0_1) := (blk_cell BK0.out 1).trans rfl
            have hfz14_0 := blk_frozen BK0.out 0
            have hfz14_1 := blk_frozen BK0.out 1
            have p150 : 0 ≤ ((ji4) : Int) := of_decide_eq_true (by first | (with_reducible assumption) | assumption)
            have q150 : (ji4) < (l0_1.length : Int) := of_decide_eq_true (by first | (with_reducible assumption) | assumption)
            obtain ⟨ad150, A150_0, c150_0, e150, hx150_0, hl150_0, hi150_0⟩ := at_L1 HR0_1.out (ji4) p150 q150
            cases e150
            have HR150_0 := Aside0.mk hi150_0
            have HC150_0 := Aside0.mk hl150_0
            clear hi150_0 hl150_0
            replace p150 := eq_true p150
            replace q150 := eq_true q150
            have p151 : 0 ≤ (x5_1 : Int) := of_decide_eq_true (by first | (with_reducible assumption) | assumption)
            have q151 : x5_1 < (l0_1.length : Int) := of_decide_eq_true (by first | (with_reducible assumption) | assumption)
            obtain ⟨ad151, A151_0, c151_0, e151, hx151_0, hl151_0, hi151_0⟩ := at_L1 HR0_1.out x5_1 p151 q151
            obtain rfl : ad150 = ad151 := (by injection e151)
            have HR151_0 := Aside0.mk hi151_0
            have HC151_0 := Aside0.mk hl151_0
            clear hi151_0 hl151_0
            replace p151 := eq_true p151
            replace q151 := eq_true q151
            have p152 : 0 ≤ (0 : Int) := (by omega)
            have q152 : 0 < ((rd_L1 l0_1 x5_1).length : Int) := of_decide_eq_true (by first | (with_reducible assumption) | assumption)
            obtain ⟨ad152, e152, hx152_0⟩ := Kd.at_int HR151_0.out 0 p152 q152
            cases e152
            have qi152 : (0 < (rd_L1 l0_1 x5_1).length) = True := eq_true (by omega)
            (try rw [show ((0 : Int)).toNat = 0 from rfl] at hx152_0)
            (try rw [Addr.add_zero'] at hx152_0)
            replace p152 := eq_true p152
            replace q152 := eq_true q152
            have p153 : 0 ≤ (0 : Int) := (by omega)
            have q153 : 0 < ((rd_L1 l0_1 (ji4)).length : Int) := of_decide_eq_true (by first | (with_reducible assumption) | assumption)
            obtain ⟨ad153, e153, hx153_0⟩ := Kd.at_int HR150_0.out 0 p153 q153
            cases e153
            have qi153 : (0 < (rd_L1 l0_1 (ji4)).length) = True := eq_true (by omega)
            (try rw [show ((0 : Int)).toNat = 0 from rfl] at hx153_0)
            (try rw [Addr.add_zero'] at hx153_0)
            replace p153 := eq_true p153
            replace q153 := eq_true q153
            have p154 : 0 ≤ (1 : Int) := (by omega)
            have q154 : 1 < ((rd_L1 l0_1 (ji4)).length : Int) := of_decide_eq_true (by first | (with_reducible assumption) | assumption)
            obtain ⟨ad154, e154, hx154_0⟩ := Kd.at_int HR150_0.out 1 p154 q154
            obtain rfl : ad153 = ad154 := (by injection e154)
            (try simp only [show (1 : Int).toNat = 1 from rfl, Nat.reduceMul, Nat.reduceEqDiff, Go.Addr.add, ↓reduceIte] at hx154_0)
            have qi154 : (1 < (rd_L1 l0_1 (ji4)).length) = True := eq_true (by omega)
            (try rw [show ((1 : Int)).toNat = 1 from rfl] at hx154_0)
            replace p154 := eq_true p154
            replace q154 := eq_true q154
            have p155 : 0 ≤ (0 : Int) := (by omega)
            have q155 : 0 < ((rd_L1 l0_1 x5_1).length : Int) := of_decide_eq_true (by first | (with_reducible assumption) | assumption)
            obtain ⟨ad155, e155, hx155_0⟩ := Kd.at_int HR151_0.out 0 p155 q155
            obtain rfl : ad152 = ad155 := (by injection e155)
            have qi155 : (0 < (rd_L1 l0_1 x5_1).length) = True := eq_true (by omega)
            (try rw [show ((0 : Int)).toNat = 0 from rfl] at hx155_0)
            (try rw [Addr.add_zero'] at hx155_0)
            replace p155 := eq_true p155
            replace q155 := eq_true q155
            have p156 : 0 ≤ (1 : Int) := (by omega)
            have q156 : 1 < ((rd_L1 l0_1 x5_1).length : Int) := of_decide_eq_true (by first | (with_reducible assumption) | assumption)
            obtain ⟨ad156, e156, hx156_0⟩ := Kd.at_int HR151_0.out 1 p156 q156
            obtain rfl : ad152 = ad156 := (by injection e156)
            (try simp only [show (1 : Int).toNat = 1 from rfl, Nat.reduceMul, Nat.reduceEqDiff, Go.Addr.add, ↓reduceIte] at hx156_0)
            have qi156 : (1 < (rd_L1 l0_1 x5_1).length) = True := eq_true (by omega)
            (try rw [show ((1 : Int)).toNat = 1 from rfl] at hx156_0)
            replace p156 := eq_true p156
            replace q156 := eq_true q156
            iterate 2 ((try go_quiet (first | (go_at_call 115; (with_reducible refine (spec_l01Line_.calls (rd (rd_L1 l0_1 (ji4)) 0) (rd (rd_L1 l0_1 (ji4)) 1) (rd (rd_L1 l0_1 x5_1) 0) (rd (rd_L1 l0_1 x5_1) 1) a1 t157 _ A13.out).mono ?_); rintro e w' ⟨rfl, ⟨nd, rfl⟩⟩; (try first | exact ⟨rfl, _, World.drewN_drewN _ _ _⟩ | exact ⟨rfl, _, Eq.trans (World.drewN_drewN _ _ _) (congrArg (World.drewN _) (Nat.add_assoc _ _ _))⟩)))); (try go_wp2_with (first | (go_at_call 115; (with_reducible refine (spec_l01Line_.calls (rd (rd_L1 l0_1 (ji4)) 0) (rd (rd_L1 l0_1 (ji4)) 1) (rd (rd_L1 l0_1 x5_1) 0) (rd (rd_L1 l0_1 x5_1) 1) a1 t157 _ A13.out).mono ?_); rintro e w' ⟨rfl, ⟨nd, rfl⟩⟩; (try first | exact ⟨rfl, _, World.drewN_drewN _ _ _⟩ | exact ⟨rfl, _, Eq.trans (World.drewN_drewN _ _ _) (congrArg (World.drewN _) (Nat.add_assoc _ _ _))⟩)))))
            go_ret
            exact ⟨by first | rfl | (simp; done) | (simp only [← hji4] <;> (first | rfl | simp)) | (simp [*]; done), by repeat (first | exact Drawn0.refl _ | apply Drawn0.step)⟩
           ·rw [if_neg c12] at H
            exact absurd H (by simp)
          ·rw [if_neg c11] at H
           exact absurd H (by simp)
         ·rw [if_neg c10] at H
          exact absurd H (by simp)
        ·rw [if_neg c9] at H
         have c9b0 : decide (a1 ≤ (rd (rd_L1 l0_1 x5_1) 0)) = false := decide_eq_false c9
         clear c9
         have H' := Aside0.mk H
         clear H
         have hcz15_0 : w.cell? ⟨gr0, 0, none⟩ = some (.string a0_0) := (blk_cell BK0.out 0).trans rfl
         have hcz15_1 : w.cell? ⟨gr0, 1, none⟩ = some (.slice A0_1 l0_1.length c0_1) := (blk_cell BK0.out 1).trans rfl
         have hfz15_0 := blk_frozen BK0.out 0
         have hfz15_1 := blk_frozen BK0.out 1
         have p150 : 0 ≤ ((ji4) : Int) := of_decide_eq_true (by first | (with_reducible assumption) | assumption)
         have q150 : (ji4) < (l0_1.length : Int) := of_decide_eq_true (by first | (with_reducible assumption) | assumption)
         obtain ⟨ad150, A150_0, c150_0, e150, hx150_0, hl150_0, hi150_0⟩ := at_L1 HR0_1.out (ji4) p150 q150
         cases e150
         have HR150_0 := Aside0.mk hi150_0
         have HC150_0 := Aside0.mk hl150_0
         clear hi150_0 hl150_0
         replace p150 := eq_true p150
         replace q150 := eq_true q150
         have p151 : 0 ≤ (x5_1 : Int) := of_decide_eq_true (by first | (with_reducible assumption) | assumption)
         have q151 : x5_1 < (l0_1.length : Int) := of_decide_eq_true (by first | (with_reducible assumption) | assumption)
         obtain ⟨ad151, A151_0, c151_0, e151, hx151_0, hl151_0, hi151_0⟩ := at_L1 HR0_1.out x5_1 p151 q151
         obtain rfl : ad150 = ad151 := (by injection e151)
         have HR151_0 := Aside0.mk hi151_0
         have HC151_0 := Aside0.mk hl151_0
         clear hi151_0 hl151_0
         replace p151 := eq_true p151
         replace q151 := eq_true q151
         have p152 : 0 ≤ (0 : Int) := (by omega)
         have q152 : 0 < ((rd_L1 l0_1 x5_1).length : Int) := of_decide_eq_true (by first | (with_reducible assumption) | assumption)
         obtain ⟨ad152, e152, hx152_0⟩ := Kd.at_int HR151_0.out 0 p152 q152
         cases e152
         have qi152 : (0 < (rd_L1 l0_1 x5_1).length) = True := eq_true (by omega)
         (try rw [show ((0 : Int)).toNat = 0 from rfl] at hx152_0)
         (try rw [Addr.add_zero'] at hx152_0)
         replace p152 := eq_true p152
         replace q152 := eq_true q152
         go_wp2
         repeat (go_quiet (fail); try go_wp2)
         go_roundg k1
         case measure => have := HK1.out; omega
         case rel => exact ⟨(wrap64 (x5_1 + 1)), (by first | rfl | (simp; done) | (simp [*]; done)), H', ⟨by have := HK1.out; omega⟩, ⟨by (with_reducible repeat (first | refine blk_drewN ?_ _ | refine blk_drew ?_ | refine blk_alloc ?_ _)); exact BK0.out⟩, by repeat (first | exact Drawn0.refl _ | apply Drawn0.step)⟩
       ·rw [if_neg c8] at H
        exact absurd H (by simp)
      ·rw [if_neg c7] at H
       exact absurd H (by simp)
     ·rw [if_neg c6] at H
      exact absurd H (by simp)
    ·rw [if_neg c5] at H
     exact absurd H (by simp)
   ·rw [if_neg c3] at H
    have c3b0 : decide (x5_1 < (l0_1.length : Int)) = false := decide_eq_false c3
    clear c3
    obtain rfl := Option.some.inj H
    have hcz16_0 : w.cell? ⟨gr0, 0, none⟩ = some (.string a0_0) := (blk_cell BK0.out 0).trans rfl
    have hcz16_1 : w.cell? ⟨gr0, 1, none⟩ = some (.slice A0_1 l0_1.length c0_1) := (blk_cell BK0.out 1).trans rfl
    have hfz16_0 := blk_frozen BK0.out 0
    have hfz16_1 := blk_frozen BK0.out 1
    go_wp2
    repeat (go_quiet (fail); try go_wp2)
    go_ret
    exact ⟨by first | rfl | (simp; done) | (simp [*]; done), by repeat (first | exact Drawn0.refl _ | apply Drawn0.step)⟩

open Go.Proofs.YthgfkbkobnfnaaaM
def spec_l08Head_.f (a0_0 : ByteArray) (l0_1 : List (List Int)) (a1 : Int) : Option Int := if l0_1.length ≤ 8 ∧ (∀ j, j < l0_1.length → pointOk l0_1 j = true) then some (headI l0_1 a1) else none
theorem rdL_hd (c : List (List Int)) (i : Nat) : rd_L1 c (i : Int) = c.getD i [] := by unfold rd_L1; rw [Int.toNat_natCast]
theorem head_loopL (s : ByteArray) (c : List (List Int)) (q : Int) (hc : c.length ≤ 8) (hp : ∀ j, j < c.length → pointOk c j = true) : ∀ (d k i : Nat), 1 ≤ i → i ≤ c.length ∨ i = 1 → c.length - i = d → d < k → spec_l08Head.l0 k q (i : Int) s c = some (headFrom c q d i) := by
  intro d
  induction d with
  | zero =>
    intro k i h0 h1 hd hk
    obtain ⟨k, rfl⟩ : ∃ m, k = m + 1 := ⟨k - 1, by omega⟩
    simp only [spec_l08Head.l0]; rw [if_neg (by omega)]; rfl
  | succ d ih =>
    intro k i h0 h1 hd hk
    obtain ⟨k, rfl⟩ : ∃ m, k = m + 1 := ⟨k - 1, by omega⟩
    simp only [spec_l08Head.l0]
    have e1 : wrap64 ((i : Int) - 1) = ((i - 1 : Nat) : Int) := by rw [w64 (by omega) (by omega)]; omega
    have ha := point_len (hp (i - 1) (by omega))
    have hb := point_len (hp i (by omega))
    have ra := point_range (hp (i - 1) (by omega))
    have rb := point_range (hp i (by omega))
    rw [if_pos (by omega), e1, if_pos (by omega), if_pos (by omega), if_pos (by omega), rdL_hd, rdL_hd, if_pos (by omega), rd_0, rd_1, rd_0, rd_1]
    have hs : headFrom c q (d + 1) i = if q ≤ (c.getD i []).getD 0 0 then lineI ((c.getD (i - 1) []).getD 0 0) ((c.getD (i - 1) []).getD 1 0) ((c.getD i []).getD 0 0) ((c.getD i []).getD 1 0) q else headFrom c q d (i + 1) := rfl
    rw [hs]
    by_cases h : q ≤ (c.getD i []).getD 0 0
    · rw [if_pos h, if_pos h, if_pos (by omega), if_pos (by omega), if_pos (by omega)]
      unfold spec_l01Line_.f
      rw [if_pos (by omega)]; rfl
    · rw [if_neg h, if_neg h, w64 (x := (i : Int) + 1) (by omega) (by omega), show (i : Int) + 1 = ((i + 1 : Nat) : Int) by omega]
      exact ih k (i + 1) (by omega) (by omega) (by omega) (by omega)
theorem spec_l08Head_.same (s : ByteArray) (c : List (List Int)) (q : Int) (h : c.length ≤ 8 ∧ ∀ j, j < c.length → pointOk c j = true) : spec_l08Head.f 9 s c q = some (headI c q) := by
  unfold spec_l08Head.f headI
  exact head_loopL s c q h.1 h.2 (c.length - 1) 9 1 (by omega) (by omega) (by omega) (by omega)
theorem spec_l08Head_.calls (gr0 : Nat) (a0_0 : ByteArray) (A0_1 : Option Addr) (c0_1 : Nat) (l0_1 : List (List Int)) (a1 : Int) (r : Int) (w : World) (hb0 : w.heap[gr0]? = some (.cells #[.string a0_0, .slice A0_1 l0_1.length c0_1] 27 (0, 0))) (hr0_1 : Kd.C (Kd.slice 2 (Kd.int .i64)) w A0_1 l0_1.length l0_1) (hc0_1 : l0_1.length ≤ c0_1) (h : spec_l08Head_.f a0_0 l0_1 a1 = some r) :
    Calls Try.prog 69 #[.pointer (some ⟨gr0, 0, none⟩), .int .i64 a1] w fun e w' => e = .returned (.int .i64 r) ∧ Drawn0 w w' := by
  unfold spec_l08Head_.f at h
  split at h
  · rename_i hs
    exact spec_l08Head.calls 9 gr0 a0_0 A0_1 c0_1 l0_1 a1 r w hb0 hr0_1 hc0_1 (by rw [← h]; exact spec_l08Head_.same a0_0 l0_1 a1 hs)
  · exact absurd h (by simp)


/-! ### spec_l08System: function 79 -/
def spec_l08System.f (a0 : Int) (a1 : Int) : Option (Bool) := (spec_l00In_.f a0 0 2000000).bind fun t158 => (if t158 = true then ((spec_l00In_.f a1 0 100000000).bind fun t159 => (some t159)) else (some false))
set_option maxHeartbeats 8000000 in
set_option maxRecDepth 100000 in
theorem spec_l08System.calls (a0 : Int) (a1 : Int) (r : Bool) (w : World) (h : spec_l08System.f a0 a1 = some r) :
  Calls Try.prog 79 #[.int .i64 a0, .int .i64 a1] w fun e w' => e = .returned (.bool r) ∧ Drawn0 w w' := by
 have H : ((spec_l00In_.f a0 0 2000000).bind fun t158 => (if t158 = true then ((spec_l00In_.f a1 0 100000000).bind fun t159 => (some t159)) else (some false))) = some r := h
 clear h
 replace H := Option.bind_eq_some_iff.mp H
 obtain ⟨t158, A30, H⟩ := H
 replace H : (if t158 = true then ((spec_l00In_.f a1 0 100000000).bind fun t159 => (some t159)) else (some false)) = some r := H
 have A3 := Aside0.mk A30
 clear A30
 by_cases c4 : t158 = true
 ·subst c4
  have H1 : ((spec_l00In_.f a1 0 100000000).bind fun t159 => (some t159)) = some r := by rw [if_pos rfl] at H; exact H
  clear H
  have H := H1
  clear H1
  replace H := Option.bind_eq_some_iff.mp H
  obtain ⟨t159, A50, H⟩ := H
  replace H : (some t159) = some r := H
  have A5 := Aside0.mk A50
  clear A50
  obtain rfl := Option.some.inj H
  go_enter Try.func79, Try.ntmps79
  go_wp2_with (first | ((with_reducible refine gate_callee (f := 71) rfl ?_); refine goesL_ (some 6) rfl rfl Try.func71 (by kernel_rfl) rfl #[.int .i64 a0, .int .i64 0, .int .i64 2000000] rfl (by (try simp only [List.map_toArray, List.map_cons, List.map_nil]); first | done | rfl | (simp only [List.length_drop, List.length_take]; rfl)) ?_; (with_reducible refine (spec_l00In_.calls a0 0 2000000 true _ A3.out).mono ?_); rintro e w' ⟨rfl, ⟨nd, rfl⟩⟩; refine ⟨_, rfl, ?_⟩) | (go_at_call 71; (with_reducible refine (spec_l00In_.calls a1 0 100000000 t159 _ A5.out).mono ?_); rintro e w' ⟨rfl, ⟨nd, rfl⟩⟩))
  go_ret
  exact ⟨by first | rfl | (simp; done) | (simp [*]; done), by repeat (first | exact Drawn0.refl _ | apply Drawn0.step)⟩
 ·replace c4 := Bool.eq_false_iff.mpr c4
  subst c4
  have H1 : (some false) = some r := by rw [if_neg (show ¬ (false = true) by decide)] at H; exact H
  clear H
  have H := H1
  clear H1
  obtain rfl := Option.some.inj H
  go_enter Try.func79, Try.ntmps79
  go_wp2_with (first | ((with_reducible refine gate_callee (f := 71) rfl ?_); refine goesL_ (some 6) rfl rfl Try.func71 (by kernel_rfl) rfl #[.int .i64 a0, .int .i64 0, .int .i64 2000000] rfl (by (try simp only [List.map_toArray, List.map_cons, List.map_nil]); first | done | rfl | (simp only [List.length_drop, List.length_take]; rfl)) ?_; (with_reducible refine (spec_l00In_.calls a0 0 2000000 false _ A3.out).mono ?_); rintro e w' ⟨rfl, ⟨nd, rfl⟩⟩; refine ⟨_, rfl, ?_⟩))
  go_ret
  exact ⟨by first | rfl | (simp; done) | (simp [*]; done), by repeat (first | exact Drawn0.refl _ | apply Drawn0.step)⟩

/-! ### spec_l08Needs: function 80 -/
def spec_l08Needs.f (a0 : Int) (a1 : Int) (a2 : Int) : Option (Int) := (spec_l01Div_.f (wrap64 ((wrap64 (a1 * a2)) * a2)) 10000000000).bind fun t160 => (some (wrap64 (a0 + t160)))
set_option maxHeartbeats 8000000 in
set_option maxRecDepth 100000 in
theorem spec_l08Needs.calls (a0 : Int) (a1 : Int) (a2 : Int) (r : Int) (w : World) (h : spec_l08Needs.f a0 a1 a2 = some r) :
  Calls Try.prog 80 #[.int .i64 a0, .int .i64 a1, .int .i64 a2] w fun e w' => e = .returned (.int .i64 r) ∧ Drawn0 w w' := by
 have H : ((spec_l01Div_.f (wrap64 ((wrap64 (a1 * a2)) * a2)) 10000000000).bind fun t160 => (some (wrap64 (a0 + t160)))) = some r := h
 clear h
 replace H := Option.bind_eq_some_iff.mp H
 obtain ⟨t160, A40, H⟩ := H
 replace H : (some (wrap64 (a0 + t160))) = some r := H
 have A4 := Aside0.mk A40
 clear A40
 obtain rfl := Option.some.inj H
 go_enter Try.func80, Try.ntmps80
 go_wp2_with (first | ((with_reducible refine gate_callee (f := 72) rfl ?_); refine goesL_ (some 13) rfl rfl Try.func72 (by kernel_rfl) rfl #[.int .i64 (wrap64 ((wrap64 (a1 * a2)) * a2)), .int .i64 10000000000] rfl (by (try simp only [List.map_toArray, List.map_cons, List.map_nil]); first | done | rfl | (simp only [List.length_drop, List.length_take]; rfl)) ?_; (with_reducible refine (spec_l01Div_.calls (wrap64 ((wrap64 (a1 * a2)) * a2)) 10000000000 t160 _ A4.out).mono ?_); rintro e w' ⟨rfl, ⟨nd, rfl⟩⟩; refine ⟨_, rfl, ?_⟩))
 go_ret
 exact ⟨by first | rfl | (simp; done) | (simp [*]; done), by repeat (first | exact Drawn0.refl _ | apply Drawn0.step)⟩

/-! ### spec_WorkingFlow: function 31 -/
def spec_WorkingFlow.l0 : Nat → Int → Int → Int → Int → ByteArray → List (List Int) → Option (Int × Int × Int)
 | 0, _, _, _, _, _, _ => none
 | k + 1, x1, x2, x9, x10, x162000, x162001 => if (wrap64 (x10 - x9)) > 1 then ((spec_l08Needs.f x1 x2 (wrap64 (Int.tdiv (wrap64 (x9 + x10)) 2))).bind fun t165 => ((spec_l08Head_.f x162000 x162001 (wrap64 (Int.tdiv (wrap64 (x9 + x10)) 2))).bind fun t166 => (if t165 ≤ t166 then (spec_WorkingFlow.l0 k x1 x2 (wrap64 (Int.tdiv (wrap64 (x9 + x10)) 2)) x10 x162000 x162001) else (spec_WorkingFlow.l0 k x1 x2 x9 (wrap64 (Int.tdiv (wrap64 (x9 + x10)) 2)) x162000 x162001)))) else (if x9 < 0 then (some (0, 0, 3)) else ((spec_l08Head_.f x162000 x162001 x9).bind fun t164 => (some (x9, t164, 0))))
def spec_WorkingFlow.f (k : Nat) (a0_0 : ByteArray) (l0_1 : List (List Int)) (a1 : Int) (a2 : Int) : Option (Int × Int × Int) := (spec_l08Ok_.f a0_0 l0_1).bind fun t162 => (if t162 = true then ((spec_l08System.f a1 a2).bind fun t163 => (if t163 = true then (spec_WorkingFlow.l0 k a1 a2 (-1) 100001 a0_0 l0_1) else (some (0, 0, 2)))) else (some (0, 0, 1)))
theorem spec_WorkingFlow.mono_l : ∀ k, (∀ y0 y1 y2 y3 y4 y5, LeO (spec_WorkingFlow.l0 k y0 y1 y2 y3 y4 y5) (spec_WorkingFlow.l0 (k + 1) y0 y1 y2 y3 y4 y5))
 | 0 => fun _ _ _ _ _ _ r h => by simp [spec_WorkingFlow.l0] at h
 | k + 1 => by
  have ih0 := spec_WorkingFlow.mono_l k
  ·intro y0 y1 y2 y3 y4 y5
   unfold spec_WorkingFlow.l0
   repeat' first
   | (with_reducible exact ih0 _ _ _ _ _ _)
   | (with_reducible exact LeO.refl _)
   | (with_reducible exact LeO.none _)
   | (with_reducible refine LeO.ite ?_ ?_)
   | (with_reducible refine LeO.bind ?_ (fun _ => ?_))
   | exact ih0 _ _ _ _ _ _
   | exact LeO.none _
   | refine LeO.ite ?_ ?_
   | refine LeO.bind ?_ (fun _ => ?_)
theorem spec_WorkingFlow.mono : ∀ a0 a1 a2 a3 k, LeO (spec_WorkingFlow.f k a0 a1 a2 a3) (spec_WorkingFlow.f (k + 1) a0 a1 a2 a3) := by
 intro a0 a1 a2 a3 k
 have ih0 := spec_WorkingFlow.mono_l k
 unfold spec_WorkingFlow.f
 repeat' first
   | (with_reducible exact ih0 _ _ _ _ _ _)
   | (with_reducible exact LeO.refl _)
   | (with_reducible exact LeO.none _)
   | (with_reducible refine LeO.ite ?_ ?_)
   | (with_reducible refine LeO.bind ?_ (fun _ => ?_))
   | exact ih0 _ _ _ _ _ _
   | exact LeO.none _
   | refine LeO.ite ?_ ?_
   | refine LeO.bind ?_ (fun _ => ?_)
set_option maxHeartbeats 8000000 in
set_option maxRecDepth 100000 in
theorem spec_WorkingFlow.calls (k : Nat) (a0_0 : ByteArray) (A0_1 : Option Addr) (c0_1 : Nat) (l0_1 : List (List Int)) (a1 : Int) (a2 : Int) (r1 : Int) (r2 : Int) (r3 : Int) (w : World) (hr0_1 : Kd.C (Kd.slice 2 (Kd.int .i64)) w A0_1 l0_1.length l0_1) (hc0_1 : l0_1.length ≤ c0_1) (h : spec_WorkingFlow.f k a0_0 l0_1 a1 a2 = some (r1, r2, r3)) :
  Calls Try.prog 31 #[.agg #[.string a0_0, .slice A0_1 l0_1.length c0_1], .int .i64 a1, .int .i64 a2] w fun e w' => e = .returned (.tuple #[.int .i64 r1, .int .i64 r2, .int .i64 r3]) ∧ Below w.heap.size w w' := by
 have hu27 := Try.underlying27
 have HR0_1 := Aside0.mk hr0_1
 have HC0_1 := Aside0.mk hc0_1
 clear hr0_1 hc0_1
 have HB := Aside0.mk (Below.refl w.heap.size w)
 have H : ((spec_l08Ok_.f a0_0 l0_1).bind fun t162 => (if t162 = true then ((spec_l08System.f a1 a2).bind fun t163 => (if t163 = true then (spec_WorkingFlow.l0 k a1 a2 (-1) 100001 a0_0 l0_1) else (some (0, 0, 2)))) else (some (0, 0, 1)))) = some (r1, r2, r3) := h
 clear h
 replace H := Option.bind_eq_some_iff.mp H
 obtain ⟨t162, A40, H⟩ := H
 replace H : (if t162 = true then ((spec_l08System.f a1 a2).bind fun t163 => (if t163 = true then (spec_WorkingFlow.l0 k a1 a2 (-1) 100001 a0_0 l0_1) else (some (0, 0, 2)))) else (some (0, 0, 1))) = some (r1, r2, r3) := H
 have A4 := Aside0.mk A40
 clear A40
 by_cases c5 : t162 = true
 ·subst c5
  have H1 : ((spec_l08System.f a1 a2).bind fun t163 => (if t163 = true then (spec_WorkingFlow.l0 k a1 a2 (-1) 100001 a0_0 l0_1) else (some (0, 0, 2)))) = some (r1, r2, r3) := by rw [if_pos rfl] at H; exact H
  clear H
  have H := H1
  clear H1
  replace H := Option.bind_eq_some_iff.mp H
  obtain ⟨t163, A60, H⟩ := H
  replace H : (if t163 = true then (spec_WorkingFlow.l0 k a1 a2 (-1) 100001 a0_0 l0_1) else (some (0, 0, 2))) = some (r1, r2, r3) := H
  have A6 := Aside0.mk A60
  clear A60
  by_cases c7 : t163 = true
  ·subst c7
   have H1 : (spec_WorkingFlow.l0 k a1 a2 (-1) 100001 a0_0 l0_1) = some (r1, r2, r3) := by rw [if_pos rfl] at H; exact H
   clear H
   have H := H1
   clear H1
   have H' := Aside0.mk H
   clear H
   go_enter Try.func31, Try.ntmps31
   go_wp2_with (first | ((with_reducible refine gate_dst (N := 3) rfl ?_); refine box_event ?hg (N := 3) ?hd (cs := #[.string a0_0, .slice A0_1 l0_1.length c0_1]) (t := 27) ?hr ?_; (case hd => rfl); (case hg => rfl); (case hr => first | (go_simp; done) | (go_simp; rfl)); intro gb161 hg w8 hbox hb; have n0_ := Aside0.mk (below_step (by repeat (first | (with_reducible first | exact HB.out | apply below_alloc | apply pw_below_drewN | apply below_drew1) | exact HB.out)) hb); have n1_ := Aside0.mk (hbox); have n2_ := Aside0.mk ((by rw [hg]; exact (below_size (by repeat (first | (with_reducible first | exact HB.out | apply below_alloc | apply pw_below_drewN | apply below_drew1) | exact HB.out))) : w.heap.size ≤ gb161)); have n3_ := Aside0.mk ((by rw [hg]; exact (below_size (by repeat (first | (with_reducible first | exact HB.out | apply below_alloc | apply pw_below_drewN | apply below_drew1) | exact HB.out))) : w.heap.size ≤ gb161)); clear HB; have HB := n0_; have BK161 := n1_; have GW161 := n2_; have GE161 := n3_; clear n0_ n1_ n2_ n3_; clear hb hbox hg) | ((with_reducible refine gate_callee (f := 64) rfl ?_); refine goesL_ (some 12) rfl rfl Try.func64 (by kernel_rfl) rfl #[.pointer (some ⟨gb161, 0, none⟩)] rfl (by (try simp only [List.map_toArray, List.map_cons, List.map_nil]); first | done | rfl | (simp only [List.length_drop, List.length_take]; rfl)) ?_; (with_reducible refine (spec_l08Ok_.calls gb161 a0_0 A0_1 c0_1 l0_1 true _ ?side1 ?side2 ?side3 A4.out).mono ?_); (case side1 => exact (by (with_reducible repeat (first | refine blk_drewN ?_ _ | refine blk_drew ?_ | refine blk_alloc ?_ _)); exact BK161.out)); (case side2 => repeat (first | exact (Kd.C_below HR0_1.out HB.out) | (with_reducible refine Kd.C_alloc ?_ _) | (with_reducible refine Kd.C_drewN ?_ _) | (with_reducible refine Kd.C_drew ?_))); (case side3 => exact HC0_1.out); rintro e w' ⟨rfl, ⟨nd, rfl⟩⟩; refine ⟨_, rfl, ?_⟩) | ((with_reducible refine gate_callee (f := 79) rfl ?_); refine goesL_ (some 16) rfl rfl Try.func79 (by kernel_rfl) rfl #[.int .i64 a1, .int .i64 a2] rfl (by (try simp only [List.map_toArray, List.map_cons, List.map_nil]); first | done | rfl | (simp only [List.length_drop, List.length_take]; rfl)) ?_; (with_reducible refine (spec_l08System.calls a1 a2 true _ A6.out).mono ?_); rintro e w' ⟨rfl, ⟨nd, rfl⟩⟩; refine ⟨_, rfl, ?_⟩))
   go_loopg [9, 10] k (fun kq v9 v10 w' => ∃ (x9_1 : Int) (x10_1 : Int), v9 = .int .i64 x9_1 ∧ v10 = .int .i64 x10_1 ∧ Aside0 (spec_WorkingFlow.l0 kq a1 a2 x9_1 x10_1 a0_0 l0_1 = some (r1, r2, r3)) ∧ Aside0 (kq ≤ k) ∧ Aside0 (w'.heap[gb161]? = some (.cells #[.string a0_0, (.slice A0_1 l0_1.length c0_1)] 27 (0, 0))) ∧ Aside0 (Below w.heap.size w w'))
   case atStart => exact ⟨((-1)), (100001), (by first | rfl | (simp; done) | (simp [*]; done)), (by first | rfl | (simp; done) | (simp [*]; done)), H', ⟨Nat.le_refl _⟩, ⟨by (with_reducible repeat (first | refine blk_drewN ?_ _ | refine blk_drew ?_ | refine blk_alloc ?_ _)); exact BK161.out⟩, ⟨by repeat (first | (with_reducible first | exact HB.out | apply below_alloc | apply pw_below_drewN | apply below_drew1 | refine below_set ?_ GE161.out) | exact HB.out)⟩⟩
   case round =>
    clear H'
    try clear p2
    try clear c3
    try clear c5
    try clear c6
    try clear c7
    obtain ⟨x9_1, x10_1, rfl, rfl, HA, HK1, BK161, HB⟩ := hrel
    cases gk with
    | zero => exact absurd HA.out (by simp [spec_WorkingFlow.l0])
    | succ k1 =>
     have H := HA.out
     clear HA
     simp only [spec_WorkingFlow.l0] at H
     by_cases c9 : (wrap64 (x10_1 - x9_1)) > 1
     ·rw [if_pos c9] at H
      have c9b0 : decide (1 < (wrap64 (x10_1 - x9_1))) = true := decide_eq_true c9
      clear c9
      replace H := Option.bind_eq_some_iff.mp H
      obtain ⟨t165, A100, H⟩ := H
      replace H : ((spec_l08Head_.f a0_0 l0_1 (wrap64 (Int.tdiv (wrap64 (x9_1 + x10_1)) 2))).bind fun t166 => (if t165 ≤ t166 then (spec_WorkingFlow.l0 k1 a1 a2 (wrap64 (Int.tdiv (wrap64 (x9_1 + x10_1)) 2)) x10_1 a0_0 l0_1) else (spec_WorkingFlow.l0 k1 a1 a2 x9_1 (wrap64 (Int.tdiv (wrap64 (x9_1 + x10_1)) 2)) a0_0 l0_1))) = some (r1, r2, r3) := H
      have A10 := Aside0.mk A100
      clear A100
      replace H := Option.bind_eq_some_iff.mp H
      obtain ⟨t166, A110, H⟩ := H
      replace H : (if t165 ≤ t166 then (spec_WorkingFlow.l0 k1 a1 a2 (wrap64 (Int.tdiv (wrap64 (x9_1 + x10_1)) 2)) x10_1 a0_0 l0_1) else (spec_WorkingFlow.l0 k1 a1 a2 x9_1 (wrap64 (Int.tdiv (wrap64 (x9_1 + x10_1)) 2)) a0_0 l0_1)) = some (r1, r2, r3) := H
      have A11 := Aside0.mk A110
      clear A110
      by_cases c12 : t165 ≤ t166
      ·rw [if_pos c12] at H
       have c12b0 : decide (t165 ≤ t166) = true := decide_eq_true c12
       clear c12
       have H' := Aside0.mk H
       clear H
       go_wp2_with (first | ((with_reducible refine gate_callee (f := 80) rfl ?_); refine goesL_ (some 29) rfl rfl Try.func80 (by kernel_rfl) rfl #[.int .i64 a1, .int .i64 a2, .int .i64 (wrap64 (Int.tdiv (wrap64 (x9_1 + x10_1)) 2))] rfl (by (try simp only [List.map_toArray, List.map_cons, List.map_nil]); first | done | rfl | (simp only [List.length_drop, List.length_take]; rfl)) ?_; (with_reducible refine (spec_l08Needs.calls a1 a2 (wrap64 (Int.tdiv (wrap64 (x9_1 + x10_1)) 2)) t165 _ A10.out).mono ?_); rintro e w' ⟨rfl, ⟨nd, rfl⟩⟩; refine ⟨_, rfl, ?_⟩) | ((with_reducible refine gate_callee (f := 69) rfl ?_); refine goesL_ (some 31) rfl rfl Try.func69 (by kernel_rfl) rfl #[.pointer (some ⟨gb161, 0, none⟩), .int .i64 (wrap64 (Int.tdiv (wrap64 (x9_1 + x10_1)) 2))] rfl (by (try simp only [List.map_toArray, List.map_cons, List.map_nil]); first | done | rfl | (simp only [List.length_drop, List.length_take]; rfl)) ?_; (with_reducible refine (spec_l08Head_.calls gb161 a0_0 A0_1 c0_1 l0_1 (wrap64 (Int.tdiv (wrap64 (x9_1 + x10_1)) 2)) t166 _ ?side1 ?side2 ?side3 A11.out).mono ?_); (case side1 => exact (by (with_reducible repeat (first | refine blk_drewN ?_ _ | refine blk_drew ?_ | refine blk_alloc ?_ _)); exact BK161.out)); (case side2 => repeat (first | exact (Kd.C_below HR0_1.out (by repeat (first | (with_reducible first | exact HB.out | apply below_alloc | apply pw_below_drewN | apply below_drew1 | refine below_set ?_ GE161.out) | exact HB.out))) | (with_reducible refine Kd.C_alloc ?_ _) | (with_reducible refine Kd.C_drewN ?_ _) | (with_reducible refine Kd.C_drew ?_))); (case side3 => exact HC0_1.out); rintro e w' ⟨rfl, ⟨nd, rfl⟩⟩; refine ⟨_, rfl, ?_⟩))
       go_roundg k1
       case measure => have := HK1.out; omega
       case rel => exact ⟨(wrap64 (Int.tdiv (wrap64 (x9_1 + x10_1)) 2)), (x10_1), (by first | rfl | (simp; done) | (simp [*]; done)), (by first | rfl | (simp; done) | (simp [*]; done)), H', ⟨by have := HK1.out; omega⟩, ⟨by (with_reducible repeat (first | refine blk_drewN ?_ _ | refine blk_drew ?_ | refine blk_alloc ?_ _)); exact BK161.out⟩, ⟨by repeat (first | (with_reducible first | exact HB.out | apply below_alloc | apply pw_below_drewN | apply below_drew1 | refine below_set ?_ GE161.out) | exact HB.out)⟩⟩
      ·rw [if_neg c12] at H
       have c12b0 : decide (t165 ≤ t166) = false := decide_eq_false c12
       clear c12
       have H' := Aside0.mk H
       clear H
       go_wp2_with (first | ((with_reducible refine gate_callee (f := 80) rfl ?_); refine goesL_ (some 29) rfl rfl Try.func80 (by kernel_rfl) rfl #[.int .i64 a1, .int .i64 a2, .int .i64 (wrap64 (Int.tdiv (wrap64 (x9_1 + x10_1)) 2))] rfl (by (try simp only [List.map_toArray, List.map_cons, List.map_nil]); first | done | rfl | (simp only [List.length_drop, List.length_take]; rfl)) ?_; (with_reducible refine (spec_l08Needs.calls a1 a2 (wrap64 (Int.tdiv (wrap64 (x9_1 + x10_1)) 2)) t165 _ A10.out).mono ?_); rintro e w' ⟨rfl, ⟨nd, rfl⟩⟩; refine ⟨_, rfl, ?_⟩) | ((with_reducible refine gate_callee (f := 69) rfl ?_); refine goesL_ (some 31) rfl rfl Try.func69 (by kernel_rfl) rfl #[.pointer (some ⟨gb161, 0, none⟩), .int .i64 (wrap64 (Int.tdiv (wrap64 (x9_1 + x10_1)) 2))] rfl (by (try simp only [List.map_toArray, List.map_cons, List.map_nil]); first | done | rfl | (simp only [List.length_drop, List.length_take]; rfl)) ?_; (with_reducible refine (spec_l08Head_.calls gb161 a0_0 A0_1 c0_1 l0_1 (wrap64 (Int.tdiv (wrap64 (x9_1 + x10_1)) 2)) t166 _ ?side1 ?side2 ?side3 A11.out).mono ?_); (case side1 => exact (by (with_reducible repeat (first | refine blk_drewN ?_ _ | refine blk_drew ?_ | refine blk_alloc ?_ _)); exact BK161.out)); (case side2 => repeat (first | exact (Kd.C_below HR0_1.out (by repeat (first | (with_reducible first | exact HB.out | apply below_alloc | apply pw_below_drewN | apply below_drew1 | refine below_set ?_ GE161.out) | exact HB.out))) | (with_reducible refine Kd.C_alloc ?_ _) | (with_reducible refine Kd.C_drewN ?_ _) | (with_reducible refine Kd.C_drew ?_))); (case side3 => exact HC0_1.out); rintro e w' ⟨rfl, ⟨nd, rfl⟩⟩; refine ⟨_, rfl, ?_⟩))
       go_roundg k1
       case measure => have := HK1.out; omega
       case rel => exact ⟨(x9_1), (wrap64 (Int.tdiv (wrap64 (x9_1 + x10_1)) 2)), (by first | rfl | (simp; done) | (simp [*]; done)), (by first | rfl | (simp; done) | (simp [*]; done)), H', ⟨by have := HK1.out; omega⟩, ⟨by (with_reducible repeat (first | refine blk_drewN ?_ _ | refine blk_drew ?_ | refine blk_alloc ?_ _)); exact BK161.out⟩, ⟨by repeat (first | (with_reducible first | exact HB.out | apply below_alloc | apply pw_below_drewN | apply below_drew1 | refine below_set ?_ GE161.out) | exact HB.out)⟩⟩
     ·rw [if_neg c9] at H
      have c9b0 : decide (1 < (wrap64 (x10_1 - x9_1))) = false := decide_eq_false c9
      clear c9
      by_cases c13 : x9_1 < 0
      ·rw [if_pos c13] at H
       have c13b0 : decide (x9_1 < 0) = true := decide_eq_true c13
       clear c13
       simp only [Option.some.injEq, Prod.mk.injEq] at H
       obtain ⟨rfl, rfl, rfl⟩ := H
       go_wp2
       go_ret3
       exact ⟨by first | rfl | (simp [errW_none, errW_some] <;> rfl) | (simp [*, errW_none, errW_some] <;> rfl), by repeat (first | (with_reducible first | exact HB.out | apply below_alloc | apply pw_below_drewN | apply below_drew1 | refine below_set ?_ GE161.out) | exact HB.out)⟩
      ·rw [if_neg c13] at H
       have c13b0 : decide (x9_1 < 0) = false := decide_eq_false c13
       clear c13
       replace H := Option.bind_eq_some_iff.mp H
       obtain ⟨t164, A140, H⟩ := H
       replace H : (some (x9_1, t164, 0)) = some (r1, r2, r3) := H
       have A14 := Aside0.mk A140
       clear A140
       simp only [Option.some.injEq, Prod.mk.injEq] at H
       obtain ⟨rfl, rfl, rfl⟩ := H
       go_wp2_with (first | ((with_reducible refine gate_callee (f := 69) rfl ?_); refine goesL_ (some 39) rfl rfl Try.func69 (by kernel_rfl) rfl #[.pointer (some ⟨gb161, 0, none⟩), .int .i64 x9_1] rfl (by (try simp only [List.map_toArray, List.map_cons, List.map_nil]); first | done | rfl | (simp only [List.length_drop, List.length_take]; rfl)) ?_; (with_reducible refine (spec_l08Head_.calls gb161 a0_0 A0_1 c0_1 l0_1 x9_1 t164 _ ?side1 ?side2 ?side3 A14.out).mono ?_); (case side1 => exact (by (with_reducible repeat (first | refine blk_drewN ?_ _ | refine blk_drew ?_ | refine blk_alloc ?_ _)); exact BK161.out)); (case side2 => repeat (first | exact (Kd.C_below HR0_1.out HB.out) | (with_reducible refine Kd.C_alloc ?_ _) | (with_reducible refine Kd.C_drewN ?_ _) | (with_reducible refine Kd.C_drew ?_))); (case side3 => exact HC0_1.out); rintro e w' ⟨rfl, ⟨nd, rfl⟩⟩; refine ⟨_, rfl, ?_⟩))
       go_ret3
       exact ⟨by first | rfl | (simp [errW_none, errW_some] <;> rfl) | (simp [*, errW_none, errW_some] <;> rfl), by repeat (first | (with_reducible first | exact HB.out | apply below_alloc | apply pw_below_drewN | apply below_drew1 | refine below_set ?_ GE161.out) | exact HB.out)⟩
  ·replace c7 := Bool.eq_false_iff.mpr c7
   subst c7
   have H1 : (some (0, 0, 2)) = some (r1, r2, r3) := by rw [if_neg (show ¬ (false = true) by decide)] at H; exact H
   clear H
   have H := H1
   clear H1
   simp only [Option.some.injEq, Prod.mk.injEq] at H
   obtain ⟨rfl, rfl, rfl⟩ := H
   go_enter Try.func31, Try.ntmps31
   go_wp2_with (first | ((with_reducible refine gate_dst (N := 3) rfl ?_); refine box_event ?hg (N := 3) ?hd (cs := #[.string a0_0, .slice A0_1 l0_1.length c0_1]) (t := 27) ?hr ?_; (case hd => rfl); (case hg => rfl); (case hr => first | (go_simp; done) | (go_simp; rfl)); intro gb161 hg w15 hbox hb; have n0_ := Aside0.mk (below_step (by repeat (first | (with_reducible first | exact HB.out | apply below_alloc | apply pw_below_drewN | apply below_drew1) | exact HB.out)) hb); have n1_ := Aside0.mk (hbox); have n2_ := Aside0.mk ((by rw [hg]; exact (below_size (by repeat (first | (with_reducible first | exact HB.out | apply below_alloc | apply pw_below_drewN | apply below_drew1) | exact HB.out))) : w.heap.size ≤ gb161)); have n3_ := Aside0.mk ((by rw [hg]; exact (below_size (by repeat (first | (with_reducible first | exact HB.out | apply below_alloc | apply pw_below_drewN | apply below_drew1) | exact HB.out))) : w.heap.size ≤ gb161)); clear HB; have HB := n0_; have BK161 := n1_; have GW161 := n2_; have GE161 := n3_; clear n0_ n1_ n2_ n3_; clear hb hbox hg) | ((with_reducible refine gate_callee (f := 64) rfl ?_); refine goesL_ (some 12) rfl rfl Try.func64 (by kernel_rfl) rfl #[.pointer (some ⟨gb161, 0, none⟩)] rfl (by (try simp only [List.map_toArray, List.map_cons, List.map_nil]); first | done | rfl | (simp only [List.length_drop, List.length_take]; rfl)) ?_; (with_reducible refine (spec_l08Ok_.calls gb161 a0_0 A0_1 c0_1 l0_1 true _ ?side1 ?side2 ?side3 A4.out).mono ?_); (case side1 => exact (by (with_reducible repeat (first | refine blk_drewN ?_ _ | refine blk_drew ?_ | refine blk_alloc ?_ _)); exact BK161.out)); (case side2 => repeat (first | exact (Kd.C_below HR0_1.out HB.out) | (with_reducible refine Kd.C_alloc ?_ _) | (with_reducible refine Kd.C_drewN ?_ _) | (with_reducible refine Kd.C_drew ?_))); (case side3 => exact HC0_1.out); rintro e w' ⟨rfl, ⟨nd, rfl⟩⟩; refine ⟨_, rfl, ?_⟩) | ((with_reducible refine gate_callee (f := 79) rfl ?_); refine goesL_ (some 16) rfl rfl Try.func79 (by kernel_rfl) rfl #[.int .i64 a1, .int .i64 a2] rfl (by (try simp only [List.map_toArray, List.map_cons, List.map_nil]); first | done | rfl | (simp only [List.length_drop, List.length_take]; rfl)) ?_; (with_reducible refine (spec_l08System.calls a1 a2 false _ A6.out).mono ?_); rintro e w' ⟨rfl, ⟨nd, rfl⟩⟩; refine ⟨_, rfl, ?_⟩))
   go_ret3
   exact ⟨by first | rfl | (simp [errW_none, errW_some] <;> rfl) | (simp [*, errW_none, errW_some] <;> rfl), by repeat (first | (with_reducible first | exact HB.out | apply below_alloc | apply pw_below_drewN | apply below_drew1 | refine below_set ?_ GE161.out) | exact HB.out)⟩
 ·replace c5 := Bool.eq_false_iff.mpr c5
  subst c5
  have H1 : (some (0, 0, 1)) = some (r1, r2, r3) := by rw [if_neg (show ¬ (false = true) by decide)] at H; exact H
  clear H
  have H := H1
  clear H1
  simp only [Option.some.injEq, Prod.mk.injEq] at H
  obtain ⟨rfl, rfl, rfl⟩ := H
  go_enter Try.func31, Try.ntmps31
  go_wp2_with (first | ((with_reducible refine gate_dst (N := 3) rfl ?_); refine box_event ?hg (N := 3) ?hd (cs := #[.string a0_0, .slice A0_1 l0_1.length c0_1]) (t := 27) ?hr ?_; (case hd => rfl); (case hg => rfl); (case hr => first | (go_simp; done) | (go_simp; rfl)); intro gb161 hg w16 hbox hb; have n0_ := Aside0.mk (below_step (by repeat (first | (with_reducible first | exact HB.out | apply below_alloc | apply pw_below_drewN | apply below_drew1) | exact HB.out)) hb); have n1_ := Aside0.mk (hbox); have n2_ := Aside0.mk ((by rw [hg]; exact (below_size (by repeat (first | (with_reducible first | exact HB.out | apply below_alloc | apply pw_below_drewN | apply below_drew1) | exact HB.out))) : w.heap.size ≤ gb161)); have n3_ := Aside0.mk ((by rw [hg]; exact (below_size (by repeat (first | (with_reducible first | exact HB.out | apply below_alloc | apply pw_below_drewN | apply below_drew1) | exact HB.out))) : w.heap.size ≤ gb161)); clear HB; have HB := n0_; have BK161 := n1_; have GW161 := n2_; have GE161 := n3_; clear n0_ n1_ n2_ n3_; clear hb hbox hg) | ((with_reducible refine gate_callee (f := 64) rfl ?_); refine goesL_ (some 12) rfl rfl Try.func64 (by kernel_rfl) rfl #[.pointer (some ⟨gb161, 0, none⟩)] rfl (by (try simp only [List.map_toArray, List.map_cons, List.map_nil]); first | done | rfl | (simp only [List.length_drop, List.length_take]; rfl)) ?_; (with_reducible refine (spec_l08Ok_.calls gb161 a0_0 A0_1 c0_1 l0_1 false _ ?side1 ?side2 ?side3 A4.out).mono ?_); (case side1 => exact (by (with_reducible repeat (first | refine blk_drewN ?_ _ | refine blk_drew ?_ | refine blk_alloc ?_ _)); exact BK161.out)); (case side2 => repeat (first | exact (Kd.C_below HR0_1.out HB.out) | (with_reducible refine Kd.C_alloc ?_ _) | (with_reducible refine Kd.C_drewN ?_ _) | (with_reducible refine Kd.C_drew ?_))); (case side3 => exact HC0_1.out); rintro e w' ⟨rfl, ⟨nd, rfl⟩⟩; refine ⟨_, rfl, ?_⟩))
  go_ret3
  exact ⟨by first | rfl | (simp [errW_none, errW_some] <;> rfl) | (simp [*, errW_none, errW_some] <;> rfl), by repeat (first | (with_reducible first | exact HB.out | apply below_alloc | apply pw_below_drewN | apply below_drew1 | refine below_set ?_ GE161.out) | exact HB.out)⟩

end Go.Proofs.Ythgfkbkobnfnaaa.PFnExactWorkingFlow
