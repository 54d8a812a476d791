-- Printed by a program of this session (wip/hprint.sh: the kit's print with hand-proved contracts put in); not by print.sh itself.
import Derived.Test.YteifocbmholocaaPFnExactSteamPressurex0
import Derived.Test.YteifocbmholocaaPFnExactSteamPressurex1
namespace Go.Proofs.Yteifocbmholocaa.PFnExactSteamPressure
open Go.RowKit Go.Proofs.YteifocbmholocaaW.PrintWords Go.Proofs.YteifocbmholocaaW.PrintLast Go.Proofs.YteifocbmholocaaW.PrintMore
attribute [local go_sem] max2_int min2_int max_two min_two max_three min_three max_four min_four   -- for this text's walks alone
set_option linter.unusedVariables false
set_option linter.unusedSimpArgs false


/-! ### impl_abs: function 84 -/
open Go.Proofs.YteifocbmholocaaM
def impl_abs.f (a0 : Int) : Option Int := if -9223372036854775808 < a0 ∧ a0 ≤ 9223372036854775807 then some (absI a0) else none
theorem absI_mx (a : Int) (h : -9223372036854775808 < a ∧ a ≤ 9223372036854775807) : mx a (wrap64 (-a)) = absI a := by
  rw [w64 (by omega) (by omega)]
  unfold mx absI
  by_cases c : a < 0
  · rw [if_pos (by omega), if_pos c]
  · rw [if_neg c]
    by_cases c' : a < -a
    · omega
    · rw [if_neg c']
set_option maxHeartbeats 1000000 in
theorem impl_abs.calls (a0 : Int) (r : Int) (w : World) (h : impl_abs.f a0 = some r) :
    Calls Try.prog 84 #[.int .i64 a0] w fun e w' => e = .returned (.int .i64 r) ∧ Drawn0 w w' := by
  unfold impl_abs.f at h
  split at h
  · rename_i hb
    obtain rfl := Option.some.inj h
    have H := Aside0.mk (absI_mx a0 hb)
    clear h hb
    rw [← H.out]
    go_enter Try.func84, Try.ntmps84
    go_wp2
    all_goals go_ret
    all_goals exact ⟨by unfold mx; split <;> first | rfl | (exfalso; omega), by repeat (first | exact Drawn0.refl _ | apply Drawn0.step)⟩
  · exact absurd h (by simp)


/-! ### impl_divRound: function 55 -/
open Go.Proofs.YteifocbmholocaaM
def impl_divRound.f (a0 a1 : Int) : Option Int := if a1 ≠ 0 ∧ -2305843009213693952 ≤ a0 ∧ a0 ≤ 2305843009213693952 ∧ -2305843009213693952 ≤ a1 ∧ a1 ≤ 2305843009213693952 then some (rdiv a0 a1) else none
theorem tmod_abs (a b : Int) (hb : b ≠ 0) (b1 : -2305843009213693952 ≤ b) (b2 : b ≤ 2305843009213693952) : -2305843009213693952 ≤ Int.tmod a b ∧ Int.tmod a b ≤ 2305843009213693952 := by
  have hm : Int.natAbs (Int.tmod a b) < Int.natAbs b := by rw [Int.natAbs_tmod]; exact Nat.mod_lt _ (by omega)
  omega
def impl_divRound.val (a b t t' : Int) : Int := if wrap64 (t' - t) ≤ t then (if (decide (a < 0) == decide (b < 0)) = true then wrap64 (wrap64 (Int.tdiv a b) + 1) else wrap64 (wrap64 (Int.tdiv a b) - 1)) else wrap64 (Int.tdiv a b)
set_option maxHeartbeats 2000000 in
set_option maxRecDepth 100000 in
theorem impl_divRound.core (a b t t' : Int) (w : World) (hb : ¬ b = 0) (z0 : (b == 0) = false) (z1 : (b != 0) = true) (A : Aside0 (impl_abs.f (Int.tmod a b) = some t)) (B : Aside0 (impl_abs.f b = some t')) :
    Calls Try.prog 55 #[.int .i64 a, .int .i64 b] w fun e w' => e = .returned (.int .i64 (impl_divRound.val a b t t')) ∧ Drawn0 w w' := by
  unfold impl_divRound.val
  by_cases c1 : wrap64 (t' - t) ≤ t
  · rw [if_pos c1]
    have c1b : decide (wrap64 (t' - t) ≤ t) = true := decide_eq_true c1
    clear c1
    by_cases c2 : (decide (a < 0) == decide (b < 0)) = true
    · rw [if_pos c2]
      go_enter Try.func55, Try.ntmps55
      go_wp2
      go_quiet ((go_at_call 84; exact Calls.quiet_of ((impl_abs.calls _ t _ A.out).mono fun e w' ⟨he, hd⟩ => ⟨he, hd.out⟩)))
      go_wp2_with (go_at_call 84; (with_reducible refine (impl_abs.calls b t' _ B.out).mono ?_); rintro e w' ⟨rfl, ⟨nd, rfl⟩⟩)
      go_ret
      exact ⟨rfl, by repeat (first | exact Drawn0.refl _ | apply Drawn0.step)⟩
    · rw [if_neg c2]
      have c2b : (decide (a < 0) == decide (b < 0)) = false := by simpa using c2
      (try (have c7b1 : decide ((decide (a < 0)) = (decide (b < 0))) = false := by simpa using c2))
      (try (have c7b3 : ¬ ((decide (a < 0)) = (decide (b < 0))) := by simpa using c2))
      clear c2
      go_enter Try.func55, Try.ntmps55
      go_wp2
      go_quiet ((go_at_call 84; exact Calls.quiet_of ((impl_abs.calls _ t _ A.out).mono fun e w' ⟨he, hd⟩ => ⟨he, hd.out⟩)))
      go_wp2_with (go_at_call 84; (with_reducible refine (impl_abs.calls b t' _ B.out).mono ?_); rintro e w' ⟨rfl, ⟨nd, rfl⟩⟩)
      go_ret
      exact ⟨rfl, by repeat (first | exact Drawn0.refl _ | apply Drawn0.step)⟩
  · rw [if_neg c1]
    have c1b : decide (wrap64 (t' - t) ≤ t) = false := decide_eq_false c1
    clear c1
    go_enter Try.func55, Try.ntmps55
    go_wp2
    go_quiet ((go_at_call 84; exact Calls.quiet_of ((impl_abs.calls _ t _ A.out).mono fun e w' ⟨he, hd⟩ => ⟨he, hd.out⟩)))
    go_wp2_with (go_at_call 84; (with_reducible refine (impl_abs.calls b t' _ B.out).mono ?_); rintro e w' ⟨rfl, ⟨nd, rfl⟩⟩)
    go_ret
    exact ⟨rfl, by repeat (first | exact Drawn0.refl _ | apply Drawn0.step)⟩
theorem impl_divRound.calls (a0 a1 : Int) (r : Int) (w : World) (h : impl_divRound.f a0 a1 = some r) :
    Calls Try.prog 55 #[.int .i64 a0, .int .i64 a1] w fun e w' => e = .returned (.int .i64 r) ∧ Drawn0 w w' := by
  unfold impl_divRound.f at h
  split at h
  · rename_i hc
    obtain ⟨hb, h1, h2, h3, h4⟩ := hc
    have hm := tmod_abs a0 a1 hb h3 h4
    have A : impl_abs.f (Int.tmod a0 a1) = some (absI (Int.tmod a0 a1)) := by unfold impl_abs.f; rw [if_pos (by omega)]
    have B : impl_abs.f a1 = some (absI a1) := by unfold impl_abs.f; rw [if_pos (by omega)]
    have key := impl_div a0 a1 hb h1 h2 h3 h4 (absI (Int.tmod a0 a1)) (absI a1) (by unfold absI; split <;> split <;> omega) (by unfold absI; split <;> split <;> omega)
    have e : impl_divRound.val a0 a1 (absI (Int.tmod a0 a1)) (absI a1) = r := by
      rw [← Option.some.inj h]
      refine Option.some.inj (Eq.trans ?_ key)
      unfold impl_divRound.val
      simp only [ge_iff_le]
      split
      · split <;> rfl
      · rfl
    have := impl_divRound.core a0 a1 _ _ w hb (beq_eq_false_iff_ne.mpr hb) (bne_iff_ne.mpr hb) ⟨A⟩ ⟨B⟩
    rw [e] at this
    exact this
  · exact absurd h (by simp)

/-! ### impl_blend: function 50 -/
def impl_blend.j0 : Nat → Int → Int → Int → Int → Int → Bool → Option (Int)
  | 0, _, _, _, _, _, _ => none
  | k + 1, x0, x1, x2, x3, x4, x11 => if x11 = true then (some x1) else (if x4 ≥ x2 then (some x3) else ((impl_divRound.f (wrap64 ((wrap64 (x3 - x1)) * (wrap64 (x4 - x0)))) (wrap64 (x2 - x0))).bind fun t125 => (some (wrap64 (x1 + t125)))))
def impl_blend.f (k : Nat) (a0 : Int) (a1 : Int) (a2 : Int) (a3 : Int) (a4 : Int) : Option (Int) := if a4 ≤ a0 then (impl_blend.j0 k a0 a1 a2 a3 a4 true) else (impl_blend.j0 k a0 a1 a2 a3 a4 (decide (a2 ≤ a0)))
theorem impl_blend.mono_l : ∀ k, (∀ y0 y1 y2 y3 y4 y5, LeO (impl_blend.j0 k y0 y1 y2 y3 y4 y5) (impl_blend.j0 (k + 1) y0 y1 y2 y3 y4 y5))
  | 0 => fun _ _ _ _ _ _ r h => by simp [impl_blend.j0] at h
  | k + 1 => by
    have ih0 := impl_blend.mono_l k
    · intro y0 y1 y2 y3 y4 y5
      unfold impl_blend.j0
      repeat' first
      | (with_reducible exact ih0 _ _ _ _ _ _)
      | (with_reducible exact LeO.refl _)
      | (with_reducible exact LeO.none _)
      | (with_reducible refine LeO.ite ?_ ?_)
      | (with_reducible refine LeO.bind ?_ (fun _ => ?_))
      | exact ih0 _ _ _ _ _ _
      | exact LeO.none _
      | refine LeO.ite ?_ ?_
      | refine LeO.bind ?_ (fun _ => ?_)
theorem impl_blend.mono : ∀ a0 a1 a2 a3 a4 k, LeO (impl_blend.f k a0 a1 a2 a3 a4) (impl_blend.f (k + 1) a0 a1 a2 a3 a4) := by
  intro a0 a1 a2 a3 a4 k
  have ih0 := impl_blend.mono_l k
  unfold impl_blend.f
  repeat' first
      | (with_reducible exact ih0 _ _ _ _ _ _)
      | (with_reducible exact LeO.refl _)
      | (with_reducible exact LeO.none _)
      | (with_reducible refine LeO.ite ?_ ?_)
      | (with_reducible refine LeO.bind ?_ (fun _ => ?_))
      | exact ih0 _ _ _ _ _ _
      | exact LeO.none _
      | refine LeO.ite ?_ ?_
      | refine LeO.bind ?_ (fun _ => ?_)
set_option maxHeartbeats 8000000 in
set_option maxRecDepth 100000 in
theorem impl_blend.calls (k : Nat) (a0 : Int) (a1 : Int) (a2 : Int) (a3 : Int) (a4 : Int) (r : Int) (w : World) (h : impl_blend.f k a0 a1 a2 a3 a4 = some r) :
    Calls Try.prog 50 #[.int .i64 a0, .int .i64 a1, .int .i64 a2, .int .i64 a3, .int .i64 a4] w fun e w' => e = .returned (.int .i64 r) ∧ Drawn0 w w' := by
  have H : (if a4 ≤ a0 then (impl_blend.j0 k a0 a1 a2 a3 a4 true) else (impl_blend.j0 k a0 a1 a2 a3 a4 (decide (a2 ≤ a0)))) = some r := h
  clear h
  have HC6 := Aside0.mk H
  clear H
  go_enter Try.func50, Try.ntmps50
  go_upto_region 1 with (fail)
  go_cut [11] (fun v11 wc => ∃ (kq : Nat) (x11_5 : Bool), v11 = .bool x11_5 ∧ Aside0 (impl_blend.j0 kq a0 a1 a2 a3 a4 x11_5 = some r) ∧ Aside0 (kq ≤ k) ∧ Drawn0 w wc)
  case first =>
    have H := HC6.out
    clear HC6
    by_cases c7 : a4 ≤ a0
    · rw [if_pos c7] at H
      have c7b0 : decide (a4 ≤ a0) = true := decide_eq_true c7
      clear c7
      (first | rw [c7b0] | (simp only [i64_w, i32_w]; rw [c7b0]) | skip)
      have H' := Aside0.mk H
      clear H
      go_wp2
      go_meet
      case rel => exact ⟨_, (true), (by first | rfl | (simp; done) | (simp [*]; done)), H', ⟨by first | omega | exact Nat.le_refl _⟩, by repeat (first | exact Drawn0.refl _ | apply Drawn0.step)⟩
    · rw [if_neg c7] at H
      have c7b0 : decide (a4 ≤ a0) = false := decide_eq_false c7
      clear c7
      (first | rw [c7b0] | (simp only [i64_w, i32_w]; rw [c7b0]) | skip)
      have H' := Aside0.mk H
      clear H
      go_wp2
      go_meet
      case rel => exact ⟨_, (decide (a2 ≤ a0)), (by first | rfl | (simp; done) | (simp [*]; done)), H', ⟨by first | omega | exact Nat.le_refl _⟩, by repeat (first | exact Drawn0.refl _ | apply Drawn0.step)⟩
  case rest =>
    clear HC6
    try clear p2
    try clear c5
    try clear c7
    try clear c7b0
    obtain ⟨kq, x11_5, rfl, HA, HJ5, ⟨mc5, rfl⟩⟩ := hcut
    cases kq with
    | zero => exact absurd HA.out (by simp [impl_blend.j0])
    | succ kj5 =>
      have H := HA.out
      clear HA
      simp only [impl_blend.j0] at H
      by_cases c8 : x11_5 = true
      · subst c8
        have H1 : (some a1) = some r := by rw [if_pos rfl] at H; exact H
        clear H
        have H := H1
        clear H1
        obtain rfl := Option.some.inj H
        go_wp2
        go_ret
        exact ⟨by first | rfl | (simp; done) | (simp [*]; done), by repeat (first | exact Drawn0.refl _ | apply Drawn0.step)⟩
      · replace c8 := Bool.eq_false_iff.mpr c8
        subst c8
        have H1 : (if a4 ≥ a2 then (some a3) else ((impl_divRound.f (wrap64 ((wrap64 (a3 - a1)) * (wrap64 (a4 - a0)))) (wrap64 (a2 - a0))).bind fun t125 => (some (wrap64 (a1 + t125))))) = some r := by rw [if_neg (show ¬ (false = true) by decide)] at H; exact H
        clear H
        have H := H1
        clear H1
        by_cases c9 : a4 ≥ a2
        · rw [if_pos c9] at H
          have c9b0 : decide (a2 ≤ a4) = true := decide_eq_true c9
          clear c9
          obtain rfl := Option.some.inj H
          go_wp2
          go_ret
          exact ⟨by first | rfl | (simp; done) | (simp [*]; done), by repeat (first | exact Drawn0.refl _ | apply Drawn0.step)⟩
        · rw [if_neg c9] at H
          have c9b0 : decide (a2 ≤ a4) = false := decide_eq_false c9
          clear c9
          replace H := Option.bind_eq_some_iff.mp H
          obtain ⟨t125, A100, H⟩ := H
          replace H : (some (wrap64 (a1 + t125))) = some r := H
          have A10 := Aside0.mk A100
          clear A100
          obtain rfl := Option.some.inj H
          go_wp2_with (first | ((with_reducible refine gate_callee (f := 55) rfl ?_); refine goesL_ (some 37) rfl rfl Try.func55 (by kernel_rfl) rfl #[.int .i64 (wrap64 ((wrap64 (a3 - a1)) * (wrap64 (a4 - a0)))), .int .i64 (wrap64 (a2 - a0))] rfl (by (try simp only [List.map_toArray, List.map_cons, List.map_nil]); first | done | rfl | (simp only [List.length_drop, List.length_take]; rfl)) ?_; (with_reducible refine (impl_divRound.calls (wrap64 ((wrap64 (a3 - a1)) * (wrap64 (a4 - a0)))) (wrap64 (a2 - a0)) t125 _ A10.out).mono ?_); rintro e w' ⟨rfl, ⟨nd, rfl⟩⟩; refine ⟨_, rfl, ?_⟩))
          go_ret
          exact ⟨by first | rfl | (simp; done) | (simp [*]; done), by repeat (first | exact Drawn0.refl _ | apply Drawn0.step)⟩

open Go.Proofs.YteifocbmholocaaM
def impl_blend_.f (a0 a1 a2 a3 a4 : Int) : Option Int := if (-10000000 ≤ a0 ∧ a0 ≤ 10000000) ∧ (-10000000 ≤ a1 ∧ a1 ≤ 10000000) ∧ (-10000000 ≤ a2 ∧ a2 ≤ 10000000) ∧ (-10000000 ≤ a3 ∧ a3 ≤ 10000000) then some (lineI a0 a1 a2 a3 a4) else none
theorem impl_blend_.same (a0 a1 a2 a3 a4 : Int) (h0 : -10000000 ≤ a0 ∧ a0 ≤ 10000000) (h1 : -10000000 ≤ a1 ∧ a1 ≤ 10000000) (h2 : -10000000 ≤ a2 ∧ a2 ≤ 10000000) (h3 : -10000000 ≤ a3 ∧ a3 ≤ 10000000) : impl_blend.f 1 a0 a1 a2 a3 a4 = some (lineI a0 a1 a2 a3 a4) := by
  unfold impl_blend.f lineI
  by_cases c1 : a4 ≤ a0
  · rw [if_pos c1, if_pos (Or.inl c1)]; simp [impl_blend.j0]
  · rw [if_neg c1]
    by_cases c2 : a2 ≤ a0
    · rw [if_pos (Or.inr c2), decide_eq_true c2]; simp [impl_blend.j0]
    · have c3 : ¬ (a4 ≤ a0 ∨ a2 ≤ a0) := by omega
      rw [if_neg c3, decide_eq_false c2]
      simp only [impl_blend.j0, Bool.false_eq_true, if_false, ge_iff_le]
      by_cases c4 : a2 ≤ a4
      · rw [if_pos c4, if_pos c4]
      · have hl := line_bound c3 c4 h0.1 h2.2 h1.1 h1.2 h3.1 h3.2
        rw [if_neg c4, if_neg c4, w64 (x := a3 - a1) (by omega) (by omega), w64 (x := a4 - a0) (by omega) (by omega), w64 (x := (a3 - a1) * (a4 - a0)) (by omega) (by omega), w64 (x := a2 - a0) (by omega) (by omega)]
        simp only [impl_divRound.f]
        rw [if_pos (by omega)]
        simp only [Option.bind_some]
        rw [w64 (by omega) (by omega)]
theorem impl_blend_.calls (a0 a1 a2 a3 a4 : Int) (r : Int) (w : World) (h : impl_blend_.f a0 a1 a2 a3 a4 = some r) :
    Calls Try.prog 50 #[.int .i64 a0, .int .i64 a1, .int .i64 a2, .int .i64 a3, .int .i64 a4] w fun e w' => e = .returned (.int .i64 r) ∧ Drawn0 w w' := by
  unfold impl_blend_.f at h
  split at h
  · rename_i hc
    exact impl_blend.calls 1 a0 a1 a2 a3 a4 r w (by rw [← h]; exact impl_blend_.same a0 a1 a2 a3 a4 hc.1 hc.2.1 hc.2.2.1 hc.2.2.2)
  · exact absurd h (by simp)


/-! ### impl_boilingAt: function 60 -/
open Go.Proofs.YteifocbmholocaaM
def boilTab : List Int := [1000, 700, 2000, 1750, 10000, 4580, 50000, 8135, 101325, 9961, 200000, 12023, 400000, 14361, 600000, 15883, 1000000, 17988, 1200000, 18796]
def impl_boilingAt.f (a0 : Int) : Option Int := if 1000 ≤ a0 ∧ a0 ≤ 1200000 then some (boilI a0) else none
def boilW (w : World) : World := (w.alloc (.cells #[.int .i64 0, .int .i64 0, .int .i64 0, .int .i64 0, .int .i64 0, .int .i64 0, .int .i64 0, .int .i64 0, .int .i64 0, .int .i64 0, .int .i64 0, .int .i64 0, .int .i64 0, .int .i64 0, .int .i64 0, .int .i64 0, .int .i64 0, .int .i64 0, .int .i64 0, .int .i64 0] 66)).setRow w.heap.size #[.int .i64 1000, .int .i64 700, .int .i64 2000, .int .i64 1750, .int .i64 10000, .int .i64 4580, .int .i64 50000, .int .i64 8135, .int .i64 101325, .int .i64 9961, .int .i64 200000, .int .i64 12023, .int .i64 400000, .int .i64 14361, .int .i64 600000, .int .i64 15883, .int .i64 1000000, .int .i64 17988, .int .i64 1200000, .int .i64 18796]
theorem boil_cell (w : World) (k : Nat) (hk : k ≤ 19) : (boilW w).cell? ⟨w.heap.size, k, none⟩ = some (.int .i64 (boilTab.getD k 0)) := by
  unfold boilW
  rw [cell_setRow_same _ _ _ _ _ _ _ (heap_alloc_new w _)]
  have : k = 0 ∨ k = 1 ∨ k = 2 ∨ k = 3 ∨ k = 4 ∨ k = 5 ∨ k = 6 ∨ k = 7 ∨ k = 8 ∨ k = 9 ∨ k = 10 ∨ k = 11 ∨ k = 12 ∨ k = 13 ∨ k = 14 ∨ k = 15 ∨ k = 16 ∨ k = 17 ∨ k = 18 ∨ k = 19 := by omega
  rcases this with rfl | rfl | rfl | rfl | rfl | rfl | rfl | rfl | rfl | rfl | rfl | rfl | rfl | rfl | rfl | rfl | rfl | rfl | rfl | rfl <;> rfl
theorem boil_below (w : World) : Below w.heap.size w (boilW w) := by
  have h := below_alloc (Below.refl w.heap.size w) (.cells #[.int .i64 0, .int .i64 0, .int .i64 0, .int .i64 0, .int .i64 0, .int .i64 0, .int .i64 0, .int .i64 0, .int .i64 0, .int .i64 0, .int .i64 0, .int .i64 0, .int .i64 0, .int .i64 0, .int .i64 0, .int .i64 0, .int .i64 0, .int .i64 0, .int .i64 0, .int .i64 0] 66)
  exact ⟨h.os, h.tape, h.output, by unfold boilW; rw [setRow_size]; exact h.size, fun i hi => by unfold boilW; rw [setRow_other _ _ _ _ (by omega)]; exact h.block i hi⟩
/-- What the loop comes to: the segment in which the pressure lies. -/
theorem boil_seg (k : Nat) (p : Int) (hk : k ≤ 8) (h1 : 1000 ≤ p) (h2 : p ≤ 1200000) (hlo : boilTab.getD (k * 2) 0 ≤ p) (hhi : k = 8 ∨ p < boilTab.getD ((k + 1) * 2) 0) :
    impl_blend_.f (boilTab.getD (k * 2) 0) (boilTab.getD (k * 2 + 1) 0) (boilTab.getD ((k + 1) * 2) 0) (boilTab.getD ((k + 1) * 2 + 1) 0) p = some (boilI p) := by
  have : k = 0 ∨ k = 1 ∨ k = 2 ∨ k = 3 ∨ k = 4 ∨ k = 5 ∨ k = 6 ∨ k = 7 ∨ k = 8 := by omega
  rcases this with rfl | rfl | rfl | rfl | rfl | rfl | rfl | rfl | rfl <;> simp [boilTab] at hlo hhi
  · rw [boil_at0 (by omega)]; simp [boilTab, impl_blend_.f]
  · rw [boil_at1 (by omega) (by omega)]; simp [boilTab, impl_blend_.f]
  · rw [boil_at2 (by omega) (by omega)]; simp [boilTab, impl_blend_.f]
  · rw [boil_at3 (by omega) (by omega)]; simp [boilTab, impl_blend_.f]
  · rw [boil_at4 (by omega) (by omega)]; simp [boilTab, impl_blend_.f]
  · rw [boil_at5 (by omega) (by omega)]; simp [boilTab, impl_blend_.f]
  · rw [boil_at6 (by omega) (by omega)]; simp [boilTab, impl_blend_.f]
  · rw [boil_at7 (by omega) (by omega)]; simp [boilTab, impl_blend_.f]
  · rw [boil_at8 (by omega)]; simp [boilTab, impl_blend_.f]
set_option maxHeartbeats 2000000 in
set_option maxRecDepth 100000 in
theorem impl_boilingAt.core (p r : Int) (w : World) (h1 : 1000 ≤ p) (h2 : p ≤ 1200000) (h : Aside0 (boilI p = r)) :
    Calls Try.prog 60 #[.int .i64 p] w fun e w' => e = .returned (.int .i64 r) ∧ Below w.heap.size w w' := by
  go_enter Try.func60, Try.ntmps60
  go_wp2_with (first | (refine wpList_buildTo rfl 66 _ rfl (some 15) rfl #[.int .i64 1000, .int .i64 700, .int .i64 2000, .int .i64 1750, .int .i64 10000, .int .i64 4580, .int .i64 50000, .int .i64 8135, .int .i64 101325, .int .i64 9961, .int .i64 200000, .int .i64 12023, .int .i64 400000, .int .i64 14361, .int .i64 600000, .int .i64 15883, .int .i64 1000000, .int .i64 17988, .int .i64 1200000, .int .i64 18796] (by as_aux_lemma => kernel_rfl) ?_) | (refine wpList_store_rowTo rfl 66 _ _ rfl rfl w.heap.size #[.int .i64 1000, .int .i64 700, .int .i64 2000, .int .i64 1750, .int .i64 10000, .int .i64 4580, .int .i64 50000, .int .i64 8135, .int .i64 101325, .int .i64 9961, .int .i64 200000, .int .i64 12023, .int .i64 400000, .int .i64 14361, .int .i64 600000, .int .i64 15883, .int .i64 1000000, .int .i64 17988, .int .i64 1200000, .int .i64 18796] rfl rfl 66 #[.int .i64 0, .int .i64 0, .int .i64 0, .int .i64 0, .int .i64 0, .int .i64 0, .int .i64 0, .int .i64 0, .int .i64 0, .int .i64 0, .int .i64 0, .int .i64 0, .int .i64 0, .int .i64 0, .int .i64 0, .int .i64 0, .int .i64 0, .int .i64 0, .int .i64 0, .int .i64 0] (heap_alloc_new w _) (by as_aux_lemma => kernel_rfl) rfl (by as_aux_lemma => kernel_rfl) ?_))
  have BC := Aside0.mk (boil_cell w)
  have HB := Aside0.mk (boil_below w)
  obtain ⟨W, hW⟩ : ∃ W, boilW w = W := ⟨_, rfl⟩
  rw [hW] at BC HB
  unfold boilW at hW
  rw [hW]
  clear hW
  go_loop [4] (fun v => ∃ k : Nat, k ≤ 8 ∧ v = .int .i64 k ∧ Aside0 (boilTab.getD (k * 2) 0 ≤ p)) (fun v => 8 - (intOf v).toNat)
  case atStart => exact ⟨0, by omega, rfl, ⟨h1⟩⟩
  case round =>
    obtain ⟨k, hk, rfl, LO⟩ := hrel
    obtain ⟨a0, b0, a1, b1, q00, q01, q10, q11, T⟩ : ∃ a0 b0 a1 b1 : Int, W.cell? ⟨w.heap.size, k * 2, none⟩ = some (.int .i64 a0) ∧ W.cell? ⟨w.heap.size, k * 2 + 1, none⟩ = some (.int .i64 b0) ∧ W.cell? ⟨w.heap.size, (k + 1) * 2, none⟩ = some (.int .i64 a1) ∧ W.cell? ⟨w.heap.size, (k + 1) * 2 + 1, none⟩ = some (.int .i64 b1) ∧
        Aside0 (a0 = boilTab.getD (k * 2) 0 ∧ b0 = boilTab.getD (k * 2 + 1) 0 ∧ a1 = boilTab.getD ((k + 1) * 2) 0 ∧ b1 = boilTab.getD ((k + 1) * 2 + 1) 0) :=
      ⟨_, _, _, _, BC.out _ (by omega), BC.out _ (by omega), BC.out _ (by omega), BC.out _ (by omega), ⟨rfl, rfl, rfl, rfl⟩⟩
    have e4 : ((k : Int) + 1).toNat = k + 1 := by omega
    have e5 : (k : Int).toNat = k := by omega
    have i0 : (0 : Int) ≤ (k : Int) := by omega
    have i1 : (k : Int) < 10 := by omega
    have i2 : (0 : Int) ≤ (k : Int) + 1 := by omega
    have i3 : (k : Int) + 1 < 10 := by omega
    by_cases c : k < 8 ∧ a1 ≤ p
    · obtain ⟨c1, c2⟩ := c
      go_wp2_with fail
      go_round
      case rel => exact ⟨k + 1, by omega, by go_num, ⟨T.out.2.2.1 ▸ c2⟩⟩
      case measure => simp [intOf]; omega
    · have E : Aside0 (impl_blend_.f a0 b0 a1 b1 p = some r) := ⟨by
        obtain ⟨t0, t1, t2, t3⟩ := T.out
        rw [← h.out, t0, t1, t2, t3]
        exact boil_seg k p hk h1 h2 LO.out (by
          by_cases c1 : k < 8
          · exact Or.inr (by have := fun hh => c ⟨c1, hh⟩; rw [t2] at this; omega)
          · exact Or.inl (by omega))⟩
      have e2 : IntKind.i64.wrap ((k : Int) + 1) = (k : Int) + 1 := IntWalk.i64_in _ (by omega)
      by_cases c1 : k < 8
      · have c2 : ¬ a1 ≤ p := fun h => c ⟨c1, h⟩
        clear c
        go_wp2_with fail
        go_quiet ((go_at_call 50; exact Calls.quiet_of ((impl_blend_.calls _ _ _ _ _ r _ E.out).mono fun e w' ⟨he, hd⟩ => ⟨he, hd.out⟩)))
        go_wp2
        go_ret
        exact ⟨rfl, by repeat (first | exact HB.out | apply below_alloc | apply pw_below_drewN | apply below_drew1)⟩
      · clear c
        go_wp2_with fail
        go_quiet ((go_at_call 50; exact Calls.quiet_of ((impl_blend_.calls _ _ _ _ _ r _ E.out).mono fun e w' ⟨he, hd⟩ => ⟨he, hd.out⟩)))
        go_wp2
        go_ret
        exact ⟨rfl, by repeat (first | exact HB.out | apply below_alloc | apply pw_below_drewN | apply below_drew1)⟩
theorem impl_boilingAt.calls (a0 : Int) (r : Int) (w : World) (h : impl_boilingAt.f a0 = some r) :
    Calls Try.prog 60 #[.int .i64 a0] w fun e w' => e = .returned (.int .i64 r) ∧ Below w.heap.size w w' := by
  unfold impl_boilingAt.f at h
  split at h
  · rename_i hc
    exact impl_boilingAt.core a0 r w hc.1 hc.2 ⟨Option.some.inj h⟩
  · exact absurd h (by simp)


/-! ### sort_Search: function 87 -/
open Go.Proofs.YteifocbmholocaaM
def SearchPost (n : Nat) (p : Nat → Bool) (w : World) (e : Ending) (w' : World) : Prop :=
  e = .returned (.int .i64 (firstTrue p n : Nat)) ∧ Below w.heap.size w w'
set_option maxHeartbeats 4000000 in
set_option maxRecDepth 100000 in
/-- sort.Search over n places with a function value that reads: how far the property fails. -/
theorem search_any (g : Nat) (cb : Array Value) (n : Nat) (p : Nat → Bool) (w : World) (eg : Enters Try.prog g) (hsz : n < 4611686018427387904)
    (hf : ∀ (W : World) (i : Nat), Below w.heap.size w W → i < n → Calls Try.prog g (#[.int .i64 i] ++ cb) W fun e w' => e = .returned (.bool (p i)) ∧ Below W.heap.size W w')
    (hmono : ∀ a b, a ≤ b → b < n → p a = true → p b = true) :
    Calls Try.prog 87 #[.int .i64 n, .func (.func g) #[] cb] w (SearchPost n p w) := by
  have HF := Aside0.mk hf
  have M := Aside0.mk hmono
  clear hf hmono
  have eg' : ∀ args w, (callFunc g args).run Try.prog w = .ok (.enter g args) w := eg
  clear eg
  obtain ⟨Q, hQ0⟩ : ∃ Q : Ending → World → Prop, SearchPost n p w = Q := ⟨_, rfl⟩
  have hQ := Aside0.mk hQ0
  rw [hQ0]
  clear hQ0
  go_enter Try.func87, Try.ntmps87
  go_wp2
  go_loopg [5, 6] n (fun kx s5 s6 wr => ∃ (lo hi : Nat), s5 = .int .i64 lo ∧ s6 = .int .i64 hi ∧ lo ≤ hi ∧ hi ≤ n ∧ hi - lo ≤ kx ∧ Aside0 (Below w.heap.size w wr) ∧
    Aside0 ((∀ t, t < lo → p t = false) ∧ (∀ t, hi ≤ t → t < n → p t = true)))
  case atStart => exact ⟨0, n, rfl, rfl, Nat.zero_le _, Nat.le_refl _, by omega, ⟨Below.refl _ _⟩, ⟨fun t ht => absurd ht (Nat.not_lt_zero _), fun t h1 h2 => by omega⟩⟩
  case round =>
    obtain ⟨lo, hi, rfl, rfl, hlh, hin, hg, HB, I⟩ := hrel
    by_cases hlt : lo < hi
    · have hc := HF.out wr ((lo + hi) / 2) HB.out (by omega)
      rw [show (((lo + hi) / 2 : Nat) : Int) = ((lo : Int) + (hi : Int)) / 2 by omega] at hc
      cases hp : p ((lo + hi) / 2) <;> rw [hp] at hc
      · have HP := Aside0.mk hp
        clear hp
        go_wp2_with (go_at_fn g; refine hc.mono ?_; rintro e w' ⟨rfl, hb⟩)
        go_roundg (hi - ((lo + hi) / 2 + 1))
        case measure => omega
        case rel =>
          exact ⟨(lo + hi) / 2 + 1, hi, by rw [show ((lo : Int) + (hi : Int)) / 2 + 1 = (((lo + hi) / 2 + 1 : Nat) : Int) by omega], rfl, by omega, hin, Nat.le_refl _, ⟨below_then HB.out HB.out.size hb⟩, ⟨fun t ht => (by
            cases h : p t with
            | false => rfl
            | true => have := M.out t ((lo + hi) / 2) (by omega) (by omega) h; rw [HP.out] at this; cases this), I.out.2⟩⟩
      · have HP := Aside0.mk hp
        clear hp
        go_wp2_with (go_at_fn g; refine hc.mono ?_; rintro e w' ⟨rfl, hb⟩)
        go_roundg ((lo + hi) / 2 - lo)
        case measure => omega
        case rel =>
          exact ⟨lo, (lo + hi) / 2, rfl, by rw [show ((lo : Int) + (hi : Int)) / 2 = (((lo + hi) / 2 : Nat) : Int) by omega], by omega, by omega, Nat.le_refl _, ⟨below_then HB.out HB.out.size hb⟩, ⟨I.out.1, fun t ht htn => M.out ((lo + hi) / 2) t ht htn HP.out⟩⟩
    · obtain rfl : hi = lo := by omega
      go_wp2
      rw [← hQ.out]
      exact ⟨by rw [firstTrue_unique p n hi hin I.out.1 I.out.2]; rfl, HB.out⟩


/-! ### impl_firstIn: function 63 -/
open Go.Proofs.YteifocbmholocaaM
def FirstPost (low : Int) (n : Nat) (p : Int → Bool) (w : World) (e : Ending) (w' : World) : Prop :=
  e = .returned (.tuple #[.int .i64 (low + (firstTrue (fun i => p (low + (i : Int))) n : Nat)), .bool (decide (firstTrue (fun i => p (low + (i : Int))) n < n))]) ∧ Below w.heap.size w w'
set_option maxHeartbeats 2000000 in
set_option maxRecDepth 100000 in
theorem firstIn_closure (g : Nat) (cb : Array Value) (B0 B1 : Nat) (low x : Int) (b : Bool) (W : World) (i : Nat) (eg : Enters Try.prog g) (hx : low + (i : Int) = x) (h1 : -4611686018427387904 ≤ low) (h2 : low ≤ 4611686018427387904) (h3 : i < 4611686018427387904)
    (c0 : W.cell? ⟨B0, 0, none⟩ = some (.int .i64 low)) (c1 : W.cell? ⟨B1, 0, none⟩ = some (.func (.func g) #[] cb))
    (hf : Calls Try.prog g (#[.int .i64 x] ++ cb) W fun e w' => e = .returned (.bool b) ∧ Below W.heap.size W w') :
    Calls Try.prog 88 (#[.int .i64 i] ++ #[.pointer (some ⟨B1, 0, none⟩), .pointer (some ⟨B0, 0, none⟩)]) W fun e w' => e = .returned (.bool b) ∧ Below W.heap.size W w' := by
  rw [← hx] at hf
  clear hx
  have HF := Aside0.mk hf
  clear hf
  have eg' : ∀ args w, (callFunc g args).run Try.prog w = .ok (.enter g args) w := eg
  clear eg
  go_enter Try.func88, Try.ntmps88
  go_wp2_with (go_at_fn g; refine HF.out.mono ?_; rintro e w' ⟨rfl, hb⟩)
  go_ret
  exact ⟨rfl, hb⟩
set_option maxHeartbeats 2000000 in
set_option maxRecDepth 100000 in
/-- The least number from low to high with a property that all greater ones have, too. -/
theorem firstIn_any (g : Nat) (cb : Array Value) (low high : Int) (n : Nat) (p : Int → Bool) (w : World) (eg : Enters Try.prog g) (hn : high - low + 1 = (n : Int)) (h1 : -1000000000000 ≤ low) (h2 : low ≤ 1000000000000) (h3 : -1000000000000 ≤ high) (h4 : high ≤ 1000000000000)
    (hf : ∀ (W : World) (x : Int), Below w.heap.size w W → low ≤ x → x ≤ high → Calls Try.prog g (#[.int .i64 x] ++ cb) W fun e w' => e = .returned (.bool (p x)) ∧ Below W.heap.size W w')
    (hmono : ∀ a b, low ≤ a → a ≤ b → b ≤ high → p a = true → p b = true) :
    Calls Try.prog 63 #[.int .i64 low, .int .i64 high, .func (.func g) #[] cb] w (FirstPost low n p w) := by
  obtain ⟨W, hW⟩ : ∃ W, (w.alloc (.cells #[.int .i64 low] 2)).alloc (.cells #[.func (.func g) #[] cb] 30) = W := ⟨_, rfl⟩
  have hb : Below w.heap.size w W := by rw [← hW]; exact below_alloc (below_alloc (Below.refl _ _) _) _
  have hs : W.heap.size = w.heap.size + 1 + 1 := by rw [← hW]; simp
  have d0 : W.cell? ⟨w.heap.size, 0, none⟩ = some (.int .i64 low) := by rw [← hW]; simp
  have d1 : W.cell? ⟨w.heap.size + 1, 0, none⟩ = some (.func (.func g) #[] cb) := by rw [← hW]; simp
  have ek : Enters Try.prog 88 := enters_of Try.func88 (by kernel_rfl) rfl
  have hS := search_any 88 #[.pointer (some ⟨w.heap.size + 1, 0, none⟩), .pointer (some ⟨w.heap.size, 0, none⟩)] n (fun i => p (low + (i : Int))) W ek (by omega)
    (fun W' i hb' hi => firstIn_closure g cb w.heap.size (w.heap.size + 1) low (low + (i : Int)) _ W' i eg rfl (by omega) (by omega) (by omega)
      ((hb'.cell (p := ⟨w.heap.size, 0, none⟩) (by rw [hs]; show w.heap.size < _; omega)).trans d0) ((hb'.cell (p := ⟨w.heap.size + 1, 0, none⟩) (by rw [hs]; show w.heap.size + 1 < _; omega)).trans d1)
      (hf W' _ (hb.trans (hb'.mono (by omega))) (by omega) (by omega)))
    (fun a b hab hbn hp => hmono _ _ (by omega) (by omega) (by omega) hp)
  unfold SearchPost at hS
  unfold FirstPost
  have hk : firstTrue (fun i => p (low + (i : Int))) n ≤ n := firstTrue_le _ _
  generalize firstTrue (fun i => p (low + (i : Int))) n = k at hS hk ⊢
  have HS := Aside0.mk hS
  have HBW := Aside0.mk hb
  have HN := Aside0.mk hn
  have HS0 := Aside0.mk hs
  clear hS hf hmono hb hn ek eg d1 hs
  have hn : 0 ≤ high - low + 1 := by have := HN.out; omega
  have hk2 : (k : Int) ≤ 3000000000000 := by have := HN.out; omega
  go_enter Try.func63, Try.ntmps63
  go_wp2_with (go_at_call 87; rw [HN.out]; refine HS.out.mono ?_; rintro e w' ⟨rfl, hb⟩; have d2 := (hb.cell (p := ⟨w.heap.size, 0, none⟩) (by rw [HS0.out]; show w.heap.size < _; omega)).trans d0)
  go_ret2
  exact ⟨rfl, below_then HBW.out HBW.out.size hb⟩


/-! ### impl_steamPressure: function 67 -/
open Go.Proofs.YteifocbmholocaaM
def impl_steamPressure.f (a0 : Int) : Option Int := if 0 ≤ a0 ∧ a0 ≤ 18000 then some (1000 + ((firstTrue (fun i => decide (a0 ≤ boilI (1000 + (i : Int)))) 1199001 : Nat) : Int)) else none
set_option maxHeartbeats 2000000 in
set_option maxRecDepth 100000 in
theorem steam_closure (B0 : Nat) (t x : Int) (W : World) (h0 : 1000 ≤ x) (h1 : x ≤ 1200000) (c0 : W.cell? ⟨B0, 0, none⟩ = some (.int .i64 t)) :
    Calls Try.prog 89 (#[.int .i64 x] ++ #[.pointer (some ⟨B0, 0, none⟩)]) W fun e w' => e = .returned (.bool (decide (t ≤ boilI x))) ∧ Below W.heap.size W w' := by
  have E : Aside0 (impl_boilingAt.f x = some (boilI x)) := ⟨by unfold impl_boilingAt.f; rw [if_pos ⟨h0, h1⟩]⟩
  generalize boilI x = y at E
  have HB := Aside0.mk (Below.refl W.heap.size W)
  have hB0 := World.block_lt_of_cell? W ⟨B0, 0, none⟩ c0
  go_enter Try.func89, Try.ntmps89
  go_wp2_with fail
  go_region_held3 (fun w' => w'.cell? ⟨B0, 0, none⟩ = some (.int .i64 t) ∧ Below W.heap.size W w') (first | assumption | ((try refine ⟨?_, ?_⟩) <;> (first | assumption | go_keep | (repeat (first | exact Below.refl _ _ | assumption | apply below_drew1 | apply pw_below_drewN))))) (first | (go_at_call 60; refine (impl_boilingAt.calls _ y _ E.out).mono ?_; rintro e w' ⟨rfl, hb⟩; have kk := held_keep (W := W) (a := ⟨B0, 0, none⟩) (v := .int .i64 t) (by assumption) hb))
  go_wp2
  go_ret
  exact ⟨rfl, kk.2⟩
set_option maxHeartbeats 2000000 in
set_option maxRecDepth 100000 in
theorem impl_steamPressure.calls (a0 : Int) (r : Int) (w : World) (h : impl_steamPressure.f a0 = some r) :
    Calls Try.prog 67 #[.int .i64 a0] w fun e w' => e = .returned (.int .i64 r) ∧ Below w.heap.size w w' := by
  unfold impl_steamPressure.f at h
  split at h
  · rename_i hc
    have hb := below_alloc (Below.refl w.heap.size w) (.cells #[.int .i64 a0] 2)
    have d0 := cell_new1 w (.int .i64 a0) 2
    have hF := firstIn_any 89 #[.pointer (some ⟨w.heap.size, 0, none⟩)] 1000 1200000 1199001 (fun x => decide (a0 ≤ boilI x)) (w.alloc (.cells #[.int .i64 a0] 2)) (enters_of Try.func89 (by kernel_rfl) rfl) (by omega) (by omega) (by omega) (by omega) (by omega)
      (fun W2 x hb' hx0 hx1 => steam_closure w.heap.size a0 x W2 hx0 hx1 ((hb'.cell (p := ⟨w.heap.size, 0, none⟩) (by simp)).trans d0))
      (fun a b h1 hab _ hp => decide_eq_true (Int.le_trans (of_decide_eq_true hp) (boil_mono h1 hab)))
    unfold FirstPost at hF
    have hr := Option.some.inj h
    generalize firstTrue (fun i : Nat => decide (a0 ≤ boilI (1000 + (i : Int)))) 1199001 = k at h hF hr
    rw [hr] at hF
    have HF := Aside0.mk hF
    have HB := Aside0.mk hb
    clear hF hb d0 h hr hc
    generalize decide (k < 1199001) = b at HF
    go_enter Try.func67, Try.ntmps67
    go_wp2_with (go_at_call 63; refine HF.out.mono ?_; rintro e w' ⟨rfl, hb⟩)
    go_ret
    exact ⟨rfl, below_then HB.out HB.out.size hb⟩
  · exact absurd h (by simp)

/-! ### impl_SteamPressure: function 31 -/
def impl_SteamPressure.f (a0 : Int) : Option (Int × Int) := (impl_waterOk.f a0).bind fun t126 => (if t126 = true then ((impl_steamPressure.f a0).bind fun t127 => (some (t127, 0))) else (some (0, 2)))
set_option maxHeartbeats 8000000 in
set_option maxRecDepth 100000 in
theorem impl_SteamPressure.calls (a0 : Int) (r1 : Int) (r2 : Int) (w : World) (h : impl_SteamPressure.f a0 = some (r1, r2)) :
    Calls Try.prog 31 #[.int .i64 a0] w fun e w' => e = .returned (.tuple #[.int .i64 r1, .int .i64 r2]) ∧ Below w.heap.size w w' := by
  have HB := Aside0.mk (Below.refl w.heap.size w)
  have H : ((impl_waterOk.f a0).bind fun t126 => (if t126 = true then ((impl_steamPressure.f a0).bind fun t127 => (some (t127, 0))) else (some (0, 2)))) = some (r1, r2) := h
  clear h
  replace H := Option.bind_eq_some_iff.mp H
  obtain ⟨t126, A20, H⟩ := H
  replace H : (if t126 = true then ((impl_steamPressure.f a0).bind fun t127 => (some (t127, 0))) else (some (0, 2))) = some (r1, r2) := H
  have A2 := Aside0.mk A20
  clear A20
  by_cases c3 : t126 = true
  · subst c3
    have H1 : ((impl_steamPressure.f a0).bind fun t127 => (some (t127, 0))) = some (r1, r2) := by rw [if_pos rfl] at H; exact H
    clear H
    have H := H1
    clear H1
    replace H := Option.bind_eq_some_iff.mp H
    obtain ⟨t127, A40, H⟩ := H
    replace H : (some (t127, 0)) = some (r1, r2) := H
    have A4 := Aside0.mk A40
    clear A40
    simp only [Option.some.injEq, Prod.mk.injEq] at H
    obtain ⟨rfl, rfl⟩ := H
    go_enter Try.func31, Try.ntmps31
    go_wp2_with (first | ((with_reducible refine gate_callee (f := 54) rfl ?_); refine goesL_ (some 5) rfl rfl Try.func54 (by kernel_rfl) rfl #[.int .i64 a0] rfl (by (try simp only [List.map_toArray, List.map_cons, List.map_nil]); first | done | rfl | (simp only [List.length_drop, List.length_take]; rfl)) ?_; (with_reducible refine (impl_waterOk.calls a0 true _ A2.out).mono ?_); rintro e w' ⟨rfl, ⟨nd, rfl⟩⟩; refine ⟨_, rfl, ?_⟩) | ((with_reducible refine gate_callee (f := 67) rfl ?_); refine goesL_ (some 8) rfl rfl Try.func67 (by kernel_rfl) rfl #[.int .i64 a0] rfl (by (try simp only [List.map_toArray, List.map_cons, List.map_nil]); first | done | rfl | (simp only [List.length_drop, List.length_take]; rfl)) ?_; (with_reducible refine (impl_steamPressure.calls a0 t127 _ A4.out).mono ?_); rintro e w5 ⟨rfl, hb⟩; refine ⟨_, rfl, ?_⟩; have n0_ := Aside0.mk (below_step (by repeat (first | (with_reducible first | exact HB.out | apply below_alloc | apply pw_below_drewN | apply below_drew1) | exact HB.out)) hb); clear HB; have HB := n0_; clear n0_; (try clear hb); (try clear hb2); (try clear hk); (try clear hi)))
    go_ret2
    exact ⟨by first | rfl | (simp [errW_none, errW_some] <;> rfl) | (simp [*, errW_none, errW_some] <;> rfl), by repeat (first | (with_reducible first | exact HB.out | apply below_alloc | apply pw_below_drewN | apply below_drew1) | exact HB.out)⟩
  · replace c3 := Bool.eq_false_iff.mpr c3
    subst c3
    have H1 : (some (0, 2)) = some (r1, r2) := by rw [if_neg (show ¬ (false = true) by decide)] at H; exact H
    clear H
    have H := H1
    clear H1
    simp only [Option.some.injEq, Prod.mk.injEq] at H
    obtain ⟨rfl, rfl⟩ := H
    go_enter Try.func31, Try.ntmps31
    go_wp2_with (first | ((with_reducible refine gate_callee (f := 54) rfl ?_); refine goesL_ (some 5) rfl rfl Try.func54 (by kernel_rfl) rfl #[.int .i64 a0] rfl (by (try simp only [List.map_toArray, List.map_cons, List.map_nil]); first | done | rfl | (simp only [List.length_drop, List.length_take]; rfl)) ?_; (with_reducible refine (impl_waterOk.calls a0 false _ A2.out).mono ?_); rintro e w' ⟨rfl, ⟨nd, rfl⟩⟩; refine ⟨_, rfl, ?_⟩))
    go_ret2
    exact ⟨by first | rfl | (simp [errW_none, errW_some] <;> rfl) | (simp [*, errW_none, errW_some] <;> rfl), by repeat (first | (with_reducible first | exact HB.out | apply below_alloc | apply pw_below_drewN | apply below_drew1) | exact HB.out)⟩

/-! ### laws_FnExactSteamPressure: function 10 -/
def laws_FnExactSteamPressure.f (a0 : Int) : Option (Bool) := (spec_SteamPressure.f a0).bind fun bt128 => ((impl_SteamPressure.f a0).bind fun bt130 => (if bt130.1 = bt128.1 then (if bt130.2 = bt128.2 then (some true) else (some false)) else (some false)))
set_option maxHeartbeats 8000000 in
set_option maxRecDepth 100000 in
theorem laws_FnExactSteamPressure.calls (a0 : Int) (r : Bool) (w : World) (h : laws_FnExactSteamPressure.f a0 = some r) :
    Calls Try.prog 10 #[.int .i64 a0] w fun e w' => e = .returned (.bool r) ∧ Below w.heap.size w w' := by
  have HB := Aside0.mk (Below.refl w.heap.size w)
  have H : ((spec_SteamPressure.f a0).bind fun bt128 => ((impl_SteamPressure.f a0).bind fun bt130 => (if bt130.1 = bt128.1 then (if bt130.2 = bt128.2 then (some true) else (some false)) else (some false)))) = some r := h
  clear h
  replace H := Option.bind_eq_some_iff.mp H
  obtain ⟨⟨t128, t129⟩, A20, H⟩ := H
  replace H : ((impl_SteamPressure.f a0).bind fun bt130 => (if bt130.1 = t128 then (if bt130.2 = t129 then (some true) else (some false)) else (some false))) = some r := H
  have A2 := Aside0.mk A20
  clear A20
  replace H := Option.bind_eq_some_iff.mp H
  obtain ⟨⟨t130, t131⟩, A30, H⟩ := H
  replace H : (if t130 = t128 then (if t131 = t129 then (some true) else (some false)) else (some false)) = some r := H
  have A3 := Aside0.mk A30
  clear A30
  by_cases c4 : t130 = t128
  · rw [if_pos c4] at H
    have c4b0 : (t130 == t128) = true := beq_iff_eq.mpr c4
    have c4b1 : (t130 != t128) = false := bne_eq_false_iff_eq.mpr c4
    clear c4
    by_cases c5 : t131 = t129
    · rw [if_pos c5] at H
      have c5b0 : (t131 == t129) = true := beq_iff_eq.mpr c5
      have c5b1 : (t131 != t129) = false := bne_eq_false_iff_eq.mpr c5
      clear c5
      obtain rfl := Option.some.inj H
      go_enter Try.func10, Try.ntmps10
      go_wp2_with (first | ((with_reducible refine gate_callee (f := 30) rfl ?_); refine goesL_ (some 9) rfl rfl Try.func30 (by kernel_rfl) rfl #[.int .i64 a0] rfl (by (try simp only [List.map_toArray, List.map_cons, List.map_nil]); first | done | rfl | (simp only [List.length_drop, List.length_take]; rfl)) ?_; (with_reducible refine (spec_SteamPressure.calls a0 t128 t129 _ A2.out).mono ?_); rintro e w6 ⟨rfl, hb⟩; refine ⟨_, rfl, ?_⟩; have n0_ := Aside0.mk (below_step (by repeat (first | (with_reducible first | exact HB.out | apply below_alloc | apply pw_below_drewN | apply below_drew1) | exact HB.out)) hb); clear HB; have HB := n0_; clear n0_; (try clear hb); (try clear hb2); (try clear hk); (try clear hi)) | ((with_reducible refine gate_callee (f := 31) rfl ?_); refine goesL_ (some 14) rfl rfl Try.func31 (by kernel_rfl) rfl #[.int .i64 a0] rfl (by (try simp only [List.map_toArray, List.map_cons, List.map_nil]); first | done | rfl | (simp only [List.length_drop, List.length_take]; rfl)) ?_; (with_reducible refine (impl_SteamPressure.calls a0 t130 t131 _ A3.out).mono ?_); rintro e w7 ⟨rfl, hb⟩; refine ⟨_, rfl, ?_⟩; have n0_ := Aside0.mk (below_step (by repeat (first | (with_reducible first | exact HB.out | apply below_alloc | apply pw_below_drewN | apply below_drew1) | exact HB.out)) hb); clear HB; have HB := n0_; clear n0_; (try clear hb); (try clear hb2); (try clear hk); (try clear hi)))
      go_ret
      exact ⟨by first | rfl | (simp [errW_none, errW_some] <;> rfl) | (simp [*, errW_none, errW_some] <;> rfl), by repeat (first | (with_reducible first | exact HB.out | apply below_alloc | apply pw_below_drewN | apply below_drew1) | exact HB.out)⟩
    · rw [if_neg c5] at H
      have c5b0 : (t131 == t129) = false := beq_eq_false_iff_ne.mpr c5
      have c5b1 : (t131 != t129) = true := bne_iff_ne.mpr c5
      obtain rfl := Option.some.inj H
      go_enter Try.func10, Try.ntmps10
      go_wp2_with (first | ((with_reducible refine gate_callee (f := 30) rfl ?_); refine goesL_ (some 9) rfl rfl Try.func30 (by kernel_rfl) rfl #[.int .i64 a0] rfl (by (try simp only [List.map_toArray, List.map_cons, List.map_nil]); first | done | rfl | (simp only [List.length_drop, List.length_take]; rfl)) ?_; (with_reducible refine (spec_SteamPressure.calls a0 t128 t129 _ A2.out).mono ?_); rintro e w8 ⟨rfl, hb⟩; refine ⟨_, rfl, ?_⟩; have n0_ := Aside0.mk (below_step (by repeat (first | (with_reducible first | exact HB.out | apply below_alloc | apply pw_below_drewN | apply below_drew1) | exact HB.out)) hb); clear HB; have HB := n0_; clear n0_; (try clear hb); (try clear hb2); (try clear hk); (try clear hi)) | ((with_reducible refine gate_callee (f := 31) rfl ?_); refine goesL_ (some 14) rfl rfl Try.func31 (by kernel_rfl) rfl #[.int .i64 a0] rfl (by (try simp only [List.map_toArray, List.map_cons, List.map_nil]); first | done | rfl | (simp only [List.length_drop, List.length_take]; rfl)) ?_; (with_reducible refine (impl_SteamPressure.calls a0 t130 t131 _ A3.out).mono ?_); rintro e w9 ⟨rfl, hb⟩; refine ⟨_, rfl, ?_⟩; have n0_ := Aside0.mk (below_step (by repeat (first | (with_reducible first | exact HB.out | apply below_alloc | apply pw_below_drewN | apply below_drew1) | exact HB.out)) hb); clear HB; have HB := n0_; clear n0_; (try clear hb); (try clear hb2); (try clear hk); (try clear hi)))
      go_ret
      exact ⟨by first | rfl | (simp [errW_none, errW_some] <;> rfl) | (simp [*, errW_none, errW_some] <;> rfl), by repeat (first | (with_reducible first | exact HB.out | apply below_alloc | apply pw_below_drewN | apply below_drew1) | exact HB.out)⟩
  · rw [if_neg c4] at H
    have c4b0 : (t130 == t128) = false := beq_eq_false_iff_ne.mpr c4
    have c4b1 : (t130 != t128) = true := bne_iff_ne.mpr c4
    obtain rfl := Option.some.inj H
    go_enter Try.func10, Try.ntmps10
    go_wp2_with (first | ((with_reducible refine gate_callee (f := 30) rfl ?_); refine goesL_ (some 9) rfl rfl Try.func30 (by kernel_rfl) rfl #[.int .i64 a0] rfl (by (try simp only [List.map_toArray, List.map_cons, List.map_nil]); first | done | rfl | (simp only [List.length_drop, List.length_take]; rfl)) ?_; (with_reducible refine (spec_SteamPressure.calls a0 t128 t129 _ A2.out).mono ?_); rintro e w10 ⟨rfl, hb⟩; refine ⟨_, rfl, ?_⟩; have n0_ := Aside0.mk (below_step (by repeat (first | (with_reducible first | exact HB.out | apply below_alloc | apply pw_below_drewN | apply below_drew1) | exact HB.out)) hb); clear HB; have HB := n0_; clear n0_; (try clear hb); (try clear hb2); (try clear hk); (try clear hi)) | ((with_reducible refine gate_callee (f := 31) rfl ?_); refine goesL_ (some 14) rfl rfl Try.func31 (by kernel_rfl) rfl #[.int .i64 a0] rfl (by (try simp only [List.map_toArray, List.map_cons, List.map_nil]); first | done | rfl | (simp only [List.length_drop, List.length_take]; rfl)) ?_; (with_reducible refine (impl_SteamPressure.calls a0 t130 t131 _ A3.out).mono ?_); rintro e w11 ⟨rfl, hb⟩; refine ⟨_, rfl, ?_⟩; have n0_ := Aside0.mk (below_step (by repeat (first | (with_reducible first | exact HB.out | apply below_alloc | apply pw_below_drewN | apply below_drew1) | exact HB.out)) hb); clear HB; have HB := n0_; clear n0_; (try clear hb); (try clear hb2); (try clear hk); (try clear hi)))
    go_ret
    exact ⟨by first | rfl | (simp [errW_none, errW_some] <;> rfl) | (simp [*, errW_none, errW_some] <;> rfl), by repeat (first | (with_reducible first | exact HB.out | apply below_alloc | apply pw_below_drewN | apply below_drew1) | exact HB.out)⟩

/-- THE ONE PURE STATEMENT of laws_FnExactSteamPressure: yours. -/
def laws_FnExactSteamPressure.Pure : Prop := ∀ (a0 : Int), (Lit.int .i64 a0).wf = true → laws_FnExactSteamPressure.f a0 = some true
theorem laws_FnExactSteamPressure.walk (P : laws_FnExactSteamPressure.Pure) (a0 : Int) (w : World) (w0 : (Lit.int .i64 a0).wf = true) :
    Calls Try.prog 10 #[.int .i64 a0] w fun e w' => e = .returned (.bool true) ∧ Below w.heap.size w w' := by
  have h := P a0 w0
  refine (laws_FnExactSteamPressure.calls a0 true w h).mono ?_
  rintro e w' ⟨rfl, hd⟩
  exact ⟨rfl, hd⟩

end Go.Proofs.Yteifocbmholocaa.PFnExactSteamPressure
