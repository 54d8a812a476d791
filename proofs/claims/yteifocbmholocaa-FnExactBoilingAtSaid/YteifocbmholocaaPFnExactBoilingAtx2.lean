-- Printed by a program of this session (wip/hprint.sh: the kit's print with hand-proved contracts put in); not by print.sh itself.
import Derived.Test.YteifocbmholocaaPFnExactBoilingAtx0
import Derived.Test.YteifocbmholocaaPFnExactBoilingAtx1
namespace Go.Proofs.Yteifocbmholocaa.PFnExactBoilingAt
open Go.RowKit Go.Proofs.YteifocbmholocaaW.PrintWords Go.Proofs.YteifocbmholocaaW.PrintLast Go.Proofs.YteifocbmholocaaW.PrintMore
attribute [local go_sem] max2_int min2_int max_two min_two max_three min_three max_four min_four   -- for this text's walks alone
set_option linter.unusedVariables false
set_option linter.unusedSimpArgs false

/-! ### impl_blend: function 50 -/
def impl_blend.j0 : Nat → Int → Int → Int → Int → Int → Bool → Option (Int)
  | 0, _, _, _, _, _, _ => none
  | k + 1, x0, x1, x2, x3, x4, x11 => if x11 = true then (some x1) else (if x4 ≥ x2 then (some x3) else ((impl_divRound.f (wrap64 ((wrap64 (x3 - x1)) * (wrap64 (x4 - x0)))) (wrap64 (x2 - x0))).bind fun t124 => (some (wrap64 (x1 + t124)))))
def impl_blend.f (k : Nat) (a0 : Int) (a1 : Int) (a2 : Int) (a3 : Int) (a4 : Int) : Option (Int) := if a4 ≤ a0 then (impl_blend.j0 k a0 a1 a2 a3 a4 true) else (impl_blend.j0 k a0 a1 a2 a3 a4 (decide (a2 ≤ a0)))
theorem impl_blend.mono_l : ∀ k, (∀ y0 y1 y2 y3 y4 y5, LeO (impl_blend.j0 k y0 y1 y2 y3 y4 y5) (impl_blend.j0 (k + 1) y0 y1 y2 y3 y4 y5))
  | 0 => fun _ _ _ _ _ _ r h => by simp [impl_blend.j0] at h
  | k + 1 => by
    have ih0 := impl_blend.mono_l k
    · intro y0 y1 y2 y3 y4 y5
      unfold impl_blend.j0
      repeat' first
      | (with_reducible exact ih0 _ _ _ _ _ _)
      | (with_reducible exact LeO.refl _)
      | (with_reducible exact LeO.none _)
      | (with_reducible refine LeO.ite ?_ ?_)
      | (with_reducible refine LeO.bind ?_ (fun _ => ?_))
      | exact ih0 _ _ _ _ _ _
      | exact LeO.none _
      | refine LeO.ite ?_ ?_
      | refine LeO.bind ?_ (fun _ => ?_)
theorem impl_blend.mono : ∀ a0 a1 a2 a3 a4 k, LeO (impl_blend.f k a0 a1 a2 a3 a4) (impl_blend.f (k + 1) a0 a1 a2 a3 a4) := by
  intro a0 a1 a2 a3 a4 k
  have ih0 := impl_blend.mono_l k
  unfold impl_blend.f
  repeat' first
      | (with_reducible exact ih0 _ _ _ _ _ _)
      | (with_reducible exact LeO.refl _)
      | (with_reducible exact LeO.none _)
      | (with_reducible refine LeO.ite ?_ ?_)
      | (with_reducible refine LeO.bind ?_ (fun _ => ?_))
      | exact ih0 _ _ _ _ _ _
      | exact LeO.none _
      | refine LeO.ite ?_ ?_
      | refine LeO.bind ?_ (fun _ => ?_)
set_option maxHeartbeats 8000000 in
set_option maxRecDepth 100000 in
theorem impl_blend.calls (k : Nat) (a0 : Int) (a1 : Int) (a2 : Int) (a3 : Int) (a4 : Int) (r : Int) (w : World) (h : impl_blend.f k a0 a1 a2 a3 a4 = some r) :
    Calls Try.prog 50 #[.int .i64 a0, .int .i64 a1, .int .i64 a2, .int .i64 a3, .int .i64 a4] w fun e w' => e = .returned (.int .i64 r) ∧ Drawn0 w w' := by
  have H : (if a4 ≤ a0 then (impl_blend.j0 k a0 a1 a2 a3 a4 true) else (impl_blend.j0 k a0 a1 a2 a3 a4 (decide (a2 ≤ a0)))) = some r := h
  clear h
  have HC6 := Aside0.mk H
  clear H
  go_enter Try.func50, Try.ntmps50
  go_upto_region 1 with (fail)
  go_cut [11] (fun v11 wc => ∃ (kq : Nat) (x11_5 : Bool), v11 = .bool x11_5 ∧ Aside0 (impl_blend.j0 kq a0 a1 a2 a3 a4 x11_5 = some r) ∧ Aside0 (kq ≤ k) ∧ Drawn0 w wc)
  case first =>
    have H := HC6.out
    clear HC6
    by_cases c7 : a4 ≤ a0
    · rw [if_pos c7] at H
      have c7b0 : decide (a4 ≤ a0) = true := decide_eq_true c7
      clear c7
      (first | rw [c7b0] | (simp only [i64_w, i32_w]; rw [c7b0]) | skip)
      have H' := Aside0.mk H
      clear H
      go_wp2
      go_meet
      case rel => exact ⟨_, (true), (by first | rfl | (simp; done) | (simp [*]; done)), H', ⟨by first | omega | exact Nat.le_refl _⟩, by repeat (first | exact Drawn0.refl _ | apply Drawn0.step)⟩
    · rw [if_neg c7] at H
      have c7b0 : decide (a4 ≤ a0) = false := decide_eq_false c7
      clear c7
      (first | rw [c7b0] | (simp only [i64_w, i32_w]; rw [c7b0]) | skip)
      have H' := Aside0.mk H
      clear H
      go_wp2
      go_meet
      case rel => exact ⟨_, (decide (a2 ≤ a0)), (by first | rfl | (simp; done) | (simp [*]; done)), H', ⟨by first | omega | exact Nat.le_refl _⟩, by repeat (first | exact Drawn0.refl _ | apply Drawn0.step)⟩
  case rest =>
    clear HC6
    try clear p2
    try clear c5
    try clear c7
    try clear c7b0
    obtain ⟨kq, x11_5, rfl, HA, HJ5, ⟨mc5, rfl⟩⟩ := hcut
    cases kq with
    | zero => exact absurd HA.out (by simp [impl_blend.j0])
    | succ kj5 =>
      have H := HA.out
      clear HA
      simp only [impl_blend.j0] at H
      by_cases c8 : x11_5 = true
      · subst c8
        have H1 : (some a1) = some r := by rw [if_pos rfl] at H; exact H
        clear H
        have H := H1
        clear H1
        obtain rfl := Option.some.inj H
        go_wp2
        go_ret
        exact ⟨by first | rfl | (simp; done) | (simp [*]; done), by repeat (first | exact Drawn0.refl _ | apply Drawn0.step)⟩
      · replace c8 := Bool.eq_false_iff.mpr c8
        subst c8
        have H1 : (if a4 ≥ a2 then (some a3) else ((impl_divRound.f (wrap64 ((wrap64 (a3 - a1)) * (wrap64 (a4 - a0)))) (wrap64 (a2 - a0))).bind fun t124 => (some (wrap64 (a1 + t124))))) = some r := by rw [if_neg (show ¬ (false = true) by decide)] at H; exact H
        clear H
        have H := H1
        clear H1
        by_cases c9 : a4 ≥ a2
        · rw [if_pos c9] at H
          have c9b0 : decide (a2 ≤ a4) = true := decide_eq_true c9
          clear c9
          obtain rfl := Option.some.inj H
          go_wp2
          go_ret
          exact ⟨by first | rfl | (simp; done) | (simp [*]; done), by repeat (first | exact Drawn0.refl _ | apply Drawn0.step)⟩
        · rw [if_neg c9] at H
          have c9b0 : decide (a2 ≤ a4) = false := decide_eq_false c9
          clear c9
          replace H := Option.bind_eq_some_iff.mp H
          obtain ⟨t124, A100, H⟩ := H
          replace H : (some (wrap64 (a1 + t124))) = some r := H
          have A10 := Aside0.mk A100
          clear A100
          obtain rfl := Option.some.inj H
          go_wp2_with (first | ((with_reducible refine gate_callee (f := 55) rfl ?_); refine goesL_ (some 37) rfl rfl Try.func55 (by kernel_rfl) rfl #[.int .i64 (wrap64 ((wrap64 (a3 - a1)) * (wrap64 (a4 - a0)))), .int .i64 (wrap64 (a2 - a0))] rfl (by (try simp only [List.map_toArray, List.map_cons, List.map_nil]); first | done | rfl | (simp only [List.length_drop, List.length_take]; rfl)) ?_; (with_reducible refine (impl_divRound.calls (wrap64 ((wrap64 (a3 - a1)) * (wrap64 (a4 - a0)))) (wrap64 (a2 - a0)) t124 _ A10.out).mono ?_); rintro e w' ⟨rfl, ⟨nd, rfl⟩⟩; refine ⟨_, rfl, ?_⟩))
          go_ret
          exact ⟨by first | rfl | (simp; done) | (simp [*]; done), by repeat (first | exact Drawn0.refl _ | apply Drawn0.step)⟩

open Go.Proofs.YteifocbmholocaaM
def impl_blend_.f (a0 a1 a2 a3 a4 : Int) : Option Int := if (-10000000 ≤ a0 ∧ a0 ≤ 10000000) ∧ (-10000000 ≤ a1 ∧ a1 ≤ 10000000) ∧ (-10000000 ≤ a2 ∧ a2 ≤ 10000000) ∧ (-10000000 ≤ a3 ∧ a3 ≤ 10000000) then some (lineI a0 a1 a2 a3 a4) else none
theorem impl_blend_.same (a0 a1 a2 a3 a4 : Int) (h0 : -10000000 ≤ a0 ∧ a0 ≤ 10000000) (h1 : -10000000 ≤ a1 ∧ a1 ≤ 10000000) (h2 : -10000000 ≤ a2 ∧ a2 ≤ 10000000) (h3 : -10000000 ≤ a3 ∧ a3 ≤ 10000000) : impl_blend.f 1 a0 a1 a2 a3 a4 = some (lineI a0 a1 a2 a3 a4) := by
  unfold impl_blend.f lineI
  by_cases c1 : a4 ≤ a0
  · rw [if_pos c1, if_pos (Or.inl c1)]; simp [impl_blend.j0]
  · rw [if_neg c1]
    by_cases c2 : a2 ≤ a0
    · rw [if_pos (Or.inr c2), decide_eq_true c2]; simp [impl_blend.j0]
    · have c3 : ¬ (a4 ≤ a0 ∨ a2 ≤ a0) := by omega
      rw [if_neg c3, decide_eq_false c2]
      simp only [impl_blend.j0, Bool.false_eq_true, if_false, ge_iff_le]
      by_cases c4 : a2 ≤ a4
      · rw [if_pos c4, if_pos c4]
      · have hl := line_bound c3 c4 h0.1 h2.2 h1.1 h1.2 h3.1 h3.2
        rw [if_neg c4, if_neg c4, w64 (x := a3 - a1) (by omega) (by omega), w64 (x := a4 - a0) (by omega) (by omega), w64 (x := (a3 - a1) * (a4 - a0)) (by omega) (by omega), w64 (x := a2 - a0) (by omega) (by omega)]
        simp only [impl_divRound.f]
        rw [if_pos (by omega)]
        simp only [Option.bind_some]
        rw [w64 (by omega) (by omega)]
theorem impl_blend_.calls (a0 a1 a2 a3 a4 : Int) (r : Int) (w : World) (h : impl_blend_.f a0 a1 a2 a3 a4 = some r) :
    Calls Try.prog 50 #[.int .i64 a0, .int .i64 a1, .int .i64 a2, .int .i64 a3, .int .i64 a4] w fun e w' => e = .returned (.int .i64 r) ∧ Drawn0 w w' := by
  unfold impl_blend_.f at h
  split at h
  · rename_i hc
    exact impl_blend.calls 1 a0 a1 a2 a3 a4 r w (by rw [← h]; exact impl_blend_.same a0 a1 a2 a3 a4 hc.1 hc.2.1 hc.2.2.1 hc.2.2.2)
  · exact absurd h (by simp)


/-! ### impl_boilingAt: function 60 -/
open Go.Proofs.YteifocbmholocaaM
def boilTab : List Int := [1000, 700, 2000, 1750, 10000, 4580, 50000, 8135, 101325, 9961, 200000, 12023, 400000, 14361, 600000, 15883, 1000000, 17988, 1200000, 18796]
def impl_boilingAt.f (a0 : Int) : Option Int := if 1000 ≤ a0 ∧ a0 ≤ 1200000 then some (boilI a0) else none
def boilW (w : World) : World := (w.alloc (.cells #[.int .i64 0, .int .i64 0, .int .i64 0, .int .i64 0, .int .i64 0, .int .i64 0, .int .i64 0, .int .i64 0, .int .i64 0, .int .i64 0, .int .i64 0, .int .i64 0, .int .i64 0, .int .i64 0, .int .i64 0, .int .i64 0, .int .i64 0, .int .i64 0, .int .i64 0, .int .i64 0] 66)).setRow w.heap.size #[.int .i64 1000, .int .i64 700, .int .i64 2000, .int .i64 1750, .int .i64 10000, .int .i64 4580, .int .i64 50000, .int .i64 8135, .int .i64 101325, .int .i64 9961, .int .i64 200000, .int .i64 12023, .int .i64 400000, .int .i64 14361, .int .i64 600000, .int .i64 15883, .int .i64 1000000, .int .i64 17988, .int .i64 1200000, .int .i64 18796]
theorem boil_cell (w : World) (k : Nat) (hk : k ≤ 19) : (boilW w).cell? ⟨w.heap.size, k, none⟩ = some (.int .i64 (boilTab.getD k 0)) := by
  unfold boilW
  rw [cell_setRow_same _ _ _ _ _ _ _ (heap_alloc_new w _)]
  have : k = 0 ∨ k = 1 ∨ k = 2 ∨ k = 3 ∨ k = 4 ∨ k = 5 ∨ k = 6 ∨ k = 7 ∨ k = 8 ∨ k = 9 ∨ k = 10 ∨ k = 11 ∨ k = 12 ∨ k = 13 ∨ k = 14 ∨ k = 15 ∨ k = 16 ∨ k = 17 ∨ k = 18 ∨ k = 19 := by omega
  rcases this with rfl | rfl | rfl | rfl | rfl | rfl | rfl | rfl | rfl | rfl | rfl | rfl | rfl | rfl | rfl | rfl | rfl | rfl | rfl | rfl <;> rfl
theorem boil_below (w : World) : Below w.heap.size w (boilW w) := by
  have h := below_alloc (Below.refl w.heap.size w) (.cells #[.int .i64 0, .int .i64 0, .int .i64 0, .int .i64 0, .int .i64 0, .int .i64 0, .int .i64 0, .int .i64 0, .int .i64 0, .int .i64 0, .int .i64 0, .int .i64 0, .int .i64 0, .int .i64 0, .int .i64 0, .int .i64 0, .int .i64 0, .int .i64 0, .int .i64 0, .int .i64 0] 66)
  exact ⟨h.os, h.tape, h.output, by unfold boilW; rw [setRow_size]; exact h.size, fun i hi => by unfold boilW; rw [setRow_other _ _ _ _ (by omega)]; exact h.block i hi⟩
/-- What the loop comes to: the segment in which the pressure lies. -/
theorem boil_seg (k : Nat) (p : Int) (hk : k ≤ 8) (h1 : 1000 ≤ p) (h2 : p ≤ 1200000) (hlo : boilTab.getD (k * 2) 0 ≤ p) (hhi : k = 8 ∨ p < boilTab.getD ((k + 1) * 2) 0) :
    impl_blend_.f (boilTab.getD (k * 2) 0) (boilTab.getD (k * 2 + 1) 0) (boilTab.getD ((k + 1) * 2) 0) (boilTab.getD ((k + 1) * 2 + 1) 0) p = some (boilI p) := by
  have : k = 0 ∨ k = 1 ∨ k = 2 ∨ k = 3 ∨ k = 4 ∨ k = 5 ∨ k = 6 ∨ k = 7 ∨ k = 8 := by omega
  rcases this with rfl | rfl | rfl | rfl | rfl | rfl | rfl | rfl | rfl <;> simp [boilTab] at hlo hhi
  · rw [boil_at0 (by omega)]; simp [boilTab, impl_blend_.f]
  · rw [boil_at1 (by omega) (by omega)]; simp [boilTab, impl_blend_.f]
  · rw [boil_at2 (by omega) (by omega)]; simp [boilTab, impl_blend_.f]
  · rw [boil_at3 (by omega) (by omega)]; simp [boilTab, impl_blend_.f]
  · rw [boil_at4 (by omega) (by omega)]; simp [boilTab, impl_blend_.f]
  · rw [boil_at5 (by omega) (by omega)]; simp [boilTab, impl_blend_.f]
  · rw [boil_at6 (by omega) (by omega)]; simp [boilTab, impl_blend_.f]
  · rw [boil_at7 (by omega) (by omega)]; simp [boilTab, impl_blend_.f]
  · rw [boil_at8 (by omega)]; simp [boilTab, impl_blend_.f]
set_option maxHeartbeats 2000000 in
set_option maxRecDepth 100000 in
theorem impl_boilingAt.core (p r : Int) (w : World) (h1 : 1000 ≤ p) (h2 : p ≤ 1200000) (h : Aside0 (boilI p = r)) :
    Calls Try.prog 60 #[.int .i64 p] w fun e w' => e = .returned (.int .i64 r) ∧ Below w.heap.size w w' := by
  go_enter Try.func60, Try.ntmps60
  go_wp2_with (first | (refine wpList_buildTo rfl 66 _ rfl (some 15) rfl #[.int .i64 1000, .int .i64 700, .int .i64 2000, .int .i64 1750, .int .i64 10000, .int .i64 4580, .int .i64 50000, .int .i64 8135, .int .i64 101325, .int .i64 9961, .int .i64 200000, .int .i64 12023, .int .i64 400000, .int .i64 14361, .int .i64 600000, .int .i64 15883, .int .i64 1000000, .int .i64 17988, .int .i64 1200000, .int .i64 18796] (by as_aux_lemma => kernel_rfl) ?_) | (refine wpList_store_rowTo rfl 66 _ _ rfl rfl w.heap.size #[.int .i64 1000, .int .i64 700, .int .i64 2000, .int .i64 1750, .int .i64 10000, .int .i64 4580, .int .i64 50000, .int .i64 8135, .int .i64 101325, .int .i64 9961, .int .i64 200000, .int .i64 12023, .int .i64 400000, .int .i64 14361, .int .i64 600000, .int .i64 15883, .int .i64 1000000, .int .i64 17988, .int .i64 1200000, .int .i64 18796] rfl rfl 66 #[.int .i64 0, .int .i64 0, .int .i64 0, .int .i64 0, .int .i64 0, .int .i64 0, .int .i64 0, .int .i64 0, .int .i64 0, .int .i64 0, .int .i64 0, .int .i64 0, .int .i64 0, .int .i64 0, .int .i64 0, .int .i64 0, .int .i64 0, .int .i64 0, .int .i64 0, .int .i64 0] (heap_alloc_new w _) (by as_aux_lemma => kernel_rfl) rfl (by as_aux_lemma => kernel_rfl) ?_))
  have BC := Aside0.mk (boil_cell w)
  have HB := Aside0.mk (boil_below w)
  obtain ⟨W, hW⟩ : ∃ W, boilW w = W := ⟨_, rfl⟩
  rw [hW] at BC HB
  unfold boilW at hW
  rw [hW]
  clear hW
  go_loop [4] (fun v => ∃ k : Nat, k ≤ 8 ∧ v = .int .i64 k ∧ Aside0 (boilTab.getD (k * 2) 0 ≤ p)) (fun v => 8 - (intOf v).toNat)
  case atStart => exact ⟨0, by omega, rfl, ⟨h1⟩⟩
  case round =>
    obtain ⟨k, hk, rfl, LO⟩ := hrel
    obtain ⟨a0, b0, a1, b1, q00, q01, q10, q11, T⟩ : ∃ a0 b0 a1 b1 : Int, W.cell? ⟨w.heap.size, k * 2, none⟩ = some (.int .i64 a0) ∧ W.cell? ⟨w.heap.size, k * 2 + 1, none⟩ = some (.int .i64 b0) ∧ W.cell? ⟨w.heap.size, (k + 1) * 2, none⟩ = some (.int .i64 a1) ∧ W.cell? ⟨w.heap.size, (k + 1) * 2 + 1, none⟩ = some (.int .i64 b1) ∧
        Aside0 (a0 = boilTab.getD (k * 2) 0 ∧ b0 = boilTab.getD (k * 2 + 1) 0 ∧ a1 = boilTab.getD ((k + 1) * 2) 0 ∧ b1 = boilTab.getD ((k + 1) * 2 + 1) 0) :=
      ⟨_, _, _, _, BC.out _ (by omega), BC.out _ (by omega), BC.out _ (by omega), BC.out _ (by omega), ⟨rfl, rfl, rfl, rfl⟩⟩
    have e4 : ((k : Int) + 1).toNat = k + 1 := by omega
    have e5 : (k : Int).toNat = k := by omega
    have i0 : (0 : Int) ≤ (k : Int) := by omega
    have i1 : (k : Int) < 10 := by omega
    have i2 : (0 : Int) ≤ (k : Int) + 1 := by omega
    have i3 : (k : Int) + 1 < 10 := by omega
    by_cases c : k < 8 ∧ a1 ≤ p
    · obtain ⟨c1, c2⟩ := c
      go_wp2_with fail
      go_round
      case rel => exact ⟨k + 1, by omega, by go_num, ⟨T.out.2.2.1 ▸ c2⟩⟩
      case measure => simp [intOf]; omega
    · have E : Aside0 (impl_blend_.f a0 b0 a1 b1 p = some r) := ⟨by
        obtain ⟨t0, t1, t2, t3⟩ := T.out
        rw [← h.out, t0, t1, t2, t3]
        exact boil_seg k p hk h1 h2 LO.out (by
          by_cases c1 : k < 8
          · exact Or.inr (by have := fun hh => c ⟨c1, hh⟩; rw [t2] at this; omega)
          · exact Or.inl (by omega))⟩
      have e2 : IntKind.i64.wrap ((k : Int) + 1) = (k : Int) + 1 := IntWalk.i64_in _ (by omega)
      by_cases c1 : k < 8
      · have c2 : ¬ a1 ≤ p := fun h => c ⟨c1, h⟩
        clear c
        go_wp2_with fail
        go_quiet ((go_at_call 50; exact Calls.quiet_of ((impl_blend_.calls _ _ _ _ _ r _ E.out).mono fun e w' ⟨he, hd⟩ => ⟨he, hd.out⟩)))
        go_wp2
        go_ret
        exact ⟨rfl, by repeat (first | exact HB.out | apply below_alloc | apply pw_below_drewN | apply below_drew1)⟩
      · clear c
        go_wp2_with fail
        go_quiet ((go_at_call 50; exact Calls.quiet_of ((impl_blend_.calls _ _ _ _ _ r _ E.out).mono fun e w' ⟨he, hd⟩ => ⟨he, hd.out⟩)))
        go_wp2
        go_ret
        exact ⟨rfl, by repeat (first | exact HB.out | apply below_alloc | apply pw_below_drewN | apply below_drew1)⟩
theorem impl_boilingAt.calls (a0 : Int) (r : Int) (w : World) (h : impl_boilingAt.f a0 = some r) :
    Calls Try.prog 60 #[.int .i64 a0] w fun e w' => e = .returned (.int .i64 r) ∧ Below w.heap.size w w' := by
  unfold impl_boilingAt.f at h
  split at h
  · rename_i hc
    exact impl_boilingAt.core a0 r w hc.1 hc.2 ⟨Option.some.inj h⟩
  · exact absurd h (by simp)

/-! ### impl_BoilingAt: function 25 -/
def impl_BoilingAt.f (a0 : Int) : Option (Int × Int) := (impl_steamOk.f a0).bind fun t125 => (if t125 = true then ((impl_boilingAt.f a0).bind fun t126 => (some (t126, 0))) else (some (0, 2)))
set_option maxHeartbeats 8000000 in
set_option maxRecDepth 100000 in
theorem impl_BoilingAt.calls (a0 : Int) (r1 : Int) (r2 : Int) (w : World) (h : impl_BoilingAt.f a0 = some (r1, r2)) :
    Calls Try.prog 25 #[.int .i64 a0] w fun e w' => e = .returned (.tuple #[.int .i64 r1, .int .i64 r2]) ∧ Below w.heap.size w w' := by
  have HB := Aside0.mk (Below.refl w.heap.size w)
  have H : ((impl_steamOk.f a0).bind fun t125 => (if t125 = true then ((impl_boilingAt.f a0).bind fun t126 => (some (t126, 0))) else (some (0, 2)))) = some (r1, r2) := h
  clear h
  replace H := Option.bind_eq_some_iff.mp H
  obtain ⟨t125, A20, H⟩ := H
  replace H : (if t125 = true then ((impl_boilingAt.f a0).bind fun t126 => (some (t126, 0))) else (some (0, 2))) = some (r1, r2) := H
  have A2 := Aside0.mk A20
  clear A20
  by_cases c3 : t125 = true
  · subst c3
    have H1 : ((impl_boilingAt.f a0).bind fun t126 => (some (t126, 0))) = some (r1, r2) := by rw [if_pos rfl] at H; exact H
    clear H
    have H := H1
    clear H1
    replace H := Option.bind_eq_some_iff.mp H
    obtain ⟨t126, A40, H⟩ := H
    replace H : (some (t126, 0)) = some (r1, r2) := H
    have A4 := Aside0.mk A40
    clear A40
    simp only [Option.some.injEq, Prod.mk.injEq] at H
    obtain ⟨rfl, rfl⟩ := H
    go_enter Try.func25, Try.ntmps25
    go_wp2_with (first | ((with_reducible refine gate_callee (f := 59) rfl ?_); refine goesL_ (some 5) rfl rfl Try.func59 (by kernel_rfl) rfl #[.int .i64 a0] rfl (by (try simp only [List.map_toArray, List.map_cons, List.map_nil]); first | done | rfl | (simp only [List.length_drop, List.length_take]; rfl)) ?_; (with_reducible refine (impl_steamOk.calls a0 true _ A2.out).mono ?_); rintro e w' ⟨rfl, ⟨nd, rfl⟩⟩; refine ⟨_, rfl, ?_⟩) | ((with_reducible refine gate_callee (f := 60) rfl ?_); refine goesL_ (some 8) rfl rfl Try.func60 (by kernel_rfl) rfl #[.int .i64 a0] rfl (by (try simp only [List.map_toArray, List.map_cons, List.map_nil]); first | done | rfl | (simp only [List.length_drop, List.length_take]; rfl)) ?_; (with_reducible refine (impl_boilingAt.calls a0 t126 _ A4.out).mono ?_); rintro e w5 ⟨rfl, hb⟩; refine ⟨_, rfl, ?_⟩; have n0_ := Aside0.mk (below_step (by repeat (first | (with_reducible first | exact HB.out | apply below_alloc | apply pw_below_drewN | apply below_drew1) | exact HB.out)) hb); clear HB; have HB := n0_; clear n0_; (try clear hb); (try clear hb2); (try clear hk); (try clear hi)))
    go_ret2
    exact ⟨by first | rfl | (simp [errW_none, errW_some] <;> rfl) | (simp [*, errW_none, errW_some] <;> rfl), by repeat (first | (with_reducible first | exact HB.out | apply below_alloc | apply pw_below_drewN | apply below_drew1) | exact HB.out)⟩
  · replace c3 := Bool.eq_false_iff.mpr c3
    subst c3
    have H1 : (some (0, 2)) = some (r1, r2) := by rw [if_neg (show ¬ (false = true) by decide)] at H; exact H
    clear H
    have H := H1
    clear H1
    simp only [Option.some.injEq, Prod.mk.injEq] at H
    obtain ⟨rfl, rfl⟩ := H
    go_enter Try.func25, Try.ntmps25
    go_wp2_with (first | ((with_reducible refine gate_callee (f := 59) rfl ?_); refine goesL_ (some 5) rfl rfl Try.func59 (by kernel_rfl) rfl #[.int .i64 a0] rfl (by (try simp only [List.map_toArray, List.map_cons, List.map_nil]); first | done | rfl | (simp only [List.length_drop, List.length_take]; rfl)) ?_; (with_reducible refine (impl_steamOk.calls a0 false _ A2.out).mono ?_); rintro e w' ⟨rfl, ⟨nd, rfl⟩⟩; refine ⟨_, rfl, ?_⟩))
    go_ret2
    exact ⟨by first | rfl | (simp [errW_none, errW_some] <;> rfl) | (simp [*, errW_none, errW_some] <;> rfl), by repeat (first | (with_reducible first | exact HB.out | apply below_alloc | apply pw_below_drewN | apply below_drew1) | exact HB.out)⟩

/-! ### laws_FnExactBoilingAt: function 7 -/
def laws_FnExactBoilingAt.f (a0 : Int) : Option (Bool) := (spec_BoilingAt.f a0).bind fun bt127 => ((impl_BoilingAt.f a0).bind fun bt129 => (if bt129.1 = bt127.1 then (if bt129.2 = bt127.2 then (some true) else (some false)) else (some false)))
set_option maxHeartbeats 8000000 in
set_option maxRecDepth 100000 in
theorem laws_FnExactBoilingAt.calls (a0 : Int) (r : Bool) (w : World) (h : laws_FnExactBoilingAt.f a0 = some r) :
    Calls Try.prog 7 #[.int .i64 a0] w fun e w' => e = .returned (.bool r) ∧ Below w.heap.size w w' := by
  have HB := Aside0.mk (Below.refl w.heap.size w)
  have H : ((spec_BoilingAt.f a0).bind fun bt127 => ((impl_BoilingAt.f a0).bind fun bt129 => (if bt129.1 = bt127.1 then (if bt129.2 = bt127.2 then (some true) else (some false)) else (some false)))) = some r := h
  clear h
  replace H := Option.bind_eq_some_iff.mp H
  obtain ⟨⟨t127, t128⟩, A20, H⟩ := H
  replace H : ((impl_BoilingAt.f a0).bind fun bt129 => (if bt129.1 = t127 then (if bt129.2 = t128 then (some true) else (some false)) else (some false))) = some r := H
  have A2 := Aside0.mk A20
  clear A20
  replace H := Option.bind_eq_some_iff.mp H
  obtain ⟨⟨t129, t130⟩, A30, H⟩ := H
  replace H : (if t129 = t127 then (if t130 = t128 then (some true) else (some false)) else (some false)) = some r := H
  have A3 := Aside0.mk A30
  clear A30
  by_cases c4 : t129 = t127
  · rw [if_pos c4] at H
    have c4b0 : (t129 == t127) = true := beq_iff_eq.mpr c4
    have c4b1 : (t129 != t127) = false := bne_eq_false_iff_eq.mpr c4
    clear c4
    by_cases c5 : t130 = t128
    · rw [if_pos c5] at H
      have c5b0 : (t130 == t128) = true := beq_iff_eq.mpr c5
      have c5b1 : (t130 != t128) = false := bne_eq_false_iff_eq.mpr c5
      clear c5
      obtain rfl := Option.some.inj H
      go_enter Try.func7, Try.ntmps7
      go_wp2_with (first | ((with_reducible refine gate_callee (f := 24) rfl ?_); refine goesL_ (some 9) rfl rfl Try.func24 (by kernel_rfl) rfl #[.int .i64 a0] rfl (by (try simp only [List.map_toArray, List.map_cons, List.map_nil]); first | done | rfl | (simp only [List.length_drop, List.length_take]; rfl)) ?_; (with_reducible refine (spec_BoilingAt.calls a0 t127 t128 _ A2.out).mono ?_); rintro e w6 ⟨rfl, hb⟩; refine ⟨_, rfl, ?_⟩; have n0_ := Aside0.mk (below_step (by repeat (first | (with_reducible first | exact HB.out | apply below_alloc | apply pw_below_drewN | apply below_drew1) | exact HB.out)) hb); clear HB; have HB := n0_; clear n0_; (try clear hb); (try clear hb2); (try clear hk); (try clear hi)) | ((with_reducible refine gate_callee (f := 25) rfl ?_); refine goesL_ (some 14) rfl rfl Try.func25 (by kernel_rfl) rfl #[.int .i64 a0] rfl (by (try simp only [List.map_toArray, List.map_cons, List.map_nil]); first | done | rfl | (simp only [List.length_drop, List.length_take]; rfl)) ?_; (with_reducible refine (impl_BoilingAt.calls a0 t129 t130 _ A3.out).mono ?_); rintro e w7 ⟨rfl, hb⟩; refine ⟨_, rfl, ?_⟩; have n0_ := Aside0.mk (below_step (by repeat (first | (with_reducible first | exact HB.out | apply below_alloc | apply pw_below_drewN | apply below_drew1) | exact HB.out)) hb); clear HB; have HB := n0_; clear n0_; (try clear hb); (try clear hb2); (try clear hk); (try clear hi)))
      go_ret
      exact ⟨by first | rfl | (simp [errW_none, errW_some] <;> rfl) | (simp [*, errW_none, errW_some] <;> rfl), by repeat (first | (with_reducible first | exact HB.out | apply below_alloc | apply pw_below_drewN | apply below_drew1) | exact HB.out)⟩
    · rw [if_neg c5] at H
      have c5b0 : (t130 == t128) = false := beq_eq_false_iff_ne.mpr c5
      have c5b1 : (t130 != t128) = true := bne_iff_ne.mpr c5
      obtain rfl := Option.some.inj H
      go_enter Try.func7, Try.ntmps7
      go_wp2_with (first | ((with_reducible refine gate_callee (f := 24) rfl ?_); refine goesL_ (some 9) rfl rfl Try.func24 (by kernel_rfl) rfl #[.int .i64 a0] rfl (by (try simp only [List.map_toArray, List.map_cons, List.map_nil]); first | done | rfl | (simp only [List.length_drop, List.length_take]; rfl)) ?_; (with_reducible refine (spec_BoilingAt.calls a0 t127 t128 _ A2.out).mono ?_); rintro e w8 ⟨rfl, hb⟩; refine ⟨_, rfl, ?_⟩; have n0_ := Aside0.mk (below_step (by repeat (first | (with_reducible first | exact HB.out | apply below_alloc | apply pw_below_drewN | apply below_drew1) | exact HB.out)) hb); clear HB; have HB := n0_; clear n0_; (try clear hb); (try clear hb2); (try clear hk); (try clear hi)) | ((with_reducible refine gate_callee (f := 25) rfl ?_); refine goesL_ (some 14) rfl rfl Try.func25 (by kernel_rfl) rfl #[.int .i64 a0] rfl (by (try simp only [List.map_toArray, List.map_cons, List.map_nil]); first | done | rfl | (simp only [List.length_drop, List.length_take]; rfl)) ?_; (with_reducible refine (impl_BoilingAt.calls a0 t129 t130 _ A3.out).mono ?_); rintro e w9 ⟨rfl, hb⟩; refine ⟨_, rfl, ?_⟩; have n0_ := Aside0.mk (below_step (by repeat (first | (with_reducible first | exact HB.out | apply below_alloc | apply pw_below_drewN | apply below_drew1) | exact HB.out)) hb); clear HB; have HB := n0_; clear n0_; (try clear hb); (try clear hb2); (try clear hk); (try clear hi)))
      go_ret
      exact ⟨by first | rfl | (simp [errW_none, errW_some] <;> rfl) | (simp [*, errW_none, errW_some] <;> rfl), by repeat (first | (with_reducible first | exact HB.out | apply below_alloc | apply pw_below_drewN | apply below_drew1) | exact HB.out)⟩
  · rw [if_neg c4] at H
    have c4b0 : (t129 == t127) = false := beq_eq_false_iff_ne.mpr c4
    have c4b1 : (t129 != t127) = true := bne_iff_ne.mpr c4
    obtain rfl := Option.some.inj H
    go_enter Try.func7, Try.ntmps7
    go_wp2_with (first | ((with_reducible refine gate_callee (f := 24) rfl ?_); refine goesL_ (some 9) rfl rfl Try.func24 (by kernel_rfl) rfl #[.int .i64 a0] rfl (by (try simp only [List.map_toArray, List.map_cons, List.map_nil]); first | done | rfl | (simp only [List.length_drop, List.length_take]; rfl)) ?_; (with_reducible refine (spec_BoilingAt.calls a0 t127 t128 _ A2.out).mono ?_); rintro e w10 ⟨rfl, hb⟩; refine ⟨_, rfl, ?_⟩; have n0_ := Aside0.mk (below_step (by repeat (first | (with_reducible first | exact HB.out | apply below_alloc | apply pw_below_drewN | apply below_drew1) | exact HB.out)) hb); clear HB; have HB := n0_; clear n0_; (try clear hb); (try clear hb2); (try clear hk); (try clear hi)) | ((with_reducible refine gate_callee (f := 25) rfl ?_); refine goesL_ (some 14) rfl rfl Try.func25 (by kernel_rfl) rfl #[.int .i64 a0] rfl (by (try simp only [List.map_toArray, List.map_cons, List.map_nil]); first | done | rfl | (simp only [List.length_drop, List.length_take]; rfl)) ?_; (with_reducible refine (impl_BoilingAt.calls a0 t129 t130 _ A3.out).mono ?_); rintro e w11 ⟨rfl, hb⟩; refine ⟨_, rfl, ?_⟩; have n0_ := Aside0.mk (below_step (by repeat (first | (with_reducible first | exact HB.out | apply below_alloc | apply pw_below_drewN | apply below_drew1) | exact HB.out)) hb); clear HB; have HB := n0_; clear n0_; (try clear hb); (try clear hb2); (try clear hk); (try clear hi)))
    go_ret
    exact ⟨by first | rfl | (simp [errW_none, errW_some] <;> rfl) | (simp [*, errW_none, errW_some] <;> rfl), by repeat (first | (with_reducible first | exact HB.out | apply below_alloc | apply pw_below_drewN | apply below_drew1) | exact HB.out)⟩

/-- THE ONE PURE STATEMENT of laws_FnExactBoilingAt: yours. -/
def laws_FnExactBoilingAt.Pure : Prop := ∀ (a0 : Int), (Lit.int .i64 a0).wf = true → laws_FnExactBoilingAt.f a0 = some true
theorem laws_FnExactBoilingAt.walk (P : laws_FnExactBoilingAt.Pure) (a0 : Int) (w : World) (w0 : (Lit.int .i64 a0).wf = true) :
    Calls Try.prog 7 #[.int .i64 a0] w fun e w' => e = .returned (.bool true) ∧ Below w.heap.size w w' := by
  have h := P a0 w0
  refine (laws_FnExactBoilingAt.calls a0 true w h).mono ?_
  rintro e w' ⟨rfl, hd⟩
  exact ⟨rfl, hd⟩

end Go.Proofs.Yteifocbmholocaa.PFnExactBoilingAt
