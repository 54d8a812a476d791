-- Printed by a program of this session (wip/hprint.sh: the kit's print with hand-proved contracts put in); not by print.sh itself.
import Derived.Test.YthgfkbkobnfnaaaPFnExactElectricPowerx0
import Derived.Test.YthgfkbkobnfnaaaPFnExactElectricPowerx5
namespace Go.Proofs.Ythgfkbkobnfnaaa.PFnExactElectricPower
open Go.RowKit Go.Proofs.YthgfkbkobnfnaaaW.PrintWords Go.Proofs.YthgfkbkobnfnaaaW.PrintLast Go.Proofs.YthgfkbkobnfnaaaW.PrintMore Go.Proofs.YthgfkbkobnfnaaaM
attribute [local go_sem] max2_int min2_int max_two min_two max_three min_three max_four min_four   -- for this text's walks alone
set_option linter.unusedVariables false
set_option linter.unusedSimpArgs false


/-! ### impl_abs: function 117 -/
open Go.Proofs.YthgfkbkobnfnaaaM
def impl_abs.f (a0 : Int) : Option Int := if -9223372036854775808 < a0 ∧ a0 ≤ 9223372036854775807 then some (absI a0) else none
theorem absI_mx (a : Int) (h : -9223372036854775808 < a ∧ a ≤ 9223372036854775807) : mx a (wrap64 (-a)) = absI a := by
  rw [w64 (by omega) (by omega)]
  unfold mx absI
  by_cases c : a < 0
  · rw [if_pos (by omega), if_pos c]
  · rw [if_neg c]
    by_cases c' : a < -a
    · omega
    · rw [if_neg c']
set_option maxHeartbeats 1000000 in
theorem impl_abs.calls (a0 : Int) (r : Int) (w : World) (h : impl_abs.f a0 = some r) :
    Calls Try.prog 117 #[.int .i64 a0] w fun e w' => e = .returned (.int .i64 r) ∧ Drawn0 w w' := by
  unfold impl_abs.f at h
  split at h
  · rename_i hb
    obtain rfl := Option.some.inj h
    have H := Aside0.mk (absI_mx a0 hb)
    clear h hb
    rw [← H.out]
    go_enter Try.func117, Try.ntmps117
    go_wp2
    all_goals go_ret
    all_goals exact ⟨by unfold mx; split <;> first | rfl | (exfalso; omega), by repeat (first | exact Drawn0.refl _ | apply Drawn0.step)⟩
  · exact absurd h (by simp)


/-! ### impl_divRound: function 73 -/
open Go.Proofs.YthgfkbkobnfnaaaM
def impl_divRound.f (a0 a1 : Int) : Option Int := if a1 ≠ 0 ∧ -2305843009213693952 ≤ a0 ∧ a0 ≤ 2305843009213693952 ∧ -2305843009213693952 ≤ a1 ∧ a1 ≤ 2305843009213693952 then some (rdiv a0 a1) else none
theorem tmod_abs (a b : Int) (hb : b ≠ 0) (b1 : -2305843009213693952 ≤ b) (b2 : b ≤ 2305843009213693952) : -2305843009213693952 ≤ Int.tmod a b ∧ Int.tmod a b ≤ 2305843009213693952 := by
  have hm : Int.natAbs (Int.tmod a b) < Int.natAbs b := by rw [Int.natAbs_tmod]; exact Nat.mod_lt _ (by omega)
  omega
def impl_divRound.val (a b t t' : Int) : Int := if wrap64 (t' - t) ≤ t then (if (decide (a < 0) == decide (b < 0)) = true then wrap64 (wrap64 (Int.tdiv a b) + 1) else wrap64 (wrap64 (Int.tdiv a b) - 1)) else wrap64 (Int.tdiv a b)
set_option maxHeartbeats 2000000 in
set_option maxRecDepth 100000 in
theorem impl_divRound.core (a b t t' : Int) (w : World) (hb : ¬ b = 0) (z0 : (b == 0) = false) (z1 : (b != 0) = true) (A : Aside0 (impl_abs.f (Int.tmod a b) = some t)) (B : Aside0 (impl_abs.f b = some t')) :
    Calls Try.prog 73 #[.int .i64 a, .int .i64 b] w fun e w' => e = .returned (.int .i64 (impl_divRound.val a b t t')) ∧ Drawn0 w w' := by
  unfold impl_divRound.val
  by_cases c1 : wrap64 (t' - t) ≤ t
  · rw [if_pos c1]
    have c1b : decide (wrap64 (t' - t) ≤ t) = true := decide_eq_true c1
    clear c1
    by_cases c2 : (decide (a < 0) == decide (b < 0)) = true
    · rw [if_pos c2]
      go_enter Try.func73, Try.ntmps73
      go_wp2
      go_quiet ((go_at_call 117; exact Calls.quiet_of ((impl_abs.calls _ t _ A.out).mono fun e w' ⟨he, hd⟩ => ⟨he, hd.out⟩)))
      go_wp2_with (go_at_call 117; (with_reducible refine (impl_abs.calls b t' _ B.out).mono ?_); rintro e w' ⟨rfl, ⟨nd, rfl⟩⟩)
      go_ret
      exact ⟨rfl, by repeat (first | exact Drawn0.refl _ | apply Drawn0.step)⟩
    · rw [if_neg c2]
      have c2b : (decide (a < 0) == decide (b < 0)) = false := by simpa using c2
      (try (have c7b1 : decide ((decide (a < 0)) = (decide (b < 0))) = false := by simpa using c2))
      (try (have c7b3 : ¬ ((decide (a < 0)) = (decide (b < 0))) := by simpa using c2))
      clear c2
      go_enter Try.func73, Try.ntmps73
      go_wp2
      go_quiet ((go_at_call 117; exact Calls.quiet_of ((impl_abs.calls _ t _ A.out).mono fun e w' ⟨he, hd⟩ => ⟨he, hd.out⟩)))
      go_wp2_with (go_at_call 117; (with_reducible refine (impl_abs.calls b t' _ B.out).mono ?_); rintro e w' ⟨rfl, ⟨nd, rfl⟩⟩)
      go_ret
      exact ⟨rfl, by repeat (first | exact Drawn0.refl _ | apply Drawn0.step)⟩
  · rw [if_neg c1]
    have c1b : decide (wrap64 (t' - t) ≤ t) = false := decide_eq_false c1
    clear c1
    go_enter Try.func73, Try.ntmps73
    go_wp2
    go_quiet ((go_at_call 117; exact Calls.quiet_of ((impl_abs.calls _ t _ A.out).mono fun e w' ⟨he, hd⟩ => ⟨he, hd.out⟩)))
    go_wp2_with (go_at_call 117; (with_reducible refine (impl_abs.calls b t' _ B.out).mono ?_); rintro e w' ⟨rfl, ⟨nd, rfl⟩⟩)
    go_ret
    exact ⟨rfl, by repeat (first | exact Drawn0.refl _ | apply Drawn0.step)⟩
theorem impl_divRound.calls (a0 a1 : Int) (r : Int) (w : World) (h : impl_divRound.f a0 a1 = some r) :
    Calls Try.prog 73 #[.int .i64 a0, .int .i64 a1] w fun e w' => e = .returned (.int .i64 r) ∧ Drawn0 w w' := by
  unfold impl_divRound.f at h
  split at h
  · rename_i hc
    obtain ⟨hb, h1, h2, h3, h4⟩ := hc
    have hm := tmod_abs a0 a1 hb h3 h4
    have A : impl_abs.f (Int.tmod a0 a1) = some (absI (Int.tmod a0 a1)) := by unfold impl_abs.f; rw [if_pos (by omega)]
    have B : impl_abs.f a1 = some (absI a1) := by unfold impl_abs.f; rw [if_pos (by omega)]
    have key := impl_div a0 a1 hb h1 h2 h3 h4 (absI (Int.tmod a0 a1)) (absI a1) (by unfold absI; split <;> split <;> omega) (by unfold absI; split <;> split <;> omega)
    have e : impl_divRound.val a0 a1 (absI (Int.tmod a0 a1)) (absI a1) = r := by
      rw [← Option.some.inj h]
      refine Option.some.inj (Eq.trans ?_ key)
      unfold impl_divRound.val
      simp only [ge_iff_le]
      split
      · split <;> rfl
      · rfl
    have := impl_divRound.core a0 a1 _ _ w hb (beq_eq_false_iff_ne.mpr hb) (bne_iff_ne.mpr hb) ⟨A⟩ ⟨B⟩
    rw [e] at this
    exact this
  · exact absurd h (by simp)

/-! ### impl_blend: function 116 -/
def impl_blend.j0 : Nat → Int → Int → Int → Int → Int → Bool → Option (Int)
 | 0, _, _, _, _, _, _ => none
 | k + 1, x0, x1, x2, x3, x4, x11 => if x11 = true then (some x1) else (if x4 ≥ x2 then (some x3) else ((impl_divRound.f (wrap64 ((wrap64 (x3 - x1)) * (wrap64 (x4 - x0)))) (wrap64 (x2 - x0))).bind fun t180 => (some (wrap64 (x1 + t180)))))
def impl_blend.f (k : Nat) (a0 : Int) (a1 : Int) (a2 : Int) (a3 : Int) (a4 : Int) : Option (Int) := if a4 ≤ a0 then (impl_blend.j0 k a0 a1 a2 a3 a4 true) else (impl_blend.j0 k a0 a1 a2 a3 a4 (decide (a2 ≤ a0)))
theorem impl_blend.mono_l : ∀ k, (∀ y0 y1 y2 y3 y4 y5, LeO (impl_blend.j0 k y0 y1 y2 y3 y4 y5) (impl_blend.j0 (k + 1) y0 y1 y2 y3 y4 y5))
 | 0 => fun _ _ _ _ _ _ r h => by simp [impl_blend.j0] at h
 | k + 1 => by
  have ih0 := impl_blend.mono_l k
  ·intro y0 y1 y2 y3 y4 y5
   unfold impl_blend.j0
   repeat' first
   | (with_reducible exact ih0 _ _ _ _ _ _)
   | (with_reducible exact LeO.refl _)
   | (with_reducible exact LeO.none _)
   | (with_reducible refine LeO.ite ?_ ?_)
   | (with_reducible refine LeO.bind ?_ (fun _ => ?_))
   | exact ih0 _ _ _ _ _ _
   | exact LeO.none _
   | refine LeO.ite ?_ ?_
   | refine LeO.bind ?_ (fun _ => ?_)
theorem impl_blend.mono : ∀ a0 a1 a2 a3 a4 k, LeO (impl_blend.f k a0 a1 a2 a3 a4) (impl_blend.f (k + 1) a0 a1 a2 a3 a4) := by
 intro a0 a1 a2 a3 a4 k
 have ih0 := impl_blend.mono_l k
 unfold impl_blend.f
 repeat' first
   | (with_reducible exact ih0 _ _ _ _ _ _)
   | (with_reducible exact LeO.refl _)
   | (with_reducible exact LeO.none _)
   | (with_reducible refine LeO.ite ?_ ?_)
   | (with_reducible refine LeO.bind ?_ (fun _ => ?_))
   | exact ih0 _ _ _ _ _ _
   | exact LeO.none _
   | refine LeO.ite ?_ ?_
   | refine LeO.bind ?_ (fun _ => ?_)
set_option maxHeartbeats 8000000 in
set_option maxRecDepth 100000 in
theorem impl_blend.calls (k : Nat) (a0 : Int) (a1 : Int) (a2 : Int) (a3 : Int) (a4 : Int) (r : Int) (w : World) (h : impl_blend.f k a0 a1 a2 a3 a4 = some r) :
  Calls Try.prog 116 #[.int .i64 a0, .int .i64 a1, .int .i64 a2, .int .i64 a3, .int .i64 a4] w fun e w' => e = .returned (.int .i64 r) ∧ Drawn0 w w' := by
 have H : (if a4 ≤ a0 then (impl_blend.j0 k a0 a1 a2 a3 a4 true) else (impl_blend.j0 k a0 a1 a2 a3 a4 (decide (a2 ≤ a0)))) = some r := h
 clear h
 have HC6 := Aside0.mk H
 clear H
 go_enter Try.func116, Try.ntmps116
 go_upto_region 1 with (fail)
 go_cut [11] (fun v11 wc => ∃ (kq : Nat) (x11_5 : Bool), v11 = .bool x11_5 ∧ Aside0 (impl_blend.j0 kq a0 a1 a2 a3 a4 x11_5 = some r) ∧ Aside0 (kq ≤ k) ∧ Drawn0 w wc)
 case first =>
  have H := HC6.out
  clear HC6
  by_cases c7 : a4 ≤ a0
  ·rw [if_pos c7] at H
   have c7b0 : decide (a4 ≤ a0) = true := decide_eq_true c7
   clear c7
   (first | rw [c7b0] | (simp only [i64_w, i32_w]; rw [c7b0]) | rw [c7b2] | skip)
   have H' := Aside0.mk H
   clear H
   go_wp2
   go_meet
   case rel => exact ⟨_, (true), (by first | rfl | (simp; done) | (simp [*]; done)), H', ⟨by first | omega | exact Nat.le_refl _⟩, by repeat (first | exact Drawn0.refl _ | apply Drawn0.step)⟩
  ·rw [if_neg c7] at H
   have c7b0 : decide (a4 ≤ a0) = false := decide_eq_false c7
   clear c7
   (first | rw [c7b0] | (simp only [i64_w, i32_w]; rw [c7b0]) | rw [c7b2] | skip)
   have H' := Aside0.mk H
   clear H
   go_wp2
   go_meet
   case rel => exact ⟨_, (decide (a2 ≤ a0)), (by first | rfl | (simp; done) | (simp [*]; done)), H', ⟨by first | omega | exact Nat.le_refl _⟩, by repeat (first | exact Drawn0.refl _ | apply Drawn0.step)⟩
 case rest =>
  clear HC6
  try clear c1
  try clear p2
  try clear c7
  try clear c7b0
  try clear c7b2
  obtain ⟨kq, x11_5, rfl, HA, HJ5, ⟨mc5, rfl⟩⟩ := hcut
  cases kq with
  | zero => exact absurd HA.out (by simp [impl_blend.j0])
  | succ kj5 =>
   have H := HA.out
   clear HA
   simp only [impl_blend.j0] at H
   by_cases c8 : x11_5 = true
   ·subst c8
    have H1 : (some a1) = some r := by rw [if_pos rfl] at H; exact H
    clear H
    have H := H1
    clear H1
    obtain rfl := Option.some.inj H
    go_wp2
    go_ret
    exact ⟨by first | rfl | (simp; done) | (simp [*]; done), by repeat (first | exact Drawn0.refl _ | apply Drawn0.step)⟩
   ·replace c8 := Bool.eq_false_iff.mpr c8
    subst c8
    have H1 : (if a4 ≥ a2 then (some a3) else ((impl_divRound.f (wrap64 ((wrap64 (a3 - a1)) * (wrap64 (a4 - a0)))) (wrap64 (a2 - a0))).bind fun t180 => (some (wrap64 (a1 + t180))))) = some r := by rw [if_neg (show ¬ (false = true) by decide)] at H; exact H
    clear H
    have H := H1
    clear H1
    by_cases c9 : a4 ≥ a2
    ·rw [if_pos c9] at H
     have c9b0 : decide (a2 ≤ a4) = true := decide_eq_true c9
     clear c9
     obtain rfl := Option.some.inj H
     go_wp2
     go_ret
     exact ⟨by first | rfl | (simp; done) | (simp [*]; done), by repeat (first | exact Drawn0.refl _ | apply Drawn0.step)⟩
    ·rw [if_neg c9] at H
     have c9b0 : decide (a2 ≤ a4) = false := decide_eq_false c9
     clear c9
     replace H := Option.bind_eq_some_iff.mp H
     obtain ⟨t180, A100, H⟩ := H
     replace H : (some (wrap64 (a1 + t180))) = some r := H
     have A10 := Aside0.mk A100
     clear A100
     obtain rfl := Option.some.inj H
     go_wp2_with (first | ((with_reducible refine gate_callee (f := 73) rfl ?_); refine goesL_ (some 37) rfl rfl Try.func73 (by kernel_rfl) rfl #[.int .i64 (wrap64 ((wrap64 (a3 - a1)) * (wrap64 (a4 - a0)))), .int .i64 (wrap64 (a2 - a0))] rfl (by (try simp only [List.map_toArray, List.map_cons, List.map_nil]); first | done | rfl | (simp only [List.length_drop, List.length_take]; rfl)) ?_; (with_reducible refine (impl_divRound.calls (wrap64 ((wrap64 (a3 - a1)) * (wrap64 (a4 - a0)))) (wrap64 (a2 - a0)) t180 _ A10.out).mono ?_); rintro e w' ⟨rfl, ⟨nd, rfl⟩⟩; refine ⟨_, rfl, ?_⟩))
     go_ret
     exact ⟨by first | rfl | (simp; done) | (simp [*]; done), by repeat (first | exact Drawn0.refl _ | apply Drawn0.step)⟩

open Go.Proofs.YthgfkbkobnfnaaaM
def impl_blend_.f (a0 a1 a2 a3 a4 : Int) : Option Int := if (-10000000 ≤ a0 ∧ a0 ≤ 10000000) ∧ (-10000000 ≤ a1 ∧ a1 ≤ 10000000) ∧ (-10000000 ≤ a2 ∧ a2 ≤ 10000000) ∧ (-10000000 ≤ a3 ∧ a3 ≤ 10000000) then some (lineI a0 a1 a2 a3 a4) else none
theorem impl_blend_.same (a0 a1 a2 a3 a4 : Int) (h0 : -10000000 ≤ a0 ∧ a0 ≤ 10000000) (h1 : -10000000 ≤ a1 ∧ a1 ≤ 10000000) (h2 : -10000000 ≤ a2 ∧ a2 ≤ 10000000) (h3 : -10000000 ≤ a3 ∧ a3 ≤ 10000000) : impl_blend.f 1 a0 a1 a2 a3 a4 = some (lineI a0 a1 a2 a3 a4) := by
  unfold impl_blend.f lineI
  by_cases c1 : a4 ≤ a0
  · rw [if_pos c1, if_pos (Or.inl c1)]; simp [impl_blend.j0]
  · rw [if_neg c1]
    by_cases c2 : a2 ≤ a0
    · rw [if_pos (Or.inr c2), decide_eq_true c2]; simp [impl_blend.j0]
    · have c3 : ¬ (a4 ≤ a0 ∨ a2 ≤ a0) := by omega
      rw [if_neg c3, decide_eq_false c2]
      simp only [impl_blend.j0, Bool.false_eq_true, if_false, ge_iff_le]
      by_cases c4 : a2 ≤ a4
      · rw [if_pos c4, if_pos c4]
      · have hl := line_bound c3 c4 h0.1 h2.2 h1.1 h1.2 h3.1 h3.2
        rw [if_neg c4, if_neg c4, w64 (x := a3 - a1) (by omega) (by omega), w64 (x := a4 - a0) (by omega) (by omega), w64 (x := (a3 - a1) * (a4 - a0)) (by omega) (by omega), w64 (x := a2 - a0) (by omega) (by omega)]
        simp only [impl_divRound.f]
        rw [if_pos (by omega)]
        simp only [Option.bind_some]
        rw [w64 (by omega) (by omega)]
theorem impl_blend_.calls (a0 a1 a2 a3 a4 : Int) (r : Int) (w : World) (h : impl_blend_.f a0 a1 a2 a3 a4 = some r) :
    Calls Try.prog 116 #[.int .i64 a0, .int .i64 a1, .int .i64 a2, .int .i64 a3, .int .i64 a4] w fun e w' => e = .returned (.int .i64 r) ∧ Drawn0 w w' := by
  unfold impl_blend_.f at h
  split at h
  · rename_i hc
    exact impl_blend.calls 1 a0 a1 a2 a3 a4 r w (by rw [← h]; exact impl_blend_.same a0 a1 a2 a3 a4 hc.1 hc.2.1 hc.2.2.1 hc.2.2.2)
  · exact absurd h (by simp)

/-! ### impl_Pump_head: function 70 -/
def impl_Pump_head.l0 : Nat → Int → Int → ByteArray → List (List Int) → Option (Int)
 | 0, _, _, _, _ => none
 | k + 1, x1, x5, x182000, x182001 => if x5 < (x182001.length : Int) then (if 0 ≤ x5 then (if 0 < ((rd_L1 x182001 x5).length : Int) then (if (rd (rd_L1 x182001 x5) 0) < x1 then (impl_Pump_head.l0 k x1 (wrap64 (x5 + 1)) x182000 x182001) else (if x5 = (x182001.length : Int) then (some 0) else (if 0 ≤ (wrap64 (x5 - 1)) then (if (wrap64 (x5 - 1)) < (x182001.length : Int) then (if 0 < ((rd_L1 x182001 (wrap64 (x5 - 1))).length : Int) then (if 1 < ((rd_L1 x182001 (wrap64 (x5 - 1))).length : Int) then (if 1 < ((rd_L1 x182001 x5).length : Int) then ((impl_blend_.f (rd (rd_L1 x182001 (wrap64 (x5 - 1))) 0) (rd (rd_L1 x182001 (wrap64 (x5 - 1))) 1) (rd (rd_L1 x182001 x5) 0) (rd (rd_L1 x182001 x5) 1) x1).bind fun t190 => (some t190)) else (none)) else (none)) else (none)) else (none)) else (none)))) else (none)) else (none)) else (if x5 = (x182001.length : Int) then (some 0) else (if 0 ≤ (wrap64 (x5 - 1)) then (if (wrap64 (x5 - 1)) < (x182001.length : Int) then (if 0 ≤ x5 then (none) else (none)) else (none)) else (none)))
def impl_Pump_head.f (k : Nat) (a0_0 : ByteArray) (l0_1 : List (List Int)) (a1 : Int) : Option (Int) := impl_Pump_head.l0 k a1 1 a0_0 l0_1
theorem impl_Pump_head.mono_l : ∀ k, (∀ y0 y1 y2 y3, LeO (impl_Pump_head.l0 k y0 y1 y2 y3) (impl_Pump_head.l0 (k + 1) y0 y1 y2 y3))
 | 0 => fun _ _ _ _ r h => by simp [impl_Pump_head.l0] at h
 | k + 1 => by
  have ih0 := impl_Pump_head.mono_l k
  ·intro y0 y1 y2 y3
   unfold impl_Pump_head.l0
   repeat' first
   | (with_reducible exact ih0 _ _ _ _)
   | (with_reducible exact LeO.refl _)
   | (with_reducible exact LeO.none _)
   | (with_reducible refine LeO.ite ?_ ?_)
   | (with_reducible refine LeO.bind ?_ (fun _ => ?_))
   | exact ih0 _ _ _ _
   | exact LeO.none _
   | refine LeO.ite ?_ ?_
   | refine LeO.bind ?_ (fun _ => ?_)
theorem impl_Pump_head.mono : ∀ a0 a1 a2 k, LeO (impl_Pump_head.f k a0 a1 a2) (impl_Pump_head.f (k + 1) a0 a1 a2) := by
 intro a0 a1 a2 k
 have ih0 := impl_Pump_head.mono_l k
 unfold impl_Pump_head.f
 repeat' first
   | (with_reducible exact ih0 _ _ _ _)
   | (with_reducible exact LeO.refl _)
   | (with_reducible exact LeO.none _)
   | (with_reducible refine LeO.ite ?_ ?_)
   | (with_reducible refine LeO.bind ?_ (fun _ => ?_))
   | exact ih0 _ _ _ _
   | exact LeO.none _
   | refine LeO.ite ?_ ?_
   | refine LeO.bind ?_ (fun _ => ?_)
set_option maxHeartbeats 8000000 in
set_option maxRecDepth 100000 in
theorem impl_Pump_head.calls (k : Nat) (a0_0 : ByteArray) (A0_1 : Option Addr) (c0_1 : Nat) (l0_1 : List (List Int)) (a1 : Int) (r : Int) (w : World) (hr0_1 : Kd.C (Kd.slice 2 (Kd.int .i64)) w A0_1 l0_1.length l0_1) (hc0_1 : l0_1.length ≤ c0_1) (h : impl_Pump_head.f k a0_0 l0_1 a1 = some r) :
  Calls Try.prog 70 #[.agg #[.string a0_0, .slice A0_1 l0_1.length c0_1], .int .i64 a1] w fun e w' => e = .returned (.int .i64 r) ∧ Below w.heap.size w w' := by
 have hu27 := Try.underlying27
 have HR0_1 := Aside0.mk hr0_1
 have HC0_1 := Aside0.mk hc0_1
 clear hr0_1 hc0_1
 have HB := Aside0.mk (Below.refl w.heap.size w)
 have H : (impl_Pump_head.l0 k a1 1 a0_0 l0_1) = some r := h
 clear h
 have H' := Aside0.mk H
 clear H
 go_enter Try.func70, Try.ntmps70
 iterate 3 ((try go_quiet (fail)); (try go_wp2_with (first | ((with_reducible refine gate_dst (N := 2) rfl ?_); refine box_event ?hg (N := 2) ?hd (cs := #[.string a0_0, .slice A0_1 l0_1.length c0_1]) (t := 27) ?hr ?_; (case hd => rfl); (case hg => rfl); (case hr => first | (go_simp; done) | (go_simp; rfl)); intro gb181 hg w3 hbox hb; have n0_ := Aside0.mk (below_step (by repeat (first | (with_reducible first | exact HB.out | apply below_alloc | apply pw_below_drewN | apply below_drew1) | exact HB.out)) hb); have n1_ := Aside0.mk (hbox); have n2_ := Aside0.mk ((by rw [hg]; exact (below_size (by repeat (first | (with_reducible first | exact HB.out | apply below_alloc | apply pw_below_drewN | apply below_drew1) | exact HB.out))) : w.heap.size ≤ gb181)); have n3_ := Aside0.mk ((by rw [hg]; exact (below_size (by repeat (first | (with_reducible first | exact HB.out | apply below_alloc | apply pw_below_drewN | apply below_drew1) | exact HB.out))) : w.heap.size ≤ gb181)); clear HB; have HB := n0_; have BK181 := n1_; have GW181 := n2_; have GE181 := n3_; clear n0_ n1_ n2_ n3_; clear hb hbox hg))))
 go_loopg [5] k (fun kq v5 w' => ∃ (x5_1 : Int), v5 = .int .i64 x5_1 ∧ Aside0 (impl_Pump_head.l0 kq a1 x5_1 a0_0 l0_1 = some r) ∧ Aside0 (kq ≤ k) ∧ Aside0 (w'.heap[gb181]? = some (.cells #[.string a0_0, (.slice A0_1 l0_1.length c0_1)] 27 (0, 0))) ∧ Aside0 (Below w.heap.size w w'))
 case atStart => exact ⟨(1), (by first | rfl | (simp; done) | (simp [*]; done)), H', ⟨Nat.le_refl _⟩, ⟨by (with_reducible repeat (first | refine blk_drewN ?_ _ | refine blk_drew ?_ | refine blk_alloc ?_ _)); exact BK181.out⟩, ⟨by repeat (first | (with_reducible first | exact HB.out | apply below_alloc | apply pw_below_drewN | apply below_drew1 | refine below_set ?_ GE181.out) | exact HB.out)⟩⟩
 case round =>
  clear H'
  try clear p2
  obtain ⟨x5_1, rfl, HA, HK1, BK181, HB⟩ := hrel
  cases gk with
  | zero => exact absurd HA.out (by simp [impl_Pump_head.l0])
  | succ k1 =>
   have H := HA.out
   clear HA
   simp only [impl_Pump_head.l0] at H
   by_cases c4 : x5_1 < (l0_1.length : Int)
   ·rw [if_pos c4] at H
    have c4b0 : decide (x5_1 < (l0_1.length : Int)) = true := decide_eq_true c4
    clear c4
    by_cases c5 : 0 ≤ x5_1
    ·rw [if_pos c5] at H
     have c5b0 : decide (0 ≤ x5_1) = true := decide_eq_true c5
     clear c5
     by_cases c6 : 0 < ((rd_L1 l0_1 x5_1).length : Int)
     ·rw [if_pos c6] at H
      have c6b0 : decide (0 < ((rd_L1 l0_1 x5_1).length : Int)) = true := decide_eq_true c6
      have c6b1 : decide (0 < (rd_L1 l0_1 x5_1).length) = true := decide_eq_true (by omega)
      clear c6
      by_cases c7 : (rd (rd_L1 l0_1 x5_1) 0) < a1
      ·rw [if_pos c7] at H
       have c7b0 : decide ((rd (rd_L1 l0_1 x5_1) 0) < a1) = true := decide_eq_true c7
       clear c7
       have H' := Aside0.mk H
       clear H
       have hcz8_0 : wr.cell? ⟨gb181, 0, none⟩ = some (.string a0_0) := (blk_cell BK181.out 0).trans rfl
       have hcz8_1 : wr.cell? ⟨gb181, 1, none⟩ = some (.slice A0_1 l0_1.length c0_1) := (blk_cell BK181.out 1).trans rfl
       have hfz8_0 := blk_frozen BK181.out 0
       have hfz8_1 := blk_frozen BK181.out 1
       have p182 : 0 ≤ (x5_1 : Int) := of_decide_eq_true (by first | (with_reducible assumption) | assumption)
       have q182 : x5_1 < (l0_1.length : Int) := of_decide_eq_true (by first | (with_reducible assumption) | assumption)
       obtain ⟨ad182, A182_0, c182_0, e182, hx182_0, hl182_0, hi182_0⟩ := at_L1 HR0_1.out x5_1 p182 q182
       cases e182
       replace hx182_0 := (HB.out.cell (World.block_lt_of_cell? w _ hx182_0)).trans hx182_0
       have HR182_0 := Aside0.mk hi182_0
       have HC182_0 := Aside0.mk hl182_0
       clear hi182_0 hl182_0
       replace p182 := eq_true p182
       replace q182 := eq_true q182
       have p183 : 0 ≤ (0 : Int) := (by omega)
       have q183 : 0 < ((rd_L1 l0_1 x5_1).length : Int) := of_decide_eq_true (by first | (with_reducible assumption) | assumption)
       obtain ⟨ad183, e183, hx183_0⟩ := Kd.at_int HR182_0.out 0 p183 q183
       cases e183
       have qi183 : (0 < (rd_L1 l0_1 x5_1).length) = True := eq_true (by omega)
       (try rw [show ((0 : Int)).toNat = 0 from rfl] at hx183_0)
       (try rw [Addr.add_zero'] at hx183_0)
       replace hx183_0 := (HB.out.cell (World.block_lt_of_cell? w _ hx183_0)).trans hx183_0
       replace p183 := eq_true p183
       replace q183 := eq_true q183
       go_wp2
       repeat (go_quiet (fail); try go_wp2)
       go_roundg k1
       case measure => have := HK1.out; omega
       case rel => exact ⟨(wrap64 (x5_1 + 1)), (by first | rfl | (simp; done) | (simp [*]; done)), H', ⟨by have := HK1.out; omega⟩, ⟨by (with_reducible repeat (first | refine blk_drewN ?_ _ | refine blk_drew ?_ | refine blk_alloc ?_ _)); exact BK181.out⟩, ⟨by repeat (first | (with_reducible first | exact HB.out | apply below_alloc | apply pw_below_drewN | apply below_drew1 | refine below_set ?_ GE181.out) | exact HB.out)⟩⟩
      ·rw [if_neg c7] at H
       have c7b0 : decide ((rd (rd_L1 l0_1 x5_1) 0) < a1) = false := decide_eq_false c7
       clear c7
       by_cases c9 : x5_1 = (l0_1.length : Int)
       ·rw [if_pos c9] at H
        have c9b0 : (x5_1 == (l0_1.length : Int)) = true := beq_iff_eq.mpr c9
        have c9b1 : (x5_1 != (l0_1.length : Int)) = false := bne_eq_false_iff_eq.mpr c9
        clear c9
        obtain rfl := Option.some.inj H
        have hcz10_0 : wr.cell? ⟨gb181, 0, none⟩ = some (.string a0_0) := (blk_cell BK181.out 0).trans rfl
        have hcz10_1 : wr.cell? ⟨gb181, 1, none⟩ = some (.slice A0_1 l0_1.length c0_1) := (blk_cell BK181.out 1).trans rfl
        have hfz10_0 := blk_frozen BK181.out 0
        have hfz10_1 := blk_frozen BK181.out 1
        have p182 : 0 ≤ (x5_1 : Int) := of_decide_eq_true (by first | (with_reducible assumption) | assumption)
        have q182 : x5_1 < (l0_1.length : Int) := of_decide_eq_true (by first | (with_reducible assumption) | assumption)
        obtain ⟨ad182, A182_0, c182_0, e182, hx182_0, hl182_0, hi182_0⟩ := at_L1 HR0_1.out x5_1 p182 q182
        cases e182
        replace hx182_0 := (HB.out.cell (World.block_lt_of_cell? w _ hx182_0)).trans hx182_0
        have HR182_0 := Aside0.mk hi182_0
        have HC182_0 := Aside0.mk hl182_0
        clear hi182_0 hl182_0
        replace p182 := eq_true p182
        replace q182 := eq_true q182
        have p183 : 0 ≤ (0 : Int) := (by omega)
        have q183 : 0 < ((rd_L1 l0_1 x5_1).length : Int) := of_decide_eq_true (by first | (with_reducible assumption) | assumption)
        obtain ⟨ad183, e183, hx183_0⟩ := Kd.at_int HR182_0.out 0 p183 q183
        cases e183
        have qi183 : (0 < (rd_L1 l0_1 x5_1).length) = True := eq_true (by omega)
        (try rw [show ((0 : Int)).toNat = 0 from rfl] at hx183_0)
        (try rw [Addr.add_zero'] at hx183_0)
        replace hx183_0 := (HB.out.cell (World.block_lt_of_cell? w _ hx183_0)).trans hx183_0
        replace p183 := eq_true p183
        replace q183 := eq_true q183
        go_wp2
        repeat (go_quiet (fail); try go_wp2)
        go_ret
        exact ⟨by first | rfl | (simp [errW_none, errW_some] <;> rfl) | (simp [*, errW_none, errW_some] <;> rfl), by repeat (first | (with_reducible first | exact HB.out | apply below_alloc | apply pw_below_drewN | apply below_drew1 | refine below_set ?_ GE181.out) | exact HB.out)⟩
       ·rw [if_neg c9] at H
        have c9b0 : (x5_1 == (l0_1.length : Int)) = false := beq_eq_false_iff_ne.mpr c9
        have c9b1 : (x5_1 != (l0_1.length : Int)) = true := bne_iff_ne.mpr c9
        obtain ⟨ji11, hji11⟩ : ∃ j_ : Int, (wrap64 (x5_1 - 1)) = j_ := ⟨_, rfl⟩
        replace H : (if 0 ≤ (ji11) then (if (ji11) < (l0_1.length : Int) then (if 0 < ((rd_L1 l0_1 (ji11)).length : Int) then (if 1 < ((rd_L1 l0_1 (ji11)).length : Int) then (if 1 < ((rd_L1 l0_1 x5_1).length : Int) then ((impl_blend_.f (rd (rd_L1 l0_1 (ji11)) 0) (rd (rd_L1 l0_1 (ji11)) 1) (rd (rd_L1 l0_1 x5_1) 0) (rd (rd_L1 l0_1 x5_1) 1) a1).bind fun t190 => (some t190)) else (none)) else (none)) else (none)) else (none)) else (none)) = some r := by first | (rw [hji11] at H; exact H) | (simp only [hji11] at H ⊢; exact H)
        have hji11w : (IntKind.i64.wrap (x5_1 - 1)) = ji11 := (i64_w _).trans hji11
        by_cases c12 : 0 ≤ (ji11)
        ·rw [if_pos c12] at H
         have c12b0 : decide (0 ≤ (ji11)) = true := decide_eq_true c12
         clear c12
         by_cases c13 : (ji11) < (l0_1.length : Int)
         ·rw [if_pos c13] at H
          have c13b0 : decide ((ji11) < (l0_1.length : Int)) = true := decide_eq_true c13
          clear c13
          by_cases c14 : 0 < ((rd_L1 l0_1 (ji11)).length : Int)
          ·rw [if_pos c14] at H
           have c14b0 : decide (0 < ((rd_L1 l0_1 (ji11)).length : Int)) = true := decide_eq_true c14
           have c14b1 : decide (0 < (rd_L1 l0_1 (ji11)).length) = true := decide_eq_true (by omega)
           clear c14
           by_cases c15 : 1 < ((rd_L1 l0_1 (ji11)).length : Int)
           ·rw [if_pos c15] at H
            have c15b0 : decide (1 < ((rd_L1 l0_1 (ji11)).length : Int)) = true := decide_eq_true c15
            have c15b1 : decide (1 < (rd_L1 l0_1 (ji11)).length) = true := decide_eq_true (by omega)
            clear c15
            by_cases c16 : 1 < ((rd_L1 l0_1 x5_1).length : Int)
            ·rw [if_pos c16] at H
             have c16b0 : decide (1 < ((rd_L1 l0_1 x5_1).length : Int)) = true := decide_eq_true c16
             have c16b1 : decide (1 < (rd_L1 l0_1 x5_1).length) = true := decide_eq_true (by omega)
             clear c16
             replace H := Option.bind_eq_some_iff.mp H
             obtain ⟨t190, A170, H⟩ := H
             replace H : (some t190) = some r := H
             have A17 := Aside0.mk A170
             clear A170
             obtain rfl := Option.some.inj H
             have hcz18_0 : wr.cell? ⟨gb181, 0, none⟩ = some (.string a0_0) := (blk_cell BK181.out 0).trans rfl
             have hcz18_1 : wr.cell? ⟨gb181, 1, none⟩ = some (.slice A0_1 l0_1.length c0_1) := (blk_cell BK181.out 1).trans rfl
             have hfz18_0 := blk_frozen BK181.out 0
             have hfz18_1 := blk_frozen BK181.out 1
             have p182 : 0 ≤ (x5_1 : Int) := of_decide_eq_true (by first | (with_reducible assumption) | assumption)
             have q182 : x5_1 < (l0_1.length : Int) := of_decide_eq_true (by first | (with_reducible assumption) | assumption)
             obtain ⟨ad182, A182_0, c182_0, e182, hx182_0, hl182_0, hi182_0⟩ := at_L1 HR0_1.out x5_1 p182 q182
             cases e182
             replace hx182_0 := (HB.out.cell (World.block_lt_of_cell? w _ hx182_0)).trans hx182_0
             have HR182_0 := Aside0.mk hi182_0
             have HC182_0 := Aside0.mk hl182_0
             clear hi182_0 hl182_0
             replace p182 := eq_true p182
             replace q182 := eq_true q182
             have p183 : 0 ≤ (0 : Int) := (by omega)
             have q183 : 0 < ((rd_L1 l0_1 x5_1).length : Int) := of_decide_eq_true (by first | (with_reducible assumption) | assumption)
             obtain ⟨ad183, e183, hx183_0⟩ := Kd.at_int HR182_0.out 0 p183 q183
             cases e183
             have qi183 : (0 < (rd_L1 l0_1 x5_1).length) = True := eq_true (by omega)
             (try rw [show ((0 : Int)).toNat = 0 from rfl] at hx183_0)
             (try rw [Addr.add_zero'] at hx183_0)
             replace hx183_0 := (HB.out.cell (World.block_lt_of_cell? w _ hx183_0)).trans hx183_0
             replace p183 := eq_true p183
             replace q183 := eq_true q183
             have p184 : 0 ≤ ((ji11) : Int) := of_decide_eq_true (by first | (with_reducible assumption) | assumption)
             have q184 : (ji11) < (l0_1.length : Int) := of_decide_eq_true (by first | (with_reducible assumption) | assumption)
             obtain ⟨ad184, A184_0, c184_0, e184, hx184_0, hl184_0, hi184_0⟩ := at_L1 HR0_1.out (ji11) p184 q184
             obtain rfl : ad182 = ad184 := (by injection e184)
             replace hx184_0 := (HB.out.cell (World.block_lt_of_cell? w _ hx184_0)).trans hx184_0
             have HR184_0 := Aside0.mk hi184_0
             have HC184_0 := Aside0.mk hl184_0
             clear hi184_0 hl184_0
             replace p184 := eq_true p184
             replace q184 := eq_true q184
             have p185 : 0 ≤ (x5_1 : Int) := of_decide_eq_true (by first | (with_reducible assumption) | assumption)
             have q185 : x5_1 < (l0_1.length : Int) := of_decide_eq_true (by first | (with_reducible assumption) | assumption)
             obtain ⟨ad185, A185_0, c185_0, e185, hx185_0, hl185_0, hi185_0⟩ := at_L1 HR0_1.out x5_1 p185 q185
             obtain rfl : ad182 = ad185 := (by injection e185)
             replace hx185_0 := (HB.out.cell (World.block_lt_of_cell? w _ hx185_0)).trans hx185_0
             have HR185_0 := Aside0.mk hi185_0
             have HC185_0 := Aside0.mk hl185_0
             clear hi185_0 hl185_0
             replace p185 := eq_true p185
             replace q185 := eq_true q185
             have ea_ := Option.some.inj (hx182_0.symm.trans hx185_0)
             injection ea_ with ea_ en_ ec_
             subst ea_
             subst ec_
             clear en_
             have p186 : 0 ≤ (0 : Int) := (by omega)
             have q186 : 0 < ((rd_L1 l0_1 (ji11)).length : Int) := of_decide_eq_true (by first | (with_reducible assumption) | assumption)
             obtain ⟨ad186, e186, hx186_0⟩ := Kd.at_int HR184_0.out 0 p186 q186
             cases e186
             have qi186 : (0 < (rd_L1 l0_1 (ji11)).length) = True := eq_true (by omega)
             (try rw [show ((0 : Int)).toNat = 0 from rfl] at hx186_0)
             (try rw [Addr.add_zero'] at hx186_0)
             replace hx186_0 := (HB.out.cell (World.block_lt_of_cell? w _ hx186_0)).trans hx186_0
             replace p186 := eq_true p186
             replace q186 := eq_true q186
             have p187 : 0 ≤ (1 : Int) := (by omega)
             have q187 : 1 < ((rd_L1 l0_1 (ji11)).length : Int) := of_decide_eq_true (by first | (with_reducible assumption) | assumption)
             obtain ⟨ad187, e187, hx187_0⟩ := Kd.at_int HR184_0.out 1 p187 q187
             obtain rfl : ad186 = ad187 := (by injection e187)
             (try simp only [show (1 : Int).toNat = 1 from rfl, Nat.reduceMul, Nat.reduceEqDiff, Go.Addr.add, ↓reduceIte] at hx187_0)
             have qi187 : (1 < (rd_L1 l0_1 (ji11)).length) = True := eq_true (by omega)
             (try rw [show ((1 : Int)).toNat = 1 from rfl] at hx187_0)
             replace hx187_0 := (HB.out.cell (World.block_lt_of_cell? w _ hx187_0)).trans hx187_0
             replace p187 := eq_true p187
             replace q187 := eq_true q187
             have p188 : 0 ≤ (0 : Int) := (by omega)
             have q188 : 0 < ((rd_L1 l0_1 x5_1).length : Int) := of_decide_eq_true (by first | (with_reducible assumption) | assumption)
             obtain ⟨ad188, e188, hx188_0⟩ := Kd.at_int HR185_0.out 0 p188 q188
             cases e188
             have qi188 : (0 < (rd_L1 l0_1 x5_1).length) = True := eq_true (by omega)
             (try rw [show ((0 : Int)).toNat = 0 from rfl] at hx188_0)
             (try rw [Addr.add_zero'] at hx188_0)
             replace hx188_0 := (HB.out.cell (World.block_lt_of_cell? w _ hx188_0)).trans hx188_0
             replace p188 := eq_true p188
             replace q188 := eq_true q188
             have p189 : 0 ≤ (1 : Int) := (by omega)
             have q189 : 1 < ((rd_L1 l0_1 x5_1).length : Int) := of_decide_eq_true (by first | (with_reducible assumption) | assumption)
             obtain ⟨ad189, e189, hx189_0⟩ := Kd.at_int HR185_0.out 1 p189 q189
             cases e189
             (try simp only [show (1 : Int).toNat = 1 from rfl, Nat.reduceMul, Nat.reduceEqDiff, Go.Addr.add, ↓reduceIte] at hx189_0)
             have qi189 : (1 < (rd_L1 l0_1 x5_1).length) = True := eq_true (by omega)
             (try rw [show ((1 : Int)).toNat = 1 from rfl] at hx189_0)
             replace hx189_0 := (HB.out.cell (World.block_lt_of_cell? w _ hx189_0)).trans hx189_0
             replace p189 := eq_true p189
             replace q189 := eq_true q189
             iterate 3 ((try go_quiet (first | (go_at_call 116; (with_reducible refine (impl_blend_.calls (rd (rd_L1 l0_1 (ji11)) 0) (rd (rd_L1 l0_1 (ji11)) 1) (rd (rd_L1 l0_1 x5_1) 0) (rd (rd_L1 l0_1 x5_1) 1) a1 t190 _ A17.out).mono ?_); rintro e w' ⟨rfl, ⟨nd, rfl⟩⟩; (try first | exact ⟨rfl, _, World.drewN_drewN _ _ _⟩ | exact ⟨rfl, _, Eq.trans (World.drewN_drewN _ _ _) (congrArg (World.drewN _) (Nat.add_assoc _ _ _))⟩)))); (try go_wp2_with (first | (go_at_call 116; (with_reducible refine (impl_blend_.calls (rd (rd_L1 l0_1 (ji11)) 0) (rd (rd_L1 l0_1 (ji11)) 1) (rd (rd_L1 l0_1 x5_1) 0) (rd (rd_L1 l0_1 x5_1) 1) a1 t190 _ A17.out).mono ?_); rintro e w' ⟨rfl, ⟨nd, rfl⟩⟩; (try first | exact ⟨rfl, _, World.drewN_drewN _ _ _⟩ | exact ⟨rfl, _, Eq.trans (World.drewN_drewN _ _ _) (congrArg (World.drewN _) (Nat.add_assoc _ _ _))⟩)))))
             go_ret
             exact ⟨by first | rfl | (simp [errW_none, errW_some] <;> rfl) | (simp only [← hji11]; first | rfl | (simp [errW_none, errW_some] <;> rfl)) | (simp [*, errW_none, errW_some] <;> rfl), by repeat (first | (with_reducible first | exact HB.out | apply below_alloc | apply pw_below_drewN | apply below_drew1 | refine below_set ?_ GE181.out) | exact HB.out)⟩
            ·rw [if_neg c16] at H
             exact absurd H (by simp)
           ·rw [if_neg c15] at H
            exact absurd H (by simp)
          ·rw [if_neg c14] at H
           exact absurd H (by simp)
         ·rw [if_neg c13] at H
          exact absurd H (by simp)
        ·rw [if_neg c12] at H
         exact absurd H (by simp)
     ·rw [if_neg c6] at H
      exact absurd H (by simp)
    ·rw [if_neg c5] at H
     exact absurd H (by simp)
   ·rw [if_neg c4] at H
    have c4b0 : decide (x5_1 < (l0_1.length : Int)) = false := decide_eq_false c4
    clear c4
    by_cases c19 : x5_1 = (l0_1.length : Int)
    ·rw [if_pos c19] at H
     have c19b0 : (x5_1 == (l0_1.length : Int)) = true := beq_iff_eq.mpr c19
     have c19b1 : (x5_1 != (l0_1.length : Int)) = false := bne_eq_false_iff_eq.mpr c19
     clear c19
     obtain rfl := Option.some.inj H
     have hcz20_0 : wr.cell? ⟨gb181, 0, none⟩ = some (.string a0_0) := (blk_cell BK181.out 0).trans rfl
     have hcz20_1 : wr.cell? ⟨gb181, 1, none⟩ = some (.slice A0_1 l0_1.length c0_1) := (blk_cell BK181.out 1).trans rfl
     have hfz20_0 := blk_frozen BK181.out 0
     have hfz20_1 := blk_frozen BK181.out 1
     go_wp2
     repeat (go_quiet (fail); try go_wp2)
     go_ret
     exact ⟨by first | rfl | (simp [errW_none, errW_some] <;> rfl) | (simp [*, errW_none, errW_some] <;> rfl), by repeat (first | (with_reducible first | exact HB.out | apply below_alloc | apply pw_below_drewN | apply below_drew1 | refine below_set ?_ GE181.out) | exact HB.out)⟩
    ·rw [if_neg c19] at H
     have c19b0 : (x5_1 == (l0_1.length : Int)) = false := beq_eq_false_iff_ne.mpr c19
     have c19b1 : (x5_1 != (l0_1.length : Int)) = true := bne_iff_ne.mpr c19
     obtain ⟨ji21, hji21⟩ : ∃ j_ : Int, (wrap64 (x5_1 - 1)) = j_ := ⟨_, rfl⟩
     replace H : (if 0 ≤ (ji21) then (if (ji21) < (l0_1.length : Int) then (if 0 ≤ x5_1 then (none) else (none)) else (none)) else (none)) = some r := by first | (rw [hji21] at H; exact H) | (simp only [hji21] at H ⊢; exact H)
     have hji21w : (IntKind.i64.wrap (x5_1 - 1)) = ji21 := (i64_w _).trans hji21
     by_cases c22 : 0 ≤ (ji21)
     ·rw [if_pos c22] at H
      have c22b0 : decide (0 ≤ (ji21)) = true := decide_eq_true c22
      clear c22
      by_cases c23 : (ji21) < (l0_1.length : Int)
      ·rw [if_pos c23] at H
       have c23b0 : decide ((ji21) < (l0_1.length : Int)) = true := decide_eq_true c23
       clear c23
       by_cases c24 : 0 ≤ x5_1
       ·rw [if_pos c24] at H
        exact absurd H (by simp)
       ·rw [if_neg c24] at H
        exact absurd H (by simp)
      ·rw [if_neg c23] at H
       exact absurd H (by simp)
     ·rw [if_neg c22] at H
      exact absurd H (by simp)

open Go.Proofs.YthgfkbkobnfnaaaM
def impl_Pump_head_.f (a0_0 : ByteArray) (l0_1 : List (List Int)) (a1 : Int) : Option Int := if 1 ≤ l0_1.length ∧ l0_1.length ≤ 8 ∧ (∀ j, j < l0_1.length → pointOk l0_1 j = true) then some (headI l0_1 a1) else none
theorem rdL_ih (c : List (List Int)) (i : Nat) : rd_L1 c (i : Int) = c.getD i [] := by unfold rd_L1; rw [Int.toNat_natCast]
theorem head_loopI (s : ByteArray) (c : List (List Int)) (q : Int) (hc : c.length ≤ 8) (hp : ∀ j, j < c.length → pointOk c j = true) : ∀ (d k i : Nat), 1 ≤ i → i ≤ c.length → c.length - i = d → d < k → impl_Pump_head.l0 k q (i : Int) s c = some (headFrom c q d i) := by
  intro d
  induction d with
  | zero =>
    intro k i h0 h1 hd hk
    obtain ⟨k, rfl⟩ : ∃ m, k = m + 1 := ⟨k - 1, by omega⟩
    simp only [impl_Pump_head.l0]; rw [if_neg (by omega), if_pos (by omega)]; rfl
  | succ d ih =>
    intro k i h0 h1 hd hk
    obtain ⟨k, rfl⟩ : ∃ m, k = m + 1 := ⟨k - 1, by omega⟩
    simp only [impl_Pump_head.l0]
    have e1 : wrap64 ((i : Int) - 1) = ((i - 1 : Nat) : Int) := by rw [w64 (by omega) (by omega)]; omega
    have ha := point_len (hp (i - 1) (by omega))
    have hb := point_len (hp i (by omega))
    have ra := point_range (hp (i - 1) (by omega))
    have rb := point_range (hp i (by omega))
    rw [if_pos (by omega), if_pos (by omega), rdL_ih, if_pos (by omega), e1, rdL_ih, rd_0, rd_1, rd_0, rd_1]
    have hs : headFrom c q (d + 1) i = if q ≤ (c.getD i []).getD 0 0 then lineI ((c.getD (i - 1) []).getD 0 0) ((c.getD (i - 1) []).getD 1 0) ((c.getD i []).getD 0 0) ((c.getD i []).getD 1 0) q else headFrom c q d (i + 1) := rfl
    rw [hs]
    by_cases h : (c.getD i []).getD 0 0 < q
    · rw [if_pos h, if_neg (by omega), w64 (x := (i : Int) + 1) (by omega) (by omega), show (i : Int) + 1 = ((i + 1 : Nat) : Int) by omega]
      exact ih k (i + 1) (by omega) (by omega) (by omega) (by omega)
    · rw [if_neg h, if_pos (show q ≤ _ by omega), if_neg (by omega), if_pos (by omega), if_pos (by omega), if_pos (by omega), if_pos (by omega), if_pos (by omega)]
      unfold impl_blend_.f
      rw [if_pos (by omega)]; rfl
theorem impl_Pump_head_.same (s : ByteArray) (c : List (List Int)) (q : Int) (h : 1 ≤ c.length ∧ c.length ≤ 8 ∧ ∀ j, j < c.length → pointOk c j = true) : impl_Pump_head.f 9 s c q = some (headI c q) := by
  unfold impl_Pump_head.f headI
  exact head_loopI s c q h.2.1 h.2.2 (c.length - 1) 9 1 (by omega) (by omega) (by omega) (by omega)
theorem impl_Pump_head_.calls (a0_0 : ByteArray) (A0_1 : Option Addr) (c0_1 : Nat) (l0_1 : List (List Int)) (a1 : Int) (r : Int) (w : World) (hr0_1 : Kd.C (Kd.slice 2 (Kd.int .i64)) w A0_1 l0_1.length l0_1) (hc0_1 : l0_1.length ≤ c0_1) (h : impl_Pump_head_.f a0_0 l0_1 a1 = some r) :
    Calls Try.prog 70 #[.agg #[.string a0_0, .slice A0_1 l0_1.length c0_1], .int .i64 a1] w fun e w' => e = .returned (.int .i64 r) ∧ Below w.heap.size w w' := by
  unfold impl_Pump_head_.f at h
  split at h
  · rename_i hs
    exact impl_Pump_head.calls 9 a0_0 A0_1 c0_1 l0_1 a1 r w hr0_1 hc0_1 (by rw [← h]; exact impl_Pump_head_.same a0_0 l0_1 a1 hs)
  · exact absurd h (by simp)


/-! ### impl_ElectricPower: function 26 -/
def impl_ElectricPower.j0 : Nat → Int → Int → Bool → ByteArray → List (List Int) → Option (Int × Int)
 | 0, _, _, _, _, _ => none
 | k + 1, x1, x2, x12, x193000, x193001 => if x12 = true then (some (0, 2)) else ((impl_Pump_head_.f x193000 x193001 x1).bind fun t196 => ((impl_divRound.f (wrap64 (t196 * x1)) (wrap64 (1000 * x2))).bind fun t197 => (some (t197, 0))))
def impl_ElectricPower.f (k : Nat) (a0_0 : ByteArray) (l0_1 : List (List Int)) (a1 : Int) (a2 : Int) : Option (Int × Int) := (impl_ValidPump_.f a0_0 l0_1).bind fun t193 => (if t193 = true then ((impl_within_.f a1 0 100000).bind fun t194 => (if t194 = true then ((impl_within_.f a2 1 1000).bind fun t195 => (impl_ElectricPower.j0 k a1 a2 (!t195) a0_0 l0_1)) else (impl_ElectricPower.j0 k a1 a2 true a0_0 l0_1))) else (some (0, 1)))
theorem impl_ElectricPower.mono_l : ∀ k, (∀ y0 y1 y2 y3 y4, LeO (impl_ElectricPower.j0 k y0 y1 y2 y3 y4) (impl_ElectricPower.j0 (k + 1) y0 y1 y2 y3 y4))
 | 0 => fun _ _ _ _ _ r h => by simp [impl_ElectricPower.j0] at h
 | k + 1 => by
  have ih0 := impl_ElectricPower.mono_l k
  ·intro y0 y1 y2 y3 y4
   unfold impl_ElectricPower.j0
   repeat' first
   | (with_reducible exact ih0 _ _ _ _ _)
   | (with_reducible exact LeO.refl _)
   | (with_reducible exact LeO.none _)
   | (with_reducible refine LeO.ite ?_ ?_)
   | (with_reducible refine LeO.bind ?_ (fun _ => ?_))
   | exact ih0 _ _ _ _ _
   | exact LeO.none _
   | refine LeO.ite ?_ ?_
   | refine LeO.bind ?_ (fun _ => ?_)
theorem impl_ElectricPower.mono : ∀ a0 a1 a2 a3 k, LeO (impl_ElectricPower.f k a0 a1 a2 a3) (impl_ElectricPower.f (k + 1) a0 a1 a2 a3) := by
 intro a0 a1 a2 a3 k
 have ih0 := impl_ElectricPower.mono_l k
 unfold impl_ElectricPower.f
 repeat' first
   | (with_reducible exact ih0 _ _ _ _ _)
   | (with_reducible exact LeO.refl _)
   | (with_reducible exact LeO.none _)
   | (with_reducible refine LeO.ite ?_ ?_)
   | (with_reducible refine LeO.bind ?_ (fun _ => ?_))
   | exact ih0 _ _ _ _ _
   | exact LeO.none _
   | refine LeO.ite ?_ ?_
   | refine LeO.bind ?_ (fun _ => ?_)
set_option maxHeartbeats 8000000 in
set_option maxRecDepth 100000 in
theorem impl_ElectricPower.calls (k : Nat) (a0_0 : ByteArray) (A0_1 : Option Addr) (c0_1 : Nat) (l0_1 : List (List Int)) (a1 : Int) (a2 : Int) (r1 : Int) (r2 : Int) (w : World) (hr0_1 : Kd.C (Kd.slice 2 (Kd.int .i64)) w A0_1 l0_1.length l0_1) (hc0_1 : l0_1.length ≤ c0_1) (h : impl_ElectricPower.f k a0_0 l0_1 a1 a2 = some (r1, r2)) :
  Calls Try.prog 26 #[.agg #[.string a0_0, .slice A0_1 l0_1.length c0_1], .int .i64 a1, .int .i64 a2] w fun e w' => e = .returned (.tuple #[.int .i64 r1, .int .i64 r2]) ∧ Below w.heap.size w w' := by
 have hu27 := Try.underlying27
 have HR0_1 := Aside0.mk hr0_1
 have HC0_1 := Aside0.mk hc0_1
 clear hr0_1 hc0_1
 have HB := Aside0.mk (Below.refl w.heap.size w)
 have H : ((impl_ValidPump_.f a0_0 l0_1).bind fun t193 => (if t193 = true then ((impl_within_.f a1 0 100000).bind fun t194 => (if t194 = true then ((impl_within_.f a2 1 1000).bind fun t195 => (impl_ElectricPower.j0 k a1 a2 (!t195) a0_0 l0_1)) else (impl_ElectricPower.j0 k a1 a2 true a0_0 l0_1))) else (some (0, 1)))) = some (r1, r2) := h
 clear h
 replace H := Option.bind_eq_some_iff.mp H
 obtain ⟨t193, A40, H⟩ := H
 replace H : (if t193 = true then ((impl_within_.f a1 0 100000).bind fun t194 => (if t194 = true then ((impl_within_.f a2 1 1000).bind fun t195 => (impl_ElectricPower.j0 k a1 a2 (!t195) a0_0 l0_1)) else (impl_ElectricPower.j0 k a1 a2 true a0_0 l0_1))) else (some (0, 1))) = some (r1, r2) := H
 have A4 := Aside0.mk A40
 clear A40
 by_cases c5 : t193 = true
 ·subst c5
  have H1 : ((impl_within_.f a1 0 100000).bind fun t194 => (if t194 = true then ((impl_within_.f a2 1 1000).bind fun t195 => (impl_ElectricPower.j0 k a1 a2 (!t195) a0_0 l0_1)) else (impl_ElectricPower.j0 k a1 a2 true a0_0 l0_1))) = some (r1, r2) := by rw [if_pos rfl] at H; exact H
  clear H
  have H := H1
  clear H1
  have HC6 := Aside0.mk H
  clear H
  go_enter Try.func26, Try.ntmps26
  go_upto_region 3 with (first | ((with_reducible refine gate_dst (N := 3) rfl ?_); refine box_event ?hg (N := 3) ?hd (cs := #[.string a0_0, .slice A0_1 l0_1.length c0_1]) (t := 27) ?hr ?_; (case hd => rfl); (case hg => rfl); (case hr => first | (go_simp; done) | (go_simp; rfl)); intro gb192 hg w7 hbox hb; have n0_ := Aside0.mk (below_step (by repeat (first | (with_reducible first | exact HB.out | apply below_alloc | apply pw_below_drewN | apply below_drew1) | exact HB.out)) hb); have n1_ := Aside0.mk (hbox); have n2_ := Aside0.mk ((by rw [hg]; exact (below_size (by repeat (first | (with_reducible first | exact HB.out | apply below_alloc | apply pw_below_drewN | apply below_drew1) | exact HB.out))) : w.heap.size ≤ gb192)); have n3_ := Aside0.mk ((by rw [hg]; exact (below_size (by repeat (first | (with_reducible first | exact HB.out | apply below_alloc | apply pw_below_drewN | apply below_drew1) | exact HB.out))) : w.heap.size ≤ gb192)); clear HB; have HB := n0_; have BK192 := n1_; have GW192 := n2_; have GE192 := n3_; clear n0_ n1_ n2_ n3_; clear hb hbox hg; have hcz8_0 : w7.cell? ⟨gb192, 0, none⟩ = some (.string a0_0) := (blk_cell BK192.out 0).trans rfl; have hcz8_1 : w7.cell? ⟨gb192, 1, none⟩ = some (.slice A0_1 l0_1.length c0_1) := (blk_cell BK192.out 1).trans rfl; have hfz8_0 := blk_frozen BK192.out 0; have hfz8_1 := blk_frozen BK192.out 1) | ((with_reducible refine gate_callee (f := 22) rfl ?_); refine goesL_ (some 10) rfl rfl Try.func22 (by kernel_rfl) rfl #[.agg #[.string a0_0, .slice A0_1 l0_1.length c0_1]] rfl (by (try simp only [List.map_toArray, List.map_cons, List.map_nil]); first | done | rfl | (simp only [List.length_drop, List.length_take]; rfl)) ?_; (with_reducible refine (impl_ValidPump_.calls a0_0 _ _ l0_1 true _ ?side1 ?side2 A4.out).mono ?_); (case side1 => repeat (first | exact (Kd.C_below HR0_1.out HB.out) | (with_reducible refine Kd.C_alloc ?_ _) | (with_reducible refine Kd.C_drewN ?_ _) | (with_reducible refine Kd.C_drew ?_))); (case side2 => exact HC0_1.out); rintro e w9 ⟨rfl, hb⟩; refine ⟨_, rfl, ?_⟩; have n0_ := Aside0.mk (blk_below (g := gb192) (o := .cells #[.string a0_0, .slice A0_1 l0_1.length c0_1] 27 (0, 0)) (by (with_reducible repeat (first | refine blk_drewN ?_ _ | refine blk_drew ?_ | refine blk_alloc ?_ _)); exact BK192.out) hb); have n1_ := Aside0.mk (below_step (by repeat (first | (with_reducible first | exact HB.out | apply below_alloc | apply pw_below_drewN | apply below_drew1 | refine below_set ?_ GE192.out) | exact HB.out)) hb); clear BK192; clear HB; have BK192 := n0_; have HB := n1_; clear n0_ n1_; (try clear hb); (try clear hb2); (try clear hk); (try clear hi)))
  (try simp only [Act.put, List.setIfInBounds_toArray, List.set_cons_zero, List.set_cons_succ])
  go_cut [12] (fun v12 wc => ∃ (kq : Nat) (x12_5 : Bool), v12 = .bool x12_5 ∧ Aside0 (impl_ElectricPower.j0 kq a1 a2 x12_5 a0_0 l0_1 = some (r1, r2)) ∧ Aside0 (kq ≤ k) ∧ Aside0 (wc.heap[gb192]? = some (.cells #[.string a0_0, (.slice A0_1 l0_1.length c0_1)] 27 (0, 0))) ∧ Aside0 (Below w.heap.size w wc))
  case first =>
   have H := HC6.out
   clear HC6
   replace H := Option.bind_eq_some_iff.mp H
   obtain ⟨t194, A100, H⟩ := H
   replace H : (if t194 = true then ((impl_within_.f a2 1 1000).bind fun t195 => (impl_ElectricPower.j0 k a1 a2 (!t195) a0_0 l0_1)) else (impl_ElectricPower.j0 k a1 a2 true a0_0 l0_1)) = some (r1, r2) := H
   have A10 := Aside0.mk A100
   clear A100
   by_cases c11 : t194 = true
   ·subst c11
    have H1 : ((impl_within_.f a2 1 1000).bind fun t195 => (impl_ElectricPower.j0 k a1 a2 (!t195) a0_0 l0_1)) = some (r1, r2) := by rw [if_pos rfl] at H; exact H
    clear H
    have H := H1
    clear H1
    replace H := Option.bind_eq_some_iff.mp H
    obtain ⟨t195, A120, H⟩ := H
    replace H : (impl_ElectricPower.j0 k a1 a2 (!t195) a0_0 l0_1) = some (r1, r2) := H
    have A12 := Aside0.mk A120
    clear A120
    have H' := Aside0.mk H
    clear H
    go_wp2_with (first | ((with_reducible refine gate_callee (f := 66) rfl ?_); refine goesL_ (some 14) rfl rfl Try.func66 (by kernel_rfl) rfl #[.int .i64 a1, .int .i64 0, .int .i64 100000] rfl (by (try simp only [List.map_toArray, List.map_cons, List.map_nil]); first | done | rfl | (simp only [List.length_drop, List.length_take]; rfl)) ?_; (with_reducible refine (impl_within_.calls a1 0 100000 true _ A10.out).mono ?_); rintro e w' ⟨rfl, ⟨nd, rfl⟩⟩; refine ⟨_, rfl, ?_⟩) | (go_at_call 66; (with_reducible refine (impl_within_.calls a2 1 1000 t195 _ A12.out).mono ?_); rintro e w' ⟨rfl, ⟨nd, rfl⟩⟩))
    go_meet
    case rel => exact ⟨_, (!t195), (by first | rfl | (simp; done) | (simp [*]; done)), H', ⟨by first | omega | exact Nat.le_refl _⟩, ⟨by (with_reducible repeat (first | refine blk_drewN ?_ _ | refine blk_drew ?_ | refine blk_alloc ?_ _)); exact BK192.out⟩, ⟨by repeat (first | (with_reducible first | exact HB.out | apply below_alloc | apply pw_below_drewN | apply below_drew1 | refine below_set ?_ GE192.out) | exact HB.out)⟩⟩
   ·replace c11 := Bool.eq_false_iff.mpr c11
    subst c11
    have H1 : (impl_ElectricPower.j0 k a1 a2 true a0_0 l0_1) = some (r1, r2) := by rw [if_neg (show ¬ (false = true) by decide)] at H; exact H
    clear H
    have H := H1
    clear H1
    have H' := Aside0.mk H
    clear H
    go_wp2_with (first | ((with_reducible refine gate_callee (f := 66) rfl ?_); refine goesL_ (some 14) rfl rfl Try.func66 (by kernel_rfl) rfl #[.int .i64 a1, .int .i64 0, .int .i64 100000] rfl (by (try simp only [List.map_toArray, List.map_cons, List.map_nil]); first | done | rfl | (simp only [List.length_drop, List.length_take]; rfl)) ?_; (with_reducible refine (impl_within_.calls a1 0 100000 false _ A10.out).mono ?_); rintro e w' ⟨rfl, ⟨nd, rfl⟩⟩; refine ⟨_, rfl, ?_⟩))
    go_meet
    case rel => exact ⟨_, (true), (by first | rfl | (simp; done) | (simp [*]; done)), H', ⟨by first | omega | exact Nat.le_refl _⟩, ⟨by (with_reducible repeat (first | refine blk_drewN ?_ _ | refine blk_drew ?_ | refine blk_alloc ?_ _)); exact BK192.out⟩, ⟨by repeat (first | (with_reducible first | exact HB.out | apply below_alloc | apply pw_below_drewN | apply below_drew1 | refine below_set ?_ GE192.out) | exact HB.out)⟩⟩
  case rest =>
   clear HC6
   try clear c1
   try clear c2
   try clear p2
   try clear c5
   try clear c6
   try clear c11
   try clear hcz8_0
   try clear hcz8_1
   try clear hfz8_0
   try clear hfz8_1
   obtain ⟨kq, x12_5, rfl, HA, HJ5, BK192, HB⟩ := hcut
   cases kq with
   | zero => exact absurd HA.out (by simp [impl_ElectricPower.j0])
   | succ kj5 =>
    have H := HA.out
    clear HA
    simp only [impl_ElectricPower.j0] at H
    by_cases c13 : x12_5 = true
    ·subst c13
     have H1 : (some (0, 2)) = some (r1, r2) := by rw [if_pos rfl] at H; exact H
     clear H
     have H := H1
     clear H1
     simp only [Option.some.injEq, Prod.mk.injEq] at H
     obtain ⟨rfl, rfl⟩ := H
     go_wp2
     go_ret2
     exact ⟨by first | rfl | (simp [errW_none, errW_some] <;> rfl) | (simp [*, errW_none, errW_some] <;> rfl), by repeat (first | (with_reducible first | exact HB.out | apply below_alloc | apply pw_below_drewN | apply below_drew1 | refine below_set ?_ GE192.out) | exact HB.out)⟩
    ·replace c13 := Bool.eq_false_iff.mpr c13
     subst c13
     have H1 : ((impl_Pump_head_.f a0_0 l0_1 a1).bind fun t196 => ((impl_divRound.f (wrap64 (t196 * a1)) (wrap64 (1000 * a2))).bind fun t197 => (some (t197, 0)))) = some (r1, r2) := by rw [if_neg (show ¬ (false = true) by decide)] at H; exact H
     clear H
     have H := H1
     clear H1
     replace H := Option.bind_eq_some_iff.mp H
     obtain ⟨t196, A140, H⟩ := H
     replace H : ((impl_divRound.f (wrap64 (t196 * a1)) (wrap64 (1000 * a2))).bind fun t197 => (some (t197, 0))) = some (r1, r2) := H
     have A14 := Aside0.mk A140
     clear A140
     replace H := Option.bind_eq_some_iff.mp H
     obtain ⟨t197, A150, H⟩ := H
     replace H : (some (t197, 0)) = some (r1, r2) := H
     have A15 := Aside0.mk A150
     clear A150
     simp only [Option.some.injEq, Prod.mk.injEq] at H
     obtain ⟨rfl, rfl⟩ := H
     have hcz16_0 : wc.cell? ⟨gb192, 0, none⟩ = some (.string a0_0) := (blk_cell BK192.out 0).trans rfl
     have hcz16_1 : wc.cell? ⟨gb192, 1, none⟩ = some (.slice A0_1 l0_1.length c0_1) := (blk_cell BK192.out 1).trans rfl
     have hfz16_0 := blk_frozen BK192.out 0
     have hfz16_1 := blk_frozen BK192.out 1
     go_wp2_with (first | ((with_reducible refine gate_callee (f := 70) rfl ?_); refine goesL_ (some 23) rfl rfl Try.func70 (by kernel_rfl) rfl #[.agg #[.string a0_0, .slice A0_1 l0_1.length c0_1], .int .i64 a1] rfl (by (try simp only [List.map_toArray, List.map_cons, List.map_nil]); first | done | rfl | (simp only [List.length_drop, List.length_take]; rfl)) ?_; (with_reducible refine (impl_Pump_head_.calls a0_0 _ _ l0_1 a1 t196 _ ?side1 ?side2 A14.out).mono ?_); (case side1 => repeat (first | exact (Kd.C_below HR0_1.out HB.out) | (with_reducible refine Kd.C_alloc ?_ _) | (with_reducible refine Kd.C_drewN ?_ _) | (with_reducible refine Kd.C_drew ?_))); (case side2 => exact HC0_1.out); rintro e w17 ⟨rfl, hb⟩; refine ⟨_, rfl, ?_⟩; have n0_ := Aside0.mk (blk_below (g := gb192) (o := .cells #[.string a0_0, .slice A0_1 l0_1.length c0_1] 27 (0, 0)) (by (with_reducible repeat (first | refine blk_drewN ?_ _ | refine blk_drew ?_ | refine blk_alloc ?_ _)); exact BK192.out) hb); have n1_ := Aside0.mk (below_step (by repeat (first | (with_reducible first | exact HB.out | apply below_alloc | apply pw_below_drewN | apply below_drew1 | refine below_set ?_ GE192.out) | exact HB.out)) hb); clear BK192; clear HB; have BK192 := n0_; have HB := n1_; clear n0_ n1_; (try clear hb); (try clear hb2); (try clear hk); (try clear hi)) | ((with_reducible refine gate_callee (f := 73) rfl ?_); refine goesL_ (some 28) rfl rfl Try.func73 (by kernel_rfl) rfl #[.int .i64 (wrap64 (t196 * a1)), .int .i64 (wrap64 (1000 * a2))] rfl (by (try simp only [List.map_toArray, List.map_cons, List.map_nil]); first | done | rfl | (simp only [List.length_drop, List.length_take]; rfl)) ?_; (with_reducible refine (impl_divRound.calls (wrap64 (t196 * a1)) (wrap64 (1000 * a2)) t197 _ A15.out).mono ?_); rintro e w' ⟨rfl, ⟨nd, rfl⟩⟩; refine ⟨_, rfl, ?_⟩))
     go_ret2
     exact ⟨by first | rfl | (simp [errW_none, errW_some] <;> rfl) | (simp [*, errW_none, errW_some] <;> rfl), by repeat (first | (with_reducible first | exact HB.out | apply below_alloc | apply pw_below_drewN | apply below_drew1 | refine below_set ?_ GE192.out) | exact HB.out)⟩
 ·replace c5 := Bool.eq_false_iff.mpr c5
  subst c5
  have H1 : (some (0, 1)) = some (r1, r2) := by rw [if_neg (show ¬ (false = true) by decide)] at H; exact H
  clear H
  have H := H1
  clear H1
  simp only [Option.some.injEq, Prod.mk.injEq] at H
  obtain ⟨rfl, rfl⟩ := H
  go_enter Try.func26, Try.ntmps26
  go_wp2_with (first | ((with_reducible refine gate_dst (N := 3) rfl ?_); refine box_event ?hg (N := 3) ?hd (cs := #[.string a0_0, .slice A0_1 l0_1.length c0_1]) (t := 27) ?hr ?_; (case hd => rfl); (case hg => rfl); (case hr => first | (go_simp; done) | (go_simp; rfl)); intro gb192 hg w18 hbox hb; have n0_ := Aside0.mk (below_step (by repeat (first | (with_reducible first | exact HB.out | apply below_alloc | apply pw_below_drewN | apply below_drew1) | exact HB.out)) hb); have n1_ := Aside0.mk (hbox); have n2_ := Aside0.mk ((by rw [hg]; exact (below_size (by repeat (first | (with_reducible first | exact HB.out | apply below_alloc | apply pw_below_drewN | apply below_drew1) | exact HB.out))) : w.heap.size ≤ gb192)); have n3_ := Aside0.mk ((by rw [hg]; exact (below_size (by repeat (first | (with_reducible first | exact HB.out | apply below_alloc | apply pw_below_drewN | apply below_drew1) | exact HB.out))) : w.heap.size ≤ gb192)); clear HB; have HB := n0_; have BK192 := n1_; have GW192 := n2_; have GE192 := n3_; clear n0_ n1_ n2_ n3_; clear hb hbox hg; have hcz19_0 : w18.cell? ⟨gb192, 0, none⟩ = some (.string a0_0) := (blk_cell BK192.out 0).trans rfl; have hcz19_1 : w18.cell? ⟨gb192, 1, none⟩ = some (.slice A0_1 l0_1.length c0_1) := (blk_cell BK192.out 1).trans rfl; have hfz19_0 := blk_frozen BK192.out 0; have hfz19_1 := blk_frozen BK192.out 1) | ((with_reducible refine gate_callee (f := 22) rfl ?_); refine goesL_ (some 10) rfl rfl Try.func22 (by kernel_rfl) rfl #[.agg #[.string a0_0, .slice A0_1 l0_1.length c0_1]] rfl (by (try simp only [List.map_toArray, List.map_cons, List.map_nil]); first | done | rfl | (simp only [List.length_drop, List.length_take]; rfl)) ?_; (with_reducible refine (impl_ValidPump_.calls a0_0 _ _ l0_1 false _ ?side1 ?side2 A4.out).mono ?_); (case side1 => repeat (first | exact (Kd.C_below HR0_1.out HB.out) | (with_reducible refine Kd.C_alloc ?_ _) | (with_reducible refine Kd.C_drewN ?_ _) | (with_reducible refine Kd.C_drew ?_))); (case side2 => exact HC0_1.out); rintro e w20 ⟨rfl, hb⟩; refine ⟨_, rfl, ?_⟩; have n0_ := Aside0.mk (blk_below (g := gb192) (o := .cells #[.string a0_0, .slice A0_1 l0_1.length c0_1] 27 (0, 0)) (by (with_reducible repeat (first | refine blk_drewN ?_ _ | refine blk_drew ?_ | refine blk_alloc ?_ _)); exact BK192.out) hb); have n1_ := Aside0.mk (below_step (by repeat (first | (with_reducible first | exact HB.out | apply below_alloc | apply pw_below_drewN | apply below_drew1 | refine below_set ?_ GE192.out) | exact HB.out)) hb); clear BK192; clear HB; have BK192 := n0_; have HB := n1_; clear n0_ n1_; (try clear hb); (try clear hb2); (try clear hk); (try clear hi)))
  go_ret2
  exact ⟨by first | rfl | (simp [errW_none, errW_some] <;> rfl) | (simp [*, errW_none, errW_some] <;> rfl), by repeat (first | (with_reducible first | exact HB.out | apply below_alloc | apply pw_below_drewN | apply below_drew1 | refine below_set ?_ GE192.out) | exact HB.out)⟩

end Go.Proofs.Ythgfkbkobnfnaaa.PFnExactElectricPower
