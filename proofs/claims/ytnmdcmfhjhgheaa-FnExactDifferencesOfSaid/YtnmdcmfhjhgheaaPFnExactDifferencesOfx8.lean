-- Printed by a program of this session (wip/hprint.sh: the kit's print with hand-proved contracts put in); not by print.sh itself.
import Derived.Test.YtnmdcmfhjhgheaaPFnExactDifferencesOfx0
import Derived.Test.YtnmdcmfhjhgheaaPFnExactDifferencesOfx6
import Derived.Test.YtnmdcmfhjhgheaaPFnExactDifferencesOfx7
namespace Go.Proofs.Ytnmdcmfhjhgheaa.PFnExactDifferencesOf
open Go.RowKit Go.Proofs.YtnmdcmfhjhgheaaW.PrintWords Go.Proofs.YtnmdcmfhjhgheaaW.PrintLast Go.Proofs.YtnmdcmfhjhgheaaW.PrintMore Go.Proofs.YtnmdcmfhjhgheaaM
attribute [local go_sem] max2_int min2_int max_two min_two max_three min_three max_four min_four   -- for this text's walks alone
set_option linter.unusedVariables false
set_option linter.unusedSimpArgs false

/-! ### spec_l07Before: function 53 -/
def spec_l07Before.f (l0_0 : List Int) (l0_1 : List (S73)) (a1 : Int) : Option (Int) := if a1 > 0 then (if 0 ≤ (wrap64 (a1 - 1)) then (if (wrap64 (a1 - 1)) < (l0_1.length : Int) then (some ((rd_T73 l0_1 (wrap64 (a1 - 1))).f1)) else (none)) else (none)) else (if 0 ≤ (wrap64 ((wrap64 (-a1)) - 1)) then (if (wrap64 ((wrap64 (-a1)) - 1)) < (l0_1.length : Int) then (some ((rd_T73 l0_1 (wrap64 ((wrap64 (-a1)) - 1))).f2)) else (none)) else (none))
set_option maxHeartbeats 8000000 in
set_option maxRecDepth 100000 in
theorem spec_l07Before.calls (gr0 : Nat) (A0_0 : Option Addr) (c0_0 : Nat) (l0_0 : List Int) (A0_1 : Option Addr) (c0_1 : Nat) (l0_1 : List (S73)) (a1 : Int) (r : Int) (w : World) (hb0 : w.heap[gr0]? = some (.cells #[.slice A0_0 l0_0.length c0_0, .slice A0_1 l0_1.length c0_1] 31 (0, 0))) (hr0_0 : Kd.C (Kd.int .i64) w A0_0 l0_0.length l0_0) (hc0_0 : l0_0.length ≤ c0_0) (hr0_1 : Kd.C k73 w A0_1 l0_1.length l0_1) (hc0_1 : l0_1.length ≤ c0_1) (h : spec_l07Before.f l0_0 l0_1 a1 = some r) :
  Calls Try.prog 53 #[.pointer (some ⟨gr0, 0, none⟩), .int .i64 a1] w fun e w' => e = .returned (.int .i64 r) ∧ Drawn0 w w' := by
 have HR0_0 := Aside0.mk hr0_0
 have HC0_0 := Aside0.mk hc0_0
 clear hr0_0 hc0_0
 have HR0_1 := Aside0.mk hr0_1
 have HC0_1 := Aside0.mk hc0_1
 clear hr0_1 hc0_1
 have BK0 := Aside0.mk hb0
 clear hb0
 unfold spec_l07Before.f at h;have H := h;clear h
 by_cases c3 : a1 > 0
 ·(rw [if_pos c3] at H);have c3b0 : decide (0 < a1) = true := decide_eq_true c3;clear c3;obtain ⟨ji4, hji4⟩ : ∃ j_ : Int, (wrap64 (a1 - 1)) = j_ := ⟨_, rfl⟩;(replace H : (if 0 ≤ (ji4) then (if (ji4) < (l0_1.length : Int) then (some ((rd_T73 l0_1 (ji4)).f1)) else (none)) else (none)) = some r := by first | (rw [hji4] at H; exact H) | (simp only [hji4] at H ⊢; exact H));have hji4w : (IntKind.i64.wrap (a1 - 1)) = ji4 := (i64_w _).trans hji4;obtain ⟨c5b0,H⟩ := pd_ H;obtain ⟨c6b0,H⟩ := pd_ H;obtain rfl := Option.some.inj H;obtain ⟨hcz7_0,hcz7_1,hfz7_0,hfz7_1⟩ := bz2_ w BK0.out;obtain ⟨p247,q247,ad247,e247,hx247_0,hx247_1,hx247_2,hx247_3,hx247_4,hx247_5⟩ := aq_ (at_T73 HR0_1.out (ji4)) z0_ z0_;cases e247;go_enter Try.func53, Try.ntmps53;go_wp2;go_ret;exact ⟨by first | rfl | (simp; done) | (simp only [← hji4] <;> (first | rfl | simp)) | (simp [*]; done), z11_⟩
 ·(rw [if_neg c3] at H);have c3b0 : decide (0 < a1) = false := decide_eq_false c3;clear c3;obtain ⟨ji8, hji8⟩ : ∃ j_ : Int, (wrap64 ((wrap64 (-a1)) - 1)) = j_ := ⟨_, rfl⟩;(replace H : (if 0 ≤ (ji8) then (if (ji8) < (l0_1.length : Int) then (some ((rd_T73 l0_1 (ji8)).f2)) else (none)) else (none)) = some r := by first | (rw [hji8] at H; exact H) | (simp only [hji8] at H ⊢; exact H));have hji8w : (IntKind.i64.wrap ((wrap64 (-a1)) - 1)) = ji8 := (i64_w _).trans hji8;obtain ⟨c9b0,H⟩ := pd_ H;obtain ⟨c10b0,H⟩ := pd_ H;obtain rfl := Option.some.inj H;obtain ⟨hcz11_0,hcz11_1,hfz11_0,hfz11_1⟩ := bz2_ w BK0.out;obtain ⟨p248,q248,ad248,e248,hx248_0,hx248_1,hx248_2,hx248_3,hx248_4,hx248_5⟩ := aq_ (at_T73 HR0_1.out (ji8)) z0_ z0_;cases e248;go_enter Try.func53, Try.ntmps53;go_wp2;go_ret;exact ⟨by first | rfl | (simp; done) | (simp only [← hji8] <;> (first | rfl | simp)) | (simp [*]; done), z11_⟩

/-! ### spec_l00Max: function 46 -/
def spec_l00Max.f (a0 : Int) (a1 : Int) : Option (Int) := if a0 > a1 then (some a0) else (some a1)
set_option maxHeartbeats 8000000 in
set_option maxRecDepth 100000 in
theorem spec_l00Max.calls (a0 : Int) (a1 : Int) (r : Int) (w : World) (h : spec_l00Max.f a0 a1 = some r) :
  Calls Try.prog 46 #[.int .i64 a0, .int .i64 a1] w fun e w' => e = .returned (.int .i64 r) ∧ Drawn0 w w' := by
 unfold spec_l00Max.f at h;have H := h;clear h
 by_cases c3 : a0 > a1
 ·(rw [if_pos c3] at H);have c3b0 : decide (a1 < a0) = true := decide_eq_true c3;clear c3;obtain rfl := Option.some.inj H;go_enter Try.func46, Try.ntmps46;go_wp2;go_ret;exact ⟨z8_, z11_⟩
 ·(rw [if_neg c3] at H);have c3b0 : decide (a1 < a0) = false := decide_eq_false c3;clear c3;obtain rfl := Option.some.inj H;go_enter Try.func46, Try.ntmps46;go_wp2;go_ret;exact ⟨z8_, z11_⟩

/-! ### spec_l03Abs: function 90 -/
def spec_l03Abs.f (a0 : Int) : Option (Int) := (spec_l00Max.f a0 (wrap64 (-a0))).bind fun t249 => (some t249)
set_option maxHeartbeats 8000000 in
set_option maxRecDepth 100000 in
theorem spec_l03Abs.calls (a0 : Int) (r : Int) (w : World) (h : spec_l03Abs.f a0 = some r) :
  Calls Try.prog 90 #[.int .i64 a0] w fun e w' => e = .returned (.int .i64 r) ∧ Drawn0 w w' := by
 unfold spec_l03Abs.f at h;have H := h;clear h
 replace H := Option.bind_eq_some_iff.mp H
 obtain ⟨t249, A20, H⟩ := H
 have A2 := Aside0.mk A20
 clear A20
 obtain rfl := Option.some.inj H
 go_enter Try.func90, Try.ntmps90
 go_wp2_with (first | ((with_reducible refine gate_callee (f := 46) rfl ?_); refine goesL_ (some 6) rfl rfl Try.func46 (z14_) rfl #[.int .i64 a0, .int .i64 (wrap64 (-a0))] rfl (z1_) ?_; (with_reducible refine (spec_l00Max.calls a0 (wrap64 (-a0)) t249 _ A2.out).mono ?_); rintro e w' ⟨rfl, ⟨nd, rfl⟩⟩; refine ⟨_, rfl, ?_⟩))
 go_ret
 exact ⟨z8_, z11_⟩

open Go.Proofs.YtnmdcmfhjhgheaaM
def spec_l03Abs_.f (a0 : Int) : Option Int := if -9223372036854775808 < a0 ∧ a0 ≤ 9223372036854775807 then some (absI a0) else none
theorem spec_l03Abs_.calls (a0 : Int) (r : Int) (w : World) (h : spec_l03Abs_.f a0 = some r) :
    Calls Try.prog 90 #[.int .i64 a0] w fun e w' => e = .returned (.int .i64 r) ∧ Drawn0 w w' := by
  unfold spec_l03Abs_.f at h
  split at h
  · rename_i hc
    refine spec_l03Abs.calls a0 r w ?_
    rw [← h]
    unfold spec_l03Abs.f spec_l00Max.f
    rw [w64 (by omega) (by omega)]
    by_cases c : a0 < 0
    · first | (rw [if_pos (by omega)]; simp [absI, c]; done) | (rw [if_neg (by omega)]; simp [absI, c]; done)
    · by_cases c' : a0 = 0
      · subst c'; simp [absI]
      · first | (rw [if_pos (by omega)]; simp [absI, c]; done) | (rw [if_neg (by omega)]; simp [absI, c]; done)
  · exact absurd h (by simp)

/-! ### spec_l01Div: function 91 -/
def spec_l01Div.f (a0 : Int) (a1 : Int) : Option (Int) := if a1 < 0 then (if (wrap64 (-a0)) < 0 then (if (wrap64 (2 * (wrap64 (-a1)))) = 0 then (none) else (some (wrap64 (-(wrap64 (Int.tdiv (wrap64 ((wrap64 (-a1)) - (wrap64 (2 * (wrap64 (-a0)))))) (wrap64 (2 * (wrap64 (-a1)))))))))) else (if (wrap64 (2 * (wrap64 (-a1)))) = 0 then (none) else (some (wrap64 (Int.tdiv (wrap64 ((wrap64 (2 * (wrap64 (-a0)))) + (wrap64 (-a1)))) (wrap64 (2 * (wrap64 (-a1))))))))) else (if a0 < 0 then (if (wrap64 (2 * a1)) = 0 then (none) else (some (wrap64 (-(wrap64 (Int.tdiv (wrap64 (a1 - (wrap64 (2 * a0)))) (wrap64 (2 * a1)))))))) else (if (wrap64 (2 * a1)) = 0 then (none) else (some (wrap64 (Int.tdiv (wrap64 ((wrap64 (2 * a0)) + a1)) (wrap64 (2 * a1)))))))
set_option maxHeartbeats 8000000 in
set_option maxRecDepth 100000 in
theorem spec_l01Div.calls (a0 : Int) (a1 : Int) (r : Int) (w : World) (h : spec_l01Div.f a0 a1 = some r) :
  Calls Try.prog 91 #[.int .i64 a0, .int .i64 a1] w fun e w' => e = .returned (.int .i64 r) ∧ Drawn0 w w' := by
 unfold spec_l01Div.f at h;have H := h;clear h
 by_cases c3 : a1 < 0
 ·(rw [if_pos c3] at H);have c3b0 := decide_eq_true c3;clear c3;by_cases c4 : (wrap64 (-a0)) < 0
  ·(rw [if_pos c4] at H);have c4b0 := decide_eq_true c4;clear c4;by_cases c5 : (wrap64 (2 * (wrap64 (-a1)))) = 0
   ·(rw [if_pos c5] at H);exact absurd H (by simp)
   ·(rw [if_neg c5] at H);have c5b0 : ((wrap64 (2 * (wrap64 (-a1)))) == 0) = false := beq_eq_false_iff_ne.mpr c5;have c5b1 : ((wrap64 (2 * (wrap64 (-a1)))) != 0) = true := bne_iff_ne.mpr c5;obtain rfl := Option.some.inj H;go_enter Try.func91, Try.ntmps91;go_wp2;go_ret;exact ⟨z8_, z11_⟩
  ·(rw [if_neg c4] at H);have c4b0 := decide_eq_false c4;clear c4;by_cases c6 : (wrap64 (2 * (wrap64 (-a1)))) = 0
   ·(rw [if_pos c6] at H);exact absurd H (by simp)
   ·(rw [if_neg c6] at H);have c6b0 : ((wrap64 (2 * (wrap64 (-a1)))) == 0) = false := beq_eq_false_iff_ne.mpr c6;have c6b1 : ((wrap64 (2 * (wrap64 (-a1)))) != 0) = true := bne_iff_ne.mpr c6;obtain rfl := Option.some.inj H;go_enter Try.func91, Try.ntmps91;go_wp2;go_ret;exact ⟨z8_, z11_⟩
 ·(rw [if_neg c3] at H);have c3b0 := decide_eq_false c3;clear c3;by_cases c7 : a0 < 0
  ·(rw [if_pos c7] at H);have c7b0 := decide_eq_true c7;clear c7;by_cases c8 : (wrap64 (2 * a1)) = 0
   ·(rw [if_pos c8] at H);exact absurd H (by simp)
   ·(rw [if_neg c8] at H);have c8b0 : ((wrap64 (2 * a1)) == 0) = false := beq_eq_false_iff_ne.mpr c8;have c8b1 : ((wrap64 (2 * a1)) != 0) = true := bne_iff_ne.mpr c8;obtain rfl := Option.some.inj H;go_enter Try.func91, Try.ntmps91;go_wp2;go_ret;exact ⟨z8_, z11_⟩
  ·(rw [if_neg c7] at H);have c7b0 := decide_eq_false c7;clear c7;by_cases c9 : (wrap64 (2 * a1)) = 0
   ·(rw [if_pos c9] at H);exact absurd H (by simp)
   ·(rw [if_neg c9] at H);have c9b0 : ((wrap64 (2 * a1)) == 0) = false := beq_eq_false_iff_ne.mpr c9;have c9b1 : ((wrap64 (2 * a1)) != 0) = true := bne_iff_ne.mpr c9;obtain rfl := Option.some.inj H;go_enter Try.func91, Try.ntmps91;go_wp2;go_ret;exact ⟨z8_, z11_⟩

open Go.Proofs.YtnmdcmfhjhgheaaM
def spec_l01Div_.f (a0 a1 : Int) : Option Int := if a1 ≠ 0 ∧ -2305843009213693952 ≤ a0 ∧ a0 ≤ 2305843009213693952 ∧ -2305843009213693952 ≤ a1 ∧ a1 ≤ 2305843009213693952 then some (rdiv a0 a1) else none
theorem spec_l01Div_.calls (a0 a1 : Int) (r : Int) (w : World) (h : spec_l01Div_.f a0 a1 = some r) :
    Calls Try.prog 91 #[.int .i64 a0, .int .i64 a1] w fun e w' => e = .returned (.int .i64 r) ∧ Drawn0 w w' := by
  unfold spec_l01Div_.f at h
  split at h
  · rename_i hc
    obtain ⟨hb, h1, h2, h3, h4⟩ := hc
    exact spec_l01Div.calls a0 a1 r w (by rw [← h]; exact spec_div a0 a1 hb h1 h2 h3 h4)
  · exact absurd h (by simp)


/-! ### spec_l03Raw: function 89 -/
open Go.Proofs.YtnmdcmfhjhgheaaM
set_option maxHeartbeats 2000000 in
set_option maxRecDepth 100000 in
/-- l03Raw of a pipe anywhere in memory. -/
theorem l03Raw_addr (p : Addr) (l d q : Int) (w : World) (h1 : 1 ≤ l) (h2 : l ≤ 10000) (h3 : 20 ≤ d) (h4 : d ≤ 1000) (h5 : -100000 ≤ q) (h6 : q ≤ 100000) (c3 : w.cell? ⟨p.block, p.off + 3, none⟩ = some (.int .i64 l)) :
    Calls Try.prog 89 #[.pointer (some p), .int .i64 d, .int .i64 q] w fun e w' => e = .returned (.int .i64 (dropI l d q)) ∧ Drawn0 w w' := by
  have A := Aside0.mk (show spec_l03Abs_.f q = some (absI q) by unfold spec_l03Abs_.f; rw [if_pos (by omega)])
  have B := Aside0.mk (show spec_l01Div_.f (wrap64 ((wrap64 ((wrap64 (l * 16200)) * q)) * absI q)) (wrap64 ((wrap64 ((wrap64 ((wrap64 (d * d)) * d)) * d)) * d)) = some (dropI l d q) by
    rw [drop_num_w h1 h2 h5 h6, drop_den_w h3 h4]
    have := drop_num h1 h2 h5 h6
    have := drop_den h3 h4
    unfold spec_l01Div_.f dropI
    rw [if_pos (by omega)])
  generalize dropI l d q = r at B
  generalize absI q = s at A B
  clear h1 h2 h3 h4 h5 h6
  go_enter Try.func89, Try.ntmps89
  go_wp2_with fail
  go_quiet ((first | (go_at_call 90; refine Calls.quiet_of (v := .int .i64 s) ?_; (with_reducible refine (spec_l03Abs_.calls q s _ A.out).mono ?_); exact fun e w' hd => ⟨hd.1, hd.2.out⟩) | (go_at_call 91; refine Calls.quiet_of (v := .int .i64 r) ?_; (with_reducible refine (spec_l01Div_.calls _ _ r _ B.out).mono ?_); exact fun e w' hd => ⟨hd.1, hd.2.out⟩)))
  go_wp2
  go_ret
  exact ⟨z155_, z11_⟩


/-! ### spec_l03Drop: function 69 -/
open Go.Proofs.YtnmdcmfhjhgheaaM
set_option maxHeartbeats 2000000 in
set_option maxRecDepth 100000 in
/-- l03Drop of a pipe anywhere in memory. -/
theorem l03Drop_addr (p : Addr) (l d q : Int) (w : World) (h1 : 1 ≤ l) (h2 : l ≤ 10000) (h3 : 20 ≤ d) (h4 : d ≤ 1000) (h5 : -100000 ≤ q) (h6 : q ≤ 100000) (c3 : w.cell? ⟨p.block, p.off + 3, none⟩ = some (.int .i64 l)) (c4 : w.cell? ⟨p.block, p.off + 4, none⟩ = some (.int .i64 d)) :
    Calls Try.prog 69 #[.pointer (some p), .int .i64 q] w fun e w' => e = .returned (.tuple #[.int .i64 (if absI (dropI l d q) > 100000000 then 0 else dropI l d q), .int .i64 (if absI (dropI l d q) > 100000000 then 6 else 0)]) ∧ Drawn0 w w' := by
  have hR := Aside0.mk (fun w => l03Raw_addr p l d q w h1 h2 h3 h4 h5 h6)
  have hb := drop_bound (d := d) h1 h2 h5 h6
  generalize dropI l d q = r at hR hb ⊢
  have A := Aside0.mk (show spec_l03Abs_.f r = some (absI r) by unfold spec_l03Abs_.f; rw [if_pos (by omega)])
  generalize absI r = s at A ⊢
  clear h1 h2 h3 h4 h5 h6 hb
  by_cases c : s > 100000000
  · rw [if_pos c, if_pos c]
    have cb : decide (100000000 < s) = true := decide_eq_true c
    clear c
    go_enter Try.func69, Try.ntmps69
    go_wp2_with (first | (go_at_call 89; (refine (hR.out _ ?side1).mono ?_); (case side1 => exact z188_); rintro e w' ⟨rfl, ⟨nd, rfl⟩⟩) | (go_at_call 90; (with_reducible refine (spec_l03Abs_.calls r s _ A.out).mono ?_); rintro e w' ⟨rfl, ⟨nd, rfl⟩⟩))
    go_ret2
    exact ⟨z155_, z11_⟩
  · rw [if_neg c, if_neg c]
    have cb : decide (100000000 < s) = false := decide_eq_false c
    clear c
    go_enter Try.func69, Try.ntmps69
    go_wp2_with (first | (go_at_call 89; (refine (hR.out _ ?side1).mono ?_); (case side1 => exact z188_); rintro e w' ⟨rfl, ⟨nd, rfl⟩⟩) | (go_at_call 90; (with_reducible refine (spec_l03Abs_.calls r s _ A.out).mono ?_); rintro e w' ⟨rfl, ⟨nd, rfl⟩⟩))
    go_ret2
    exact ⟨z155_, z11_⟩
def spec_l03Drop.f (l0_0 : List Int) (l0_1 : List S73) (a1 a2 : Int) : Option (Int × Int) := if (0 ≤ a1 ∧ a1 < (l0_1.length : Int)) ∧ (1 ≤ (rd_T73 l0_1 a1).f3 ∧ (rd_T73 l0_1 a1).f3 ≤ 10000) ∧ (20 ≤ (rd_T73 l0_1 a1).f4 ∧ (rd_T73 l0_1 a1).f4 ≤ 1000) ∧ -100000 ≤ a2 ∧ a2 ≤ 100000 then some (if absI (dropI (rd_T73 l0_1 a1).f3 (rd_T73 l0_1 a1).f4 a2) > 100000000 then 0 else dropI (rd_T73 l0_1 a1).f3 (rd_T73 l0_1 a1).f4 a2, if absI (dropI (rd_T73 l0_1 a1).f3 (rd_T73 l0_1 a1).f4 a2) > 100000000 then 6 else 0) else none
/-- The pipe is told by its number: the pointer is that of an element of the network's list. -/
theorem spec_l03Drop.calls (gr0 : Nat) (A0_0 : Option Addr) (c0_0 : Nat) (l0_0 : List Int) (A0_1 : Option Addr) (c0_1 : Nat) (l0_1 : List (S73)) (a1 a2 : Int) (r1 r2 : Int) (w : World) (hb0 : w.heap[gr0]? = some (.cells #[.slice A0_0 l0_0.length c0_0, .slice A0_1 l0_1.length c0_1] 31 (0, 0))) (hr0_0 : Kd.C (Kd.int .i64) w A0_0 l0_0.length l0_0) (hc0_0 : l0_0.length ≤ c0_0) (hr0_1 : Kd.C k73 w A0_1 l0_1.length l0_1) (hc0_1 : l0_1.length ≤ c0_1) (h : spec_l03Drop.f l0_0 l0_1 a1 a2 = some (r1, r2)) :
    Calls Try.prog 69 #[.pointer (A0_1.map fun ad => ad.add (a1.toNat * 6)), .int .i64 a2] w fun e w' => e = .returned (.tuple #[.int .i64 r1, .int .i64 r2]) ∧ Drawn0 w w' := by
  unfold spec_l03Drop.f at h
  split at h
  · rename_i hc
    simp only [Option.some.injEq, Prod.mk.injEq] at h
    obtain ⟨rfl, rfl⟩ := h
    obtain ⟨ad, e, _, _, _, x3, x4, _⟩ := at_T73 hr0_1 a1 hc.1.1 hc.1.2
    cases e
    exact l03Drop_addr (ad.add (a1.toNat * 6)) _ _ a2 w hc.2.1.1 hc.2.1.2 hc.2.2.1.1 hc.2.2.1.2 hc.2.2.2.1 hc.2.2.2.2 x3 x4
  · exact absurd h (by simp)


/-! ### spec_l07Pipe: function 70 -/
open Go.Proofs.YtnmdcmfhjhgheaaM
def spec_l07Pipe.f (l0_0 : List Int) (l0_1 : List S73) (a1 : Int) : Option Int := if (-1048576 ≤ a1 ∧ a1 ≤ 1048576) ∧ 0 ≤ absI a1 - 1 ∧ absI a1 - 1 < (l0_1.length : Int) then some (absI a1 - 1) else none
set_option maxHeartbeats 2000000 in
set_option maxRecDepth 100000 in
/-- The pointer to the pipe of a way is told by the pipe's number. -/
theorem spec_l07Pipe.calls (gr0 : Nat) (A0_0 : Option Addr) (c0_0 : Nat) (l0_0 : List Int) (A0_1 : Option Addr) (c0_1 : Nat) (l0_1 : List (S73)) (a1 : Int) (r : Int) (w : World) (hb0 : w.heap[gr0]? = some (.cells #[.slice A0_0 l0_0.length c0_0, .slice A0_1 l0_1.length c0_1] 31 (0, 0))) (hr0_0 : Kd.C (Kd.int .i64) w A0_0 l0_0.length l0_0) (hc0_0 : l0_0.length ≤ c0_0) (hr0_1 : Kd.C k73 w A0_1 l0_1.length l0_1) (hc0_1 : l0_1.length ≤ c0_1) (h : spec_l07Pipe.f l0_0 l0_1 a1 = some r) :
    Calls Try.prog 70 #[.pointer (some ⟨gr0, 0, none⟩), .int .i64 a1] w fun e w' => e = .returned (.pointer (A0_1.map fun ad => ad.add (r.toNat * 6))) ∧ Drawn0 w w' := by
  unfold spec_l07Pipe.f at h
  split at h
  case isFalse => exact absurd h (by simp)
  rename_i hc
  obtain ⟨⟨b0, b1⟩, p0, q0⟩ := hc;obtain rfl := Option.some.inj h;have A := Aside0.mk (show spec_l03Abs_.f a1 = some (absI a1) by unfold spec_l03Abs_.f; rw [if_pos (by omega)]);(have hs : absI a1 ≤ 1048576 := by unfold absI; split <;> omega);clear h;(generalize absI a1 = s at A hs p0 q0 ⊢);obtain ⟨j, hj⟩ : ∃ j, s - 1 = j := ⟨_, rfl⟩;have hjw : IntKind.i64.wrap (s - 1) = j := (i64_w _).trans ((w64 (by omega) (by omega)).trans hj);(rw [hj] at p0 q0 ⊢);clear hj b0 b1 hs;have hcz0 : w.cell? ⟨gr0, 0, none⟩ = some (.slice A0_0 l0_0.length c0_0) := (blk_cell hb0 0).trans rfl;have hcz1 : w.cell? ⟨gr0, 1, none⟩ = some (.slice A0_1 l0_1.length c0_1) := (blk_cell hb0 1).trans rfl;have hfz0 := blk_frozen hb0 0;have hfz1 := blk_frozen hb0 1;obtain ⟨ad, e, _, _, _, _, _, _⟩ := at_T73 hr0_1 j p0 q0
  cases e
  clear hr0_0 hr0_1 hc0_0 hc0_1 hb0;replace p0 := eq_true p0;replace q0 := eq_true q0;go_enter Try.func70, Try.ntmps70
  go_wp2_with fail
  go_quiet ((go_at_call 90; refine Calls.quiet_of (v := .int .i64 s) ?_; (with_reducible refine (spec_l03Abs_.calls a1 s _ A.out).mono ?_); exact fun e w' hd => ⟨hd.1, hd.2.out⟩))
  go_wp2;go_ret;exact ⟨z8_, z11_⟩

/-! ### spec_l07Along: function 71 -/
def spec_l07Along.f (l0 : List Int) (a1 : Int) : Option (Int) := if a1 > 0 then (if 0 ≤ (wrap64 (a1 - 1)) then (if (wrap64 (a1 - 1)) < (l0.length : Int) then (some (rd l0 (wrap64 (a1 - 1)))) else (none)) else (none)) else (if 0 ≤ (wrap64 ((wrap64 (-a1)) - 1)) then (if (wrap64 ((wrap64 (-a1)) - 1)) < (l0.length : Int) then (some (wrap64 (-(rd l0 (wrap64 ((wrap64 (-a1)) - 1)))))) else (none)) else (none))
set_option maxHeartbeats 8000000 in
set_option maxRecDepth 100000 in
theorem spec_l07Along.calls (A0 : Option Addr) (c0 : Nat) (l0 : List Int) (a1 : Int) (r : Int) (w : World) (hr0 : Kd.C (Kd.int .i64) w A0 l0.length l0) (hc0 : l0.length ≤ c0) (h : spec_l07Along.f l0 a1 = some r) :
  Calls Try.prog 71 #[.slice A0 l0.length c0, .int .i64 a1] w fun e w' => e = .returned (.int .i64 r) ∧ Drawn0 w w' := by
 have HR0 := Aside0.mk hr0
 have HC0 := Aside0.mk hc0
 clear hr0 hc0
 unfold spec_l07Along.f at h;have H := h;clear h
 by_cases c3 : a1 > 0
 ·(rw [if_pos c3] at H);have c3b0 : decide (0 < a1) = true := decide_eq_true c3;clear c3;obtain ⟨ji4, hji4⟩ : ∃ j_ : Int, (wrap64 (a1 - 1)) = j_ := ⟨_, rfl⟩;(replace H : (if 0 ≤ (ji4) then (if (ji4) < (l0.length : Int) then (some (rd l0 (ji4))) else (none)) else (none)) = some r := by first | (rw [hji4] at H; exact H) | (simp only [hji4] at H ⊢; exact H));have hji4w : (IntKind.i64.wrap (a1 - 1)) = ji4 := (i64_w _).trans hji4;obtain ⟨c5b0,H⟩ := pd_ H;obtain ⟨c6b0,H⟩ := pd_ H;obtain rfl := Option.some.inj H;obtain ⟨p250,q250,ad250,e250,hx250_0⟩ := aq_ (Kd.at_int HR0.out (ji4)) z0_ z0_;cases e250;go_enter Try.func71, Try.ntmps71;go_wp2;go_ret;exact ⟨by first | rfl | (simp; done) | (simp only [← hji4] <;> (first | rfl | simp)) | (simp [*]; done), z11_⟩
 ·(rw [if_neg c3] at H);have c3b0 : decide (0 < a1) = false := decide_eq_false c3;clear c3;obtain ⟨ji7, hji7⟩ : ∃ j_ : Int, (wrap64 ((wrap64 (-a1)) - 1)) = j_ := ⟨_, rfl⟩;(replace H : (if 0 ≤ (ji7) then (if (ji7) < (l0.length : Int) then (some (wrap64 (-(rd l0 (ji7))))) else (none)) else (none)) = some r := by first | (rw [hji7] at H; exact H) | (simp only [hji7] at H ⊢; exact H));have hji7w : (IntKind.i64.wrap ((wrap64 (-a1)) - 1)) = ji7 := (i64_w _).trans hji7;obtain ⟨c8b0,H⟩ := pd_ H;obtain ⟨c9b0,H⟩ := pd_ H;obtain rfl := Option.some.inj H;obtain ⟨p251,q251,ad251,e251,hx251_0⟩ := aq_ (Kd.at_int HR0.out (ji7)) z0_ z0_;cases e251;go_enter Try.func71, Try.ntmps71;go_wp2;go_ret;exact ⟨by first | rfl | (simp; done) | (simp only [← hji7] <;> (first | rfl | simp)) | (simp [*]; done), z11_⟩

/-! ### spec_l07Differences: function 37 -/
def spec_l07Differences.l0 : Nat → List Int → List Int → List Int → List Int → Int → List Int → List (S73) → Option (List Int × Bool)
 | 0, _, _, _, _, _, _, _ => none
 | k + 1, x2, x10, x11, x12, x13, x1000, x1001 => if x13 < (x10.length : Int) then (if 0 ≤ x13 then (if 0 ≤ (rd x10 x13) then (if (rd x10 x13) < (x11.length : Int) then ((spec_l07Pipe.f x1000 x1001 (rd x11 (rd x10 x13))).bind fun t264 => ((spec_l07Along.f x2 (rd x11 (rd x10 x13))).bind fun t266 => ((spec_l03Drop.f x1000 x1001 t264 t266).bind fun bt267 => (if bt267.2 = 0 then ((spec_l07Before.f x1000 x1001 (rd x11 (rd x10 x13))).bind fun t270 => (if 0 ≤ t270 then (if t270 < (x12.length : Int) then (if (rd x10 x13) < (x12.length : Int) then (spec_l07Differences.l0 k x2 x10 x11 (x12.set ((rd x10 x13) : Int).toNat (wrap64 ((rd x12 t270) - (wrap64 (2 * bt267.1))))) (wrap64 (x13 + 1)) x1000 x1001) else (none)) else (none)) else (none))) else (some (([] : List Int), false)))))) else (none)) else (none)) else (none)) else (some (x12, true))
def spec_l07Differences.f (k : Nat) (l0_0 : List Int) (l0_1 : List (S73)) (a1 : Int) (l2 : List Int) (a3 : Int) : Option (List Int × Bool) := (spec_l07Order.f k l0_0 l0_1 a1).bind fun bt252 => (if 0 ≤ (l0_0.length : Int) then (if ((l0_0.length : Int) : Int).toNat ≤ 35184372088832 then ((some (List.replicate ((l0_0.length : Int) : Int).toNat 0 : List Int)).bind fun y258 => (if 0 ≤ a1 then (if a1 < (y258.length : Int) then (spec_l07Differences.l0 k l2 bt252.1 bt252.2 (y258.set (a1 : Int).toNat a3) 1 l0_0 l0_1) else (none)) else (none))) else (none)) else (none))
theorem spec_l07Differences.mono_l : ∀ k, (∀ y0 y1 y2 y3 y4 y5 y6, LeO (spec_l07Differences.l0 k y0 y1 y2 y3 y4 y5 y6) (spec_l07Differences.l0 (k + 1) y0 y1 y2 y3 y4 y5 y6))
 | 0 => fun _ _ _ _ _ _ _ r h => by simp [spec_l07Differences.l0] at h
 | k + 1 => by
  have ih0 := spec_l07Differences.mono_l k
  ·intro y0 y1 y2 y3 y4 y5 y6
   unfold spec_l07Differences.l0
   exact z219_
theorem spec_l07Differences.mono : ∀ a0 a1 a2 a3 a4 k, LeO (spec_l07Differences.f k a0 a1 a2 a3 a4) (spec_l07Differences.f (k + 1) a0 a1 a2 a3 a4) := by
 intro a0 a1 a2 a3 a4 k
 have ih0 := spec_l07Differences.mono_l k
 unfold spec_l07Differences.f
 exact z219_
set_option maxHeartbeats 8000000 in
set_option maxRecDepth 100000 in
theorem spec_l07Differences.calls (k : Nat) (gr0 : Nat) (A0_0 : Option Addr) (c0_0 : Nat) (l0_0 : List Int) (A0_1 : Option Addr) (c0_1 : Nat) (l0_1 : List (S73)) (a1 : Int) (A2 : Option Addr) (c2 : Nat) (l2 : List Int) (a3 : Int) (r1 : List Int) (r2 : Bool) (w : World) (hb0 : w.heap[gr0]? = some (.cells #[.slice A0_0 l0_0.length c0_0, .slice A0_1 l0_1.length c0_1] 31 (0, 0))) (hr0_0 : Kd.C (Kd.int .i64) w A0_0 l0_0.length l0_0) (hc0_0 : l0_0.length ≤ c0_0) (hr0_1 : Kd.C k73 w A0_1 l0_1.length l0_1) (hc0_1 : l0_1.length ≤ c0_1) (hr2 : Kd.C (Kd.int .i64) w A2 l2.length l2) (hc2 : l2.length ≤ c2) (h : spec_l07Differences.f k l0_0 l0_1 a1 l2 a3 = some (r1, r2)) :
  Calls Try.prog 37 #[.pointer (some ⟨gr0, 0, none⟩), .int .i64 a1, .slice A2 l2.length c2, .int .i64 a3] w fun e w' => ∃ v0_ : Value, e = .returned (.tuple #[v0_, .bool r2]) ∧ Kd.R (Kd.int .i64) 2 w' w.heap.size (fun _ => True) v0_ r1 ∧ Below w.heap.size w w' := by
 have HR0_0 := Aside0.mk hr0_0
 have HC0_0 := Aside0.mk hc0_0
 clear hr0_0 hc0_0
 have HR0_1 := Aside0.mk hr0_1
 have HC0_1 := Aside0.mk hc0_1
 clear hr0_1 hc0_1
 have HR2 := Aside0.mk hr2
 have HC2 := Aside0.mk hc2
 clear hr2 hc2
 have BK0 := Aside0.mk hb0
 clear hb0
 have HB := Aside0.mk (Below.refl w.heap.size w)
 unfold spec_l07Differences.f at h;have H := h;clear h
 replace H := Option.bind_eq_some_iff.mp H
 obtain ⟨⟨t252, t255⟩, A50, H⟩ := H
 replace H : (if 0 ≤ (l0_0.length : Int) then (if ((l0_0.length : Int) : Int).toNat ≤ 35184372088832 then ((some (List.replicate ((l0_0.length : Int) : Int).toNat 0 : List Int)).bind fun y258 => (if 0 ≤ a1 then (if a1 < (y258.length : Int) then (spec_l07Differences.l0 k l2 t252 t255 (y258.set (a1 : Int).toNat a3) 1 l0_0 l0_1) else (none)) else (none))) else (none)) else (none)) = some (r1, r2) := H
 have A5 := Aside0.mk A50
 clear A50
 obtain ⟨c6,H⟩ := pp_ H;have c6b0 := eq_true c6;have c6b1 := decide_eq_true c6;clear c6;obtain ⟨c7,H⟩ := pp_ H;have c7b0 := eq_true c7;have c7b1 := decide_eq_true c7;clear c7;obtain ⟨y258, hy258⟩ : ∃ y_ : List Int, y_ = (List.replicate ((l0_0.length : Int) : Int).toNat 0) := ⟨_, rfl⟩;(replace H : (if 0 ≤ a1 then (if a1 < (y258.length : Int) then (spec_l07Differences.l0 k l2 t252 t255 (y258.set (a1 : Int).toNat a3) 1 l0_0 l0_1) else (none)) else (none)) = some (r1, r2) := by first | (rw [hy258]; with_reducible exact H) | (have H2_ := (Option.bind_some _ _).symm.trans H; rw [hy258]; with_reducible exact H2_) | (have H2_ := (Option.bind_some _ _).symm.trans H; with_reducible exact H2_) | with_reducible exact H | (rw [hy258]; exact H) | exact H);have Ny258 := Aside0.mk hy258;clear hy258;obtain ⟨c8b0,H⟩ := pd_ H;obtain ⟨c9b0,H⟩ := pd_ H;obtain ⟨y261, hy261⟩ : ∃ y_ : List Int, y_ = (y258.set (a1 : Int).toNat a3) := ⟨_, rfl⟩;(replace H : (spec_l07Differences.l0 k l2 t252 t255 y261 1 l0_0 l0_1) = some (r1, r2) := by first | (rw [hy261]; with_reducible exact H) | (have H2_ := (Option.bind_some _ _).symm.trans H; rw [hy261]; with_reducible exact H2_) | (have H2_ := (Option.bind_some _ _).symm.trans H; with_reducible exact H2_) | with_reducible exact H | (rw [hy261]; exact H) | exact H);have Ny261 := Aside0.mk hy261;clear hy261;have H' := Aside0.mk H;clear H;go_enter Try.func37, Try.ntmps37
 iterate 2 ((try go_quiet (fail)); (try go_wp2_with (first | (go_at_call 51; (with_reducible refine (spec_l07Order.calls k gr0 A0_0 c0_0 l0_0 A0_1 c0_1 l0_1 a1 t252 t255 _ ?side1 ?side2 ?side3 ?side4 ?side5 A5.out).mono ?_); (case side1 => exact (z5_)); (case side2 => exact z191_); (case side3 => exact HC0_0.out); (case side4 => exact z192_); (case side5 => exact HC0_1.out); rintro e w11 ⟨v253, v256, rfl, ho0, ho1, hb⟩; have HO254 := Aside0.mk (Kd.R_lower ho0 (below_size (z4_))); have HO257 := Aside0.mk (Kd.R_lower ho1 (below_size (z4_))); replace BK0 := Aside0.mk (blk_below (g := gr0) (o := .cells #[.slice A0_0 l0_0.length c0_0, .slice A0_1 l0_1.length c0_1] 31 (0, 0)) (z5_) hb); replace HB := Aside0.mk (below_step (z4_) hb); (try clear hb); (try clear hb2); (try clear hk); (try clear hi); (try clear ho0); (try clear ho1); obtain ⟨hcz12_0,hcz12_1,hfz12_0,hfz12_1⟩ := bz2_ w11 BK0.out) | ((with_reducible refine gate_dst (N := 28) rfl ?_); refine Kd.R_make (Kd.int .i64) _ 2 rfl (N := 28) rfl 22 _ _ rfl (l0_0.length : Int) rfl rfl Try.underlying22 (.int .i64 0) 8 info2 rfl (by decide) (by omega) 0 (ok := fun _ => True) (okp := fun _ => True) rfl (fun _ hk => hk) trivial (of_decide_eq_true (z0_)) (Nat.le_trans (Nat.mul_le_mul_right _ (of_decide_eq_true (z0_) : (l0_0.length : Int).toNat ≤ 35184372088832)) (by omega)) (Below.refl _ _) (Nat.le_refl _) ?_; intro v259 w13 ho14 hb hg_ hnew_; clear hg_ hnew_; (first | rw [← Ny258.out] at ho14 | (simp only [Int.reduceToNat] at ho14; rw [← Ny258.out] at ho14)); have HO260 := Aside0.mk (Kd.R_lower (Kd.R_new' (Kd.R_new' ho14 (Kd.R_lt (z148_))) (Kd.R_lt (z149_))) (below_size (z4_))); replace HO254 := Aside0.mk (Kd.R_elder' (z148_) (Kd.R_base ho14) hb); replace HO257 := Aside0.mk (Kd.R_elder' (z149_) (Kd.R_base ho14) hb); replace BK0 := Aside0.mk (blk_below (g := gr0) (o := .cells #[.slice A0_0 l0_0.length c0_0, .slice A0_1 l0_1.length c0_1] 31 (0, 0)) (z5_) hb); replace HB := Aside0.mk (below_step (z4_) hb); clear hb ho14; have p10 : 0 ≤ (a1 : Int) := of_decide_eq_true (z0_); have q10 : (a1 : Int) < ((y258.length : Int) : Int) := of_decide_eq_true (z0_); obtain ⟨go10, co10, eo10, gb10, gl10, cl10, HG10⟩ := Kd.R_form HO260.out (by omega); (first | cases eo10 | (injection eo10 with ea_ en_ ec_; (first | subst ea_ | (injection ea_ with ea_; subst ea_)); subst ec_; clear en_)); have GB10 := Aside0.mk gb10; have GG10 := Aside0.mk HG10; clear gb10 gl10 HG10; obtain ⟨hx10_0, hf10_0⟩ := Kd.R_celln 0 HO260.out (a1 : Int) p10 q10; replace p10 := eq_true p10; replace q10 := eq_true q10; have n_ := Aside0.mk (Kd.R_mono (ok' := (fun k_ => some k_ ≠ (v253 : Value).ownBlock ∧ some k_ ≠ (v256 : Value).ownBlock)) HO260.out (fun k_ hk => ⟨hk.1.2, hk.2⟩)); clear HO260; have HO260 := n_; clear n_; obtain ⟨hy15_, hz15_⟩ := Kd.R_celln 0 HO260.out (a1 : Int) (of_decide_eq_true (z0_)) (of_decide_eq_true (z0_)); have HP15 := Kd.R_putg HO260.out (a1 : Int) a3) | ((with_reducible refine gate_store (t := 2) (p := 32) rfl ?_); (try (rw [drewN_self w13]; generalize hq_ : World.drewN w13 _ = w13; have n0_ := Aside0.mk (Kd.R_at hq_ HO254.out); have n1_ := Aside0.mk (Kd.R_at hq_ HO257.out); have n2_ := Aside0.mk (Kd.R_at hq_ HO260.out); have n3_ := Aside0.mk (blk_at hq_ BK0.out); have n4_ := Aside0.mk (below_at hq_ HB.out); clear hq_ HO254 HO257 HO260 BK0 HB; have HO254 := n0_; have HO257 := n1_; have HO260 := n2_; have BK0 := n3_; have HB := n4_; clear n0_ n1_ n2_ n3_ n4_; (try (have n_ := Aside0.mk (Kd.R_mono (ok' := (fun k_ => some k_ ≠ (v253 : Value).ownBlock ∧ some k_ ≠ (v256 : Value).ownBlock)) HO260.out (fun k_ hk => ⟨hk.1.2, hk.2⟩)); clear HO260; have HO260 := n_; clear n_)); (try (obtain ⟨hy15_, hz15_⟩ := Kd.R_celln 0 HO260.out (a1 : Int) (of_decide_eq_true (z0_)) (of_decide_eq_true (z0_)))); (try (have HP15 := Kd.R_putg HO260.out (a1 : Int) a3)))); refine store_event (t := 2) (p := 32) (v := ?vo_w16) (w1 := (w13.setCell ⟨go10, (a1 : Int).toNat, none⟩ (.int .i64 a3))) ?hg ?ho ?hn ?hr ?_; (case ho => rfl); (case hg => rfl); (case hn => rfl); (case hr => first | (go_simp; done) | (go_simp; rfl)); intro w16 hw; have hg : w13.grownBy w16 (some go10) := (by rw [hw]; exact HP15.2); have hp_ : Kd.R (Kd.int .i64) 2 w16 w.heap.size (fun k_ => some k_ ≠ (v253 : Value).ownBlock ∧ some k_ ≠ (v256 : Value).ownBlock) (.slice (some ⟨go10, 0, none⟩) y258.length co10) y261 := (by rw [hw, Ny261.out]; exact HP15.1); clear HP15; replace BK0 := Aside0.mk (blk_grown (g := gr0) (o := .cells #[.slice A0_0 l0_0.length c0_0, .slice A0_1 l0_1.length c0_1] 31 (0, 0)) (z5_) hg (Kd.R_ne HO260.out BK0.out (by decide))); replace HO254 := Aside0.mk (Kd.R_after (v := (.slice (some ⟨go10, 0, none⟩) y258.length co10)) (v1 := (.slice (some ⟨go10, 0, none⟩) y258.length co10)) (ok := (fun k_ => some k_ ≠ (v256 : Value).ownBlock)) (z148_) hg (.inl rfl)); replace HO257 := Aside0.mk (Kd.R_after (v := (.slice (some ⟨go10, 0, none⟩) y258.length co10)) (v1 := (.slice (some ⟨go10, 0, none⟩) y258.length co10)) (ok := (fun k_ => some k_ ≠ (v253 : Value).ownBlock)) (z149_) hg (.inl rfl)); replace HO260 := Aside0.mk (hp_); replace HB := Aside0.mk ((by rw [hw]; exact below_set (HB.out) GB10.out : Below w.heap.size w w16)); clear hg hw hp_))))
 go_loopg [13] k (fun kq v13 w' => ∃ (x12_1 : List Int) (x13_1 : Int), v13 = .int .i64 x13_1 ∧ Aside0 (spec_l07Differences.l0 kq l2 t252 t255 x12_1 x13_1 l0_0 l0_1 = some (r1, r2)) ∧ Aside0 (kq ≤ k) ∧ Aside0 (Kd.R (Kd.int .i64) 2 w' w.heap.size (fun k_ => some k_ ≠ (v256 : Value).ownBlock ∧ some k_ ≠ ((.slice (some ⟨go10, 0, none⟩) y258.length co10) : Value).ownBlock) v253 t252) ∧ Aside0 (Kd.R (Kd.int .i64) 2 w' w.heap.size (fun k_ => some k_ ≠ (v253 : Value).ownBlock ∧ some k_ ≠ ((.slice (some ⟨go10, 0, none⟩) y258.length co10) : Value).ownBlock) v256 t255) ∧ Aside0 (Kd.R (Kd.int .i64) 2 w' w.heap.size (fun k_ => some k_ ≠ (v253 : Value).ownBlock ∧ some k_ ≠ (v256 : Value).ownBlock) (.slice (some ⟨go10, 0, none⟩) y258.length co10) x12_1) ∧ Aside0 (w'.heap[gr0]? = some (.cells #[(.slice A0_0 l0_0.length c0_0), (.slice A0_1 l0_1.length c0_1)] 31 (0, 0))) ∧ Aside0 (Below w.heap.size w w'))
 case atStart => exact ⟨(y261), (1), (z8_), H', ⟨Nat.le_refl _⟩, ⟨z148_⟩, ⟨z149_⟩, ⟨by (with_reducible repeat (first | apply rA|apply rN|apply rW)); exact HO260.out⟩, ⟨z5_⟩, ⟨z4_⟩⟩
 case round =>
  clear H';(try clear p1);(try clear q1);(try clear hx1);(try clear c2);(try clear p2);(try clear c3);(try clear c6);(try clear c6b0);(try clear c6b1);(try clear c7);(try clear c7b0);(try clear c7b1);(try clear c8);(try clear c8b0);(try clear c9);(try clear c9b0);(try clear p10);(try clear q10);(try clear hx10);(try clear hf10);(try clear hcz12_0);(try clear hcz12_1);(try clear hfz12_0);(try clear hfz12_1);(try clear hx10_0);(try clear p10);(try clear q10);obtain ⟨x12_1, x13_1, rfl, HA, HK1, HO_10, HO_11, HO_12, BK0, HB⟩ := hrel;have hl12_1 := (Kd.R_reads' HO_12.out).1;(rw [hl12_1] at HO_12);(try simp only [hl12_1]);(try simp only [hl12_1] at BK0);(try simp only [hl12_1] at HO_10);(try simp only [hl12_1] at HO_11)
  cases gk with
  | zero => exact absurd HA.out (by simp [spec_l07Differences.l0])
  | succ k1 =>
   have H := HA.out;clear HA;(simp only [spec_l07Differences.l0] at H);by_cases c17 : x13_1 < (t252.length : Int)
   ·(rw [if_pos c17] at H);have c17b0 := decide_eq_true c17;(try simp only [hl12_1] at c17b0);clear c17;obtain ⟨c18b0,H⟩ := pd_ H;obtain ⟨c19b0,H⟩ := pd_ H;obtain ⟨c20,H⟩ := pp_ H;have c20b0 := decide_eq_true c20;(try simp only [hl12_1] at c20b0);clear c20;replace H := Option.bind_eq_some_iff.mp H;obtain ⟨t264, A210, H⟩ := H;have A21 := Aside0.mk A210;clear A210;replace H := Option.bind_eq_some_iff.mp H;obtain ⟨t266, A220, H⟩ := H;have A22 := Aside0.mk A220;clear A220;replace H := Option.bind_eq_some_iff.mp H;obtain ⟨⟨t267, t268⟩, A230, H⟩ := H;replace H : (if t268 = 0 then ((spec_l07Before.f l0_0 l0_1 (rd t255 (rd t252 x13_1))).bind fun t270 => (if 0 ≤ t270 then (if t270 < (x12_1.length : Int) then (if (rd t252 x13_1) < (x12_1.length : Int) then (spec_l07Differences.l0 k1 l2 t252 t255 (x12_1.set ((rd t252 x13_1) : Int).toNat (wrap64 ((rd x12_1 t270) - (wrap64 (2 * t267))))) (wrap64 (x13_1 + 1)) l0_0 l0_1) else (none)) else (none)) else (none))) else (some (([] : List Int), false))) = some (r1, r2) := H;have A23 := Aside0.mk A230;clear A230;by_cases c24 : t268 = 0
    ·(rw [if_pos c24] at H);have c24b0 : (t268 == 0) = true := beq_iff_eq.mpr c24;have c24b1 : (t268 != 0) = false := bne_eq_false_iff_eq.mpr c24;clear c24;replace H := Option.bind_eq_some_iff.mp H;obtain ⟨t270, A250, H⟩ := H;have A25 := Aside0.mk A250;clear A250;obtain ⟨c26b0,H⟩ := pd_ H;obtain ⟨c27,H⟩ := pp_ H;have c27b0 := decide_eq_true c27;(try simp only [hl12_1] at c27b0);clear c27;obtain ⟨c28,H⟩ := pp_ H;have c28b0 := decide_eq_true c28;(try simp only [hl12_1] at c28b0);clear c28;obtain ⟨y272, hy272⟩ : ∃ y_ : List Int, y_ = (x12_1.set ((rd t252 x13_1) : Int).toNat (wrap64 ((rd x12_1 t270) - (wrap64 (2 * t267))))) := ⟨_, rfl⟩;(replace H : (spec_l07Differences.l0 k1 l2 t252 t255 y272 (wrap64 (x13_1 + 1)) l0_0 l0_1) = some (r1, r2) := by first | (rw [hy272]; with_reducible exact H) | (have H2_ := (Option.bind_some _ _).symm.trans H; rw [hy272]; with_reducible exact H2_) | (have H2_ := (Option.bind_some _ _).symm.trans H; with_reducible exact H2_) | with_reducible exact H | (rw [hy272]; exact H) | exact H);have Ny272 := Aside0.mk hy272;clear hy272;have H' := Aside0.mk H;clear H;obtain ⟨Ao30, co30, eo30⟩ := Kd.R_slice HO_10.out;subst eo30;obtain ⟨p262,q262,ad262,e262,hx262_0⟩ := aq_ (Kd.at_int (Kd.R_reads' HO_10.out).2.2 x13_1) z0_ z0_;cases e262;obtain ⟨Ao31, co31, eo31⟩ := Kd.R_slice HO_11.out;subst eo31;obtain ⟨p263,q263,ad263,e263,hx263_0⟩ := aq_ (Kd.at_int (Kd.R_reads' HO_11.out).2.2 (rd t252 x13_1)) z0_ z0_;cases e263
     iterate 2 ((try (first | (obtain ⟨p265,q265,ad265,e265,hx265_0⟩ := aq_ (Kd.at_int (Kd.R_reads' HO_11.out).2.2 (rd t252 x13_1)) z0_ z0_;obtain rfl : ad263 = ad265 := (by injection e265); obtain ⟨p269,q269,ad269,e269,hx269_0⟩ := aq_ (Kd.at_int (Kd.R_reads' HO_11.out).2.2 (rd t252 x13_1)) z0_ z0_;obtain rfl : ad263 = ad269 := (by injection e269); have p271 : 0 ≤ (t270 : Int) := of_decide_eq_true (z0_); have q271 : t270 < (x12_1.length : Int) := of_decide_eq_true (z0_); obtain ⟨ad271, e271, hx271_0⟩ := Kd.at_int (Kd.R_reads' HO_12.out).2.2 t270 p271 q271; obtain rfl : (⟨go10, 0, none⟩ : Addr) = ad271 := (by injection e271); (first | simp only [add_plain] at hx271_0 | simp only [add_at] at hx271_0 | simp only [Addr.add, Nat.zero_add] at hx271_0 | skip); replace p271 := eq_true p271; replace q271 := eq_true q271; have p29 : 0 ≤ ((rd t252 x13_1) : Int) := of_decide_eq_true (z0_); have q29 : ((rd t252 x13_1) : Int) < ((x12_1.length : Int) : Int) := of_decide_eq_true (z0_); obtain ⟨hx29_0, hf29_0⟩ := Kd.R_celln 0 HO_12.out ((rd t252 x13_1) : Int) p29 q29; replace p29 := eq_true p29; replace q29 := eq_true q29; obtain ⟨hy32_, hz32_⟩ := Kd.R_celln 0 HO_12.out ((rd t252 x13_1) : Int) (of_decide_eq_true (z0_)) (of_decide_eq_true (z0_)); have HP32 := Kd.R_putg HO_12.out ((rd t252 x13_1) : Int) (wrap64 ((rd x12_1 t270) - (wrap64 (2 * t267)))); go_big_quiet (first | (go_at_call 70; (with_reducible refine (spec_l07Pipe.calls gr0 A0_0 c0_0 l0_0 A0_1 c0_1 l0_1 (rd t255 (rd t252 x13_1)) t264 _ ?side1 ?side2 ?side3 ?side4 ?side5 A21.out).mono ?_); (case side1 => exact (z5_)); (case side2 => exact z189_); (case side3 => exact HC0_0.out); (case side4 => exact z190_); (case side5 => exact HC0_1.out); rintro e w' ⟨rfl, ⟨nd, rfl⟩⟩; (try first | exact ⟨rfl, _, World.drewN_drewN _ _ _⟩ | exact ⟨rfl, _, Eq.trans (World.drewN_drewN _ _ _) (congrArg (World.drewN _) (Nat.add_assoc _ _ _))⟩)) | (go_at_call 71; (with_reducible refine (spec_l07Along.calls _ _ l2 (rd t255 (rd t252 x13_1)) t266 _ ?side1 ?side2 A22.out).mono ?_); (case side1 => exact z196_); (case side2 => exact HC2.out); rintro e w' ⟨rfl, ⟨nd, rfl⟩⟩; (try first | exact ⟨rfl, _, World.drewN_drewN _ _ _⟩ | exact ⟨rfl, _, Eq.trans (World.drewN_drewN _ _ _) (congrArg (World.drewN _) (Nat.add_assoc _ _ _))⟩)) | (go_at_call 69; (with_reducible refine (spec_l03Drop.calls gr0 A0_0 c0_0 l0_0 A0_1 c0_1 l0_1 t264 t266 t267 t268 _ ?side1 ?side2 ?side3 ?side4 ?side5 A23.out).mono ?_); (case side1 => exact (z5_)); (case side2 => exact z194_); (case side3 => exact HC0_0.out); (case side4 => exact z195_); (case side5 => exact HC0_1.out); rintro e w' ⟨rfl, ⟨nd, rfl⟩⟩; (try first | exact ⟨rfl, _, World.drewN_drewN _ _ _⟩ | exact ⟨rfl, _, Eq.trans (World.drewN_drewN _ _ _) (congrArg (World.drewN _) (Nat.add_assoc _ _ _))⟩)) | (go_at_call 53; (with_reducible refine (spec_l07Before.calls gr0 A0_0 c0_0 l0_0 A0_1 c0_1 l0_1 (rd t255 (rd t252 x13_1)) t270 _ ?side1 ?side2 ?side3 ?side4 ?side5 A25.out).mono ?_); (case side1 => exact (z5_)); (case side2 => exact z194_); (case side3 => exact HC0_0.out); (case side4 => exact z195_); (case side5 => exact HC0_1.out); rintro e w' ⟨rfl, ⟨nd, rfl⟩⟩; (try first | exact ⟨rfl, _, World.drewN_drewN _ _ _⟩ | exact ⟨rfl, _, Eq.trans (World.drewN_drewN _ _ _) (congrArg (World.drewN _) (Nat.add_assoc _ _ _))⟩)))) | go_big_quiet (first | (go_at_call 70; (with_reducible refine (spec_l07Pipe.calls gr0 A0_0 c0_0 l0_0 A0_1 c0_1 l0_1 (rd t255 (rd t252 x13_1)) t264 _ ?side1 ?side2 ?side3 ?side4 ?side5 A21.out).mono ?_); (case side1 => exact (z5_)); (case side2 => exact z189_); (case side3 => exact HC0_0.out); (case side4 => exact z190_); (case side5 => exact HC0_1.out); rintro e w' ⟨rfl, ⟨nd, rfl⟩⟩; (try first | exact ⟨rfl, _, World.drewN_drewN _ _ _⟩ | exact ⟨rfl, _, Eq.trans (World.drewN_drewN _ _ _) (congrArg (World.drewN _) (Nat.add_assoc _ _ _))⟩)) | (go_at_call 71; (with_reducible refine (spec_l07Along.calls _ _ l2 (rd t255 (rd t252 x13_1)) t266 _ ?side1 ?side2 A22.out).mono ?_); (case side1 => exact z196_); (case side2 => exact HC2.out); rintro e w' ⟨rfl, ⟨nd, rfl⟩⟩; (try first | exact ⟨rfl, _, World.drewN_drewN _ _ _⟩ | exact ⟨rfl, _, Eq.trans (World.drewN_drewN _ _ _) (congrArg (World.drewN _) (Nat.add_assoc _ _ _))⟩)) | (go_at_call 69; (with_reducible refine (spec_l03Drop.calls gr0 A0_0 c0_0 l0_0 A0_1 c0_1 l0_1 t264 t266 t267 t268 _ ?side1 ?side2 ?side3 ?side4 ?side5 A23.out).mono ?_); (case side1 => exact (z5_)); (case side2 => exact z194_); (case side3 => exact HC0_0.out); (case side4 => exact z195_); (case side5 => exact HC0_1.out); rintro e w' ⟨rfl, ⟨nd, rfl⟩⟩; (try first | exact ⟨rfl, _, World.drewN_drewN _ _ _⟩ | exact ⟨rfl, _, Eq.trans (World.drewN_drewN _ _ _) (congrArg (World.drewN _) (Nat.add_assoc _ _ _))⟩)) | (go_at_call 53; (with_reducible refine (spec_l07Before.calls gr0 A0_0 c0_0 l0_0 A0_1 c0_1 l0_1 (rd t255 (rd t252 x13_1)) t270 _ ?side1 ?side2 ?side3 ?side4 ?side5 A25.out).mono ?_); (case side1 => exact (z5_)); (case side2 => exact z194_); (case side3 => exact HC0_0.out); (case side4 => exact z195_); (case side5 => exact HC0_1.out); rintro e w' ⟨rfl, ⟨nd, rfl⟩⟩; (try first | exact ⟨rfl, _, World.drewN_drewN _ _ _⟩ | exact ⟨rfl, _, Eq.trans (World.drewN_drewN _ _ _) (congrArg (World.drewN _) (Nat.add_assoc _ _ _))⟩))))); (try go_wp2_with (first | (go_at_call 70; (with_reducible refine (spec_l07Pipe.calls gr0 A0_0 c0_0 l0_0 A0_1 c0_1 l0_1 (rd t255 (rd t252 x13_1)) t264 _ ?side1 ?side2 ?side3 ?side4 ?side5 A21.out).mono ?_); (case side1 => exact (z5_)); (case side2 => exact z189_); (case side3 => exact HC0_0.out); (case side4 => exact z190_); (case side5 => exact HC0_1.out); rintro e w' ⟨rfl, ⟨nd, rfl⟩⟩; (try first | exact ⟨rfl, _, World.drewN_drewN _ _ _⟩ | exact ⟨rfl, _, Eq.trans (World.drewN_drewN _ _ _) (congrArg (World.drewN _) (Nat.add_assoc _ _ _))⟩); obtain ⟨p265,q265,ad265,e265,hx265_0⟩ := aq_ (Kd.at_int (Kd.R_reads' HO_11.out).2.2 (rd t252 x13_1)) z0_ z0_;obtain rfl : ad263 = ad265 := (by injection e265)) | (go_at_call 71; (with_reducible refine (spec_l07Along.calls _ _ l2 (rd t255 (rd t252 x13_1)) t266 _ ?side1 ?side2 A22.out).mono ?_); (case side1 => exact z196_); (case side2 => exact HC2.out); rintro e w' ⟨rfl, ⟨nd, rfl⟩⟩; (try first | exact ⟨rfl, _, World.drewN_drewN _ _ _⟩ | exact ⟨rfl, _, Eq.trans (World.drewN_drewN _ _ _) (congrArg (World.drewN _) (Nat.add_assoc _ _ _))⟩)) | (go_at_call 69; (with_reducible refine (spec_l03Drop.calls gr0 A0_0 c0_0 l0_0 A0_1 c0_1 l0_1 t264 t266 t267 t268 _ ?side1 ?side2 ?side3 ?side4 ?side5 A23.out).mono ?_); (case side1 => exact (z5_)); (case side2 => exact z194_); (case side3 => exact HC0_0.out); (case side4 => exact z195_); (case side5 => exact HC0_1.out); rintro e w' ⟨rfl, ⟨nd, rfl⟩⟩; (try first | exact ⟨rfl, _, World.drewN_drewN _ _ _⟩ | exact ⟨rfl, _, Eq.trans (World.drewN_drewN _ _ _) (congrArg (World.drewN _) (Nat.add_assoc _ _ _))⟩); obtain ⟨p269,q269,ad269,e269,hx269_0⟩ := aq_ (Kd.at_int (Kd.R_reads' HO_11.out).2.2 (rd t252 x13_1)) z0_ z0_;obtain rfl : ad263 = ad269 := (by injection e269)) | (go_at_call 53; (with_reducible refine (spec_l07Before.calls gr0 A0_0 c0_0 l0_0 A0_1 c0_1 l0_1 (rd t255 (rd t252 x13_1)) t270 _ ?side1 ?side2 ?side3 ?side4 ?side5 A25.out).mono ?_); (case side1 => exact (z5_)); (case side2 => exact z194_); (case side3 => exact HC0_0.out); (case side4 => exact z195_); (case side5 => exact HC0_1.out); rintro e w' ⟨rfl, ⟨nd, rfl⟩⟩; (try first | exact ⟨rfl, _, World.drewN_drewN _ _ _⟩ | exact ⟨rfl, _, Eq.trans (World.drewN_drewN _ _ _) (congrArg (World.drewN _) (Nat.add_assoc _ _ _))⟩); have p271 : 0 ≤ (t270 : Int) := of_decide_eq_true (z0_); have q271 : t270 < (x12_1.length : Int) := of_decide_eq_true (z0_); obtain ⟨ad271, e271, hx271_0⟩ := Kd.at_int (Kd.R_reads' HO_12.out).2.2 t270 p271 q271; obtain rfl : (⟨go10, 0, none⟩ : Addr) = ad271 := (by injection e271); (first | simp only [add_plain] at hx271_0 | simp only [add_at] at hx271_0 | simp only [Addr.add, Nat.zero_add] at hx271_0 | skip); replace p271 := eq_true p271; replace q271 := eq_true q271; have p29 : 0 ≤ ((rd t252 x13_1) : Int) := of_decide_eq_true (z0_); have q29 : ((rd t252 x13_1) : Int) < ((x12_1.length : Int) : Int) := of_decide_eq_true (z0_); obtain ⟨hx29_0, hf29_0⟩ := Kd.R_celln 0 HO_12.out ((rd t252 x13_1) : Int) p29 q29; replace p29 := eq_true p29; replace q29 := eq_true q29; obtain ⟨hy32_, hz32_⟩ := Kd.R_celln 0 HO_12.out ((rd t252 x13_1) : Int) (of_decide_eq_true (z0_)) (of_decide_eq_true (z0_)); have HP32 := Kd.R_putg HO_12.out ((rd t252 x13_1) : Int) (wrap64 ((rd x12_1 t270) - (wrap64 (2 * t267))))) | ((with_reducible refine gate_store (t := 2) (p := 75) rfl ?_); (try (rw [drewN_self wr]; generalize hq_ : World.drewN wr _ = wr; have n0_ := Aside0.mk (Kd.R_at hq_ HO_10.out); have n1_ := Aside0.mk (Kd.R_at hq_ HO_11.out); have n2_ := Aside0.mk (Kd.R_at hq_ HO_12.out); have n3_ := Aside0.mk (blk_at hq_ BK0.out); have n4_ := Aside0.mk (below_at hq_ HB.out); clear hq_ HO_10 HO_11 HO_12 BK0 HB; have HO_10 := n0_; have HO_11 := n1_; have HO_12 := n2_; have BK0 := n3_; have HB := n4_; clear n0_ n1_ n2_ n3_ n4_; (try (obtain ⟨hy32_, hz32_⟩ := Kd.R_celln 0 HO_12.out ((rd t252 x13_1) : Int) (of_decide_eq_true (z0_)) (of_decide_eq_true (z0_)))); (try (have HP32 := Kd.R_putg HO_12.out ((rd t252 x13_1) : Int) (wrap64 ((rd x12_1 t270) - (wrap64 (2 * t267)))))))); refine store_event (t := 2) (p := 75) (v := ?vo_w33) (w1 := (wr.setCell ⟨go10, ((rd t252 x13_1) : Int).toNat, none⟩ (.int .i64 (wrap64 ((rd x12_1 t270) - (wrap64 (2 * t267))))))) ?hg ?ho ?hn ?hr ?_; (case ho => rfl); (case hg => rfl); (case hn => rfl); (case hr => first | (go_simp; done) | (go_simp; rfl)); intro w33 hw; have hg : wr.grownBy w33 (some go10) := (by rw [hw]; exact HP32.2); have hp_ : Kd.R (Kd.int .i64) 2 w33 w.heap.size (fun k_ => some k_ ≠ (.slice (some ad262) t252.length co30 : Value).ownBlock ∧ some k_ ≠ (.slice (some ad263) t255.length co31 : Value).ownBlock) (.slice (some ⟨go10, 0, none⟩) x12_1.length co10) y272 := (by rw [hw, Ny272.out]; exact HP32.1); clear HP32; replace HO_10 := Aside0.mk (Kd.R_after (v := (.slice (some ⟨go10, 0, none⟩) x12_1.length co10)) (v1 := (.slice (some ⟨go10, 0, none⟩) x12_1.length co10)) (ok := (fun k_ => some k_ ≠ (.slice (some ad263) t255.length co31 : Value).ownBlock)) (z53_) hg (.inl rfl)); replace HO_11 := Aside0.mk (Kd.R_after (v := (.slice (some ⟨go10, 0, none⟩) x12_1.length co10)) (v1 := (.slice (some ⟨go10, 0, none⟩) x12_1.length co10)) (ok := (fun k_ => some k_ ≠ (.slice (some ad262) t252.length co30 : Value).ownBlock)) (by (with_reducible repeat (first | apply rA|apply rN|apply rW)); exact HO_11.out) hg (.inl rfl)); replace BK0 := Aside0.mk (blk_grown (g := gr0) (o := .cells #[.slice A0_0 l0_0.length c0_0, .slice A0_1 l0_1.length c0_1] 31 (0, 0)) (z5_) hg (Kd.R_ne HO_12.out BK0.out (by decide))); replace HO_12 := Aside0.mk (hp_); replace HB := Aside0.mk ((by rw [hw]; exact below_set (HB.out) GB10.out : Below w.heap.size w w33)); clear hg hw hp_))))
     (try simp only [← hl12_1])
     go_roundg k1
     case measure => have := HK1.out; omega
     case rel => exact ⟨(y272), (wrap64 (x13_1 + 1)), (z8_), H', ⟨z111_⟩, ⟨by (try simp only [hl12_1]); (with_reducible repeat (first | apply rA|apply rN|apply rW)); exact HO_10.out⟩, ⟨by (try simp only [hl12_1]); (with_reducible repeat (first | apply rA|apply rN|apply rW)); exact HO_11.out⟩, ⟨by (try simp only [hl12_1]); (with_reducible repeat (first | apply rA|apply rN|apply rW)); exact HO_12.out⟩, ⟨by (try simp only [hl12_1]); (with_reducible repeat (first | refine bN ?_ _|refine bW ?_|refine bA ?_ _)); exact BK0.out⟩, ⟨z4_⟩⟩
    ·(rw [if_neg c24] at H);have c24b0 : (t268 == 0) = false := beq_eq_false_iff_ne.mpr c24;have c24b1 : (t268 != 0) = true := bne_iff_ne.mpr c24;(simp only [Option.some.injEq, Prod.mk.injEq] at H);obtain ⟨rfl, rfl⟩ := H;obtain ⟨Ao34, co34, eo34⟩ := Kd.R_slice HO_10.out;subst eo34;obtain ⟨p262,q262,ad262,e262,hx262_0⟩ := aq_ (Kd.at_int (Kd.R_reads' HO_10.out).2.2 x13_1) z0_ z0_;cases e262;obtain ⟨Ao35, co35, eo35⟩ := Kd.R_slice HO_11.out;subst eo35;obtain ⟨p263,q263,ad263,e263,hx263_0⟩ := aq_ (Kd.at_int (Kd.R_reads' HO_11.out).2.2 (rd t252 x13_1)) z0_ z0_;cases e263
     iterate 2 ((try (first | (obtain ⟨p265,q265,ad265,e265,hx265_0⟩ := aq_ (Kd.at_int (Kd.R_reads' HO_11.out).2.2 (rd t252 x13_1)) z0_ z0_;obtain rfl : ad263 = ad265 := (by injection e265); go_big_quiet (first | (go_at_call 70; (with_reducible refine (spec_l07Pipe.calls gr0 A0_0 c0_0 l0_0 A0_1 c0_1 l0_1 (rd t255 (rd t252 x13_1)) t264 _ ?side1 ?side2 ?side3 ?side4 ?side5 A21.out).mono ?_); (case side1 => exact (z5_)); (case side2 => exact z189_); (case side3 => exact HC0_0.out); (case side4 => exact z190_); (case side5 => exact HC0_1.out); rintro e w' ⟨rfl, ⟨nd, rfl⟩⟩; (try first | exact ⟨rfl, _, World.drewN_drewN _ _ _⟩ | exact ⟨rfl, _, Eq.trans (World.drewN_drewN _ _ _) (congrArg (World.drewN _) (Nat.add_assoc _ _ _))⟩)) | (go_at_call 71; (with_reducible refine (spec_l07Along.calls _ _ l2 (rd t255 (rd t252 x13_1)) t266 _ ?side1 ?side2 A22.out).mono ?_); (case side1 => exact z196_); (case side2 => exact HC2.out); rintro e w' ⟨rfl, ⟨nd, rfl⟩⟩; (try first | exact ⟨rfl, _, World.drewN_drewN _ _ _⟩ | exact ⟨rfl, _, Eq.trans (World.drewN_drewN _ _ _) (congrArg (World.drewN _) (Nat.add_assoc _ _ _))⟩)) | (go_at_call 69; (with_reducible refine (spec_l03Drop.calls gr0 A0_0 c0_0 l0_0 A0_1 c0_1 l0_1 t264 t266 t267 t268 _ ?side1 ?side2 ?side3 ?side4 ?side5 A23.out).mono ?_); (case side1 => exact (z5_)); (case side2 => exact z194_); (case side3 => exact HC0_0.out); (case side4 => exact z195_); (case side5 => exact HC0_1.out); rintro e w' ⟨rfl, ⟨nd, rfl⟩⟩; (try first | exact ⟨rfl, _, World.drewN_drewN _ _ _⟩ | exact ⟨rfl, _, Eq.trans (World.drewN_drewN _ _ _) (congrArg (World.drewN _) (Nat.add_assoc _ _ _))⟩)))) | go_big_quiet (first | (go_at_call 70; (with_reducible refine (spec_l07Pipe.calls gr0 A0_0 c0_0 l0_0 A0_1 c0_1 l0_1 (rd t255 (rd t252 x13_1)) t264 _ ?side1 ?side2 ?side3 ?side4 ?side5 A21.out).mono ?_); (case side1 => exact (z5_)); (case side2 => exact z189_); (case side3 => exact HC0_0.out); (case side4 => exact z190_); (case side5 => exact HC0_1.out); rintro e w' ⟨rfl, ⟨nd, rfl⟩⟩; (try first | exact ⟨rfl, _, World.drewN_drewN _ _ _⟩ | exact ⟨rfl, _, Eq.trans (World.drewN_drewN _ _ _) (congrArg (World.drewN _) (Nat.add_assoc _ _ _))⟩)) | (go_at_call 71; (with_reducible refine (spec_l07Along.calls _ _ l2 (rd t255 (rd t252 x13_1)) t266 _ ?side1 ?side2 A22.out).mono ?_); (case side1 => exact z196_); (case side2 => exact HC2.out); rintro e w' ⟨rfl, ⟨nd, rfl⟩⟩; (try first | exact ⟨rfl, _, World.drewN_drewN _ _ _⟩ | exact ⟨rfl, _, Eq.trans (World.drewN_drewN _ _ _) (congrArg (World.drewN _) (Nat.add_assoc _ _ _))⟩)) | (go_at_call 69; (with_reducible refine (spec_l03Drop.calls gr0 A0_0 c0_0 l0_0 A0_1 c0_1 l0_1 t264 t266 t267 t268 _ ?side1 ?side2 ?side3 ?side4 ?side5 A23.out).mono ?_); (case side1 => exact (z5_)); (case side2 => exact z194_); (case side3 => exact HC0_0.out); (case side4 => exact z195_); (case side5 => exact HC0_1.out); rintro e w' ⟨rfl, ⟨nd, rfl⟩⟩; (try first | exact ⟨rfl, _, World.drewN_drewN _ _ _⟩ | exact ⟨rfl, _, Eq.trans (World.drewN_drewN _ _ _) (congrArg (World.drewN _) (Nat.add_assoc _ _ _))⟩))))); (try go_wp2_with (first | (go_at_call 70; (with_reducible refine (spec_l07Pipe.calls gr0 A0_0 c0_0 l0_0 A0_1 c0_1 l0_1 (rd t255 (rd t252 x13_1)) t264 _ ?side1 ?side2 ?side3 ?side4 ?side5 A21.out).mono ?_); (case side1 => exact (z5_)); (case side2 => exact z189_); (case side3 => exact HC0_0.out); (case side4 => exact z190_); (case side5 => exact HC0_1.out); rintro e w' ⟨rfl, ⟨nd, rfl⟩⟩; (try first | exact ⟨rfl, _, World.drewN_drewN _ _ _⟩ | exact ⟨rfl, _, Eq.trans (World.drewN_drewN _ _ _) (congrArg (World.drewN _) (Nat.add_assoc _ _ _))⟩); obtain ⟨p265,q265,ad265,e265,hx265_0⟩ := aq_ (Kd.at_int (Kd.R_reads' HO_11.out).2.2 (rd t252 x13_1)) z0_ z0_;obtain rfl : ad263 = ad265 := (by injection e265)) | (go_at_call 71; (with_reducible refine (spec_l07Along.calls _ _ l2 (rd t255 (rd t252 x13_1)) t266 _ ?side1 ?side2 A22.out).mono ?_); (case side1 => exact z196_); (case side2 => exact HC2.out); rintro e w' ⟨rfl, ⟨nd, rfl⟩⟩; (try first | exact ⟨rfl, _, World.drewN_drewN _ _ _⟩ | exact ⟨rfl, _, Eq.trans (World.drewN_drewN _ _ _) (congrArg (World.drewN _) (Nat.add_assoc _ _ _))⟩)) | (go_at_call 69; (with_reducible refine (spec_l03Drop.calls gr0 A0_0 c0_0 l0_0 A0_1 c0_1 l0_1 t264 t266 t267 t268 _ ?side1 ?side2 ?side3 ?side4 ?side5 A23.out).mono ?_); (case side1 => exact (z5_)); (case side2 => exact z194_); (case side3 => exact HC0_0.out); (case side4 => exact z195_); (case side5 => exact HC0_1.out); rintro e w' ⟨rfl, ⟨nd, rfl⟩⟩; (try first | exact ⟨rfl, _, World.drewN_drewN _ _ _⟩ | exact ⟨rfl, _, Eq.trans (World.drewN_drewN _ _ _) (congrArg (World.drewN _) (Nat.add_assoc _ _ _))⟩)))))
     go_ret2;exact ⟨_, z6_, z71_, z4_⟩
   ·(rw [if_neg c17] at H);have c17b0 := decide_eq_false c17;(try simp only [hl12_1] at c17b0);clear c17;(simp only [Option.some.injEq, Prod.mk.injEq] at H);obtain ⟨rfl, rfl⟩ := H;obtain ⟨Ao36, co36, eo36⟩ := Kd.R_slice HO_10.out;subst eo36;go_wp2
    repeat (go_quiet (fail); try go_wp2)
    go_ret2;exact ⟨_, z6_, by (with_reducible repeat (first | apply rA|apply rN|apply rW)); exact Kd.R_mono HO_12.out (fun _ hk => trivial), z4_⟩

/-! ### spec_DifferencesOf: function 18 -/
def spec_DifferencesOf.f (k : Nat) (l0_0 : List Int) (l0_1 : List (S73)) (a1 : Int) (l2 : List Int) (a3 : Int) : Option (List Int × Int) := (spec_l07Given.f k l0_0 l0_1 a1 a3 l2).bind fun t274 => (if t274 = 0 then ((spec_l07Differences.f k l0_0 l0_1 a1 l2 a3).bind fun bt275 => (if bt275.2 = true then (some (bt275.1, 0)) else (some (([] : List Int), 5)))) else (some (([] : List Int), t274)))
theorem spec_DifferencesOf.mono : ∀ a0 a1 a2 a3 a4 k, LeO (spec_DifferencesOf.f k a0 a1 a2 a3 a4) (spec_DifferencesOf.f (k + 1) a0 a1 a2 a3 a4) := by
 intro a0 a1 a2 a3 a4 k
 unfold spec_DifferencesOf.f
 repeat' first|(with_reducible first|exact spec_l07Differences.mono _ _ _ _ _ _|exact spec_l07Given.mono _ _ _ _ _ _|exact LeO.refl _|exact LeO.none _|refine LeO.ite ?_ ?_|refine LeO.bind ?_ (fun _ => ?_))|exact spec_l07Differences.mono _ _ _ _ _ _|exact spec_l07Given.mono _ _ _ _ _ _|exact LeO.none _|refine LeO.ite ?_ ?_|refine LeO.bind ?_ (fun _ => ?_)
set_option maxHeartbeats 8000000 in
set_option maxRecDepth 100000 in
theorem spec_DifferencesOf.calls (k : Nat) (A0_0 : Option Addr) (c0_0 : Nat) (l0_0 : List Int) (A0_1 : Option Addr) (c0_1 : Nat) (l0_1 : List (S73)) (a1 : Int) (A2 : Option Addr) (c2 : Nat) (l2 : List Int) (a3 : Int) (r1 : List Int) (r2 : Int) (w : World) (hr0_0 : Kd.C (Kd.int .i64) w A0_0 l0_0.length l0_0) (hc0_0 : l0_0.length ≤ c0_0) (hr0_1 : Kd.C k73 w A0_1 l0_1.length l0_1) (hc0_1 : l0_1.length ≤ c0_1) (hr2 : Kd.C (Kd.int .i64) w A2 l2.length l2) (hc2 : l2.length ≤ c2) (h : spec_DifferencesOf.f k l0_0 l0_1 a1 l2 a3 = some (r1, r2)) :
  Calls Try.prog 18 #[.agg #[.slice A0_0 l0_0.length c0_0, .slice A0_1 l0_1.length c0_1], .int .i64 a1, .slice A2 l2.length c2, .int .i64 a3] w fun e w' => ∃ v0_ : Value, e = .returned (.tuple #[v0_, .int .i64 r2]) ∧ Kd.R (Kd.int .i64) 2 w' w.heap.size (fun _ => True) v0_ r1 ∧ Below w.heap.size w w' := by
 have hu31 := Try.underlying31
 have HR0_0 := Aside0.mk hr0_0
 have HC0_0 := Aside0.mk hc0_0
 clear hr0_0 hc0_0
 have HR0_1 := Aside0.mk hr0_1
 have HC0_1 := Aside0.mk hc0_1
 clear hr0_1 hc0_1
 have HR2 := Aside0.mk hr2
 have HC2 := Aside0.mk hc2
 clear hr2 hc2
 have HB := Aside0.mk (Below.refl w.heap.size w)
 unfold spec_DifferencesOf.f at h;have H := h;clear h
 replace H := Option.bind_eq_some_iff.mp H
 obtain ⟨t274, A50, H⟩ := H
 have A5 := Aside0.mk A50
 clear A50
 by_cases c6 : t274 = 0
 ·(rw [if_pos c6] at H);have c6b0 : (t274 == 0) = true := beq_iff_eq.mpr c6;have c6b1 : (t274 != 0) = false := bne_eq_false_iff_eq.mpr c6;clear c6;replace H := Option.bind_eq_some_iff.mp H;obtain ⟨⟨t275, t278⟩, A70, H⟩ := H;replace H : (if t278 = true then (some (t275, 0)) else (some (([] : List Int), 5))) = some (r1, r2) := H;have A7 := Aside0.mk A70;clear A70;by_cases c8 : t278 = true
  ·subst c8;(rw [if_pos rfl] at H);(simp only [Option.some.injEq, Prod.mk.injEq] at H);obtain ⟨rfl, rfl⟩ := H;go_enter Try.func18, Try.ntmps18
   go_wp2_with (first | ((with_reducible refine gate_dst (N := 4) rfl ?_); refine box_event ?hg (N := 4) ?hd (cs := #[.slice A0_0 l0_0.length c0_0, .slice A0_1 l0_1.length c0_1]) (t := 31) ?hr ?_; (case hd => rfl); (case hg => rfl); (case hr => first | (go_simp; done) | (go_simp; rfl)); intro gb273 hg w9 hbox hb; have BK273 := Aside0.mk (hbox); have GW273 := Aside0.mk ((z3_ : w.heap.size ≤ gb273)); have GE273 := Aside0.mk ((z3_ : w.heap.size ≤ gb273)); replace HB := Aside0.mk (below_step (z2_) hb); clear hb hbox hg) | ((with_reducible refine gate_callee (f := 36) rfl ?_); refine goesL_ (some 16) rfl rfl Try.func36 (z14_) rfl #[.pointer (some ⟨gb273, 0, none⟩), .int .i64 a1, .int .i64 a3, .slice A2 l2.length c2] rfl (z1_) ?_; (with_reducible refine (spec_l07Given.calls k gb273 A0_0 c0_0 l0_0 A0_1 c0_1 l0_1 a1 a3 _ _ l2 t274 _ ?side1 ?side2 ?side3 ?side4 ?side5 ?side6 ?side7 A5.out).mono ?_); (case side1 => exact (z59_)); (case side2 => exact z189_); (case side3 => exact HC0_0.out); (case side4 => exact z190_); (case side5 => exact HC0_1.out); (case side6 => exact z193_); (case side7 => exact HC2.out); rintro e w10 ⟨rfl, hb⟩; refine ⟨_, rfl, ?_⟩; replace BK273 := Aside0.mk (blk_below (g := gb273) (o := .cells #[.slice A0_0 l0_0.length c0_0, .slice A0_1 l0_1.length c0_1] 31 (0, 0)) (z59_) hb); replace HB := Aside0.mk (below_step (z43_) hb); (try clear hb); (try clear hb2); (try clear hk); (try clear hi)) | ((with_reducible refine gate_callee (f := 37) rfl ?_); refine goesL_ (some 24) rfl rfl Try.func37 (z14_) rfl #[.pointer (some ⟨gb273, 0, none⟩), .int .i64 a1, .slice A2 l2.length c2, .int .i64 a3] rfl (z1_) ?_; (with_reducible refine (spec_l07Differences.calls k gb273 A0_0 c0_0 l0_0 A0_1 c0_1 l0_1 a1 _ _ l2 a3 t275 true _ ?side1 ?side2 ?side3 ?side4 ?side5 ?side6 ?side7 A7.out).mono ?_); (case side1 => exact (z59_)); (case side2 => exact z189_); (case side3 => exact HC0_0.out); (case side4 => exact z190_); (case side5 => exact HC0_1.out); (case side6 => exact z193_); (case side7 => exact HC2.out); rintro e w11 ⟨v276, rfl, ho0, hb⟩; refine ⟨_, rfl, ?_⟩; have HO277 := Aside0.mk (Kd.R_lower ho0 (below_size (z43_))); replace BK273 := Aside0.mk (blk_below (g := gb273) (o := .cells #[.slice A0_0 l0_0.length c0_0, .slice A0_1 l0_1.length c0_1] 31 (0, 0)) (z59_) hb); replace HB := Aside0.mk (below_step (z43_) hb); (try clear hb); (try clear hb2); (try clear hk); (try clear hi); (try clear ho0)))
   go_ret2;exact ⟨_, z6_, by (with_reducible repeat (first | apply rA|apply rN|apply rW)); exact HO277.out, z43_⟩
  ·replace c8 := Bool.eq_false_iff.mpr c8;subst c8;(rw [if_neg (show ¬ (false = true) by decide)] at H);(simp only [Option.some.injEq, Prod.mk.injEq] at H);obtain ⟨rfl, rfl⟩ := H;go_enter Try.func18, Try.ntmps18
   go_wp2_with (first | ((with_reducible refine gate_dst (N := 4) rfl ?_); refine box_event ?hg (N := 4) ?hd (cs := #[.slice A0_0 l0_0.length c0_0, .slice A0_1 l0_1.length c0_1]) (t := 31) ?hr ?_; (case hd => rfl); (case hg => rfl); (case hr => first | (go_simp; done) | (go_simp; rfl)); intro gb273 hg w12 hbox hb; have BK273 := Aside0.mk (hbox); have GW273 := Aside0.mk ((z3_ : w.heap.size ≤ gb273)); have GE273 := Aside0.mk ((z3_ : w.heap.size ≤ gb273)); replace HB := Aside0.mk (below_step (z2_) hb); clear hb hbox hg) | ((with_reducible refine gate_callee (f := 36) rfl ?_); refine goesL_ (some 16) rfl rfl Try.func36 (z14_) rfl #[.pointer (some ⟨gb273, 0, none⟩), .int .i64 a1, .int .i64 a3, .slice A2 l2.length c2] rfl (z1_) ?_; (with_reducible refine (spec_l07Given.calls k gb273 A0_0 c0_0 l0_0 A0_1 c0_1 l0_1 a1 a3 _ _ l2 t274 _ ?side1 ?side2 ?side3 ?side4 ?side5 ?side6 ?side7 A5.out).mono ?_); (case side1 => exact (z59_)); (case side2 => exact z189_); (case side3 => exact HC0_0.out); (case side4 => exact z190_); (case side5 => exact HC0_1.out); (case side6 => exact z193_); (case side7 => exact HC2.out); rintro e w13 ⟨rfl, hb⟩; refine ⟨_, rfl, ?_⟩; replace BK273 := Aside0.mk (blk_below (g := gb273) (o := .cells #[.slice A0_0 l0_0.length c0_0, .slice A0_1 l0_1.length c0_1] 31 (0, 0)) (z59_) hb); replace HB := Aside0.mk (below_step (z43_) hb); (try clear hb); (try clear hb2); (try clear hk); (try clear hi)) | ((with_reducible refine gate_callee (f := 37) rfl ?_); refine goesL_ (some 24) rfl rfl Try.func37 (z14_) rfl #[.pointer (some ⟨gb273, 0, none⟩), .int .i64 a1, .slice A2 l2.length c2, .int .i64 a3] rfl (z1_) ?_; (with_reducible refine (spec_l07Differences.calls k gb273 A0_0 c0_0 l0_0 A0_1 c0_1 l0_1 a1 _ _ l2 a3 t275 false _ ?side1 ?side2 ?side3 ?side4 ?side5 ?side6 ?side7 A7.out).mono ?_); (case side1 => exact (z59_)); (case side2 => exact z189_); (case side3 => exact HC0_0.out); (case side4 => exact z190_); (case side5 => exact HC0_1.out); (case side6 => exact z193_); (case side7 => exact HC2.out); rintro e w14 ⟨v276, rfl, ho0, hb⟩; refine ⟨_, rfl, ?_⟩; have HO277 := Aside0.mk (Kd.R_lower ho0 (below_size (z43_))); replace BK273 := Aside0.mk (blk_below (g := gb273) (o := .cells #[.slice A0_0 l0_0.length c0_0, .slice A0_1 l0_1.length c0_1] 31 (0, 0)) (z59_) hb); replace HB := Aside0.mk (below_step (z43_) hb); (try clear hb); (try clear hb2); (try clear hk); (try clear hi); (try clear ho0)))
   go_ret2;exact ⟨_, z6_, z71_, z43_⟩
 ·(rw [if_neg c6] at H);have c6b0 : (t274 == 0) = false := beq_eq_false_iff_ne.mpr c6;have c6b1 : (t274 != 0) = true := bne_iff_ne.mpr c6;(simp only [Option.some.injEq, Prod.mk.injEq] at H);obtain ⟨rfl, rfl⟩ := H;go_enter Try.func18, Try.ntmps18
  go_wp2_with (first | ((with_reducible refine gate_dst (N := 4) rfl ?_); refine box_event ?hg (N := 4) ?hd (cs := #[.slice A0_0 l0_0.length c0_0, .slice A0_1 l0_1.length c0_1]) (t := 31) ?hr ?_; (case hd => rfl); (case hg => rfl); (case hr => first | (go_simp; done) | (go_simp; rfl)); intro gb273 hg w15 hbox hb; have BK273 := Aside0.mk (hbox); have GW273 := Aside0.mk ((z3_ : w.heap.size ≤ gb273)); have GE273 := Aside0.mk ((z3_ : w.heap.size ≤ gb273)); replace HB := Aside0.mk (below_step (z2_) hb); clear hb hbox hg) | ((with_reducible refine gate_callee (f := 36) rfl ?_); refine goesL_ (some 16) rfl rfl Try.func36 (z14_) rfl #[.pointer (some ⟨gb273, 0, none⟩), .int .i64 a1, .int .i64 a3, .slice A2 l2.length c2] rfl (z1_) ?_; (with_reducible refine (spec_l07Given.calls k gb273 A0_0 c0_0 l0_0 A0_1 c0_1 l0_1 a1 a3 _ _ l2 t274 _ ?side1 ?side2 ?side3 ?side4 ?side5 ?side6 ?side7 A5.out).mono ?_); (case side1 => exact (z59_)); (case side2 => exact z189_); (case side3 => exact HC0_0.out); (case side4 => exact z190_); (case side5 => exact HC0_1.out); (case side6 => exact z193_); (case side7 => exact HC2.out); rintro e w16 ⟨rfl, hb⟩; refine ⟨_, rfl, ?_⟩; replace BK273 := Aside0.mk (blk_below (g := gb273) (o := .cells #[.slice A0_0 l0_0.length c0_0, .slice A0_1 l0_1.length c0_1] 31 (0, 0)) (z59_) hb); replace HB := Aside0.mk (below_step (z43_) hb); (try clear hb); (try clear hb2); (try clear hk); (try clear hi)))
  go_ret2;exact ⟨_, z6_, z71_, z43_⟩


/-! ### slices_IndexFunc_int64_int64: function 87 -/
open Go.Proofs.YtnmdcmfhjhgheaaM
/-- Where the first element with a property lies; -1. -/
def firstIdx (p : Int → Bool) (l : List Int) : Int := if l.any p = true then (l.findIdx p : Nat) else -1
theorem firstIdx_at (p : Int → Bool) (l : List Int) (k : Nat) (hk : k < l.length) (h0 : ∀ j, j < k → p (l.getD j 0) = false) (h1 : p (l.getD k 0) = true) : firstIdx p l = k := by
  have e : ∀ j (h : j < l.length), l.getD j 0 = l[j] := fun j h => by simp [List.getD_eq_getElem?_getD, List.getElem?_eq_getElem h]
  unfold firstIdx
  rw [if_pos (List.any_eq_true.2 ⟨l[k], List.getElem_mem hk, by rw [← e k hk]; exact h1⟩)]
  congr 1
  refine (List.findIdx_eq hk).2 ⟨by rw [← e k hk]; exact h1, fun j hj => ?_⟩
  have := h0 j hj
  rw [e j (by omega)] at this
  simpa using this
theorem firstIdx_none (p : Int → Bool) (l : List Int) (h0 : ∀ j, j < l.length → p (l.getD j 0) = false) : firstIdx p l = -1 := by
  unfold firstIdx
  rw [if_neg]
  intro h
  obtain ⟨x, hx, hp⟩ := List.any_eq_true.1 h
  obtain ⟨j, hj, rfl⟩ := List.getElem_of_mem hx
  have := h0 j hj
  rw [List.getD_eq_getElem?_getD, List.getElem?_eq_getElem hj] at this
  simp only [Option.getD_some] at this
  rw [this] at hp
  cases hp
set_option maxHeartbeats 4000000 in
set_option maxRecDepth 100000 in
theorem indexFunc_any (g : Nat) (cb : Array Value) (A : Option Addr) (c : Nat) (l : List Int) (p : Int → Bool) (w : World) (eg : Enters Try.prog g) (hr : Kd.C (Kd.int .i64) w A l.length l) (hl : l.length ≤ 4611686018427387904)
    (hf : ∀ (W : World) (j : Nat), Below w.heap.size w W → j < l.length → Calls Try.prog g (#[.int .i64 (l.getD j 0)] ++ cb) W fun e w' => e = .returned (.bool (p (l.getD j 0))) ∧ Below W.heap.size W w') :
    Calls Try.prog 87 #[.slice A l.length c, .func (.func g) #[] cb] w fun e w' => e = .returned (.int .i64 (firstIdx p l)) ∧ Below w.heap.size w w' := by
  have HR := Aside0.mk hr
  have HF := Aside0.mk hf
  clear hr hf
  have eg' : ∀ args w, (callFunc g args).run Try.prog w = .ok (.enter g args) w := eg
  clear eg
  obtain ⟨r, hr0⟩ : ∃ r, firstIdx p l = r := ⟨_, rfl⟩
  rw [hr0]
  have R := Aside0.mk hr0
  clear hr0
  go_enter Try.func87, Try.ntmps87
  go_wp2
  go_loopw [8, 5] (fun v _ wr => ∃ k : Nat, k ≤ l.length ∧ v = .int .i64 k ∧ Aside0 (Below w.heap.size w wr) ∧ Aside0 (∀ j, j < k → p (l.getD j 0) = false)) (fun v _ _ => l.length - (intOf v).toNat)
  case atStart => exact ⟨0, by omega, rfl, ⟨Below.refl _ _⟩, ⟨fun j hj => by omega⟩⟩
  case round =>
    obtain ⟨k, hk, rfl, HB, I⟩ := hrel
    by_cases hlt : k < l.length
    · have hc := HF.out wr k HB.out hlt
      have i0 : (0 : Int) ≤ (k : Int) := by omega
      have i1 : (k : Int) < (l.length : Int) := by omega
      obtain ⟨ad, ead, hx⟩ := Kd.at_int (Kd.C_below HR.out HB.out) (k : Int) i0 i1
      cases ead
      have ex : rd l (k : Int) = l.getD k 0 := by unfold rd; rw [Int.toNat_natCast]
      rw [ex, Int.toNat_natCast] at hx
      clear ex
      cases hp : p (l.getD k 0) <;> rw [hp] at hc
      · have P0 := Aside0.mk hp
        clear hp
        generalize l.getD k 0 = x at hc hx
        go_wp2_with (go_at_fn g; refine hc.mono ?_; rintro e w' ⟨rfl, hb⟩)
        go_roundw
        case rel => exact ⟨k + 1, by omega, by go_num, ⟨below_then HB.out HB.out.size hb⟩, ⟨fun j hj => by
          by_cases e : j = k
          · subst e; exact P0.out
          · exact I.out j (by omega)⟩⟩
        case measure => simp [intOf]; omega
      · have P0 := Aside0.mk hp
        clear hp
        have E := Aside0.mk (firstIdx_at p l k hlt I.out P0.out)
        generalize l.getD k 0 = x at hc hx
        go_wp2_with (go_at_fn g; refine hc.mono ?_; rintro e w' ⟨rfl, hb⟩)
        go_ret
        exact ⟨by rw [← R.out, E.out]; rfl, below_then HB.out HB.out.size hb⟩
    · have E := Aside0.mk (firstIdx_none p l (fun j hj => I.out j (by omega)))
      go_wp2
      go_ret
      exact ⟨by rw [← R.out, E.out]; rfl, HB.out⟩


/-! ### slices_ContainsFunc_int64_int64: function 63 -/
theorem firstIdx_any (p : Int → Bool) (l : List Int) : decide (0 ≤ firstIdx p l) = l.any p := by
  unfold firstIdx
  cases h : l.any p
  · simp
  · simp
set_option maxHeartbeats 1000000 in
set_option maxRecDepth 100000 in
theorem containsFunc_any (g : Nat) (cb : Array Value) (A : Option Addr) (c : Nat) (l : List Int) (p : Int → Bool) (w : World) (eg : Enters Try.prog g) (hr : Kd.C (Kd.int .i64) w A l.length l) (hl : l.length ≤ 4611686018427387904)
    (hf : ∀ (W : World) (j : Nat), Below w.heap.size w W → j < l.length → Calls Try.prog g (#[.int .i64 (l.getD j 0)] ++ cb) W fun e w' => e = .returned (.bool (p (l.getD j 0))) ∧ Below W.heap.size W w') :
    Calls Try.prog 63 #[.slice A l.length c, .func (.func g) #[] cb] w fun e w' => e = .returned (.bool (l.any p)) ∧ Below w.heap.size w w' := by
  have hS := indexFunc_any g cb A c l p w eg hr hl hf
  have hd := firstIdx_any p l
  generalize firstIdx p l = k at hS hd
  have HS := Aside0.mk hS
  have HD := Aside0.mk hd
  clear hS hd hr hf eg
  rw [← HD.out]
  go_enter Try.func63, Try.ntmps63
  go_wp2_with (go_at_call 87; refine HS.out.mono ?_; rintro e w' ⟨rfl, hb⟩)
  go_ret
  exact ⟨rfl, hb⟩

/-! ### impl_within: function 65 -/
def impl_within.f (a0 : Int) (a1 : Int) (a2 : Int) : Option (Bool) := if a0 ≥ a1 then (some (decide (a0 ≤ a2))) else (some false)
set_option maxHeartbeats 8000000 in
set_option maxRecDepth 100000 in
theorem impl_within.calls (a0 : Int) (a1 : Int) (a2 : Int) (r : Bool) (w : World) (h : impl_within.f a0 a1 a2 = some r) :
  Calls Try.prog 65 #[.int .i64 a0, .int .i64 a1, .int .i64 a2] w fun e w' => e = .returned (.bool r) ∧ Drawn0 w w' := by
 unfold impl_within.f at h;have H := h;clear h
 by_cases c4 : a0 ≥ a1
 ·(rw [if_pos c4] at H);have c4b0 : decide (a1 ≤ a0) = true := decide_eq_true c4;clear c4;obtain rfl := Option.some.inj H;go_enter Try.func65, Try.ntmps65;go_wp2;go_ret;exact ⟨z8_, z11_⟩
 ·(rw [if_neg c4] at H);have c4b0 : decide (a1 ≤ a0) = false := decide_eq_false c4;clear c4;obtain rfl := Option.some.inj H;go_enter Try.func65, Try.ntmps65;go_wp2;go_ret;exact ⟨z8_, z11_⟩

open Go.Proofs.YtnmdcmfhjhgheaaM
def impl_within_.f (a0 a1 a2 : Int) : Option Bool := some (decide (a1 ≤ a0 ∧ a0 ≤ a2))
theorem impl_within_.calls (a0 a1 a2 : Int) (r : Bool) (w : World) (h : impl_within_.f a0 a1 a2 = some r) :
    Calls Try.prog 65 #[.int .i64 a0, .int .i64 a1, .int .i64 a2] w fun e w' => e = .returned (.bool r) ∧ Drawn0 w w' :=
  impl_within.calls a0 a1 a2 r w ((in_both a0 a1 a2).trans h)

end Go.Proofs.Ytnmdcmfhjhgheaa.PFnExactDifferencesOf
