-- Printed by a program of this session (wip/hprint.sh: the kit's print with hand-proved contracts put in); not by print.sh itself.
import Derived.Test.YtnmdcmfhjhgheaaPFnExactPressuresOfx0
namespace Go.Proofs.Ytnmdcmfhjhgheaa.PFnExactPressuresOf
open Go.RowKit Go.Proofs.YtnmdcmfhjhgheaaW.PrintWords Go.Proofs.YtnmdcmfhjhgheaaW.PrintLast Go.Proofs.YtnmdcmfhjhgheaaW.PrintMore Go.Proofs.YtnmdcmfhjhgheaaM
attribute [local go_sem] max2_int min2_int max_two min_two max_three min_three max_four min_four   -- for this text's walks alone
set_option linter.unusedVariables false
set_option linter.unusedSimpArgs false

/-! ### spec_l07Before: function 53 -/
def spec_l07Before.f (l0_0 : List Int) (l0_1 : List (S73)) (a1 : Int) : Option (Int) := if a1 > 0 then (if 0 ≤ (wrap64 (a1 - 1)) then (if (wrap64 (a1 - 1)) < (l0_1.length : Int) then (some ((rd_T73 l0_1 (wrap64 (a1 - 1))).f1)) else (none)) else (none)) else (if 0 ≤ (wrap64 ((wrap64 (-a1)) - 1)) then (if (wrap64 ((wrap64 (-a1)) - 1)) < (l0_1.length : Int) then (some ((rd_T73 l0_1 (wrap64 ((wrap64 (-a1)) - 1))).f2)) else (none)) else (none))
set_option maxHeartbeats 8000000 in
set_option maxRecDepth 100000 in
theorem spec_l07Before.calls (gr0 : Nat) (A0_0 : Option Addr) (c0_0 : Nat) (l0_0 : List Int) (A0_1 : Option Addr) (c0_1 : Nat) (l0_1 : List (S73)) (a1 : Int) (r : Int) (w : World) (hb0 : w.heap[gr0]? = some (.cells #[.slice A0_0 l0_0.length c0_0, .slice A0_1 l0_1.length c0_1] 31 (0, 0))) (hr0_0 : Kd.C (Kd.int .i64) w A0_0 l0_0.length l0_0) (hc0_0 : l0_0.length ≤ c0_0) (hr0_1 : Kd.C k73 w A0_1 l0_1.length l0_1) (hc0_1 : l0_1.length ≤ c0_1) (h : spec_l07Before.f l0_0 l0_1 a1 = some r) :
  Calls Try.prog 53 #[.pointer (some ⟨gr0, 0, none⟩), .int .i64 a1] w fun e w' => e = .returned (.int .i64 r) ∧ Drawn0 w w' := by
 have HR0_0 := Aside0.mk hr0_0
 have HC0_0 := Aside0.mk hc0_0
 clear hr0_0 hc0_0
 have HR0_1 := Aside0.mk hr0_1
 have HC0_1 := Aside0.mk hc0_1
 clear hr0_1 hc0_1
 have BK0 := Aside0.mk hb0
 clear hb0
 unfold spec_l07Before.f at h;have H := h;clear h
 by_cases c3 : a1 > 0
 ·(rw [if_pos c3] at H);have c3b0 : decide (0 < a1) = true := decide_eq_true c3;clear c3;obtain ⟨ji4, hji4⟩ : ∃ j_ : Int, (wrap64 (a1 - 1)) = j_ := ⟨_, rfl⟩;(replace H : (if 0 ≤ (ji4) then (if (ji4) < (l0_1.length : Int) then (some ((rd_T73 l0_1 (ji4)).f1)) else (none)) else (none)) = some r := by first | (rw [hji4] at H; exact H) | (simp only [hji4] at H ⊢; exact H));have hji4w : (IntKind.i64.wrap (a1 - 1)) = ji4 := (i64_w _).trans hji4;obtain ⟨c5b0,H⟩ := pd_ H;obtain ⟨c6b0,H⟩ := pd_ H;obtain rfl := Option.some.inj H;obtain ⟨hcz7_0,hcz7_1,hfz7_0,hfz7_1⟩ := bz2_ w BK0.out;obtain ⟨p247,q247,ad247,e247,hx247_0,hx247_1,hx247_2,hx247_3,hx247_4,hx247_5⟩ := aq_ (at_T73 HR0_1.out (ji4)) z0_ z0_;cases e247;go_enter Try.func53, Try.ntmps53;go_wp2;go_ret;exact ⟨by first | rfl | (simp; done) | (simp only [← hji4] <;> (first | rfl | simp)) | (simp [*]; done), z11_⟩
 ·(rw [if_neg c3] at H);have c3b0 : decide (0 < a1) = false := decide_eq_false c3;clear c3;obtain ⟨ji8, hji8⟩ : ∃ j_ : Int, (wrap64 ((wrap64 (-a1)) - 1)) = j_ := ⟨_, rfl⟩;(replace H : (if 0 ≤ (ji8) then (if (ji8) < (l0_1.length : Int) then (some ((rd_T73 l0_1 (ji8)).f2)) else (none)) else (none)) = some r := by first | (rw [hji8] at H; exact H) | (simp only [hji8] at H ⊢; exact H));have hji8w : (IntKind.i64.wrap ((wrap64 (-a1)) - 1)) = ji8 := (i64_w _).trans hji8;obtain ⟨c9b0,H⟩ := pd_ H;obtain ⟨c10b0,H⟩ := pd_ H;obtain rfl := Option.some.inj H;obtain ⟨hcz11_0,hcz11_1,hfz11_0,hfz11_1⟩ := bz2_ w BK0.out;obtain ⟨p248,q248,ad248,e248,hx248_0,hx248_1,hx248_2,hx248_3,hx248_4,hx248_5⟩ := aq_ (at_T73 HR0_1.out (ji8)) z0_ z0_;cases e248;go_enter Try.func53, Try.ntmps53;go_wp2;go_ret;exact ⟨by first | rfl | (simp; done) | (simp only [← hji8] <;> (first | rfl | simp)) | (simp [*]; done), z11_⟩

/-! ### spec_l00Max: function 46 -/
def spec_l00Max.f (a0 : Int) (a1 : Int) : Option (Int) := if a0 > a1 then (some a0) else (some a1)
set_option maxHeartbeats 8000000 in
set_option maxRecDepth 100000 in
theorem spec_l00Max.calls (a0 : Int) (a1 : Int) (r : Int) (w : World) (h : spec_l00Max.f a0 a1 = some r) :
  Calls Try.prog 46 #[.int .i64 a0, .int .i64 a1] w fun e w' => e = .returned (.int .i64 r) ∧ Drawn0 w w' := by
 unfold spec_l00Max.f at h;have H := h;clear h
 by_cases c3 : a0 > a1
 ·(rw [if_pos c3] at H);have c3b0 : decide (a1 < a0) = true := decide_eq_true c3;clear c3;obtain rfl := Option.some.inj H;go_enter Try.func46, Try.ntmps46;go_wp2;go_ret;exact ⟨z7_, z11_⟩
 ·(rw [if_neg c3] at H);have c3b0 : decide (a1 < a0) = false := decide_eq_false c3;clear c3;obtain rfl := Option.some.inj H;go_enter Try.func46, Try.ntmps46;go_wp2;go_ret;exact ⟨z7_, z11_⟩

/-! ### spec_l03Abs: function 90 -/
def spec_l03Abs.f (a0 : Int) : Option (Int) := (spec_l00Max.f a0 (wrap64 (-a0))).bind fun t249 => (some t249)
set_option maxHeartbeats 8000000 in
set_option maxRecDepth 100000 in
theorem spec_l03Abs.calls (a0 : Int) (r : Int) (w : World) (h : spec_l03Abs.f a0 = some r) :
  Calls Try.prog 90 #[.int .i64 a0] w fun e w' => e = .returned (.int .i64 r) ∧ Drawn0 w w' := by
 unfold spec_l03Abs.f at h;have H := h;clear h
 replace H := Option.bind_eq_some_iff.mp H
 obtain ⟨t249, A20, H⟩ := H
 have A2 := Aside0.mk A20
 clear A20
 obtain rfl := Option.some.inj H
 go_enter Try.func90, Try.ntmps90
 go_wp2_with (first | ((with_reducible refine gate_callee (f := 46) rfl ?_); refine goesL_ (some 6) rfl rfl Try.func46 (z13_) rfl #[.int .i64 a0, .int .i64 (wrap64 (-a0))] rfl (z1_) ?_; (with_reducible refine (spec_l00Max.calls a0 (wrap64 (-a0)) t249 _ A2.out).mono ?_); rintro e w' ⟨rfl, ⟨nd, rfl⟩⟩; refine ⟨_, rfl, ?_⟩))
 go_ret
 exact ⟨z7_, z11_⟩

open Go.Proofs.YtnmdcmfhjhgheaaM
def spec_l03Abs_.f (a0 : Int) : Option Int := if -9223372036854775808 < a0 ∧ a0 ≤ 9223372036854775807 then some (absI a0) else none
theorem spec_l03Abs_.calls (a0 : Int) (r : Int) (w : World) (h : spec_l03Abs_.f a0 = some r) :
    Calls Try.prog 90 #[.int .i64 a0] w fun e w' => e = .returned (.int .i64 r) ∧ Drawn0 w w' := by
  unfold spec_l03Abs_.f at h
  split at h
  · rename_i hc
    refine spec_l03Abs.calls a0 r w ?_
    rw [← h]
    unfold spec_l03Abs.f spec_l00Max.f
    rw [w64 (by omega) (by omega)]
    by_cases c : a0 < 0
    · first | (rw [if_pos (by omega)]; simp [absI, c]; done) | (rw [if_neg (by omega)]; simp [absI, c]; done)
    · by_cases c' : a0 = 0
      · subst c'; simp [absI]
      · first | (rw [if_pos (by omega)]; simp [absI, c]; done) | (rw [if_neg (by omega)]; simp [absI, c]; done)
  · exact absurd h (by simp)

/-! ### spec_l01Div: function 91 -/
def spec_l01Div.f (a0 : Int) (a1 : Int) : Option (Int) := if a1 < 0 then (if (wrap64 (-a0)) < 0 then (if (wrap64 (2 * (wrap64 (-a1)))) = 0 then (none) else (some (wrap64 (-(wrap64 (Int.tdiv (wrap64 ((wrap64 (-a1)) - (wrap64 (2 * (wrap64 (-a0)))))) (wrap64 (2 * (wrap64 (-a1)))))))))) else (if (wrap64 (2 * (wrap64 (-a1)))) = 0 then (none) else (some (wrap64 (Int.tdiv (wrap64 ((wrap64 (2 * (wrap64 (-a0)))) + (wrap64 (-a1)))) (wrap64 (2 * (wrap64 (-a1))))))))) else (if a0 < 0 then (if (wrap64 (2 * a1)) = 0 then (none) else (some (wrap64 (-(wrap64 (Int.tdiv (wrap64 (a1 - (wrap64 (2 * a0)))) (wrap64 (2 * a1)))))))) else (if (wrap64 (2 * a1)) = 0 then (none) else (some (wrap64 (Int.tdiv (wrap64 ((wrap64 (2 * a0)) + a1)) (wrap64 (2 * a1)))))))
set_option maxHeartbeats 8000000 in
set_option maxRecDepth 100000 in
theorem spec_l01Div.calls (a0 : Int) (a1 : Int) (r : Int) (w : World) (h : spec_l01Div.f a0 a1 = some r) :
  Calls Try.prog 91 #[.int .i64 a0, .int .i64 a1] w fun e w' => e = .returned (.int .i64 r) ∧ Drawn0 w w' := by
 unfold spec_l01Div.f at h;have H := h;clear h
 by_cases c3 : a1 < 0
 ·(rw [if_pos c3] at H);have c3b0 := decide_eq_true c3;clear c3;by_cases c4 : (wrap64 (-a0)) < 0
  ·(rw [if_pos c4] at H);have c4b0 := decide_eq_true c4;clear c4;by_cases c5 : (wrap64 (2 * (wrap64 (-a1)))) = 0
   ·(rw [if_pos c5] at H);exact absurd H (by simp)
   ·(rw [if_neg c5] at H);have c5b0 : ((wrap64 (2 * (wrap64 (-a1)))) == 0) = false := beq_eq_false_iff_ne.mpr c5;have c5b1 : ((wrap64 (2 * (wrap64 (-a1)))) != 0) = true := bne_iff_ne.mpr c5;obtain rfl := Option.some.inj H;go_enter Try.func91, Try.ntmps91;go_wp2;go_ret;exact ⟨z7_, z11_⟩
  ·(rw [if_neg c4] at H);have c4b0 := decide_eq_false c4;clear c4;by_cases c6 : (wrap64 (2 * (wrap64 (-a1)))) = 0
   ·(rw [if_pos c6] at H);exact absurd H (by simp)
   ·(rw [if_neg c6] at H);have c6b0 : ((wrap64 (2 * (wrap64 (-a1)))) == 0) = false := beq_eq_false_iff_ne.mpr c6;have c6b1 : ((wrap64 (2 * (wrap64 (-a1)))) != 0) = true := bne_iff_ne.mpr c6;obtain rfl := Option.some.inj H;go_enter Try.func91, Try.ntmps91;go_wp2;go_ret;exact ⟨z7_, z11_⟩
 ·(rw [if_neg c3] at H);have c3b0 := decide_eq_false c3;clear c3;by_cases c7 : a0 < 0
  ·(rw [if_pos c7] at H);have c7b0 := decide_eq_true c7;clear c7;by_cases c8 : (wrap64 (2 * a1)) = 0
   ·(rw [if_pos c8] at H);exact absurd H (by simp)
   ·(rw [if_neg c8] at H);have c8b0 : ((wrap64 (2 * a1)) == 0) = false := beq_eq_false_iff_ne.mpr c8;have c8b1 : ((wrap64 (2 * a1)) != 0) = true := bne_iff_ne.mpr c8;obtain rfl := Option.some.inj H;go_enter Try.func91, Try.ntmps91;go_wp2;go_ret;exact ⟨z7_, z11_⟩
  ·(rw [if_neg c7] at H);have c7b0 := decide_eq_false c7;clear c7;by_cases c9 : (wrap64 (2 * a1)) = 0
   ·(rw [if_pos c9] at H);exact absurd H (by simp)
   ·(rw [if_neg c9] at H);have c9b0 : ((wrap64 (2 * a1)) == 0) = false := beq_eq_false_iff_ne.mpr c9;have c9b1 : ((wrap64 (2 * a1)) != 0) = true := bne_iff_ne.mpr c9;obtain rfl := Option.some.inj H;go_enter Try.func91, Try.ntmps91;go_wp2;go_ret;exact ⟨z7_, z11_⟩

open Go.Proofs.YtnmdcmfhjhgheaaM
def spec_l01Div_.f (a0 a1 : Int) : Option Int := if a1 ≠ 0 ∧ -2305843009213693952 ≤ a0 ∧ a0 ≤ 2305843009213693952 ∧ -2305843009213693952 ≤ a1 ∧ a1 ≤ 2305843009213693952 then some (rdiv a0 a1) else none
theorem spec_l01Div_.calls (a0 a1 : Int) (r : Int) (w : World) (h : spec_l01Div_.f a0 a1 = some r) :
    Calls Try.prog 91 #[.int .i64 a0, .int .i64 a1] w fun e w' => e = .returned (.int .i64 r) ∧ Drawn0 w w' := by
  unfold spec_l01Div_.f at h
  split at h
  · rename_i hc
    obtain ⟨hb, h1, h2, h3, h4⟩ := hc
    exact spec_l01Div.calls a0 a1 r w (by rw [← h]; exact spec_div a0 a1 hb h1 h2 h3 h4)
  · exact absurd h (by simp)


/-! ### spec_l03Raw: function 89 -/
open Go.Proofs.YtnmdcmfhjhgheaaM
set_option maxHeartbeats 2000000 in
set_option maxRecDepth 100000 in
/-- l03Raw of a pipe anywhere in memory. -/
theorem l03Raw_addr (p : Addr) (l d q : Int) (w : World) (h1 : 1 ≤ l) (h2 : l ≤ 10000) (h3 : 20 ≤ d) (h4 : d ≤ 1000) (h5 : -100000 ≤ q) (h6 : q ≤ 100000) (c3 : w.cell? ⟨p.block, p.off + 3, none⟩ = some (.int .i64 l)) :
    Calls Try.prog 89 #[.pointer (some p), .int .i64 d, .int .i64 q] w fun e w' => e = .returned (.int .i64 (dropI l d q)) ∧ Drawn0 w w' := by
  have A := Aside0.mk (show spec_l03Abs_.f q = some (absI q) by unfold spec_l03Abs_.f; rw [if_pos (by omega)])
  have B := Aside0.mk (show spec_l01Div_.f (wrap64 ((wrap64 ((wrap64 (l * 16200)) * q)) * absI q)) (wrap64 ((wrap64 ((wrap64 ((wrap64 (d * d)) * d)) * d)) * d)) = some (dropI l d q) by
    rw [drop_num_w h1 h2 h5 h6, drop_den_w h3 h4]
    have := drop_num h1 h2 h5 h6
    have := drop_den h3 h4
    unfold spec_l01Div_.f dropI
    rw [if_pos (by omega)])
  generalize dropI l d q = r at B
  generalize absI q = s at A B
  clear h1 h2 h3 h4 h5 h6
  go_enter Try.func89, Try.ntmps89
  go_wp2_with fail
  go_quiet ((first | (go_at_call 90; refine Calls.quiet_of (v := .int .i64 s) ?_; (with_reducible refine (spec_l03Abs_.calls q s _ A.out).mono ?_); exact fun e w' hd => ⟨hd.1, hd.2.out⟩) | (go_at_call 91; refine Calls.quiet_of (v := .int .i64 r) ?_; (with_reducible refine (spec_l01Div_.calls _ _ r _ B.out).mono ?_); exact fun e w' hd => ⟨hd.1, hd.2.out⟩)))
  go_wp2
  go_ret
  exact ⟨z158_, z11_⟩


/-! ### spec_l03Drop: function 69 -/
open Go.Proofs.YtnmdcmfhjhgheaaM
set_option maxHeartbeats 2000000 in
set_option maxRecDepth 100000 in
/-- l03Drop of a pipe anywhere in memory. -/
theorem l03Drop_addr (p : Addr) (l d q : Int) (w : World) (h1 : 1 ≤ l) (h2 : l ≤ 10000) (h3 : 20 ≤ d) (h4 : d ≤ 1000) (h5 : -100000 ≤ q) (h6 : q ≤ 100000) (c3 : w.cell? ⟨p.block, p.off + 3, none⟩ = some (.int .i64 l)) (c4 : w.cell? ⟨p.block, p.off + 4, none⟩ = some (.int .i64 d)) :
    Calls Try.prog 69 #[.pointer (some p), .int .i64 q] w fun e w' => e = .returned (.tuple #[.int .i64 (if absI (dropI l d q) > 100000000 then 0 else dropI l d q), .int .i64 (if absI (dropI l d q) > 100000000 then 6 else 0)]) ∧ Drawn0 w w' := by
  have hR := Aside0.mk (fun w => l03Raw_addr p l d q w h1 h2 h3 h4 h5 h6)
  have hb := drop_bound (d := d) h1 h2 h5 h6
  generalize dropI l d q = r at hR hb ⊢
  have A := Aside0.mk (show spec_l03Abs_.f r = some (absI r) by unfold spec_l03Abs_.f; rw [if_pos (by omega)])
  generalize absI r = s at A ⊢
  clear h1 h2 h3 h4 h5 h6 hb
  by_cases c : s > 100000000
  · rw [if_pos c, if_pos c]
    have cb : decide (100000000 < s) = true := decide_eq_true c
    clear c
    go_enter Try.func69, Try.ntmps69
    go_wp2_with (first | (go_at_call 89; (refine (hR.out _ ?side1).mono ?_); (case side1 => exact z196_); rintro e w' ⟨rfl, ⟨nd, rfl⟩⟩) | (go_at_call 90; (with_reducible refine (spec_l03Abs_.calls r s _ A.out).mono ?_); rintro e w' ⟨rfl, ⟨nd, rfl⟩⟩))
    go_ret2
    exact ⟨z158_, z11_⟩
  · rw [if_neg c, if_neg c]
    have cb : decide (100000000 < s) = false := decide_eq_false c
    clear c
    go_enter Try.func69, Try.ntmps69
    go_wp2_with (first | (go_at_call 89; (refine (hR.out _ ?side1).mono ?_); (case side1 => exact z196_); rintro e w' ⟨rfl, ⟨nd, rfl⟩⟩) | (go_at_call 90; (with_reducible refine (spec_l03Abs_.calls r s _ A.out).mono ?_); rintro e w' ⟨rfl, ⟨nd, rfl⟩⟩))
    go_ret2
    exact ⟨z158_, z11_⟩
def spec_l03Drop.f (l0_0 : List Int) (l0_1 : List S73) (a1 a2 : Int) : Option (Int × Int) := if (0 ≤ a1 ∧ a1 < (l0_1.length : Int)) ∧ (1 ≤ (rd_T73 l0_1 a1).f3 ∧ (rd_T73 l0_1 a1).f3 ≤ 10000) ∧ (20 ≤ (rd_T73 l0_1 a1).f4 ∧ (rd_T73 l0_1 a1).f4 ≤ 1000) ∧ -100000 ≤ a2 ∧ a2 ≤ 100000 then some (if absI (dropI (rd_T73 l0_1 a1).f3 (rd_T73 l0_1 a1).f4 a2) > 100000000 then 0 else dropI (rd_T73 l0_1 a1).f3 (rd_T73 l0_1 a1).f4 a2, if absI (dropI (rd_T73 l0_1 a1).f3 (rd_T73 l0_1 a1).f4 a2) > 100000000 then 6 else 0) else none
/-- The pipe is told by its number: the pointer is that of an element of the network's list. -/
theorem spec_l03Drop.calls (gr0 : Nat) (A0_0 : Option Addr) (c0_0 : Nat) (l0_0 : List Int) (A0_1 : Option Addr) (c0_1 : Nat) (l0_1 : List (S73)) (a1 a2 : Int) (r1 r2 : Int) (w : World) (hb0 : w.heap[gr0]? = some (.cells #[.slice A0_0 l0_0.length c0_0, .slice A0_1 l0_1.length c0_1] 31 (0, 0))) (hr0_0 : Kd.C (Kd.int .i64) w A0_0 l0_0.length l0_0) (hc0_0 : l0_0.length ≤ c0_0) (hr0_1 : Kd.C k73 w A0_1 l0_1.length l0_1) (hc0_1 : l0_1.length ≤ c0_1) (h : spec_l03Drop.f l0_0 l0_1 a1 a2 = some (r1, r2)) :
    Calls Try.prog 69 #[.pointer (A0_1.map fun ad => ad.add (a1.toNat * 6)), .int .i64 a2] w fun e w' => e = .returned (.tuple #[.int .i64 r1, .int .i64 r2]) ∧ Drawn0 w w' := by
  unfold spec_l03Drop.f at h
  split at h
  · rename_i hc
    simp only [Option.some.injEq, Prod.mk.injEq] at h
    obtain ⟨rfl, rfl⟩ := h
    obtain ⟨ad, e, _, _, _, x3, x4, _⟩ := at_T73 hr0_1 a1 hc.1.1 hc.1.2
    cases e
    exact l03Drop_addr (ad.add (a1.toNat * 6)) _ _ a2 w hc.2.1.1 hc.2.1.2 hc.2.2.1.1 hc.2.2.1.2 hc.2.2.2.1 hc.2.2.2.2 x3 x4
  · exact absurd h (by simp)


/-! ### spec_l07Pipe: function 70 -/
open Go.Proofs.YtnmdcmfhjhgheaaM
def spec_l07Pipe.f (l0_0 : List Int) (l0_1 : List S73) (a1 : Int) : Option Int := if (-1048576 ≤ a1 ∧ a1 ≤ 1048576) ∧ 0 ≤ absI a1 - 1 ∧ absI a1 - 1 < (l0_1.length : Int) then some (absI a1 - 1) else none
set_option maxHeartbeats 2000000 in
set_option maxRecDepth 100000 in
/-- The pointer to the pipe of a way is told by the pipe's number. -/
theorem spec_l07Pipe.calls (gr0 : Nat) (A0_0 : Option Addr) (c0_0 : Nat) (l0_0 : List Int) (A0_1 : Option Addr) (c0_1 : Nat) (l0_1 : List (S73)) (a1 : Int) (r : Int) (w : World) (hb0 : w.heap[gr0]? = some (.cells #[.slice A0_0 l0_0.length c0_0, .slice A0_1 l0_1.length c0_1] 31 (0, 0))) (hr0_0 : Kd.C (Kd.int .i64) w A0_0 l0_0.length l0_0) (hc0_0 : l0_0.length ≤ c0_0) (hr0_1 : Kd.C k73 w A0_1 l0_1.length l0_1) (hc0_1 : l0_1.length ≤ c0_1) (h : spec_l07Pipe.f l0_0 l0_1 a1 = some r) :
    Calls Try.prog 70 #[.pointer (some ⟨gr0, 0, none⟩), .int .i64 a1] w fun e w' => e = .returned (.pointer (A0_1.map fun ad => ad.add (r.toNat * 6))) ∧ Drawn0 w w' := by
  unfold spec_l07Pipe.f at h
  split at h
  case isFalse => exact absurd h (by simp)
  rename_i hc
  obtain ⟨⟨b0, b1⟩, p0, q0⟩ := hc;obtain rfl := Option.some.inj h;have A := Aside0.mk (show spec_l03Abs_.f a1 = some (absI a1) by unfold spec_l03Abs_.f; rw [if_pos (by omega)]);(have hs : absI a1 ≤ 1048576 := by unfold absI; split <;> omega);clear h;(generalize absI a1 = s at A hs p0 q0 ⊢);obtain ⟨j, hj⟩ : ∃ j, s - 1 = j := ⟨_, rfl⟩;have hjw : IntKind.i64.wrap (s - 1) = j := (i64_w _).trans ((w64 (by omega) (by omega)).trans hj);(rw [hj] at p0 q0 ⊢);clear hj b0 b1 hs;have hcz0 : w.cell? ⟨gr0, 0, none⟩ = some (.slice A0_0 l0_0.length c0_0) := (blk_cell hb0 0).trans rfl;have hcz1 : w.cell? ⟨gr0, 1, none⟩ = some (.slice A0_1 l0_1.length c0_1) := (blk_cell hb0 1).trans rfl;have hfz0 := blk_frozen hb0 0;have hfz1 := blk_frozen hb0 1;obtain ⟨ad, e, _, _, _, _, _, _⟩ := at_T73 hr0_1 j p0 q0
  cases e
  clear hr0_0 hr0_1 hc0_0 hc0_1 hb0;replace p0 := eq_true p0;replace q0 := eq_true q0;go_enter Try.func70, Try.ntmps70
  go_wp2_with fail
  go_quiet ((go_at_call 90; refine Calls.quiet_of (v := .int .i64 s) ?_; (with_reducible refine (spec_l03Abs_.calls a1 s _ A.out).mono ?_); exact fun e w' hd => ⟨hd.1, hd.2.out⟩))
  go_wp2;go_ret;exact ⟨z7_, z11_⟩

/-! ### spec_l07Along: function 71 -/
def spec_l07Along.f (l0 : List Int) (a1 : Int) : Option (Int) := if a1 > 0 then (if 0 ≤ (wrap64 (a1 - 1)) then (if (wrap64 (a1 - 1)) < (l0.length : Int) then (some (rd l0 (wrap64 (a1 - 1)))) else (none)) else (none)) else (if 0 ≤ (wrap64 ((wrap64 (-a1)) - 1)) then (if (wrap64 ((wrap64 (-a1)) - 1)) < (l0.length : Int) then (some (wrap64 (-(rd l0 (wrap64 ((wrap64 (-a1)) - 1)))))) else (none)) else (none))
set_option maxHeartbeats 8000000 in
set_option maxRecDepth 100000 in
theorem spec_l07Along.calls (A0 : Option Addr) (c0 : Nat) (l0 : List Int) (a1 : Int) (r : Int) (w : World) (hr0 : Kd.C (Kd.int .i64) w A0 l0.length l0) (hc0 : l0.length ≤ c0) (h : spec_l07Along.f l0 a1 = some r) :
  Calls Try.prog 71 #[.slice A0 l0.length c0, .int .i64 a1] w fun e w' => e = .returned (.int .i64 r) ∧ Drawn0 w w' := by
 have HR0 := Aside0.mk hr0
 have HC0 := Aside0.mk hc0
 clear hr0 hc0
 unfold spec_l07Along.f at h;have H := h;clear h
 by_cases c3 : a1 > 0
 ·(rw [if_pos c3] at H);have c3b0 : decide (0 < a1) = true := decide_eq_true c3;clear c3;obtain ⟨ji4, hji4⟩ : ∃ j_ : Int, (wrap64 (a1 - 1)) = j_ := ⟨_, rfl⟩;(replace H : (if 0 ≤ (ji4) then (if (ji4) < (l0.length : Int) then (some (rd l0 (ji4))) else (none)) else (none)) = some r := by first | (rw [hji4] at H; exact H) | (simp only [hji4] at H ⊢; exact H));have hji4w : (IntKind.i64.wrap (a1 - 1)) = ji4 := (i64_w _).trans hji4;obtain ⟨c5b0,H⟩ := pd_ H;obtain ⟨c6b0,H⟩ := pd_ H;obtain rfl := Option.some.inj H;obtain ⟨p250,q250,ad250,e250,hx250_0⟩ := aq_ (Kd.at_int HR0.out (ji4)) z0_ z0_;cases e250;go_enter Try.func71, Try.ntmps71;go_wp2;go_ret;exact ⟨by first | rfl | (simp; done) | (simp only [← hji4] <;> (first | rfl | simp)) | (simp [*]; done), z11_⟩
 ·(rw [if_neg c3] at H);have c3b0 : decide (0 < a1) = false := decide_eq_false c3;clear c3;obtain ⟨ji7, hji7⟩ : ∃ j_ : Int, (wrap64 ((wrap64 (-a1)) - 1)) = j_ := ⟨_, rfl⟩;(replace H : (if 0 ≤ (ji7) then (if (ji7) < (l0.length : Int) then (some (wrap64 (-(rd l0 (ji7))))) else (none)) else (none)) = some r := by first | (rw [hji7] at H; exact H) | (simp only [hji7] at H ⊢; exact H));have hji7w : (IntKind.i64.wrap ((wrap64 (-a1)) - 1)) = ji7 := (i64_w _).trans hji7;obtain ⟨c8b0,H⟩ := pd_ H;obtain ⟨c9b0,H⟩ := pd_ H;obtain rfl := Option.some.inj H;obtain ⟨p251,q251,ad251,e251,hx251_0⟩ := aq_ (Kd.at_int HR0.out (ji7)) z0_ z0_;cases e251;go_enter Try.func71, Try.ntmps71;go_wp2;go_ret;exact ⟨by first | rfl | (simp; done) | (simp only [← hji7] <;> (first | rfl | simp)) | (simp [*]; done), z11_⟩

/-! ### spec_l07Static: function 75 -/
def spec_l07Static.f (a0 : Int) (a1 : Int) : Option (Int) := (spec_l01Div_.f (wrap64 (981 * (wrap64 (a1 - a0)))) 10).bind fun t252 => (some t252)
set_option maxHeartbeats 8000000 in
set_option maxRecDepth 100000 in
theorem spec_l07Static.calls (a0 : Int) (a1 : Int) (r : Int) (w : World) (h : spec_l07Static.f a0 a1 = some r) :
  Calls Try.prog 75 #[.int .i64 a0, .int .i64 a1] w fun e w' => e = .returned (.int .i64 r) ∧ Drawn0 w w' := by
 unfold spec_l07Static.f at h;have H := h;clear h
 replace H := Option.bind_eq_some_iff.mp H
 obtain ⟨t252, A30, H⟩ := H
 have A3 := Aside0.mk A30
 clear A30
 obtain rfl := Option.some.inj H
 go_enter Try.func75, Try.ntmps75
 go_wp2_with (first | ((with_reducible refine gate_callee (f := 91) rfl ?_); refine goesL_ (some 9) rfl rfl Try.func91 (z13_) rfl #[.int .i64 (wrap64 (981 * (wrap64 (a1 - a0)))), .int .i64 10] rfl (z1_) ?_; (with_reducible refine (spec_l01Div_.calls (wrap64 (981 * (wrap64 (a1 - a0)))) 10 t252 _ A3.out).mono ?_); rintro e w' ⟨rfl, ⟨nd, rfl⟩⟩; refine ⟨_, rfl, ?_⟩))
 go_ret
 exact ⟨z7_, z11_⟩

end Go.Proofs.Ytnmdcmfhjhgheaa.PFnExactPressuresOf
