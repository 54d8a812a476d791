-- Printed by a program of this session (wip/hprint.sh: the kit's print with hand-proved contracts put in); not by print.sh itself.
import Derived.Test.YtnmdcmfhjhgheaaPFnExactPressuresOfx0
import Derived.Test.YtnmdcmfhjhgheaaPFnExactPressuresOfx3
import Derived.Test.YtnmdcmfhjhgheaaPFnExactPressuresOfx4
import Derived.Test.YtnmdcmfhjhgheaaPFnExactPressuresOfx5
namespace Go.Proofs.Ytnmdcmfhjhgheaa.PFnExactPressuresOf
open Go.RowKit Go.Proofs.YtnmdcmfhjhgheaaW.PrintWords Go.Proofs.YtnmdcmfhjhgheaaW.PrintLast Go.Proofs.YtnmdcmfhjhgheaaW.PrintMore Go.Proofs.YtnmdcmfhjhgheaaM
attribute [local go_sem] max2_int min2_int max_two min_two max_three min_three max_four min_four   -- for this text's walks alone
set_option linter.unusedVariables false
set_option linter.unusedSimpArgs false

/-! ### spec_l07Flows: function 68 -/
def spec_l07Flows.l0 : Nat → List Int → Int → List Int → List (S73) → Option (Bool)
 | 0, _, _, _, _ => none
 | k + 1, x1, x5, x1000, x1001 => if x5 < (x1.length : Int) then (if 0 ≤ x5 then ((spec_l03Flow.f (rd x1 x5)).bind fun t197 => (if t197 = true then (spec_l07Flows.l0 k x1 (wrap64 (x5 + 1)) x1000 x1001) else (some false))) else (none)) else (some ((x1.length : Int) == (x1001.length : Int)))
def spec_l07Flows.f (k : Nat) (l0_0 : List Int) (l0_1 : List (S73)) (l1 : List Int) : Option (Bool) := spec_l07Flows.l0 k l1 0 l0_0 l0_1
theorem spec_l07Flows.mono_l : ∀ k, (∀ y0 y1 y2 y3, LeO (spec_l07Flows.l0 k y0 y1 y2 y3) (spec_l07Flows.l0 (k + 1) y0 y1 y2 y3))
 | 0 => fun _ _ _ _ r h => by simp [spec_l07Flows.l0] at h
 | k + 1 => by
  have ih0 := spec_l07Flows.mono_l k
  ·intro y0 y1 y2 y3
   unfold spec_l07Flows.l0
   exact z225_
theorem spec_l07Flows.mono : ∀ a0 a1 a2 k, LeO (spec_l07Flows.f k a0 a1 a2) (spec_l07Flows.f (k + 1) a0 a1 a2) := by
 intro a0 a1 a2 k
 have ih0 := spec_l07Flows.mono_l k
 unfold spec_l07Flows.f
 exact z225_
set_option maxHeartbeats 8000000 in
set_option maxRecDepth 100000 in
theorem spec_l07Flows.calls (k : Nat) (gr0 : Nat) (A0_0 : Option Addr) (c0_0 : Nat) (l0_0 : List Int) (A0_1 : Option Addr) (c0_1 : Nat) (l0_1 : List (S73)) (A1 : Option Addr) (c1 : Nat) (l1 : List Int) (r : Bool) (w : World) (hb0 : w.heap[gr0]? = some (.cells #[.slice A0_0 l0_0.length c0_0, .slice A0_1 l0_1.length c0_1] 31 (0, 0))) (hr0_0 : Kd.C (Kd.int .i64) w A0_0 l0_0.length l0_0) (hc0_0 : l0_0.length ≤ c0_0) (hr0_1 : Kd.C k73 w A0_1 l0_1.length l0_1) (hc0_1 : l0_1.length ≤ c0_1) (hr1 : Kd.C (Kd.int .i64) w A1 l1.length l1) (hc1 : l1.length ≤ c1) (h : spec_l07Flows.f k l0_0 l0_1 l1 = some r) :
  Calls Try.prog 68 #[.pointer (some ⟨gr0, 0, none⟩), .slice A1 l1.length c1] w fun e w' => e = .returned (.bool r) ∧ Drawn0 w w' := by
 have HR0_0 := Aside0.mk hr0_0
 have HC0_0 := Aside0.mk hc0_0
 clear hr0_0 hc0_0
 have HR0_1 := Aside0.mk hr0_1
 have HC0_1 := Aside0.mk hc0_1
 clear hr0_1 hc0_1
 have HR1 := Aside0.mk hr1
 have HC1 := Aside0.mk hc1
 clear hr1 hc1
 have BK0 := Aside0.mk hb0
 clear hb0
 unfold spec_l07Flows.f at h;have H := h;clear h
 have H' := Aside0.mk H
 clear H
 go_enter Try.func68, Try.ntmps68
 go_wp2
 go_loopg [5] k (fun kq v5 w' => ∃ (x5_1 : Int), v5 = .int .i64 x5_1 ∧ Aside0 (spec_l07Flows.l0 kq l1 x5_1 l0_0 l0_1 = some r) ∧ Aside0 (kq ≤ k) ∧ Aside0 (w'.heap[gr0]? = some (.cells #[(.slice A0_0 l0_0.length c0_0), (.slice A0_1 l0_1.length c0_1)] 31 (0, 0))) ∧ Drawn0 w w')
 case atStart => exact ⟨(0), (z7_), H', ⟨Nat.le_refl _⟩, ⟨z8_⟩, z11_⟩
 case round =>
  clear H';(try clear c1);obtain ⟨x5_1, rfl, HA, HK1, BK0, ⟨m1, rfl⟩⟩ := hrel
  cases gk with
  | zero => exact absurd HA.out (by simp [spec_l07Flows.l0])
  | succ k1 =>
   have H := HA.out;clear HA;(simp only [spec_l07Flows.l0] at H);by_cases c3 : x5_1 < (l1.length : Int)
   ·(rw [if_pos c3] at H);have c3b0 := decide_eq_true c3;clear c3;obtain ⟨c4b0,H⟩ := pd_ H;replace H := Option.bind_eq_some_iff.mp H;obtain ⟨t197, A50, H⟩ := H;have A5 := Aside0.mk A50;clear A50;by_cases c6 : t197 = true
    ·subst c6;(rw [if_pos rfl] at H);have H' := Aside0.mk H;clear H;obtain ⟨p196,q196,ad196,e196,hx196_0⟩ := aq_ (Kd.at_int HR1.out x5_1) z0_ z0_;cases e196
     go_wp2_with (first | ((with_reducible refine gate_callee (f := 88) rfl ?_); refine goesL_ (some 16) rfl rfl Try.func88 (z13_) rfl #[.int .i64 (rd l1 x5_1)] rfl (z1_) ?_; (with_reducible refine (spec_l03Flow.calls (rd l1 x5_1) true _ A5.out).mono ?_); rintro e w' ⟨rfl, ⟨nd, rfl⟩⟩; refine ⟨_, rfl, ?_⟩))
     go_roundg k1
     case measure => have := HK1.out; omega
     case rel => exact ⟨(wrap64 (x5_1 + 1)), (z7_), H', ⟨z112_⟩, ⟨z8_⟩, z11_⟩
    ·replace c6 := Bool.eq_false_iff.mpr c6;subst c6;(rw [if_neg (show ¬ (false = true) by decide)] at H);obtain rfl := Option.some.inj H;obtain ⟨p196,q196,ad196,e196,hx196_0⟩ := aq_ (Kd.at_int HR1.out x5_1) z0_ z0_;cases e196
     go_wp2_with (first | ((with_reducible refine gate_callee (f := 88) rfl ?_); refine goesL_ (some 16) rfl rfl Try.func88 (z13_) rfl #[.int .i64 (rd l1 x5_1)] rfl (z1_) ?_; (with_reducible refine (spec_l03Flow.calls (rd l1 x5_1) false _ A5.out).mono ?_); rintro e w' ⟨rfl, ⟨nd, rfl⟩⟩; refine ⟨_, rfl, ?_⟩))
     go_ret;exact ⟨z7_, z11_⟩
   ·(rw [if_neg c3] at H);have c3b0 := decide_eq_false c3;clear c3;obtain rfl := Option.some.inj H;obtain ⟨hcz7_0,hcz7_1,hfz7_0,hfz7_1⟩ := bz2_ w BK0.out;go_wp2;go_ret;exact ⟨z7_, z11_⟩

open Go.Proofs.YtnmdcmfhjhgheaaM
def flowsB (fs : List Int) : Bool := fs.all fun x => decide (-100000 ≤ x ∧ x ≤ 100000)
theorem flowsB_at {fs : List Int} (h : flowsB fs = true) (i : Nat) (hi : i < fs.length) : -100000 ≤ fs.getD i 0 ∧ fs.getD i 0 ≤ 100000 := by
  have := List.all_eq_true.mp h _ (getD_mem 0 hi)
  exact of_decide_eq_true this
def flowsOkI (ps : List S73) (fs : List Int) : Bool := flowsB fs && decide (fs.length = ps.length)
def spec_l07Flows_.f (l0_0 : List Int) (l0_1 : List S73) (l1 : List Int) : Option Bool := if l1.length ≤ 4611686018427387904 then some (flowsOkI l0_1 l1) else none
theorem flowsS_loop (ns : List Int) (ps : List S73) (fs : List Int) (hl : fs.length ≤ 4611686018427387904) : ∀ (d k i : Nat), i ≤ fs.length → fs.length - i = d → d < k → spec_l07Flows.l0 k fs (i : Int) ns ps = some (flowsB (fs.drop i) && decide (fs.length = ps.length)) := by
  intro d
  induction d with
  | zero =>
    intro k i h1 hd hk
    obtain ⟨k, rfl⟩ : ∃ m, k = m + 1 := ⟨k - 1, by omega⟩
    simp only [spec_l07Flows.l0]; rw [if_neg (by omega), List.drop_of_length_le (by omega)]
    by_cases c : fs.length = ps.length
    · simp [flowsB, c]
    · have c' : ¬ ((fs.length : Int) = (ps.length : Int)) := by omega
      simp [flowsB, c, c']
  | succ d ih =>
    intro k i h1 hd hk
    obtain ⟨k, rfl⟩ : ∃ m, k = m + 1 := ⟨k - 1, by omega⟩
    simp only [spec_l07Flows.l0]
    have hi : i < fs.length := by omega
    have e1 : rd fs (i : Int) = fs[i]'(by omega) := by unfold rd; rw [Int.toNat_natCast, List.getD_eq_getElem?_getD, List.getElem?_eq_getElem (by omega)]; rfl
    have e2 : flowsB (fs.drop i) = (decide (-100000 ≤ fs[i] ∧ fs[i] ≤ 100000) && flowsB (fs.drop (i + 1))) := by rw [List.drop_eq_getElem_cons hi]; unfold flowsB; rw [List.all_cons]
    rw [if_pos (by omega), if_pos (by omega), e1, w64 (x := (i : Int) + 1) (by omega) (by omega), show (i : Int) + 1 = ((i + 1 : Nat) : Int) by omega, ih k (i + 1) (by omega) (by omega) (by omega), e2]
    unfold spec_l03Flow.f spec_l00In_.f
    simp only [Option.bind_some]
    cases decide (-100000 ≤ fs[i] ∧ fs[i] ≤ 100000) <;> simp
theorem spec_l07Flows_.same (ns : List Int) (ps : List S73) (fs : List Int) (h : fs.length ≤ 4611686018427387904) : spec_l07Flows.f (fs.length + 1) ns ps fs = some (flowsOkI ps fs) := by
  unfold spec_l07Flows.f flowsOkI
  have := flowsS_loop ns ps fs h fs.length (fs.length + 1) 0 (by omega) (by omega) (by omega)
  simpa using this
theorem spec_l07Flows_.calls (gr0 : Nat) (A0_0 : Option Addr) (c0_0 : Nat) (l0_0 : List Int) (A0_1 : Option Addr) (c0_1 : Nat) (l0_1 : List (S73)) (A1 : Option Addr) (c1 : Nat) (l1 : List Int) (r : Bool) (w : World) (hb0 : w.heap[gr0]? = some (.cells #[.slice A0_0 l0_0.length c0_0, .slice A0_1 l0_1.length c0_1] 31 (0, 0))) (hr0_0 : Kd.C (Kd.int .i64) w A0_0 l0_0.length l0_0) (hc0_0 : l0_0.length ≤ c0_0) (hr0_1 : Kd.C k73 w A0_1 l0_1.length l0_1) (hc0_1 : l0_1.length ≤ c0_1) (hr1 : Kd.C (Kd.int .i64) w A1 l1.length l1) (hc1 : l1.length ≤ c1) (h : spec_l07Flows_.f l0_0 l0_1 l1 = some r) :
    Calls Try.prog 68 #[.pointer (some ⟨gr0, 0, none⟩), .slice A1 l1.length c1] w fun e w' => e = .returned (.bool r) ∧ Drawn0 w w' := by
  unfold spec_l07Flows_.f at h
  split at h
  · rename_i hs
    exact spec_l07Flows.calls (l1.length + 1) gr0 A0_0 c0_0 l0_0 A0_1 c0_1 l0_1 A1 c1 l1 r w hb0 hr0_0 hc0_0 hr0_1 hc0_1 hr1 hc1 (by rw [← h]; exact spec_l07Flows_.same l0_0 l0_1 l1 hs)
  · exact absurd h (by simp)


/-! ### spec_l07Given: function 36 -/
def spec_l07Given.f (k : Nat) (l0_0 : List Int) (l0_1 : List (S73)) (a1 : Int) (a2 : Int) (l3 : List Int) : Option (Int) := (spec_l07Ask_.f l0_0 l0_1 a1).bind fun t198 => (if t198 = 0 then ((spec_l03Press.f a2).bind fun t199 => (if t199 = true then ((spec_l07Flows_.f l0_0 l0_1 l3).bind fun t200 => (if t200 = true then ((spec_l04IsTree.f k l0_0 l0_1).bind fun t201 => (if t201 = true then (some 0) else (some 6))) else (some 7))) else (some 2))) else (some t198))
theorem spec_l07Given.mono : ∀ a0 a1 a2 a3 a4 k, LeO (spec_l07Given.f k a0 a1 a2 a3 a4) (spec_l07Given.f (k + 1) a0 a1 a2 a3 a4) := by
 intro a0 a1 a2 a3 a4 k
 unfold spec_l07Given.f
 repeat' first|(with_reducible first|exact spec_l04IsTree.mono _ _ _|exact LeO.refl _|exact LeO.none _|refine LeO.ite ?_ ?_|refine LeO.bind ?_ (fun _ => ?_))|exact spec_l04IsTree.mono _ _ _|exact LeO.none _|refine LeO.ite ?_ ?_|refine LeO.bind ?_ (fun _ => ?_)
set_option maxHeartbeats 8000000 in
set_option maxRecDepth 100000 in
theorem spec_l07Given.calls (k : Nat) (gr0 : Nat) (A0_0 : Option Addr) (c0_0 : Nat) (l0_0 : List Int) (A0_1 : Option Addr) (c0_1 : Nat) (l0_1 : List (S73)) (a1 : Int) (a2 : Int) (A3 : Option Addr) (c3 : Nat) (l3 : List Int) (r : Int) (w : World) (hb0 : w.heap[gr0]? = some (.cells #[.slice A0_0 l0_0.length c0_0, .slice A0_1 l0_1.length c0_1] 31 (0, 0))) (hr0_0 : Kd.C (Kd.int .i64) w A0_0 l0_0.length l0_0) (hc0_0 : l0_0.length ≤ c0_0) (hr0_1 : Kd.C k73 w A0_1 l0_1.length l0_1) (hc0_1 : l0_1.length ≤ c0_1) (hr3 : Kd.C (Kd.int .i64) w A3 l3.length l3) (hc3 : l3.length ≤ c3) (h : spec_l07Given.f k l0_0 l0_1 a1 a2 l3 = some r) :
  Calls Try.prog 36 #[.pointer (some ⟨gr0, 0, none⟩), .int .i64 a1, .int .i64 a2, .slice A3 l3.length c3] w fun e w' => e = .returned (.int .i64 r) ∧ Below w.heap.size w w' := by
 have HR0_0 := Aside0.mk hr0_0
 have HC0_0 := Aside0.mk hc0_0
 clear hr0_0 hc0_0
 have HR0_1 := Aside0.mk hr0_1
 have HC0_1 := Aside0.mk hc0_1
 clear hr0_1 hc0_1
 have HR3 := Aside0.mk hr3
 have HC3 := Aside0.mk hc3
 clear hr3 hc3
 have BK0 := Aside0.mk hb0
 clear hb0
 have HB := Aside0.mk (Below.refl w.heap.size w)
 unfold spec_l07Given.f at h;have H := h;clear h
 replace H := Option.bind_eq_some_iff.mp H
 obtain ⟨t198, A50, H⟩ := H
 have A5 := Aside0.mk A50
 clear A50
 by_cases c6 : t198 = 0
 ·(rw [if_pos c6] at H);have c6b0 : (t198 == 0) = true := beq_iff_eq.mpr c6;have c6b1 : (t198 != 0) = false := bne_eq_false_iff_eq.mpr c6;clear c6;replace H := Option.bind_eq_some_iff.mp H;obtain ⟨t199, A70, H⟩ := H;have A7 := Aside0.mk A70;clear A70;by_cases c8 : t199 = true
  ·subst c8;(rw [if_pos rfl] at H);replace H := Option.bind_eq_some_iff.mp H;obtain ⟨t200, A90, H⟩ := H;have A9 := Aside0.mk A90;clear A90;by_cases c10 : t200 = true
   ·subst c10;(rw [if_pos rfl] at H);replace H := Option.bind_eq_some_iff.mp H;obtain ⟨t201, A110, H⟩ := H;have A11 := Aside0.mk A110;clear A110;by_cases c12 : t201 = true
    ·subst c12;(rw [if_pos rfl] at H);obtain rfl := Option.some.inj H;go_enter Try.func36, Try.ntmps36
     go_wp2_with (first | ((with_reducible refine gate_callee (f := 43) rfl ?_); refine goesL_ (some 12) rfl rfl Try.func43 (z13_) rfl #[.pointer (some ⟨gr0, 0, none⟩), .int .i64 a1] rfl (z1_) ?_; (with_reducible refine (spec_l07Ask_.calls gr0 A0_0 c0_0 l0_0 A0_1 c0_1 l0_1 a1 t198 _ ?side1 ?side2 ?side3 ?side4 ?side5 A5.out).mono ?_); (case side1 => exact (z8_)); (case side2 => exact z199_); (case side3 => exact HC0_0.out); (case side4 => exact z200_); (case side5 => exact HC0_1.out); rintro e w' ⟨rfl, ⟨nd, rfl⟩⟩; refine ⟨_, rfl, ?_⟩) | ((with_reducible refine gate_callee (f := 44) rfl ?_); refine goesL_ (some 17) rfl rfl Try.func44 (z13_) rfl #[.int .i64 a2] rfl (z1_) ?_; (with_reducible refine (spec_l03Press.calls a2 true _ A7.out).mono ?_); rintro e w' ⟨rfl, ⟨nd, rfl⟩⟩; refine ⟨_, rfl, ?_⟩) | ((with_reducible refine gate_callee (f := 68) rfl ?_); refine goesL_ (some 21) rfl rfl Try.func68 (z13_) rfl #[.pointer (some ⟨gr0, 0, none⟩), .slice A3 l3.length c3] rfl (z1_) ?_; (with_reducible refine (spec_l07Flows_.calls gr0 A0_0 c0_0 l0_0 A0_1 c0_1 l0_1 _ _ l3 true _ ?side1 ?side2 ?side3 ?side4 ?side5 ?side6 ?side7 A9.out).mono ?_); (case side1 => exact (z8_)); (case side2 => exact z199_); (case side3 => exact HC0_0.out); (case side4 => exact z200_); (case side5 => exact HC0_1.out); (case side6 => exact z206_); (case side7 => exact HC3.out); rintro e w' ⟨rfl, ⟨nd, rfl⟩⟩; refine ⟨_, rfl, ?_⟩) | ((with_reducible refine gate_callee (f := 50) rfl ?_); refine goesL_ (some 24) rfl rfl Try.func50 (z13_) rfl #[.pointer (some ⟨gr0, 0, none⟩)] rfl (z1_) ?_; (with_reducible refine (spec_l04IsTree.calls k gr0 A0_0 c0_0 l0_0 A0_1 c0_1 l0_1 true _ ?side1 ?side2 ?side3 ?side4 ?side5 A11.out).mono ?_); (case side1 => exact (z8_)); (case side2 => exact z199_); (case side3 => exact HC0_0.out); (case side4 => exact z200_); (case side5 => exact HC0_1.out); rintro e w13 ⟨rfl, hb⟩; refine ⟨_, rfl, ?_⟩; replace BK0 := Aside0.mk (blk_below (g := gr0) (o := .cells #[.slice A0_0 l0_0.length c0_0, .slice A0_1 l0_1.length c0_1] 31 (0, 0)) (z8_) hb); replace HB := Aside0.mk (below_step (z4_) hb); (try clear hb); (try clear hi)))
     go_ret;exact ⟨z5_, z4_⟩
    ·replace c12 := Bool.eq_false_iff.mpr c12;subst c12;(rw [if_neg (show ¬ (false = true) by decide)] at H);obtain rfl := Option.some.inj H;go_enter Try.func36, Try.ntmps36
     go_wp2_with (first | ((with_reducible refine gate_callee (f := 43) rfl ?_); refine goesL_ (some 12) rfl rfl Try.func43 (z13_) rfl #[.pointer (some ⟨gr0, 0, none⟩), .int .i64 a1] rfl (z1_) ?_; (with_reducible refine (spec_l07Ask_.calls gr0 A0_0 c0_0 l0_0 A0_1 c0_1 l0_1 a1 t198 _ ?side1 ?side2 ?side3 ?side4 ?side5 A5.out).mono ?_); (case side1 => exact (z8_)); (case side2 => exact z199_); (case side3 => exact HC0_0.out); (case side4 => exact z200_); (case side5 => exact HC0_1.out); rintro e w' ⟨rfl, ⟨nd, rfl⟩⟩; refine ⟨_, rfl, ?_⟩) | ((with_reducible refine gate_callee (f := 44) rfl ?_); refine goesL_ (some 17) rfl rfl Try.func44 (z13_) rfl #[.int .i64 a2] rfl (z1_) ?_; (with_reducible refine (spec_l03Press.calls a2 true _ A7.out).mono ?_); rintro e w' ⟨rfl, ⟨nd, rfl⟩⟩; refine ⟨_, rfl, ?_⟩) | ((with_reducible refine gate_callee (f := 68) rfl ?_); refine goesL_ (some 21) rfl rfl Try.func68 (z13_) rfl #[.pointer (some ⟨gr0, 0, none⟩), .slice A3 l3.length c3] rfl (z1_) ?_; (with_reducible refine (spec_l07Flows_.calls gr0 A0_0 c0_0 l0_0 A0_1 c0_1 l0_1 _ _ l3 true _ ?side1 ?side2 ?side3 ?side4 ?side5 ?side6 ?side7 A9.out).mono ?_); (case side1 => exact (z8_)); (case side2 => exact z199_); (case side3 => exact HC0_0.out); (case side4 => exact z200_); (case side5 => exact HC0_1.out); (case side6 => exact z206_); (case side7 => exact HC3.out); rintro e w' ⟨rfl, ⟨nd, rfl⟩⟩; refine ⟨_, rfl, ?_⟩) | ((with_reducible refine gate_callee (f := 50) rfl ?_); refine goesL_ (some 24) rfl rfl Try.func50 (z13_) rfl #[.pointer (some ⟨gr0, 0, none⟩)] rfl (z1_) ?_; (with_reducible refine (spec_l04IsTree.calls k gr0 A0_0 c0_0 l0_0 A0_1 c0_1 l0_1 false _ ?side1 ?side2 ?side3 ?side4 ?side5 A11.out).mono ?_); (case side1 => exact (z8_)); (case side2 => exact z199_); (case side3 => exact HC0_0.out); (case side4 => exact z200_); (case side5 => exact HC0_1.out); rintro e w14 ⟨rfl, hb⟩; refine ⟨_, rfl, ?_⟩; replace BK0 := Aside0.mk (blk_below (g := gr0) (o := .cells #[.slice A0_0 l0_0.length c0_0, .slice A0_1 l0_1.length c0_1] 31 (0, 0)) (z8_) hb); replace HB := Aside0.mk (below_step (z4_) hb); (try clear hb); (try clear hi)))
     go_ret;exact ⟨z5_, z4_⟩
   ·replace c10 := Bool.eq_false_iff.mpr c10;subst c10;(rw [if_neg (show ¬ (false = true) by decide)] at H);obtain rfl := Option.some.inj H;go_enter Try.func36, Try.ntmps36
    go_wp2_with (first | ((with_reducible refine gate_callee (f := 43) rfl ?_); refine goesL_ (some 12) rfl rfl Try.func43 (z13_) rfl #[.pointer (some ⟨gr0, 0, none⟩), .int .i64 a1] rfl (z1_) ?_; (with_reducible refine (spec_l07Ask_.calls gr0 A0_0 c0_0 l0_0 A0_1 c0_1 l0_1 a1 t198 _ ?side1 ?side2 ?side3 ?side4 ?side5 A5.out).mono ?_); (case side1 => exact (z8_)); (case side2 => exact z199_); (case side3 => exact HC0_0.out); (case side4 => exact z200_); (case side5 => exact HC0_1.out); rintro e w' ⟨rfl, ⟨nd, rfl⟩⟩; refine ⟨_, rfl, ?_⟩) | ((with_reducible refine gate_callee (f := 44) rfl ?_); refine goesL_ (some 17) rfl rfl Try.func44 (z13_) rfl #[.int .i64 a2] rfl (z1_) ?_; (with_reducible refine (spec_l03Press.calls a2 true _ A7.out).mono ?_); rintro e w' ⟨rfl, ⟨nd, rfl⟩⟩; refine ⟨_, rfl, ?_⟩) | ((with_reducible refine gate_callee (f := 68) rfl ?_); refine goesL_ (some 21) rfl rfl Try.func68 (z13_) rfl #[.pointer (some ⟨gr0, 0, none⟩), .slice A3 l3.length c3] rfl (z1_) ?_; (with_reducible refine (spec_l07Flows_.calls gr0 A0_0 c0_0 l0_0 A0_1 c0_1 l0_1 _ _ l3 false _ ?side1 ?side2 ?side3 ?side4 ?side5 ?side6 ?side7 A9.out).mono ?_); (case side1 => exact (z8_)); (case side2 => exact z199_); (case side3 => exact HC0_0.out); (case side4 => exact z200_); (case side5 => exact HC0_1.out); (case side6 => exact z206_); (case side7 => exact HC3.out); rintro e w' ⟨rfl, ⟨nd, rfl⟩⟩; refine ⟨_, rfl, ?_⟩))
    go_ret;exact ⟨z5_, z4_⟩
  ·replace c8 := Bool.eq_false_iff.mpr c8;subst c8;(rw [if_neg (show ¬ (false = true) by decide)] at H);obtain rfl := Option.some.inj H;go_enter Try.func36, Try.ntmps36
   go_wp2_with (first | ((with_reducible refine gate_callee (f := 43) rfl ?_); refine goesL_ (some 12) rfl rfl Try.func43 (z13_) rfl #[.pointer (some ⟨gr0, 0, none⟩), .int .i64 a1] rfl (z1_) ?_; (with_reducible refine (spec_l07Ask_.calls gr0 A0_0 c0_0 l0_0 A0_1 c0_1 l0_1 a1 t198 _ ?side1 ?side2 ?side3 ?side4 ?side5 A5.out).mono ?_); (case side1 => exact (z8_)); (case side2 => exact z199_); (case side3 => exact HC0_0.out); (case side4 => exact z200_); (case side5 => exact HC0_1.out); rintro e w' ⟨rfl, ⟨nd, rfl⟩⟩; refine ⟨_, rfl, ?_⟩) | ((with_reducible refine gate_callee (f := 44) rfl ?_); refine goesL_ (some 17) rfl rfl Try.func44 (z13_) rfl #[.int .i64 a2] rfl (z1_) ?_; (with_reducible refine (spec_l03Press.calls a2 false _ A7.out).mono ?_); rintro e w' ⟨rfl, ⟨nd, rfl⟩⟩; refine ⟨_, rfl, ?_⟩))
   go_ret;exact ⟨z5_, z4_⟩
 ·(rw [if_neg c6] at H);have c6b0 : (t198 == 0) = false := beq_eq_false_iff_ne.mpr c6;have c6b1 : (t198 != 0) = true := bne_iff_ne.mpr c6;obtain rfl := Option.some.inj H;go_enter Try.func36, Try.ntmps36
  go_wp2_with (first | ((with_reducible refine gate_callee (f := 43) rfl ?_); refine goesL_ (some 12) rfl rfl Try.func43 (z13_) rfl #[.pointer (some ⟨gr0, 0, none⟩), .int .i64 a1] rfl (z1_) ?_; (with_reducible refine (spec_l07Ask_.calls gr0 A0_0 c0_0 l0_0 A0_1 c0_1 l0_1 a1 t198 _ ?side1 ?side2 ?side3 ?side4 ?side5 A5.out).mono ?_); (case side1 => exact (z8_)); (case side2 => exact z199_); (case side3 => exact HC0_0.out); (case side4 => exact z200_); (case side5 => exact HC0_1.out); rintro e w' ⟨rfl, ⟨nd, rfl⟩⟩; refine ⟨_, rfl, ?_⟩))
  go_ret;exact ⟨z5_, z4_⟩

end Go.Proofs.Ytnmdcmfhjhgheaa.PFnExactPressuresOf
