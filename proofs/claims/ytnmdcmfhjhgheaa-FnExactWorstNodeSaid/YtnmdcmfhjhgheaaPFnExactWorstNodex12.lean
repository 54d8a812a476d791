-- Printed by a program of this session (wip/hprint.sh: the kit's print with hand-proved contracts put in); not by print.sh itself.
import Derived.Test.YtnmdcmfhjhgheaaPFnExactWorstNodex0
import Derived.Test.YtnmdcmfhjhgheaaPFnExactWorstNodex3
import Derived.Test.YtnmdcmfhjhgheaaPFnExactWorstNodex4
import Derived.Test.YtnmdcmfhjhgheaaPFnExactWorstNodex9
import Derived.Test.YtnmdcmfhjhgheaaPFnExactWorstNodex10
import Derived.Test.YtnmdcmfhjhgheaaPFnExactWorstNodex11
namespace Go.Proofs.Ytnmdcmfhjhgheaa.PFnExactWorstNode
open Go.RowKit Go.Proofs.YtnmdcmfhjhgheaaW.PrintWords Go.Proofs.YtnmdcmfhjhgheaaW.PrintLast Go.Proofs.YtnmdcmfhjhgheaaW.PrintMore Go.Proofs.YtnmdcmfhjhgheaaM
attribute [local go_sem] max2_int min2_int max_two min_two max_three min_three max_four min_four   -- for this text's walks alone
set_option linter.unusedVariables false
set_option linter.unusedSimpArgs false

open Go.Proofs.YtnmdcmfhjhgheaaM
def X38.f (l0_0 : List Int) (l0_1 : List S73) : Option Bool := if l0_0.length ≤ 4611686018427387904 ∧ (∀ p ∈ l0_1, p.f0.size ≤ 9000000000000000000) then some (netOk l0_0 l0_1) else none
theorem hasNode_f (ns : List Int) (ps : List S73) (x : Int) (h : 1 ≤ ns.length ∧ ns.length ≤ 16) : X26.f ns ps x = some (decide (0 ≤ x ∧ x ≤ (ns.length : Int) - 1)) := by
  unfold X26.f
  rw [if_pos (by omega)]
theorem hasEnds_f (ns : List Int) (ps : List S73) (p : S73) (h : 1 ≤ ns.length ∧ ns.length ≤ 16) (hp : pipeOk p.f0 p.f1 p.f2 p.f3 p.f4 p.f5 = true) : X43.f ns ps p.f0 p.f1 p.f2 p.f3 p.f4 p.f5 = some (fitsOk ns.length p) := by
  have hr := pipeOk_range hp
  unfold X43.f fitsOk
  rw [hasNode_f ns ps _ h, hasNode_f ns ps _ h, hp]
  simp only [Option.bind_some, Bool.true_and]
  by_cases c1 : p.f1 < (ns.length : Int)
  · rw [decide_eq_true c1, decide_eq_true (show 0 ≤ p.f1 ∧ p.f1 ≤ (ns.length : Int) - 1 by omega)]
    by_cases c2 : p.f2 < (ns.length : Int)
    · rw [decide_eq_true c2, decide_eq_true (show 0 ≤ p.f2 ∧ p.f2 ≤ (ns.length : Int) - 1 by omega)]; rfl
    · rw [decide_eq_false c2, decide_eq_false (show ¬ (0 ≤ p.f2 ∧ p.f2 ≤ (ns.length : Int) - 1) by omega)]; rfl
  · rw [decide_eq_false c1, decide_eq_false (show ¬ (0 ≤ p.f1 ∧ p.f1 ≤ (ns.length : Int) - 1) by omega)]; rfl
theorem vnP_loop (ns : List Int) (ps : List S73) (hn : 1 ≤ ns.length ∧ ns.length ≤ 16) (hp : ps.length ≤ 20) (hs : ∀ p ∈ ps, p.f0.size ≤ 9000000000000000000) : ∀ (d k i : Nat), i ≤ ps.length → ps.length - i = d → d < k → X9.l0 k ps (ps.length : Int) (i : Int) ns ps = some (stepsFrom ns.length ps d i) := by
  intro d
  induction d with
  | zero =>
    intro k i h1 hd hk
    obtain ⟨k, rfl⟩ : ∃ m, k = m + 1 := ⟨k - 1, by omega⟩
    simp only [X9.l0]; rw [if_neg (by omega)]; rfl
  | succ d ih =>
    intro k i h1 hd hk
    obtain ⟨k, rfl⟩ : ∃ m, k = m + 1 := ⟨k - 1, by omega⟩
    simp only [X9.l0]
    have hm := hs _ (getD_mem z73 (show i < ps.length by omega))
    have e : stepsFrom ns.length ps (d + 1) i = (stepOk ns.length ps i && stepsFrom ns.length ps d (i + 1)) := rfl
    rw [if_pos (by omega), if_pos (by omega), if_pos (by omega), rdP_ok, e, w64 (x := (i : Int) + 1) (by omega) (by omega), show (i : Int) + 1 = ((i + 1 : Nat) : Int) by omega, ih k (i + 1) (by omega) (by omega) (by omega)]
    unfold X52.f
    rw [if_pos hm]
    simp only [Option.bind_some]
    unfold stepOk
    by_cases hv : pipeOk (ps.getD i z73).f0 (ps.getD i z73).f1 (ps.getD i z73).f2 (ps.getD i z73).f3 (ps.getD i z73).f4 (ps.getD i z73).f5 = true
    · rw [if_pos hv, hasEnds_f ns ps _ hn hv]
      simp only [Option.bind_some]
      cases hf : fitsOk ns.length (ps.getD i z73)
      · simp
      · rw [if_pos rfl]
        by_cases h0 : i = 0
        · subst h0; simp
        · have e1 : wrap64 ((i : Int) - 1) = ((i - 1 : Nat) : Int) := by rw [w64 (by omega) (by omega)]; omega
          rw [if_pos (by omega), e1, if_pos (by omega), if_pos (by omega), rdP_ok, decide_eq_false h0, bytes_tri (ps.getD (i - 1) z73).f0.toList (ps.getD i z73).f0.toList]
          cases (Op.bytesLess (ps.getD i z73).f0.toList (ps.getD (i - 1) z73).f0.toList || (ps.getD i z73).f0.toList == (ps.getD (i - 1) z73).f0.toList) <;> simp
    · have hf : fitsOk ns.length (ps.getD i z73) = false := by unfold fitsOk; rw [Bool.eq_false_iff.mpr hv]; rfl
      rw [if_neg hv, hf]; rfl
theorem X38.same (ns : List Int) (ps : List S73) (h : ns.length ≤ 4611686018427387904 ∧ ∀ p ∈ ps, p.f0.size ≤ 9000000000000000000) : X9.f 25 ns ps = some (netOk ns ps) := by
  unfold X9.f netOk tailOk
  simp only [X9.j0]
  by_cases c1 : (ns.length : Int) < 1
  · rw [if_pos c1, decide_eq_false (show ¬ 1 ≤ ns.length by omega)]; simp
  · rw [if_neg c1, decide_eq_true (show 1 ≤ ns.length by omega)]
    by_cases c2 : (ns.length : Int) > 16
    · rw [if_pos c2, decide_eq_false (show ¬ ns.length ≤ 16 by omega)]; simp
    · rw [if_neg c2, decide_eq_true (show ns.length ≤ 16 by omega)]
      unfold X36.f
      rw [if_pos (by omega)]
      have ha : allIn (-100000) 100000 ns = nodesOk ns := rfl
      rw [ha]
      simp only [Option.bind_some]
      cases nodesOk ns
      · simp
      · by_cases c3 : (ps.length : Int) > 20
        · rw [decide_eq_true c3, decide_eq_false (show ¬ ps.length ≤ 20 by omega)]; simp
        · rw [decide_eq_false c3, decide_eq_true (show ps.length ≤ 20 by omega)]
          have := vnP_loop ns ps (by omega) (by omega) h.2 ps.length 24 0 (by omega) (by omega) (by omega)
          simpa using this
theorem X38.calls (A0_0 : Option Addr) (c0_0 : Nat) (l0_0 : List Int) (A0_1 : Option Addr) (c0_1 : Nat) (l0_1 : List (S73)) (r : Bool) (w : World) (hr0_0 : Kd.C (Kd.int .i64) w A0_0 l0_0.length l0_0) (hc0_0 : l0_0.length ≤ c0_0) (hr0_1 : Kd.C k73 w A0_1 l0_1.length l0_1) (hc0_1 : l0_1.length ≤ c0_1) (h : X38.f l0_0 l0_1 = some r) :
    Calls Try.prog 55 #[.agg #[.slice A0_0 l0_0.length c0_0, .slice A0_1 l0_1.length c0_1]] w fun e w' => e = .returned (.bool r) ∧ Below w.heap.size w w' := by
  unfold X38.f at h
  split at h
  · rename_i hs
    exact X9.calls 25 A0_0 c0_0 l0_0 A0_1 c0_1 l0_1 r w hr0_0 hc0_0 hr0_1 hc0_1 (by rw [← h]; exact X38.same l0_0 l0_1 hs)
  · exact absurd h (by simp)


def X39.f (a0 : Int) : Option (Bool) := (X37.f a0 0 100000000).bind fun t323 => (some t323)
set_option maxHeartbeats 8000000 in
set_option maxRecDepth 100000 in
theorem X39.calls (a0 : Int) (r : Bool) (w : World) (h : X39.f a0 = some r) :
  Calls Try.prog 57 #[.int .i64 a0] w fun e w' => e = .returned (.bool r) ∧ Drawn0 w w' := by
 unfold X39.f at h;have H := h;clear h
 obtain ⟨t323, A20, H⟩ := ob_ H
 have A2 := am_ A20
 clear A20
 obtain rfl := Option.some.inj H
 go_enter Try.func57, Try.ntmps57
 go_wp2_with (first | ((with_reducible refine gate_callee (f := 65) rfl ?_); refine goesL_ (some 4) rfl rfl Try.func65 (z13_) rfl #[.int .i64 a0, .int .i64 0, .int .i64 100000000] rfl (z1_) ?_; (with_reducible refine (X37.calls a0 0 100000000 t323 _ A2.out).mono ?_); rintro e w' ⟨rfl, ⟨nd, rfl⟩⟩; refine ⟨_, rfl, ?_⟩))
 go_ret
 exact ⟨z8_, z10_⟩

def X69.f (l0_0 : List Int) (l0_1 : List (S73)) (l1 : List Int) : Option (Bool) := if (l1.length : Int) = (l0_1.length : Int) then ((X36.f l1 (-100000) 100000).bind fun t325 => (some t325)) else (some false)
set_option maxHeartbeats 8000000 in
set_option maxRecDepth 100000 in
theorem X69.calls (A0_0 : Option Addr) (c0_0 : Nat) (l0_0 : List Int) (A0_1 : Option Addr) (c0_1 : Nat) (l0_1 : List (S73)) (A1 : Option Addr) (c1 : Nat) (l1 : List Int) (r : Bool) (w : World) (hr0_0 : Kd.C (Kd.int .i64) w A0_0 l0_0.length l0_0) (hc0_0 : l0_0.length ≤ c0_0) (hr0_1 : Kd.C k73 w A0_1 l0_1.length l0_1) (hc0_1 : l0_1.length ≤ c0_1) (hr1 : Kd.C (Kd.int .i64) w A1 l1.length l1) (hc1 : l1.length ≤ c1) (h : X69.f l0_0 l0_1 l1 = some r) :
  Calls Try.prog 58 #[.agg #[.slice A0_0 l0_0.length c0_0, .slice A0_1 l0_1.length c0_1], .slice A1 l1.length c1] w fun e w' => e = .returned (.bool r) ∧ Below w.heap.size w w' := by
 have hu31 := Try.underlying31
 have HR0_0 := am_ hr0_0
 have HC0_0 := am_ hc0_0
 clear hr0_0 hc0_0
 have HR0_1 := am_ hr0_1
 have HC0_1 := am_ hc0_1
 clear hr0_1 hc0_1
 have HR1 := am_ hr1
 have HC1 := am_ hc1
 clear hr1 hc1
 have HB := am_ (Below.refl w.heap.size w)
 unfold X69.f at h;have H := h;clear h
 by_cases c3 : (l1.length : Int) = (l0_1.length : Int)
 ·(rw [if_pos c3] at H);have c3b0 : ((l1.length : Int) == (l0_1.length : Int)) = true := beq_iff_eq.mpr c3;have c3b1 : ((l1.length : Int) != (l0_1.length : Int)) = false := bne_eq_false_iff_eq.mpr c3;(have c3b2 : (l1.length == l0_1.length) = true := by first | simpa using c3 | (simp at c3 ⊢; omega));clear c3;obtain ⟨t325, A40, H⟩ := ob_ H;have A4 := am_ A40;clear A40;obtain rfl := Option.some.inj H;go_enter Try.func58, Try.ntmps58
  go_wp2_with (first | ((with_reducible refine gate_dst (N := 2) rfl ?_); refine box_event ?hg (N := 2) ?hd (cs := #[.slice A0_0 l0_0.length c0_0, .slice A0_1 l0_1.length c0_1]) (t := 31) ?hr ?_; (case hd => rfl); (case hg => rfl); (case hr => first | (go_simp; done) | (go_simp; rfl)); intro gb324 hg w5 hbox hb; have BK324 := am_ (hbox); have GW324 := am_ ((z4_ : w.heap.size ≤ gb324)); have GE324 := am_ ((z4_ : w.heap.size ≤ gb324)); replace HB := am_ (below_step (z2_) hb); clear hb hbox hg; obtain ⟨hcz6_0,hcz6_1,hfz6_0,hfz6_1⟩ := bz2_ w5 BK324.out) | (go_at_call 33; (with_reducible refine (X36.calls _ _ l1 (-100000) 100000 t325 _ ?side1 ?side2 A4.out).mono ?_); (case side1 => repeat (first | exact (Kd.C_below HR1.out HB.out) | (with_reducible first|refine Kd.C_alloc ?_ _|refine Kd.C_drewN ?_ _|refine Kd.C_drew ?_))); (case side2 => exact HC1.out); rintro e w7 ⟨rfl, hb⟩; replace BK324 := am_ (blk_below (g := gb324) (o := .cells #[.slice A0_0 l0_0.length c0_0, .slice A0_1 l0_1.length c0_1] 31 (0, 0)) (by (with_reducible repeat (first | refine bN ?_ _|refine bW ?_|refine bA ?_ _)); exact BK324.out) hb); replace HB := am_ (below_step (z170_) hb); (try clear hb); (try clear hi)))
  go_ret;exact ⟨z6_, z170_⟩
 ·(rw [if_neg c3] at H);have c3b0 : ((l1.length : Int) == (l0_1.length : Int)) = false := beq_eq_false_iff_ne.mpr c3;have c3b1 : ((l1.length : Int) != (l0_1.length : Int)) = true := bne_iff_ne.mpr c3;(have c3b2 : (l1.length == l0_1.length) = false := by first | simpa using c3 | (simp at c3 ⊢; omega));obtain rfl := Option.some.inj H;go_enter Try.func58, Try.ntmps58
  go_wp2_with (first | ((with_reducible refine gate_dst (N := 2) rfl ?_); refine box_event ?hg (N := 2) ?hd (cs := #[.slice A0_0 l0_0.length c0_0, .slice A0_1 l0_1.length c0_1]) (t := 31) ?hr ?_; (case hd => rfl); (case hg => rfl); (case hr => first | (go_simp; done) | (go_simp; rfl)); intro gb324 hg w8 hbox hb; have BK324 := am_ (hbox); have GW324 := am_ ((z4_ : w.heap.size ≤ gb324)); have GE324 := am_ ((z4_ : w.heap.size ≤ gb324)); replace HB := am_ (below_step (z2_) hb); clear hb hbox hg; obtain ⟨hcz9_0,hcz9_1,hfz9_0,hfz9_1⟩ := bz2_ w8 BK324.out))
  go_ret;exact ⟨z6_, z170_⟩

open Go.Proofs.YtnmdcmfhjhgheaaM
def flowsB (fs : List Int) : Bool := fs.all fun x => decide (-100000 ≤ x ∧ x ≤ 100000)
def flowsOkI (ps : List S73) (fs : List Int) : Bool := flowsB fs && decide (fs.length = ps.length)
def X59.f (l0_0 : List Int) (l0_1 : List S73) (l1 : List Int) : Option Bool := if l1.length ≤ 4611686018427387904 then some (flowsOkI l0_1 l1) else none
theorem X59.same (ns : List Int) (ps : List S73) (fs : List Int) (h : fs.length ≤ 4611686018427387904) : X69.f ns ps fs = some (flowsOkI ps fs) := by
  unfold X69.f flowsOkI X36.f
  have ha : allIn (-100000) 100000 fs = flowsB fs := rfl
  rw [if_pos h, ha]
  by_cases c : fs.length = ps.length
  · rw [if_pos (by omega), decide_eq_true c]; simp
  · rw [if_neg (by omega), decide_eq_false c]; simp
theorem X59.calls (A0_0 : Option Addr) (c0_0 : Nat) (l0_0 : List Int) (A0_1 : Option Addr) (c0_1 : Nat) (l0_1 : List (S73)) (A1 : Option Addr) (c1 : Nat) (l1 : List Int) (r : Bool) (w : World) (hr0_0 : Kd.C (Kd.int .i64) w A0_0 l0_0.length l0_0) (hc0_0 : l0_0.length ≤ c0_0) (hr0_1 : Kd.C k73 w A0_1 l0_1.length l0_1) (hc0_1 : l0_1.length ≤ c0_1) (hr1 : Kd.C (Kd.int .i64) w A1 l1.length l1) (hc1 : l1.length ≤ c1) (h : X59.f l0_0 l0_1 l1 = some r) :
    Calls Try.prog 58 #[.agg #[.slice A0_0 l0_0.length c0_0, .slice A0_1 l0_1.length c0_1], .slice A1 l1.length c1] w fun e w' => e = .returned (.bool r) ∧ Below w.heap.size w w' := by
  unfold X59.f at h
  split at h
  · rename_i hs
    exact X69.calls A0_0 c0_0 l0_0 A0_1 c0_1 l0_1 A1 c1 l1 r w hr0_0 hc0_0 hr0_1 hc0_1 hr1 hc1 (by rw [← h]; exact X59.same l0_0 l0_1 l1 hs)
  · exact absurd h (by simp)


def X40.f (a0_0 : ByteArray) (a0_1 : Int) (a0_2 : Int) (a0_3 : Int) (a0_4 : Int) (a0_5 : Int) (a1 : Int) : Option (Int × Bool) := if a1 = a0_1 then (some (a0_2, true)) else (if a1 = a0_2 then (some (a0_1, true)) else (some (0, false)))
set_option maxHeartbeats 8000000 in
set_option maxRecDepth 100000 in
theorem X40.calls (a0_0 : ByteArray) (a0_1 : Int) (a0_2 : Int) (a0_3 : Int) (a0_4 : Int) (a0_5 : Int) (a1 : Int) (r1 : Int) (r2 : Bool) (w : World) (h : X40.f a0_0 a0_1 a0_2 a0_3 a0_4 a0_5 a1 = some (r1, r2)) :
  Calls Try.prog 85 #[.agg #[.string a0_0, .int .i64 a0_1, .int .i64 a0_2, .int .i64 a0_3, .int .i64 a0_4, .int .i64 a0_5], .int .i64 a1] w fun e w' => e = .returned (.tuple #[.int .i64 r1, .bool r2]) ∧ Below w.heap.size w w' := by
 have hu73 := Try.underlying73
 have HB := am_ (Below.refl w.heap.size w)
 unfold X40.f at h;have H := h;clear h
 by_cases c3 : a1 = a0_1
 ·(rw [if_pos c3] at H);have c3b0 : (a1 == a0_1) = true := beq_iff_eq.mpr c3;have c3b1 : (a1 != a0_1) = false := bne_eq_false_iff_eq.mpr c3;clear c3;(simp only [Option.some.injEq, Prod.mk.injEq] at H);obtain ⟨rfl, rfl⟩ := H;go_enter Try.func85, Try.ntmps85
  go_wp2_with (first | ((with_reducible refine gate_dst (N := 2) rfl ?_); refine box_event ?hg (N := 2) ?hd (cs := #[.string a0_0, .int .i64 a0_1, .int .i64 a0_2, .int .i64 a0_3, .int .i64 a0_4, .int .i64 a0_5]) (t := 73) ?hr ?_; (case hd => rfl); (case hg => rfl); (case hr => first | (go_simp; done) | (go_simp; rfl)); intro gb326 hg w4 hbox hb; have BK326 := am_ (hbox); have GW326 := am_ ((z4_ : w.heap.size ≤ gb326)); have GE326 := am_ ((z4_ : w.heap.size ≤ gb326)); replace HB := am_ (below_step (z2_) hb); clear hb hbox hg; obtain ⟨hcz5_0,hcz5_1,hcz5_2,hcz5_3,hcz5_4,hcz5_5,hfz5_0,hfz5_1,hfz5_2,hfz5_3,hfz5_4,hfz5_5⟩ := bz6_ w4 BK326.out))
  go_ret2;exact ⟨z6_, z171_⟩
 ·(rw [if_neg c3] at H);have c3b0 : (a1 == a0_1) = false := beq_eq_false_iff_ne.mpr c3;have c3b1 : (a1 != a0_1) = true := bne_iff_ne.mpr c3;by_cases c6 : a1 = a0_2
  ·(rw [if_pos c6] at H);have c6b0 : (a1 == a0_2) = true := beq_iff_eq.mpr c6;have c6b1 : (a1 != a0_2) = false := bne_eq_false_iff_eq.mpr c6;clear c6;(simp only [Option.some.injEq, Prod.mk.injEq] at H);obtain ⟨rfl, rfl⟩ := H;go_enter Try.func85, Try.ntmps85
   go_wp2_with (first | ((with_reducible refine gate_dst (N := 2) rfl ?_); refine box_event ?hg (N := 2) ?hd (cs := #[.string a0_0, .int .i64 a0_1, .int .i64 a0_2, .int .i64 a0_3, .int .i64 a0_4, .int .i64 a0_5]) (t := 73) ?hr ?_; (case hd => rfl); (case hg => rfl); (case hr => first | (go_simp; done) | (go_simp; rfl)); intro gb326 hg w7 hbox hb; have BK326 := am_ (hbox); have GW326 := am_ ((z4_ : w.heap.size ≤ gb326)); have GE326 := am_ ((z4_ : w.heap.size ≤ gb326)); replace HB := am_ (below_step (z2_) hb); clear hb hbox hg; obtain ⟨hcz8_0,hcz8_1,hcz8_2,hcz8_3,hcz8_4,hcz8_5,hfz8_0,hfz8_1,hfz8_2,hfz8_3,hfz8_4,hfz8_5⟩ := bz6_ w7 BK326.out))
   go_ret2;exact ⟨z6_, z171_⟩
  ·(rw [if_neg c6] at H);have c6b0 : (a1 == a0_2) = false := beq_eq_false_iff_ne.mpr c6;have c6b1 : (a1 != a0_2) = true := bne_iff_ne.mpr c6;(simp only [Option.some.injEq, Prod.mk.injEq] at H);obtain ⟨rfl, rfl⟩ := H;go_enter Try.func85, Try.ntmps85
   go_wp2_with (first | ((with_reducible refine gate_dst (N := 2) rfl ?_); refine box_event ?hg (N := 2) ?hd (cs := #[.string a0_0, .int .i64 a0_1, .int .i64 a0_2, .int .i64 a0_3, .int .i64 a0_4, .int .i64 a0_5]) (t := 73) ?hr ?_; (case hd => rfl); (case hg => rfl); (case hr => first | (go_simp; done) | (go_simp; rfl)); intro gb326 hg w9 hbox hb; have BK326 := am_ (hbox); have GW326 := am_ ((z4_ : w.heap.size ≤ gb326)); have GE326 := am_ ((z4_ : w.heap.size ≤ gb326)); replace HB := am_ (below_step (z2_) hb); clear hb hbox hg; obtain ⟨hcz10_0,hcz10_1,hcz10_2,hcz10_3,hcz10_4,hcz10_5,hfz10_0,hfz10_1,hfz10_2,hfz10_3,hfz10_4,hfz10_5⟩ := bz6_ w9 BK326.out))
   go_ret2;exact ⟨z6_, z171_⟩

def X15.l0 : Nat → List Int → Int → Int → Int → Option (Int)
 | 0, _, _, _, _ => none
 | k + 1, x0, x1, x7, x8 => if x8 < x7 then (if 0 ≤ x8 then (if x8 < (x0.length : Int) then (if x1 = (rd x0 x8) then (some x8) else (X15.l0 k x0 x1 x7 (wrap64 (x8 + 1)))) else (none)) else (none)) else (some (-1))
def X15.f (k : Nat) (l0 : List Int) (a1 : Int) : Option (Int) := X15.l0 k l0 a1 (l0.length : Int) 0
theorem X15.mono_l : ∀ k, (∀ y0 y1 y2 y3, LeO (X15.l0 k y0 y1 y2 y3) (X15.l0 (k + 1) y0 y1 y2 y3))
 | 0 => fun _ _ _ _ r h => by simp [X15.l0] at h
 | k + 1 => by
  have ih0 := X15.mono_l k
  ·intro y0 y1 y2 y3
   unfold X15.l0
   exact z247_
theorem X15.mono : ∀ a0 a1 k, LeO (X15.f k a0 a1) (X15.f (k + 1) a0 a1) := by
 intro a0 a1 k
 have ih0 := X15.mono_l k
 unfold X15.f
 exact z247_
set_option maxHeartbeats 8000000 in
set_option maxRecDepth 100000 in
theorem X15.calls (k : Nat) (A0 : Option Addr) (c0 : Nat) (l0 : List Int) (a1 : Int) (r : Int) (w : World) (hr0 : Kd.C (Kd.int .i64) w A0 l0.length l0) (hc0 : l0.length ≤ c0) (h : X15.f k l0 a1 = some r) :
  Calls Try.prog 96 #[.slice A0 l0.length c0, .int .i64 a1] w fun e w' => e = .returned (.int .i64 r) ∧ Drawn0 w w' := by
 have HR0 := am_ hr0
 have HC0 := am_ hc0
 clear hr0 hc0
 unfold X15.f at h;have H := h;clear h
 have H' := am_ H
 clear H
 go_enter Try.func96, Try.ntmps96
 go_wp2
 go_loopg [8] k (fun kq v8 w' => ∃ (x8_1 : Int), v8 = .int .i64 x8_1 ∧ Aside0 (X15.l0 kq l0 a1 (l0.length : Int) x8_1 = some r) ∧ Aside0 (kq ≤ k) ∧ Drawn0 w w')
 case atStart => exact ⟨(0), (z8_), H', ⟨Nat.le_refl _⟩, z10_⟩
 case round =>
  clear H';obtain ⟨x8_1, rfl, HA, HK1, ⟨m1, rfl⟩⟩ := hrel
  cases gk with
  | zero => exact absurd HA.out (by simp [X15.l0])
  | succ k1 =>
   have H := HA.out;clear HA;(simp only [X15.l0] at H);by_cases c3 : x8_1 < (l0.length : Int)
   ·(rw [if_pos c3] at H);have c3b0 := decide_eq_true c3;clear c3;obtain ⟨c4b0,H⟩ := pd_ H;obtain ⟨c5b0,H⟩ := pd_ H;by_cases c6 : a1 = (rd l0 x8_1)
    ·(rw [if_pos c6] at H);have c6b0 : (a1 == (rd l0 x8_1)) = true := beq_iff_eq.mpr c6;have c6b1 : (a1 != (rd l0 x8_1)) = false := bne_eq_false_iff_eq.mpr c6;clear c6;obtain rfl := Option.some.inj H;obtain ⟨p327,q327,ad327,e327,hx327_0⟩ := aq_ (Kd.at_int HR0.out x8_1) z0_ z0_;cases e327;go_wp2;go_ret;exact ⟨z8_, z10_⟩
    ·(rw [if_neg c6] at H);have c6b0 : (a1 == (rd l0 x8_1)) = false := beq_eq_false_iff_ne.mpr c6;have c6b1 : (a1 != (rd l0 x8_1)) = true := bne_iff_ne.mpr c6;have H' := am_ H;clear H;obtain ⟨p327,q327,ad327,e327,hx327_0⟩ := aq_ (Kd.at_int HR0.out x8_1) z0_ z0_;cases e327;go_wp2
     go_roundg k1
     case measure => have := HK1.out; omega
     case rel => exact ⟨(wrap64 (x8_1 + 1)), (z8_), H', ⟨z111_⟩, z10_⟩
   ·(rw [if_neg c3] at H);have c3b0 := decide_eq_false c3;clear c3;obtain rfl := Option.some.inj H;go_wp2;go_ret;exact ⟨z8_, z10_⟩

def X14.f (k : Nat) (l0 : List Int) (a1 : Int) : Option (Bool) := (X15.f k l0 a1).bind fun t328 => (some (decide (t328 ≥ 0)))
theorem X14.mono : ∀ a0 a1 k, LeO (X14.f k a0 a1) (X14.f (k + 1) a0 a1) := by
 intro a0 a1 k
 unfold X14.f
 repeat' first|(with_reducible first|exact X15.mono _ _ _|exact LeO.refl _|exact LeO.none _|refine LeO.ite ?_ ?_|refine LeO.bind ?_ (fun _ => ?_))|exact X15.mono _ _ _|exact LeO.none _|refine LeO.ite ?_ ?_|refine LeO.bind ?_ (fun _ => ?_)
set_option maxHeartbeats 8000000 in
set_option maxRecDepth 100000 in
theorem X14.calls (k : Nat) (A0 : Option Addr) (c0 : Nat) (l0 : List Int) (a1 : Int) (r : Bool) (w : World) (hr0 : Kd.C (Kd.int .i64) w A0 l0.length l0) (hc0 : l0.length ≤ c0) (h : X14.f k l0 a1 = some r) :
  Calls Try.prog 86 #[.slice A0 l0.length c0, .int .i64 a1] w fun e w' => e = .returned (.bool r) ∧ Drawn0 w w' := by
 have HR0 := am_ hr0
 have HC0 := am_ hc0
 clear hr0 hc0
 unfold X14.f at h;have H := h;clear h
 obtain ⟨t328, A30, H⟩ := ob_ H
 have A3 := am_ A30
 clear A30
 obtain rfl := Option.some.inj H
 go_enter Try.func86, Try.ntmps86
 go_wp2_with (first | ((with_reducible refine gate_callee (f := 96) rfl ?_); refine goesL_ (some 7) rfl rfl Try.func96 (z13_) rfl #[.slice A0 l0.length c0, .int .i64 a1] rfl (z1_) ?_; (with_reducible refine (X15.calls k _ _ l0 a1 t328 _ ?side1 ?side2 A3.out).mono ?_); (case side1 => repeat (first | exact HR0.out | (with_reducible first|refine Kd.C_alloc ?_ _|refine Kd.C_drewN ?_ _|refine Kd.C_drew ?_))); (case side2 => exact HC0.out); rintro e w' ⟨rfl, ⟨nd, rfl⟩⟩; refine ⟨_, rfl, ?_⟩))
 go_ret
 exact ⟨z8_, z10_⟩


open Go.Proofs.YtnmdcmfhjhgheaaM
theorem sort_putCells (d : Array Int) (c : Array Value) (h : d.size ≤ c.size) : (Go.Sort.putCells (Value.int .i64) 0 d c).toList.take d.size = d.toList.map (Value.int .i64) := by
  refine List.ext_getElem? fun i => ?_
  unfold Go.Sort.putCells
  rw [List.getElem?_take, Array.toList_mapIdx, List.getElem?_mapIdx, List.getElem?_map]
  by_cases hi : i < d.size
  · have hc : i < c.toList.length := by rw [Array.length_toList]; omega
    rw [if_pos hi, List.getElem?_eq_getElem hc, List.getElem?_eq_getElem (by rw [Array.length_toList]; exact hi)]
    simp [hi]
  · rw [if_neg hi, List.getElem?_eq_none (by rw [Array.length_toList]; omega)]; rfl
theorem sort_far (w : World) (n g : Nat) (d : Array Int) (os : Array Obj) (k : Nat) (hk : k < w.heap.size) (hg : k ≠ g) : (Go.Sort.grow (Go.Sort.putRow (Value.int .i64) (Go.Sort.ahead w n) g 0 d) os).heap[k]? = w.heap[k]? := by
  rw [Go.Sort.heap_grow_old _ _ (by rw [Go.Sort.size_putRow]; exact hk)]
  show (w.heap.modify g _)[k]? = _
  rw [Array.getElem?_modify, if_neg (fun h => hg h.symm)]
theorem sort_here (w : World) (n g : Nat) (d : Array Int) (os : Array Obj) (cur : Array Value) (e : TypeId) (hh : w.heap[g]? = some (.cells cur e (0, 0))) :
    (Go.Sort.grow (Go.Sort.putRow (Value.int .i64) (Go.Sort.ahead w n) g 0 d) os).heap[g]? = some (.cells (Go.Sort.putCells (Value.int .i64) 0 d cur) e (0, 0)) := by
  rw [Go.Sort.heap_grow_old _ _ (by rw [Go.Sort.size_putRow]; exact blk_lt hh)]
  show (w.heap.modify g _)[g]? = _
  rw [Array.getElem?_modify, if_pos rfl, hh]
  rfl
theorem sort_own (P0 : Nat → Prop) (v : Value) (xs : List Int) (w : World) (base : Nat) (h : Kd.R (Kd.int .i64) 2 w base P0 v xs) (hne : 0 < xs.length) (hx : xs.length ≤ 1000000) (hw : base ≤ w.heap.size) :
    Calls Try.prog 95 #[v] w fun e w' => e = .returned (.tuple #[]) ∧ Kd.R (Kd.int .i64) 2 w' base P0 v (xs.mergeSort fun x y => decide (x ≤ y)) ∧ Below base w w' ∧ Kept w w' P0 := by
  obtain ⟨hok, inner, ⟨hlen, hform⟩, hreps⟩ := h
  rcases hform with ⟨_, hn⟩ | ⟨g, cap, cur, rfl, hg, hh, hnc, hcm, hcs, htk⟩
  · omega
  change inner.length = xs.length * 1 at hlen
  change cur.size = cap * 1 at hcs
  change cur.toList.take (xs.length * 1) = inner at htk
  have hH : Go.Sort.Holds (Value.int .i64) w g 0 xs.toArray := by
    intro j hj
    have hj : j < xs.length := by simpa using hj
    refine ⟨?_, blk_frozen hh _⟩
    have hm : (inner.drop (j * 1)).take 1 = [Value.int .i64 xs[j]] := hreps.2 j xs[j] (List.getElem?_eq_getElem hj)
    have hi : inner[j]? = some (Value.int .i64 xs[j]) := by
      have := congrArg (fun l => l[0]?) hm
      simpa [List.getElem?_take, List.getElem?_drop] using this
    rw [← htk, List.getElem?_take_of_lt (by omega)] at hi
    rw [blk_cell hh, Nat.zero_add, ← Array.getElem?_toList, hi]
    simp [hj]
  refine (Go.Proofs.YtnmdcmfhjhgheaaS.So.slices_Sort_int g 0 cap xs w hH (blk_lt hh) (by omega)).mono ?_
  rintro e w' ⟨he, n, os, rfl⟩
  have hl : (xs.mergeSort fun x y => decide (x ≤ y)).length = xs.length := List.length_mergeSort _
  generalize (xs.mergeSort fun x y => decide (x ≤ y)) = ys at hl ⊢
  have hfar := fun k => sort_far w n g ys.toArray os k
  have hhere := sort_here w n g ys.toArray os cur 2 hh
  refine ⟨he, ⟨hok, ys.map (Value.int .i64), ⟨by rw [List.length_map]; exact (Nat.mul_one _).symm, .inr ⟨g, cap, _, ?_, hg, hhere, ?_, hcm, ?_, ?_⟩⟩, ?_, ?_⟩, ?_, ?_⟩
  · rw [hl]
  · rw [hl]; exact hnc
  · unfold Go.Sort.putCells; rw [Array.size_mapIdx]; exact hcs
  · have := sort_putCells ys.toArray cur (by simp; omega)
    show List.take (ys.length * 1) _ = _
    rw [Nat.mul_one]
    simpa using this
  · rw [List.length_map]; exact (Nat.mul_one _).symm
  · intro j p hp
    show _ = [Value.int .i64 p]
    obtain ⟨hj, rfl⟩ := List.getElem?_eq_some_iff.1 hp
    show List.take 1 (List.drop (j * 1) _) = _
    rw [Nat.mul_one, List.drop_eq_getElem_cons (by rw [List.length_map]; exact hj)]
    simp
  · exact ⟨rfl, rfl, rfl, by rw [Go.Sort.size_grow, Go.Sort.size_putRow]; show w.heap.size ≤ w.heap.size + _; omega, fun k hk => hfar k (by have := blk_lt hh; omega) (by omega)⟩
  · exact ⟨by rw [Go.Sort.size_grow, Go.Sort.size_putRow]; show w.heap.size ≤ w.heap.size + _; omega, fun k hk hn => hfar k hk (fun e => hn (by rw [e]; exact hok g rfl))⟩
def X61.f (l0 : List Int) : Option (List Int) := if 0 < l0.length ∧ l0.length ≤ 1000000 then some (l0.mergeSort fun x y => decide (x ≤ y)) else none
theorem X61.calls (P0_ : Nat → Prop) (u9000_ : Value) (l0 : List Int) (r : List Int) (w0 w : World) (hB : Below w0.heap.size w0 w) (ho0 : Kd.R (Kd.int .i64) 2 w w0.heap.size P0_ u9000_ l0) (h : X61.f l0 = some r) :
    Calls Try.prog 95 #[u9000_] w fun e w' => e = .returned (.tuple #[]) ∧ Kd.R (Kd.int .i64) 2 w' w0.heap.size (fun k_ => (P0_ k_ ∨ w.heap.size ≤ k_)) u9000_ r ∧ Below w0.heap.size w0 w' ∧ Kept w w' (fun k_ => P0_ k_) := by
  unfold X61.f at h
  split at h
  case isFalse => exact absurd h (by simp)
  rename_i hc
  obtain rfl := Option.some.inj h
  refine (sort_own P0_ u9000_ l0 w w0.heap.size ho0 hc.1 hc.2 hB.size).mono ?_
  rintro e w' ⟨he, hR, hb, hk⟩
  exact ⟨he, Kd.R_mono hR (fun k hk => .inl hk), hB.trans hb, hk⟩

end Go.Proofs.Ytnmdcmfhjhgheaa.PFnExactWorstNode
