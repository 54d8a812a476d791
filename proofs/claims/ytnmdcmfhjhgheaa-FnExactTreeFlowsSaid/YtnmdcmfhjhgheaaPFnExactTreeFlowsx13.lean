-- Printed by a program of this session (wip/hprint.sh: the kit's print with hand-proved contracts put in); not by print.sh itself.
import Derived.Test.YtnmdcmfhjhgheaaPFnExactTreeFlowsx0
import Derived.Test.YtnmdcmfhjhgheaaPFnExactTreeFlowsx6
import Derived.Test.YtnmdcmfhjhgheaaPFnExactTreeFlowsx10
import Derived.Test.YtnmdcmfhjhgheaaPFnExactTreeFlowsx12
namespace Go.Proofs.Ytnmdcmfhjhgheaa.PFnExactTreeFlows
open Go.RowKit Go.Proofs.YtnmdcmfhjhgheaaW.PrintWords Go.Proofs.YtnmdcmfhjhgheaaW.PrintLast Go.Proofs.YtnmdcmfhjhgheaaW.PrintMore Go.Proofs.YtnmdcmfhjhgheaaM
attribute [local go_sem] max2_int min2_int max_two min_two max_three min_three max_four min_four   -- for this text's walks alone
set_option linter.unusedVariables false
set_option linter.unusedSimpArgs false

/-! ### impl_TreeFlows: function 12 -/
def impl_TreeFlows.f (k : Nat) (l0_0 : List Int) (l0_1 : List (S73)) (a1 : Int) (l2 : List Int) : Option (List Int × Int) := (impl_treeCode.f k l0_0 l0_1 a1 0 l2 ([] : List Int) true).bind fun t346 => (if t346 = 0 then ((impl_Network_treeFlows.f k l0_0 l0_1 a1 l2).bind fun t347 => ((impl_allWithin.f t347 (-100000) 100000).bind fun t350 => (if t350 = true then (some (t347, 0)) else (some (([] : List Int), 5))))) else (some (([] : List Int), t346)))
theorem impl_TreeFlows.mono : ∀ a0 a1 a2 a3 k, LeO (impl_TreeFlows.f k a0 a1 a2 a3) (impl_TreeFlows.f (k + 1) a0 a1 a2 a3) := by
 intro a0 a1 a2 a3 k
 unfold impl_TreeFlows.f
 repeat' first|(with_reducible first|exact impl_Network_treeFlows.mono _ _ _ _ _|exact impl_treeCode.mono _ _ _ _ _ _ _ _|exact LeO.refl _|exact LeO.none _|refine LeO.ite ?_ ?_|refine LeO.bind ?_ (fun _ => ?_))|exact impl_Network_treeFlows.mono _ _ _ _ _|exact impl_treeCode.mono _ _ _ _ _ _ _ _|exact LeO.none _|refine LeO.ite ?_ ?_|refine LeO.bind ?_ (fun _ => ?_)
set_option maxHeartbeats 8000000 in
set_option maxRecDepth 100000 in
theorem impl_TreeFlows.calls (k : Nat) (A0_0 : Option Addr) (c0_0 : Nat) (l0_0 : List Int) (A0_1 : Option Addr) (c0_1 : Nat) (l0_1 : List (S73)) (a1 : Int) (A2 : Option Addr) (c2 : Nat) (l2 : List Int) (r1 : List Int) (r2 : Int) (w : World) (hr0_0 : Kd.C (Kd.int .i64) w A0_0 l0_0.length l0_0) (hc0_0 : l0_0.length ≤ c0_0) (hr0_1 : Kd.C k73 w A0_1 l0_1.length l0_1) (hc0_1 : l0_1.length ≤ c0_1) (hr2 : Kd.C (Kd.int .i64) w A2 l2.length l2) (hc2 : l2.length ≤ c2) (h : impl_TreeFlows.f k l0_0 l0_1 a1 l2 = some (r1, r2)) :
  Calls Try.prog 12 #[.agg #[.slice A0_0 l0_0.length c0_0, .slice A0_1 l0_1.length c0_1], .int .i64 a1, .slice A2 l2.length c2] w fun e w' => ∃ v0_ : Value, e = .returned (.tuple #[v0_, .int .i64 r2]) ∧ Kd.R (Kd.int .i64) 2 w' w.heap.size (fun _ => True) v0_ r1 ∧ Below w.heap.size w w' := by
 have hu31 := Try.underlying31
 have HR0_0 := Aside0.mk hr0_0
 have HC0_0 := Aside0.mk hc0_0
 clear hr0_0 hc0_0
 have HR0_1 := Aside0.mk hr0_1
 have HC0_1 := Aside0.mk hc0_1
 clear hr0_1 hc0_1
 have HR2 := Aside0.mk hr2
 have HC2 := Aside0.mk hc2
 clear hr2 hc2
 have HB := Aside0.mk (Below.refl w.heap.size w)
 unfold impl_TreeFlows.f at h;have H := h;clear h
 replace H := Option.bind_eq_some_iff.mp H
 obtain ⟨t346, A40, H⟩ := H
 have A4 := Aside0.mk A40
 clear A40
 by_cases c5 : t346 = 0
 ·(rw [if_pos c5] at H);have c5b0 : (t346 == 0) = true := beq_iff_eq.mpr c5;have c5b1 : (t346 != 0) = false := bne_eq_false_iff_eq.mpr c5;clear c5;replace H := Option.bind_eq_some_iff.mp H;obtain ⟨t347, A60, H⟩ := H;have A6 := Aside0.mk A60;clear A60;replace H := Option.bind_eq_some_iff.mp H;obtain ⟨t350, A70, H⟩ := H;have A7 := Aside0.mk A70;clear A70;by_cases c8 : t350 = true
  ·subst c8;(rw [if_pos rfl] at H);(simp only [Option.some.injEq, Prod.mk.injEq] at H);obtain ⟨rfl, rfl⟩ := H;go_enter Try.func12, Try.ntmps12
   go_wp2_with (first | ((with_reducible refine gate_dst (N := 3) rfl ?_); refine box_event ?hg (N := 3) ?hd (cs := #[.slice A0_0 l0_0.length c0_0, .slice A0_1 l0_1.length c0_1]) (t := 31) ?hr ?_; (case hd => rfl); (case hg => rfl); (case hr => first | (go_simp; done) | (go_simp; rfl)); intro gb345 hg w9 hbox hb; have BK345 := Aside0.mk (hbox); have GW345 := Aside0.mk ((z3_ : w.heap.size ≤ gb345)); have GE345 := Aside0.mk ((z3_ : w.heap.size ≤ gb345)); replace HB := Aside0.mk (below_step (z2_) hb); clear hb hbox hg; obtain ⟨hcz10_0,hcz10_1,hfz10_0,hfz10_1⟩ := bz2_ w9 BK345.out) | ((with_reducible refine gate_callee (f := 31) rfl ?_); refine goesL_ (some 13) rfl rfl Try.func31 (z14_) rfl #[.agg #[.slice A0_0 l0_0.length c0_0, .slice A0_1 l0_1.length c0_1], .int .i64 a1, .int .i64 0, .slice A2 l2.length c2, .slice none 0 0, .bool true] rfl (z1_) ?_; (refine (impl_treeCode.calls k _ _ l0_0 _ _ l0_1 a1 0 _ _ l2 _ _ ([] : List Int) true t346 _ ?side1 ?side2 ?side3 ?side4 ?side5 ?side6 ?side7 ?side8 A4.out).mono ?_); (case side1 => exact z223_); (case side2 => exact HC0_0.out); (case side3 => exact z224_); (case side4 => exact HC0_1.out); (case side5 => exact z227_); (case side6 => exact HC2.out); (case side7 => exact Kd.C_nil _ _); (case side8 => exact Nat.le_refl _); rintro e w11 ⟨rfl, hb⟩; refine ⟨_, rfl, ?_⟩; replace BK345 := Aside0.mk (blk_below (g := gb345) (o := .cells #[.slice A0_0 l0_0.length c0_0, .slice A0_1 l0_1.length c0_1] 31 (0, 0)) (z111_) hb); replace HB := Aside0.mk (below_step (z40_) hb); (try clear hb); obtain ⟨hcz12_0,hcz12_1,hfz12_0,hfz12_1⟩ := bz2_ w11 BK345.out) | ((with_reducible refine gate_callee (f := 32) rfl ?_); refine goesL_ (some 20) rfl rfl Try.func32 (z14_) rfl #[.agg #[.slice A0_0 l0_0.length c0_0, .slice A0_1 l0_1.length c0_1], .int .i64 a1, .slice A2 l2.length c2] rfl (z1_) ?_; (with_reducible refine (impl_Network_treeFlows.calls k _ _ l0_0 _ _ l0_1 a1 _ _ l2 t347 _ ?side1 ?side2 ?side3 ?side4 ?side5 ?side6 A6.out).mono ?_); (case side1 => exact z223_); (case side2 => exact HC0_0.out); (case side3 => exact z224_); (case side4 => exact HC0_1.out); (case side5 => exact z227_); (case side6 => exact HC2.out); rintro e w13 ⟨v348, rfl, ho0, hb⟩; refine ⟨_, rfl, ?_⟩; have HO349 := Aside0.mk (Kd.R_lower ho0 (below_size (z40_))); replace BK345 := Aside0.mk (blk_below (g := gb345) (o := .cells #[.slice A0_0 l0_0.length c0_0, .slice A0_1 l0_1.length c0_1] 31 (0, 0)) (z111_) hb); replace HB := Aside0.mk (below_step (z40_) hb); (try clear hb); (try clear ho0); obtain ⟨Ao14, co14, eo14⟩ := Kd.R_slice HO349.out; subst eo14) | ((with_reducible refine gate_callee (f := 33) rfl ?_); refine goesL_ (some 22) rfl rfl Try.func33 (z14_) rfl #[.slice Ao14 t347.length co14, .int .i64 (-100000), .int .i64 100000] rfl (z1_) ?_; (with_reducible refine (impl_allWithin.calls _ _ t347 (-100000) 100000 true _ ?side1 ?side2 A7.out).mono ?_); (case side1 => exact z237_); (case side2 => exact (Kd.R_reads' HO349.out).2.1); rintro e w15 ⟨rfl, hb⟩; refine ⟨_, rfl, ?_⟩; replace HO349 := Aside0.mk (Kd.R_below (z210_) hb); replace BK345 := Aside0.mk (blk_below (g := gb345) (o := .cells #[.slice A0_0 l0_0.length c0_0, .slice A0_1 l0_1.length c0_1] 31 (0, 0)) (z111_) hb); replace HB := Aside0.mk (below_step (z40_) hb); (try clear hb); (try clear hi)))
   go_ret2;exact ⟨_, z6_, z210_, z40_⟩
  ·replace c8 := Bool.eq_false_iff.mpr c8;subst c8;(rw [if_neg (show ¬ (false = true) by decide)] at H);(simp only [Option.some.injEq, Prod.mk.injEq] at H);obtain ⟨rfl, rfl⟩ := H;go_enter Try.func12, Try.ntmps12
   go_wp2_with (first | ((with_reducible refine gate_dst (N := 3) rfl ?_); refine box_event ?hg (N := 3) ?hd (cs := #[.slice A0_0 l0_0.length c0_0, .slice A0_1 l0_1.length c0_1]) (t := 31) ?hr ?_; (case hd => rfl); (case hg => rfl); (case hr => first | (go_simp; done) | (go_simp; rfl)); intro gb345 hg w16 hbox hb; have BK345 := Aside0.mk (hbox); have GW345 := Aside0.mk ((z3_ : w.heap.size ≤ gb345)); have GE345 := Aside0.mk ((z3_ : w.heap.size ≤ gb345)); replace HB := Aside0.mk (below_step (z2_) hb); clear hb hbox hg; obtain ⟨hcz17_0,hcz17_1,hfz17_0,hfz17_1⟩ := bz2_ w16 BK345.out) | ((with_reducible refine gate_callee (f := 31) rfl ?_); refine goesL_ (some 13) rfl rfl Try.func31 (z14_) rfl #[.agg #[.slice A0_0 l0_0.length c0_0, .slice A0_1 l0_1.length c0_1], .int .i64 a1, .int .i64 0, .slice A2 l2.length c2, .slice none 0 0, .bool true] rfl (z1_) ?_; (refine (impl_treeCode.calls k _ _ l0_0 _ _ l0_1 a1 0 _ _ l2 _ _ ([] : List Int) true t346 _ ?side1 ?side2 ?side3 ?side4 ?side5 ?side6 ?side7 ?side8 A4.out).mono ?_); (case side1 => exact z223_); (case side2 => exact HC0_0.out); (case side3 => exact z224_); (case side4 => exact HC0_1.out); (case side5 => exact z227_); (case side6 => exact HC2.out); (case side7 => exact Kd.C_nil _ _); (case side8 => exact Nat.le_refl _); rintro e w18 ⟨rfl, hb⟩; refine ⟨_, rfl, ?_⟩; replace BK345 := Aside0.mk (blk_below (g := gb345) (o := .cells #[.slice A0_0 l0_0.length c0_0, .slice A0_1 l0_1.length c0_1] 31 (0, 0)) (z111_) hb); replace HB := Aside0.mk (below_step (z40_) hb); (try clear hb); obtain ⟨hcz19_0,hcz19_1,hfz19_0,hfz19_1⟩ := bz2_ w18 BK345.out) | ((with_reducible refine gate_callee (f := 32) rfl ?_); refine goesL_ (some 20) rfl rfl Try.func32 (z14_) rfl #[.agg #[.slice A0_0 l0_0.length c0_0, .slice A0_1 l0_1.length c0_1], .int .i64 a1, .slice A2 l2.length c2] rfl (z1_) ?_; (with_reducible refine (impl_Network_treeFlows.calls k _ _ l0_0 _ _ l0_1 a1 _ _ l2 t347 _ ?side1 ?side2 ?side3 ?side4 ?side5 ?side6 A6.out).mono ?_); (case side1 => exact z223_); (case side2 => exact HC0_0.out); (case side3 => exact z224_); (case side4 => exact HC0_1.out); (case side5 => exact z227_); (case side6 => exact HC2.out); rintro e w20 ⟨v348, rfl, ho0, hb⟩; refine ⟨_, rfl, ?_⟩; have HO349 := Aside0.mk (Kd.R_lower ho0 (below_size (z40_))); replace BK345 := Aside0.mk (blk_below (g := gb345) (o := .cells #[.slice A0_0 l0_0.length c0_0, .slice A0_1 l0_1.length c0_1] 31 (0, 0)) (z111_) hb); replace HB := Aside0.mk (below_step (z40_) hb); (try clear hb); (try clear ho0); obtain ⟨Ao21, co21, eo21⟩ := Kd.R_slice HO349.out; subst eo21) | ((with_reducible refine gate_callee (f := 33) rfl ?_); refine goesL_ (some 22) rfl rfl Try.func33 (z14_) rfl #[.slice Ao21 t347.length co21, .int .i64 (-100000), .int .i64 100000] rfl (z1_) ?_; (with_reducible refine (impl_allWithin.calls _ _ t347 (-100000) 100000 false _ ?side1 ?side2 A7.out).mono ?_); (case side1 => exact z237_); (case side2 => exact (Kd.R_reads' HO349.out).2.1); rintro e w22 ⟨rfl, hb⟩; refine ⟨_, rfl, ?_⟩; replace HO349 := Aside0.mk (Kd.R_below (z210_) hb); replace BK345 := Aside0.mk (blk_below (g := gb345) (o := .cells #[.slice A0_0 l0_0.length c0_0, .slice A0_1 l0_1.length c0_1] 31 (0, 0)) (z111_) hb); replace HB := Aside0.mk (below_step (z40_) hb); (try clear hb); (try clear hi)))
   go_ret2;exact ⟨_, z6_, z81_, z40_⟩
 ·(rw [if_neg c5] at H);have c5b0 : (t346 == 0) = false := beq_eq_false_iff_ne.mpr c5;have c5b1 : (t346 != 0) = true := bne_iff_ne.mpr c5;(simp only [Option.some.injEq, Prod.mk.injEq] at H);obtain ⟨rfl, rfl⟩ := H;go_enter Try.func12, Try.ntmps12
  go_wp2_with (first | ((with_reducible refine gate_dst (N := 3) rfl ?_); refine box_event ?hg (N := 3) ?hd (cs := #[.slice A0_0 l0_0.length c0_0, .slice A0_1 l0_1.length c0_1]) (t := 31) ?hr ?_; (case hd => rfl); (case hg => rfl); (case hr => first | (go_simp; done) | (go_simp; rfl)); intro gb345 hg w23 hbox hb; have BK345 := Aside0.mk (hbox); have GW345 := Aside0.mk ((z3_ : w.heap.size ≤ gb345)); have GE345 := Aside0.mk ((z3_ : w.heap.size ≤ gb345)); replace HB := Aside0.mk (below_step (z2_) hb); clear hb hbox hg; obtain ⟨hcz24_0,hcz24_1,hfz24_0,hfz24_1⟩ := bz2_ w23 BK345.out) | ((with_reducible refine gate_callee (f := 31) rfl ?_); refine goesL_ (some 13) rfl rfl Try.func31 (z14_) rfl #[.agg #[.slice A0_0 l0_0.length c0_0, .slice A0_1 l0_1.length c0_1], .int .i64 a1, .int .i64 0, .slice A2 l2.length c2, .slice none 0 0, .bool true] rfl (z1_) ?_; (refine (impl_treeCode.calls k _ _ l0_0 _ _ l0_1 a1 0 _ _ l2 _ _ ([] : List Int) true t346 _ ?side1 ?side2 ?side3 ?side4 ?side5 ?side6 ?side7 ?side8 A4.out).mono ?_); (case side1 => exact z223_); (case side2 => exact HC0_0.out); (case side3 => exact z224_); (case side4 => exact HC0_1.out); (case side5 => exact z227_); (case side6 => exact HC2.out); (case side7 => exact Kd.C_nil _ _); (case side8 => exact Nat.le_refl _); rintro e w25 ⟨rfl, hb⟩; refine ⟨_, rfl, ?_⟩; replace BK345 := Aside0.mk (blk_below (g := gb345) (o := .cells #[.slice A0_0 l0_0.length c0_0, .slice A0_1 l0_1.length c0_1] 31 (0, 0)) (z111_) hb); replace HB := Aside0.mk (below_step (z40_) hb); (try clear hb); (try clear hi)))
  go_ret2;exact ⟨_, z6_, z81_, z40_⟩

/-! ### laws_eqInt64S: function 13 -/
def laws_eqInt64S.l0 : Nat → List Int → List Int → Int → Option (Bool)
 | 0, _, _, _ => none
 | k + 1, x0, x1, x5 => if x5 < (x0.length : Int) then (if 0 ≤ x5 then (if x5 < (x1.length : Int) then (if (rd x0 x5) = (rd x1 x5) then (laws_eqInt64S.l0 k x0 x1 (wrap64 (x5 + 1))) else (some false)) else (none)) else (none)) else (some true)
def laws_eqInt64S.f (k : Nat) (l0 : List Int) (l1 : List Int) : Option (Bool) := if (l0.length : Int) = (l1.length : Int) then (laws_eqInt64S.l0 k l0 l1 0) else (some false)
theorem laws_eqInt64S.mono_l : ∀ k, (∀ y0 y1 y2, LeO (laws_eqInt64S.l0 k y0 y1 y2) (laws_eqInt64S.l0 (k + 1) y0 y1 y2))
 | 0 => fun _ _ _ r h => by simp [laws_eqInt64S.l0] at h
 | k + 1 => by
  have ih0 := laws_eqInt64S.mono_l k
  ·intro y0 y1 y2
   unfold laws_eqInt64S.l0
   exact z244_
theorem laws_eqInt64S.mono : ∀ a0 a1 k, LeO (laws_eqInt64S.f k a0 a1) (laws_eqInt64S.f (k + 1) a0 a1) := by
 intro a0 a1 k
 have ih0 := laws_eqInt64S.mono_l k
 unfold laws_eqInt64S.f
 exact z244_
set_option maxHeartbeats 8000000 in
set_option maxRecDepth 100000 in
theorem laws_eqInt64S.calls (k : Nat) (A0 : Option Addr) (c0 : Nat) (l0 : List Int) (A1 : Option Addr) (c1 : Nat) (l1 : List Int) (r : Bool) (w : World) (hr0 : Kd.C (Kd.int .i64) w A0 l0.length l0) (hc0 : l0.length ≤ c0) (hr1 : Kd.C (Kd.int .i64) w A1 l1.length l1) (hc1 : l1.length ≤ c1) (h : laws_eqInt64S.f k l0 l1 = some r) :
  Calls Try.prog 13 #[.slice A0 l0.length c0, .slice A1 l1.length c1] w fun e w' => e = .returned (.bool r) ∧ Drawn0 w w' := by
 have HR0 := Aside0.mk hr0
 have HC0 := Aside0.mk hc0
 clear hr0 hc0
 have HR1 := Aside0.mk hr1
 have HC1 := Aside0.mk hc1
 clear hr1 hc1
 unfold laws_eqInt64S.f at h;have H := h;clear h
 by_cases c3 : (l0.length : Int) = (l1.length : Int)
 ·(rw [if_pos c3] at H);have c3b0 : ((l0.length : Int) == (l1.length : Int)) = true := beq_iff_eq.mpr c3;have c3b1 : ((l0.length : Int) != (l1.length : Int)) = false := bne_eq_false_iff_eq.mpr c3;(have c3b2 : (l0.length == l1.length) = true := by first | simpa using c3 | (simp at c3 ⊢; omega));clear c3;have H' := Aside0.mk H;clear H;go_enter Try.func13, Try.ntmps13;go_wp2
  repeat (go_quiet (fail); try go_wp2)
  go_loopg [5] k (fun kq v5 w' => ∃ (x5_1 : Int), v5 = .int .i64 x5_1 ∧ Aside0 (laws_eqInt64S.l0 kq l0 l1 x5_1 = some r) ∧ Aside0 (kq ≤ k) ∧ Drawn0 w w')
  case atStart => exact ⟨(0), (z8_), H', ⟨Nat.le_refl _⟩, z11_⟩
  case round =>
   clear H';(try clear c1);(try clear c3);(try clear c3b0);(try clear c3b1);(try clear c3b2);obtain ⟨x5_1, rfl, HA, HK1, ⟨m1, rfl⟩⟩ := hrel
   cases gk with
   | zero => exact absurd HA.out (by simp [laws_eqInt64S.l0])
   | succ k1 =>
    have H := HA.out;clear HA;(simp only [laws_eqInt64S.l0] at H);by_cases c4 : x5_1 < (l0.length : Int)
    ·(rw [if_pos c4] at H);have c4b0 := decide_eq_true c4;clear c4;obtain ⟨c5b0,H⟩ := pd_ H;obtain ⟨c6b0,H⟩ := pd_ H;by_cases c7 : (rd l0 x5_1) = (rd l1 x5_1)
     ·(rw [if_pos c7] at H);have c7b0 : ((rd l0 x5_1) == (rd l1 x5_1)) = true := beq_iff_eq.mpr c7;have c7b1 : ((rd l0 x5_1) != (rd l1 x5_1)) = false := bne_eq_false_iff_eq.mpr c7;clear c7;have H' := Aside0.mk H;clear H;obtain ⟨p351,q351,ad351,e351,hx351_0⟩ := aq_ (Kd.at_int HR0.out x5_1) z0_ z0_;cases e351;obtain ⟨p352,q352,ad352,e352,hx352_0⟩ := aq_ (Kd.at_int HR1.out x5_1) z0_ z0_;cases e352;go_wp2
      repeat (go_quiet (fail); try go_wp2)
      go_roundg k1
      case measure => have := HK1.out; omega
      case rel => exact ⟨(wrap64 (x5_1 + 1)), (z8_), H', ⟨z136_⟩, z11_⟩
     ·(rw [if_neg c7] at H);have c7b0 : ((rd l0 x5_1) == (rd l1 x5_1)) = false := beq_eq_false_iff_ne.mpr c7;have c7b1 : ((rd l0 x5_1) != (rd l1 x5_1)) = true := bne_iff_ne.mpr c7;obtain rfl := Option.some.inj H;obtain ⟨p351,q351,ad351,e351,hx351_0⟩ := aq_ (Kd.at_int HR0.out x5_1) z0_ z0_;cases e351;obtain ⟨p352,q352,ad352,e352,hx352_0⟩ := aq_ (Kd.at_int HR1.out x5_1) z0_ z0_;cases e352;go_wp2
      repeat (go_quiet (fail); try go_wp2)
      go_ret;exact ⟨z8_, z11_⟩
    ·(rw [if_neg c4] at H);have c4b0 := decide_eq_false c4;clear c4;obtain rfl := Option.some.inj H;go_wp2
     repeat (go_quiet (fail); try go_wp2)
     go_ret;exact ⟨z8_, z11_⟩
 ·(rw [if_neg c3] at H);have c3b0 : ((l0.length : Int) == (l1.length : Int)) = false := beq_eq_false_iff_ne.mpr c3;have c3b1 : ((l0.length : Int) != (l1.length : Int)) = true := bne_iff_ne.mpr c3;(have c3b2 : (l0.length == l1.length) = false := by first | simpa using c3 | (simp at c3 ⊢; omega));obtain rfl := Option.some.inj H;go_enter Try.func13, Try.ntmps13;go_wp2
  repeat (go_quiet (fail); try go_wp2)
  go_ret;exact ⟨z8_, z11_⟩

open Go.Proofs.YtnmdcmfhjhgheaaM
def laws_eqInt64S_.f (l0 l1 : List Int) : Option Bool := if l0.length ≤ 4611686018427387904 then some (decide (l0 = l1)) else none
theorem eq_loop (l m : List Int) (he : l.length = m.length) (hl : l.length ≤ 4611686018427387904) : ∀ (d k : Nat) (i : Nat), i ≤ l.length → l.length - i = d → d < k → laws_eqInt64S.l0 k l m (i : Int) = some (decide (l.drop i = m.drop i)) := by
  intro d
  induction d with
  | zero =>
    intro k i h1 hd hk
    obtain ⟨k, rfl⟩ : ∃ m, k = m + 1 := ⟨k - 1, by omega⟩
    simp only [laws_eqInt64S.l0]; rw [if_neg (by omega), List.drop_of_length_le (by omega), List.drop_of_length_le (by omega)]; simp
  | succ d ih =>
    intro k i h1 hd hk
    obtain ⟨k, rfl⟩ : ∃ m, k = m + 1 := ⟨k - 1, by omega⟩
    simp only [laws_eqInt64S.l0]
    rw [if_pos (by omega), if_pos (by omega), if_pos (by omega), w64 (x := (i : Int) + 1) (by omega) (by omega)]
    have e1 : rd l (i : Int) = l[i]'(by omega) := by unfold rd; rw [Int.toNat_natCast, List.getD_eq_getElem?_getD, List.getElem?_eq_getElem (by omega)]; rfl
    have e2 : rd m (i : Int) = m[i]'(by omega) := by unfold rd; rw [Int.toNat_natCast, List.getD_eq_getElem?_getD, List.getElem?_eq_getElem (by omega)]; rfl
    have d1 : l.drop i = l[i]'(by omega) :: l.drop (i + 1) := List.drop_eq_getElem_cons (by omega)
    have d2 : m.drop i = m[i]'(by omega) :: m.drop (i + 1) := List.drop_eq_getElem_cons (by omega)
    rw [e1, e2, d1, d2, show (i : Int) + 1 = ((i + 1 : Nat) : Int) by omega, ih k (i + 1) (by omega) (by omega) (by omega)]
    by_cases c : l[i]'(by omega) = m[i]'(by omega)
    · rw [if_pos c, c]; congr 1; exact decide_eq_decide.2 ⟨fun h => by rw [h], fun h => (List.cons.inj h).2⟩
    · rw [if_neg c, decide_eq_false (fun h => c (List.cons.inj h).1)]
theorem laws_eqInt64S_.same (l m : List Int) (hl : l.length ≤ 4611686018427387904) : laws_eqInt64S.f (l.length + 1) l m = some (decide (l = m)) := by
  unfold laws_eqInt64S.f
  by_cases he : l.length = m.length
  · rw [if_pos (by omega)]
    exact eq_loop l m he hl l.length (l.length + 1) 0 (by omega) (by omega) (by omega)
  · rw [if_neg (by omega), decide_eq_false (fun h => he (by rw [h]))]
theorem laws_eqInt64S_.calls (A0 : Option Addr) (c0 : Nat) (l0 : List Int) (A1 : Option Addr) (c1 : Nat) (l1 : List Int) (r : Bool) (w : World) (hr0 : Kd.C (Kd.int .i64) w A0 l0.length l0) (hc0 : l0.length ≤ c0) (hr1 : Kd.C (Kd.int .i64) w A1 l1.length l1) (hc1 : l1.length ≤ c1) (h : laws_eqInt64S_.f l0 l1 = some r) :
    Calls Try.prog 13 #[.slice A0 l0.length c0, .slice A1 l1.length c1] w fun e w' => e = .returned (.bool r) ∧ Drawn0 w w' := by
  unfold laws_eqInt64S_.f at h
  split at h
  · rename_i hl
    exact laws_eqInt64S.calls (l0.length + 1) A0 c0 l0 A1 c1 l1 r w hr0 hc0 hr1 hc1 (by rw [← h]; exact laws_eqInt64S_.same l0 l1 hl)
  · exact absurd h (by simp)


/-! ### laws_eqPipe: function 66 -/
open Go.Proofs.YtnmdcmfhjhgheaaM
def laws_eqPipe.f (a0_0 : ByteArray) (a0_1 a0_2 a0_3 a0_4 a0_5 : Int) (a1_0 : ByteArray) (a1_1 a1_2 a1_3 a1_4 a1_5 : Int) : Option Bool := if a0_0.toList = a1_0.toList then (if a0_1 = a1_1 then (if a0_2 = a1_2 then (if a0_3 = a1_3 then (if a0_4 = a1_4 then (if a0_5 = a1_5 then (some true) else (some false)) else (some false)) else (some false)) else (some false)) else (some false)) else (some false)
theorem if2 {p : Prop} [Decidable p] {r : Bool} {x : Option Bool} (h : (if p then x else some false) = some r) : (p ∧ x = some r) ∨ (¬ p ∧ false = r) := by
  by_cases c : p
  · rw [if_pos c] at h; exact .inl ⟨c, h⟩
  · rw [if_neg c] at h; exact .inr ⟨c, Option.some.inj h⟩
set_option maxHeartbeats 4000000 in
set_option maxRecDepth 100000 in
theorem laws_eqPipe.calls (a0_0 : ByteArray) (a0_1 : Int) (a0_2 : Int) (a0_3 : Int) (a0_4 : Int) (a0_5 : Int) (a1_0 : ByteArray) (a1_1 : Int) (a1_2 : Int) (a1_3 : Int) (a1_4 : Int) (a1_5 : Int) (r : Bool) (w : World) (h : laws_eqPipe.f a0_0 a0_1 a0_2 a0_3 a0_4 a0_5 a1_0 a1_1 a1_2 a1_3 a1_4 a1_5 = some r) :
    Calls Try.prog 66 #[.agg #[.string a0_0, .int .i64 a0_1, .int .i64 a0_2, .int .i64 a0_3, .int .i64 a0_4, .int .i64 a0_5], .agg #[.string a1_0, .int .i64 a1_1, .int .i64 a1_2, .int .i64 a1_3, .int .i64 a1_4, .int .i64 a1_5]] w fun e w' => e = .returned (.bool r) ∧ Below w.heap.size w w' := by
  have hu := Try.underlying73;(unfold laws_eqPipe.f at h)
  rcases if2 h with ⟨c0, h⟩ | ⟨c0, rfl⟩
  case inr =>
    (have b0 : (a0_0.toList == a1_0.toList) = false := by simpa using c0);(have n0 : (a0_0.toList != a1_0.toList) = true := by simpa using c0);clear c0 h;go_enter Try.func66, Try.ntmps66;go_wp2;go_ret;exact ⟨rfl, z105_⟩
  (have b0 : (a0_0.toList == a1_0.toList) = true := by simpa using c0);(have n0 : (a0_0.toList != a1_0.toList) = false := by simpa using c0);clear c0
  rcases if2 h with ⟨c1, h⟩ | ⟨c1, rfl⟩
  case inr =>
    (have b1 : (a0_1 == a1_1) = false := by simpa using c1);(have n1 : (a0_1 != a1_1) = true := by simpa using c1);clear c1 h;go_enter Try.func66, Try.ntmps66;go_wp2;go_ret;exact ⟨rfl, z105_⟩
  (have b1 : (a0_1 == a1_1) = true := by simpa using c1);(have n1 : (a0_1 != a1_1) = false := by simpa using c1);clear c1
  rcases if2 h with ⟨c2, h⟩ | ⟨c2, rfl⟩
  case inr =>
    (have b2 : (a0_2 == a1_2) = false := by simpa using c2);(have n2 : (a0_2 != a1_2) = true := by simpa using c2);clear c2 h;go_enter Try.func66, Try.ntmps66;go_wp2;go_ret;exact ⟨rfl, z105_⟩
  (have b2 : (a0_2 == a1_2) = true := by simpa using c2);(have n2 : (a0_2 != a1_2) = false := by simpa using c2);clear c2
  rcases if2 h with ⟨c3, h⟩ | ⟨c3, rfl⟩
  case inr =>
    (have b3 : (a0_3 == a1_3) = false := by simpa using c3);(have n3 : (a0_3 != a1_3) = true := by simpa using c3);clear c3 h;go_enter Try.func66, Try.ntmps66;go_wp2;go_ret;exact ⟨rfl, z105_⟩
  (have b3 : (a0_3 == a1_3) = true := by simpa using c3);(have n3 : (a0_3 != a1_3) = false := by simpa using c3);clear c3
  rcases if2 h with ⟨c4, h⟩ | ⟨c4, rfl⟩
  case inr =>
    (have b4 : (a0_4 == a1_4) = false := by simpa using c4);(have n4 : (a0_4 != a1_4) = true := by simpa using c4);clear c4 h;go_enter Try.func66, Try.ntmps66;go_wp2;go_ret;exact ⟨rfl, z105_⟩
  (have b4 : (a0_4 == a1_4) = true := by simpa using c4);(have n4 : (a0_4 != a1_4) = false := by simpa using c4);clear c4
  rcases if2 h with ⟨c5, h⟩ | ⟨c5, rfl⟩
  case inr =>
    (have b5 : (a0_5 == a1_5) = false := by simpa using c5);(have n5 : (a0_5 != a1_5) = true := by simpa using c5);clear c5 h;go_enter Try.func66, Try.ntmps66;go_wp2;go_ret;exact ⟨rfl, z105_⟩
  (have b5 : (a0_5 == a1_5) = true := by simpa using c5);(have n5 : (a0_5 != a1_5) = false := by simpa using c5);clear c5;obtain rfl := Option.some.inj h;clear h;go_enter Try.func66, Try.ntmps66;go_wp2;go_ret;exact ⟨rfl, z105_⟩

/-! ### laws_eqPipeS: function 34 -/
def laws_eqPipeS.l0 : Nat → List (S73) → List (S73) → Int → Option (Bool)
 | 0, _, _, _ => none
 | k + 1, x0, x1, x5 => if x5 < (x0.length : Int) then (if 0 ≤ x5 then (if x5 < (x1.length : Int) then ((laws_eqPipe.f ((rd_T73 x0 x5).f0) ((rd_T73 x0 x5).f1) ((rd_T73 x0 x5).f2) ((rd_T73 x0 x5).f3) ((rd_T73 x0 x5).f4) ((rd_T73 x0 x5).f5) ((rd_T73 x1 x5).f0) ((rd_T73 x1 x5).f1) ((rd_T73 x1 x5).f2) ((rd_T73 x1 x5).f3) ((rd_T73 x1 x5).f4) ((rd_T73 x1 x5).f5)).bind fun t355 => (if t355 = true then (laws_eqPipeS.l0 k x0 x1 (wrap64 (x5 + 1))) else (some false))) else (none)) else (none)) else (some true)
def laws_eqPipeS.f (k : Nat) (l0 : List (S73)) (l1 : List (S73)) : Option (Bool) := if (l0.length : Int) = (l1.length : Int) then (laws_eqPipeS.l0 k l0 l1 0) else (some false)
theorem laws_eqPipeS.mono_l : ∀ k, (∀ y0 y1 y2, LeO (laws_eqPipeS.l0 k y0 y1 y2) (laws_eqPipeS.l0 (k + 1) y0 y1 y2))
 | 0 => fun _ _ _ r h => by simp [laws_eqPipeS.l0] at h
 | k + 1 => by
  have ih0 := laws_eqPipeS.mono_l k
  ·intro y0 y1 y2
   unfold laws_eqPipeS.l0
   exact z244_
theorem laws_eqPipeS.mono : ∀ a0 a1 k, LeO (laws_eqPipeS.f k a0 a1) (laws_eqPipeS.f (k + 1) a0 a1) := by
 intro a0 a1 k
 have ih0 := laws_eqPipeS.mono_l k
 unfold laws_eqPipeS.f
 exact z244_
def laws_eqPipeS.T6 : Bool × List (List Nat × List Nat) := (true, [([], []), ([], []), ([0, 1], [0, 1]), ([2], [2]), ([], []), ([], []), ([4, 5], [4, 5]), ([6], [6]), ([3, 7], [3, 7]), ([8], [8])])
def laws_eqPipeS.B6 : List Nat := [0, 0, 3, 7, 0, 0, 48, 112, 255, 511]
theorem laws_eqPipeS.tab6 : rtab .any (opsOf Try.f34 6) = laws_eqPipeS.T6 := by kernel_rfl
theorem laws_eqPipeS.bits6 : waitsOk laws_eqPipeS.T6.2 laws_eqPipeS.B6 = true := by kernel_rfl
set_option maxHeartbeats 8000000 in
set_option maxRecDepth 100000 in
theorem laws_eqPipeS.calls (k : Nat) (A0 : Option Addr) (c0 : Nat) (l0 : List (S73)) (A1 : Option Addr) (c1 : Nat) (l1 : List (S73)) (r : Bool) (w : World) (hr0 : Kd.C k73 w A0 l0.length l0) (hc0 : l0.length ≤ c0) (hr1 : Kd.C k73 w A1 l1.length l1) (hc1 : l1.length ≤ c1) (h : laws_eqPipeS.f k l0 l1 = some r) :
  Calls Try.prog 34 #[.slice A0 l0.length c0, .slice A1 l1.length c1] w fun e w' => e = .returned (.bool r) ∧ Below w.heap.size w w' := by
 have hu73 := Try.underlying73
 have HR0 := Aside0.mk hr0
 have HC0 := Aside0.mk hc0
 clear hr0 hc0
 have HR1 := Aside0.mk hr1
 have HC1 := Aside0.mk hc1
 clear hr1 hc1
 have HB := Aside0.mk (Below.refl w.heap.size w)
 unfold laws_eqPipeS.f at h;have H := h;clear h
 by_cases c3 : (l0.length : Int) = (l1.length : Int)
 ·(rw [if_pos c3] at H);have c3b0 : ((l0.length : Int) == (l1.length : Int)) = true := beq_iff_eq.mpr c3;have c3b1 : ((l0.length : Int) != (l1.length : Int)) = false := bne_eq_false_iff_eq.mpr c3;(have c3b2 : (l0.length == l1.length) = true := by first | simpa using c3 | (simp at c3 ⊢; omega));clear c3;have H' := Aside0.mk H;clear H;go_enter Try.func34, Try.ntmps34;go_wp2
  go_loopg [5] k (fun kq v5 w' => ∃ (x5_1 : Int), v5 = .int .i64 x5_1 ∧ Aside0 (laws_eqPipeS.l0 kq l0 l1 x5_1 = some r) ∧ Aside0 (kq ≤ k) ∧ Aside0 (Below w.heap.size w w'))
  case atStart => exact ⟨(0), (z8_), H', ⟨Nat.le_refl _⟩, ⟨z2_⟩⟩
  case round =>
   clear H';(try clear c1);(try clear c3);(try clear c3b0);(try clear c3b1);(try clear c3b2);obtain ⟨x5_1, rfl, HA, HK1, HB⟩ := hrel
   cases gk with
   | zero => exact absurd HA.out (by simp [laws_eqPipeS.l0])
   | succ k1 =>
    have H := HA.out;clear HA;(simp only [laws_eqPipeS.l0] at H);by_cases c4 : x5_1 < (l0.length : Int)
    ·(rw [if_pos c4] at H);have c4b0 := decide_eq_true c4;clear c4;obtain ⟨c5b0,H⟩ := pd_ H;obtain ⟨c6b0,H⟩ := pd_ H;replace H := Option.bind_eq_some_iff.mp H;obtain ⟨t355, A70, H⟩ := H;have A7 := Aside0.mk A70;clear A70;by_cases c8 : t355 = true
     ·subst c8;(rw [if_pos rfl] at H);have H' := Aside0.mk H;clear H;(try go_wp2);replace HB := Aside0.mk (below_drew1 HB.out);have p353 : 0 ≤ (x5_1 : Int) := of_decide_eq_true (z0_);have q353 : x5_1 < (l0.length : Int) := of_decide_eq_true (z0_);obtain ⟨ad353, e353, hx353_0, hx353_1, hx353_2, hx353_3, hx353_4, hx353_5⟩ := at_T73 HR0.out x5_1 p353 q353;have hw353_5 := hx353_5;have hw353_4 := hx353_4;have hw353_3 := hx353_3;have hw353_2 := hx353_2;have hw353_1 := hx353_1;have hw353_0 := hx353_0;cases e353;replace hx353_0 := (HB.out.cell (World.block_lt_of_cell? w _ hx353_0)).trans hx353_0;replace hx353_1 := (HB.out.cell (World.block_lt_of_cell? w _ hx353_1)).trans hx353_1;replace hx353_2 := (HB.out.cell (World.block_lt_of_cell? w _ hx353_2)).trans hx353_2;replace hx353_3 := (HB.out.cell (World.block_lt_of_cell? w _ hx353_3)).trans hx353_3;replace hx353_4 := (HB.out.cell (World.block_lt_of_cell? w _ hx353_4)).trans hx353_4;replace hx353_5 := (HB.out.cell (World.block_lt_of_cell? w _ hx353_5)).trans hx353_5;replace p353 := eq_true p353;replace q353 := eq_true q353;have p354 : 0 ≤ (x5_1 : Int) := of_decide_eq_true (z0_);have q354 : x5_1 < (l1.length : Int) := of_decide_eq_true (z0_);obtain ⟨ad354, e354, hx354_0, hx354_1, hx354_2, hx354_3, hx354_4, hx354_5⟩ := at_T73 HR1.out x5_1 p354 q354;have hw354_5 := hx354_5;have hw354_4 := hx354_4;have hw354_3 := hx354_3;have hw354_2 := hx354_2;have hw354_1 := hx354_1;have hw354_0 := hx354_0;cases e354;replace hx354_0 := (HB.out.cell (World.block_lt_of_cell? w _ hx354_0)).trans hx354_0;replace hx354_1 := (HB.out.cell (World.block_lt_of_cell? w _ hx354_1)).trans hx354_1;replace hx354_2 := (HB.out.cell (World.block_lt_of_cell? w _ hx354_2)).trans hx354_2;replace hx354_3 := (HB.out.cell (World.block_lt_of_cell? w _ hx354_3)).trans hx354_3;replace hx354_4 := (HB.out.cell (World.block_lt_of_cell? w _ hx354_4)).trans hx354_4;replace hx354_5 := (HB.out.cell (World.block_lt_of_cell? w _ hx354_5)).trans hx354_5;replace p354 := eq_true p354;replace q354 := eq_true q354;refine start_ (n := 10) (S := fun w' => w'.cell? (ad353.add ((x5_1).toNat * 6)) = some (.string ((rd_T73 l0 x5_1).f0)) ∧ w'.cell? ⟨(ad353.add ((x5_1).toNat * 6)).block, (ad353.add ((x5_1).toNat * 6)).off + 1, none⟩ = some (.int .i64 ((rd_T73 l0 x5_1).f1)) ∧ w'.cell? ⟨(ad353.add ((x5_1).toNat * 6)).block, (ad353.add ((x5_1).toNat * 6)).off + 2, none⟩ = some (.int .i64 ((rd_T73 l0 x5_1).f2)) ∧ w'.cell? ⟨(ad353.add ((x5_1).toNat * 6)).block, (ad353.add ((x5_1).toNat * 6)).off + 3, none⟩ = some (.int .i64 ((rd_T73 l0 x5_1).f3)) ∧ w'.cell? ⟨(ad353.add ((x5_1).toNat * 6)).block, (ad353.add ((x5_1).toNat * 6)).off + 4, none⟩ = some (.int .i64 ((rd_T73 l0 x5_1).f4)) ∧ w'.cell? ⟨(ad353.add ((x5_1).toNat * 6)).block, (ad353.add ((x5_1).toNat * 6)).off + 5, none⟩ = some (.int .i64 ((rd_T73 l0 x5_1).f5)) ∧ w'.cell? (ad354.add ((x5_1).toNat * 6)) = some (.string ((rd_T73 l1 x5_1).f0)) ∧ w'.cell? ⟨(ad354.add ((x5_1).toNat * 6)).block, (ad354.add ((x5_1).toNat * 6)).off + 1, none⟩ = some (.int .i64 ((rd_T73 l1 x5_1).f1)) ∧ w'.cell? ⟨(ad354.add ((x5_1).toNat * 6)).block, (ad354.add ((x5_1).toNat * 6)).off + 2, none⟩ = some (.int .i64 ((rd_T73 l1 x5_1).f2)) ∧ w'.cell? ⟨(ad354.add ((x5_1).toNat * 6)).block, (ad354.add ((x5_1).toNat * 6)).off + 3, none⟩ = some (.int .i64 ((rd_T73 l1 x5_1).f3)) ∧ w'.cell? ⟨(ad354.add ((x5_1).toNat * 6)).block, (ad354.add ((x5_1).toNat * 6)).off + 4, none⟩ = some (.int .i64 ((rd_T73 l1 x5_1).f4)) ∧ w'.cell? ⟨(ad354.add ((x5_1).toNat * 6)).block, (ad354.add ((x5_1).toNat * 6)).off + 5, none⟩ = some (.int .i64 ((rd_T73 l1 x5_1).f5))) (ds := []) #[J,J,J,J,J,J,J,J,J,J] (z14_) rfl rfl ⟨((HB.out.cell (World.block_lt_of_cell? w _ hw353_0)).trans hw353_0), ((HB.out.cell (World.block_lt_of_cell? w _ hw353_1)).trans hw353_1), ((HB.out.cell (World.block_lt_of_cell? w _ hw353_2)).trans hw353_2), ((HB.out.cell (World.block_lt_of_cell? w _ hw353_3)).trans hw353_3), ((HB.out.cell (World.block_lt_of_cell? w _ hw353_4)).trans hw353_4), ((HB.out.cell (World.block_lt_of_cell? w _ hw353_5)).trans hw353_5), ((HB.out.cell (World.block_lt_of_cell? w _ hw354_0)).trans hw354_0), ((HB.out.cell (World.block_lt_of_cell? w _ hw354_1)).trans hw354_1), ((HB.out.cell (World.block_lt_of_cell? w _ hw354_2)).trans hw354_2), ((HB.out.cell (World.block_lt_of_cell? w _ hw354_3)).trans hw354_3), ((HB.out.cell (World.block_lt_of_cell? w _ hw354_4)).trans hw354_4), ((HB.out.cell (World.block_lt_of_cell? w _ hw354_5)).trans hw354_5)⟩ (fun hHeld => ?_); refine with_tabW laws_eqPipeS.tab6 laws_eqPipeS.bits6 (fun HT_ HW_ => ?_);(generalize wr.drew = w9 at HB hx353_0 hx353_1 hx353_2 hx353_3 hx353_4 hx353_5 hx354_0 hx354_1 hx354_2 hx354_3 hx354_4 hx354_5 hHeld ⊢);refine pz_ 0 17 #[Y,J,J,J,J,J,J,J,J,J] HT_ ?_;refine pz_ 1 18 #[Y,Y,J,J,J,J,J,J,J,J] HT_ ?_;refine pz_ 2 19 #[Y,Y,Y,J,J,J,J,J,J,J] HT_ ?_;refine pz_ 4 21 #[Y,Y,Y,J,Y,J,J,J,J,J] HT_ ?_;refine pz_ 5 22 #[Y,Y,Y,J,Y,Y,J,J,J,J] HT_ ?_;refine pz_ 6 23 #[Y,Y,Y,J,Y,Y,Y,J,J,J] HT_ ?_;refine take_ (i := 3) (N := some 20) (v := ?_) (a' := ?_) #[Y,Y,Y,Y,Y,Y,Y,J,J,J] rfl rfl (take_ofW HT_.out HW_.out (z14_)) (fun _ _ _ h => h) (Or.inl ⟨by rfl, ?_⟩) hHeld ?_ ?_; rotate_left
      ·rintro w' ⟨s0, s1, s2, s3, s4, s5, s6, s7, s8, s9, s10, s11⟩; go_simp; with_reducible rfl
      rotate_left
      ·simp only [pU,pN,sB,sZ,sS,i64_w,i32_w]; rfl
      refine take_ (i := 7) (N := some 24) (v := ?_) (a' := ?_) #[Y,Y,Y,Y,Y,Y,Y,Y,J,J] rfl rfl (take_ofW HT_.out HW_.out (z14_)) (fun _ _ _ h => h) (Or.inl ⟨by rfl, ?_⟩) hHeld ?_ ?_; rotate_left
      ·rintro w' ⟨s0, s1, s2, s3, s4, s5, s6, s7, s8, s9, s10, s11⟩; go_simp; with_reducible rfl
      rotate_left
      ·simp only [pU,pN,sB,sZ,sS,i64_w,i32_w]; rfl
      refine one_ (i := 8) (N := some 25) #[Y,Y,Y,Y,Y,Y,Y,Y,Y,J] rfl rfl (one_of HT_.out (z14_)) (by decide) (fun K hK => ?_);refine goes_ Try.func66 (z14_) rfl #[.agg #[.string ((rd_T73 l0 x5_1).f0), .int .i64 ((rd_T73 l0 x5_1).f1), .int .i64 ((rd_T73 l0 x5_1).f2), .int .i64 ((rd_T73 l0 x5_1).f3), .int .i64 ((rd_T73 l0 x5_1).f4), .int .i64 ((rd_T73 l0 x5_1).f5)], .agg #[.string ((rd_T73 l1 x5_1).f0), .int .i64 ((rd_T73 l1 x5_1).f1), .int .i64 ((rd_T73 l1 x5_1).f2), .int .i64 ((rd_T73 l1 x5_1).f3), .int .i64 ((rd_T73 l1 x5_1).f4), .int .i64 ((rd_T73 l1 x5_1).f5)]] (by rfl) rfl rfl (z1_) ?_;(with_reducible refine (laws_eqPipe.calls ((rd_T73 l0 x5_1).f0) ((rd_T73 l0 x5_1).f1) ((rd_T73 l0 x5_1).f2) ((rd_T73 l0 x5_1).f3) ((rd_T73 l0 x5_1).f4) ((rd_T73 l0 x5_1).f5) ((rd_T73 l1 x5_1).f0) ((rd_T73 l1 x5_1).f1) ((rd_T73 l1 x5_1).f2) ((rd_T73 l1 x5_1).f3) ((rd_T73 l1 x5_1).f4) ((rd_T73 l1 x5_1).f5) true _ A7.out).mono ?_);rintro e w10 ⟨rfl, hb⟩;refine ⟨_, rfl, ?_⟩;replace HB := Aside0.mk (below_step (z2_) hb);(try clear hb);refine hK.out _ _ ⟨((HB.out.cell (World.block_lt_of_cell? w _ hw353_0)).trans hw353_0), ((HB.out.cell (World.block_lt_of_cell? w _ hw353_1)).trans hw353_1), ((HB.out.cell (World.block_lt_of_cell? w _ hw353_2)).trans hw353_2), ((HB.out.cell (World.block_lt_of_cell? w _ hw353_3)).trans hw353_3), ((HB.out.cell (World.block_lt_of_cell? w _ hw353_4)).trans hw353_4), ((HB.out.cell (World.block_lt_of_cell? w _ hw353_5)).trans hw353_5), ((HB.out.cell (World.block_lt_of_cell? w _ hw354_0)).trans hw354_0), ((HB.out.cell (World.block_lt_of_cell? w _ hw354_1)).trans hw354_1), ((HB.out.cell (World.block_lt_of_cell? w _ hw354_2)).trans hw354_2), ((HB.out.cell (World.block_lt_of_cell? w _ hw354_3)).trans hw354_3), ((HB.out.cell (World.block_lt_of_cell? w _ hw354_4)).trans hw354_4), ((HB.out.cell (World.block_lt_of_cell? w _ hw354_5)).trans hw354_5)⟩ (fun hHeld => ?_);clear hK K;refine norm_ (a' := ?_) ?_ ?_
      rotate_left
      ·show Act.put _ (some 25) _ = _
       simp only [pU,pN,sB,sZ,sS,i64_w,i32_w]
       rfl
      refine pz_ 9 26 #[Y,Y,Y,Y,Y,Y,Y,Y,Y,Y] HT_ ?_;refine done_ (done_of HT_.out (z14_)) ?_;(try go_wp2)
      go_roundg k1
      case measure => have := HK1.out; omega
      case rel => exact ⟨(wrap64 (x5_1 + 1)), (z8_), H', ⟨z136_⟩, ⟨z2_⟩⟩
     ·replace c8 := Bool.eq_false_iff.mpr c8;subst c8;(rw [if_neg (show ¬ (false = true) by decide)] at H);obtain rfl := Option.some.inj H;(try go_wp2);replace HB := Aside0.mk (below_drew1 HB.out);have p353 : 0 ≤ (x5_1 : Int) := of_decide_eq_true (z0_);have q353 : x5_1 < (l0.length : Int) := of_decide_eq_true (z0_);obtain ⟨ad353, e353, hx353_0, hx353_1, hx353_2, hx353_3, hx353_4, hx353_5⟩ := at_T73 HR0.out x5_1 p353 q353;have hw353_5 := hx353_5;have hw353_4 := hx353_4;have hw353_3 := hx353_3;have hw353_2 := hx353_2;have hw353_1 := hx353_1;have hw353_0 := hx353_0;cases e353;replace hx353_0 := (HB.out.cell (World.block_lt_of_cell? w _ hx353_0)).trans hx353_0;replace hx353_1 := (HB.out.cell (World.block_lt_of_cell? w _ hx353_1)).trans hx353_1;replace hx353_2 := (HB.out.cell (World.block_lt_of_cell? w _ hx353_2)).trans hx353_2;replace hx353_3 := (HB.out.cell (World.block_lt_of_cell? w _ hx353_3)).trans hx353_3;replace hx353_4 := (HB.out.cell (World.block_lt_of_cell? w _ hx353_4)).trans hx353_4;replace hx353_5 := (HB.out.cell (World.block_lt_of_cell? w _ hx353_5)).trans hx353_5;replace p353 := eq_true p353;replace q353 := eq_true q353;have p354 : 0 ≤ (x5_1 : Int) := of_decide_eq_true (z0_);have q354 : x5_1 < (l1.length : Int) := of_decide_eq_true (z0_);obtain ⟨ad354, e354, hx354_0, hx354_1, hx354_2, hx354_3, hx354_4, hx354_5⟩ := at_T73 HR1.out x5_1 p354 q354;have hw354_5 := hx354_5;have hw354_4 := hx354_4;have hw354_3 := hx354_3;have hw354_2 := hx354_2;have hw354_1 := hx354_1;have hw354_0 := hx354_0;cases e354;replace hx354_0 := (HB.out.cell (World.block_lt_of_cell? w _ hx354_0)).trans hx354_0;replace hx354_1 := (HB.out.cell (World.block_lt_of_cell? w _ hx354_1)).trans hx354_1;replace hx354_2 := (HB.out.cell (World.block_lt_of_cell? w _ hx354_2)).trans hx354_2;replace hx354_3 := (HB.out.cell (World.block_lt_of_cell? w _ hx354_3)).trans hx354_3;replace hx354_4 := (HB.out.cell (World.block_lt_of_cell? w _ hx354_4)).trans hx354_4;replace hx354_5 := (HB.out.cell (World.block_lt_of_cell? w _ hx354_5)).trans hx354_5;replace p354 := eq_true p354;replace q354 := eq_true q354;refine start_ (n := 10) (S := fun w' => w'.cell? (ad353.add ((x5_1).toNat * 6)) = some (.string ((rd_T73 l0 x5_1).f0)) ∧ w'.cell? ⟨(ad353.add ((x5_1).toNat * 6)).block, (ad353.add ((x5_1).toNat * 6)).off + 1, none⟩ = some (.int .i64 ((rd_T73 l0 x5_1).f1)) ∧ w'.cell? ⟨(ad353.add ((x5_1).toNat * 6)).block, (ad353.add ((x5_1).toNat * 6)).off + 2, none⟩ = some (.int .i64 ((rd_T73 l0 x5_1).f2)) ∧ w'.cell? ⟨(ad353.add ((x5_1).toNat * 6)).block, (ad353.add ((x5_1).toNat * 6)).off + 3, none⟩ = some (.int .i64 ((rd_T73 l0 x5_1).f3)) ∧ w'.cell? ⟨(ad353.add ((x5_1).toNat * 6)).block, (ad353.add ((x5_1).toNat * 6)).off + 4, none⟩ = some (.int .i64 ((rd_T73 l0 x5_1).f4)) ∧ w'.cell? ⟨(ad353.add ((x5_1).toNat * 6)).block, (ad353.add ((x5_1).toNat * 6)).off + 5, none⟩ = some (.int .i64 ((rd_T73 l0 x5_1).f5)) ∧ w'.cell? (ad354.add ((x5_1).toNat * 6)) = some (.string ((rd_T73 l1 x5_1).f0)) ∧ w'.cell? ⟨(ad354.add ((x5_1).toNat * 6)).block, (ad354.add ((x5_1).toNat * 6)).off + 1, none⟩ = some (.int .i64 ((rd_T73 l1 x5_1).f1)) ∧ w'.cell? ⟨(ad354.add ((x5_1).toNat * 6)).block, (ad354.add ((x5_1).toNat * 6)).off + 2, none⟩ = some (.int .i64 ((rd_T73 l1 x5_1).f2)) ∧ w'.cell? ⟨(ad354.add ((x5_1).toNat * 6)).block, (ad354.add ((x5_1).toNat * 6)).off + 3, none⟩ = some (.int .i64 ((rd_T73 l1 x5_1).f3)) ∧ w'.cell? ⟨(ad354.add ((x5_1).toNat * 6)).block, (ad354.add ((x5_1).toNat * 6)).off + 4, none⟩ = some (.int .i64 ((rd_T73 l1 x5_1).f4)) ∧ w'.cell? ⟨(ad354.add ((x5_1).toNat * 6)).block, (ad354.add ((x5_1).toNat * 6)).off + 5, none⟩ = some (.int .i64 ((rd_T73 l1 x5_1).f5))) (ds := []) #[J,J,J,J,J,J,J,J,J,J] (z14_) rfl rfl ⟨((HB.out.cell (World.block_lt_of_cell? w _ hw353_0)).trans hw353_0), ((HB.out.cell (World.block_lt_of_cell? w _ hw353_1)).trans hw353_1), ((HB.out.cell (World.block_lt_of_cell? w _ hw353_2)).trans hw353_2), ((HB.out.cell (World.block_lt_of_cell? w _ hw353_3)).trans hw353_3), ((HB.out.cell (World.block_lt_of_cell? w _ hw353_4)).trans hw353_4), ((HB.out.cell (World.block_lt_of_cell? w _ hw353_5)).trans hw353_5), ((HB.out.cell (World.block_lt_of_cell? w _ hw354_0)).trans hw354_0), ((HB.out.cell (World.block_lt_of_cell? w _ hw354_1)).trans hw354_1), ((HB.out.cell (World.block_lt_of_cell? w _ hw354_2)).trans hw354_2), ((HB.out.cell (World.block_lt_of_cell? w _ hw354_3)).trans hw354_3), ((HB.out.cell (World.block_lt_of_cell? w _ hw354_4)).trans hw354_4), ((HB.out.cell (World.block_lt_of_cell? w _ hw354_5)).trans hw354_5)⟩ (fun hHeld => ?_); refine with_tabW laws_eqPipeS.tab6 laws_eqPipeS.bits6 (fun HT_ HW_ => ?_);(generalize wr.drew = w11 at HB hx353_0 hx353_1 hx353_2 hx353_3 hx353_4 hx353_5 hx354_0 hx354_1 hx354_2 hx354_3 hx354_4 hx354_5 hHeld ⊢);refine pz_ 0 17 #[Y,J,J,J,J,J,J,J,J,J] HT_ ?_;refine pz_ 1 18 #[Y,Y,J,J,J,J,J,J,J,J] HT_ ?_;refine pz_ 2 19 #[Y,Y,Y,J,J,J,J,J,J,J] HT_ ?_;refine pz_ 4 21 #[Y,Y,Y,J,Y,J,J,J,J,J] HT_ ?_;refine pz_ 5 22 #[Y,Y,Y,J,Y,Y,J,J,J,J] HT_ ?_;refine pz_ 6 23 #[Y,Y,Y,J,Y,Y,Y,J,J,J] HT_ ?_;refine take_ (i := 3) (N := some 20) (v := ?_) (a' := ?_) #[Y,Y,Y,Y,Y,Y,Y,J,J,J] rfl rfl (take_ofW HT_.out HW_.out (z14_)) (fun _ _ _ h => h) (Or.inl ⟨by rfl, ?_⟩) hHeld ?_ ?_; rotate_left
      ·rintro w' ⟨s0, s1, s2, s3, s4, s5, s6, s7, s8, s9, s10, s11⟩; go_simp; with_reducible rfl
      rotate_left
      ·simp only [pU,pN,sB,sZ,sS,i64_w,i32_w]; rfl
      refine take_ (i := 7) (N := some 24) (v := ?_) (a' := ?_) #[Y,Y,Y,Y,Y,Y,Y,Y,J,J] rfl rfl (take_ofW HT_.out HW_.out (z14_)) (fun _ _ _ h => h) (Or.inl ⟨by rfl, ?_⟩) hHeld ?_ ?_; rotate_left
      ·rintro w' ⟨s0, s1, s2, s3, s4, s5, s6, s7, s8, s9, s10, s11⟩; go_simp; with_reducible rfl
      rotate_left
      ·simp only [pU,pN,sB,sZ,sS,i64_w,i32_w]; rfl
      refine one_ (i := 8) (N := some 25) #[Y,Y,Y,Y,Y,Y,Y,Y,Y,J] rfl rfl (one_of HT_.out (z14_)) (by decide) (fun K hK => ?_);refine goes_ Try.func66 (z14_) rfl #[.agg #[.string ((rd_T73 l0 x5_1).f0), .int .i64 ((rd_T73 l0 x5_1).f1), .int .i64 ((rd_T73 l0 x5_1).f2), .int .i64 ((rd_T73 l0 x5_1).f3), .int .i64 ((rd_T73 l0 x5_1).f4), .int .i64 ((rd_T73 l0 x5_1).f5)], .agg #[.string ((rd_T73 l1 x5_1).f0), .int .i64 ((rd_T73 l1 x5_1).f1), .int .i64 ((rd_T73 l1 x5_1).f2), .int .i64 ((rd_T73 l1 x5_1).f3), .int .i64 ((rd_T73 l1 x5_1).f4), .int .i64 ((rd_T73 l1 x5_1).f5)]] (by rfl) rfl rfl (z1_) ?_;(with_reducible refine (laws_eqPipe.calls ((rd_T73 l0 x5_1).f0) ((rd_T73 l0 x5_1).f1) ((rd_T73 l0 x5_1).f2) ((rd_T73 l0 x5_1).f3) ((rd_T73 l0 x5_1).f4) ((rd_T73 l0 x5_1).f5) ((rd_T73 l1 x5_1).f0) ((rd_T73 l1 x5_1).f1) ((rd_T73 l1 x5_1).f2) ((rd_T73 l1 x5_1).f3) ((rd_T73 l1 x5_1).f4) ((rd_T73 l1 x5_1).f5) false _ A7.out).mono ?_);rintro e w12 ⟨rfl, hb⟩;refine ⟨_, rfl, ?_⟩;replace HB := Aside0.mk (below_step (z2_) hb);(try clear hb);refine hK.out _ _ ⟨((HB.out.cell (World.block_lt_of_cell? w _ hw353_0)).trans hw353_0), ((HB.out.cell (World.block_lt_of_cell? w _ hw353_1)).trans hw353_1), ((HB.out.cell (World.block_lt_of_cell? w _ hw353_2)).trans hw353_2), ((HB.out.cell (World.block_lt_of_cell? w _ hw353_3)).trans hw353_3), ((HB.out.cell (World.block_lt_of_cell? w _ hw353_4)).trans hw353_4), ((HB.out.cell (World.block_lt_of_cell? w _ hw353_5)).trans hw353_5), ((HB.out.cell (World.block_lt_of_cell? w _ hw354_0)).trans hw354_0), ((HB.out.cell (World.block_lt_of_cell? w _ hw354_1)).trans hw354_1), ((HB.out.cell (World.block_lt_of_cell? w _ hw354_2)).trans hw354_2), ((HB.out.cell (World.block_lt_of_cell? w _ hw354_3)).trans hw354_3), ((HB.out.cell (World.block_lt_of_cell? w _ hw354_4)).trans hw354_4), ((HB.out.cell (World.block_lt_of_cell? w _ hw354_5)).trans hw354_5)⟩ (fun hHeld => ?_);clear hK K;refine norm_ (a' := ?_) ?_ ?_
      rotate_left
      ·show Act.put _ (some 25) _ = _
       simp only [pU,pN,sB,sZ,sS,i64_w,i32_w]
       rfl
      refine pz_ 9 26 #[Y,Y,Y,Y,Y,Y,Y,Y,Y,Y] HT_ ?_;refine done_ (done_of HT_.out (z14_)) ?_;(try go_wp2);go_ret;exact ⟨z6_, z2_⟩
    ·(rw [if_neg c4] at H);have c4b0 := decide_eq_false c4;clear c4;obtain rfl := Option.some.inj H;go_wp2;go_ret;exact ⟨z6_, z2_⟩
 ·(rw [if_neg c3] at H);have c3b0 : ((l0.length : Int) == (l1.length : Int)) = false := beq_eq_false_iff_ne.mpr c3;have c3b1 : ((l0.length : Int) != (l1.length : Int)) = true := bne_iff_ne.mpr c3;(have c3b2 : (l0.length == l1.length) = false := by first | simpa using c3 | (simp at c3 ⊢; omega));obtain rfl := Option.some.inj H;go_enter Try.func34, Try.ntmps34;go_wp2;go_ret;exact ⟨z6_, z2_⟩

open Go.Proofs.YtnmdcmfhjhgheaaM
def pipeEq (p q : S73) : Bool := decide (p.f0.toList = q.f0.toList) && (decide (p.f1 = q.f1) && (decide (p.f2 = q.f2) && (decide (p.f3 = q.f3) && (decide (p.f4 = q.f4) && decide (p.f5 = q.f5)))))
def pipesEq : List S73 → List S73 → Bool
  | [], [] => true
  | p :: l, q :: m => pipeEq p q && pipesEq l m
  | _, _ => false
theorem pipeEq_refl (p : S73) : pipeEq p p = true := by simp [pipeEq]
theorem pipesEq_refl (l : List S73) : pipesEq l l = true := by
  induction l with
  | nil => rfl
  | cons p l ih => simp [pipesEq, pipeEq_refl, ih]
theorem pipesEq_len : ∀ (l m : List S73), l.length ≠ m.length → pipesEq l m = false
  | [], [], h => absurd rfl h
  | [], _ :: _, _ => rfl
  | _ :: _, [], _ => rfl
  | p :: l, q :: m, h => by simp only [pipesEq]; rw [pipesEq_len l m (fun e => h (by simp [e])), Bool.and_false]
theorem rdP_impl (c : List S73) (i : Nat) : rd_T73 c (i : Int) = c.getD i z73 := by unfold rd_T73; rw [Int.toNat_natCast]
theorem dropP (c : List S73) (i : Nat) (h : i < c.length) : c.drop i = c.getD i z73 :: c.drop (i + 1) := by
  rw [List.drop_eq_getElem_cons h, List.getD_eq_getElem?_getD, List.getElem?_eq_getElem h]; rfl
theorem eqPipe_f (p q : S73) : laws_eqPipe.f p.f0 p.f1 p.f2 p.f3 p.f4 p.f5 q.f0 q.f1 q.f2 q.f3 q.f4 q.f5 = some (pipeEq p q) := by
  unfold laws_eqPipe.f pipeEq
  by_cases h0 : p.f0.toList = q.f0.toList
  · by_cases h1 : p.f1 = q.f1
    · by_cases h2 : p.f2 = q.f2
      · by_cases h3 : p.f3 = q.f3
        · by_cases h4 : p.f4 = q.f4
          · by_cases h5 : p.f5 = q.f5
            · simp [h0, h1, h2, h3, h4, h5]
            · simp [h0, h1, h2, h3, h4, h5]
          · simp [h0, h1, h2, h3, h4]
        · simp [h0, h1, h2, h3]
      · simp [h0, h1, h2]
    · simp [h0, h1]
  · simp [h0]
def laws_eqPipeS_.f (l0 l1 : List S73) : Option Bool := if l0.length ≤ 4611686018427387904 then some (pipesEq l0 l1) else none
theorem eqP_loop (l m : List S73) (he : l.length = m.length) (hl : l.length ≤ 4611686018427387904) : ∀ (d k : Nat) (i : Nat), i ≤ l.length → l.length - i = d → d < k → laws_eqPipeS.l0 k l m (i : Int) = some (pipesEq (l.drop i) (m.drop i)) := by
  intro d
  induction d with
  | zero =>
    intro k i h1 hd hk
    obtain ⟨k, rfl⟩ : ∃ m, k = m + 1 := ⟨k - 1, by omega⟩
    simp only [laws_eqPipeS.l0]; rw [if_neg (by omega), List.drop_of_length_le (by omega), List.drop_of_length_le (by omega)]; rfl
  | succ d ih =>
    intro k i h1 hd hk
    obtain ⟨k, rfl⟩ : ∃ m, k = m + 1 := ⟨k - 1, by omega⟩
    simp only [laws_eqPipeS.l0]
    rw [if_pos (by omega), if_pos (by omega), if_pos (by omega), rdP_impl, rdP_impl, eqPipe_f, w64 (x := (i : Int) + 1) (by omega) (by omega), show (i : Int) + 1 = ((i + 1 : Nat) : Int) by omega, ih k (i + 1) (by omega) (by omega) (by omega), dropP l i (by omega), dropP m i (by omega)]
    simp only [Option.bind_some, pipesEq]
    cases pipeEq (l.getD i z73) (m.getD i z73) <;> simp
theorem laws_eqPipeS_.same (l m : List S73) (h : l.length ≤ 4611686018427387904) : laws_eqPipeS.f (l.length + 1) l m = some (pipesEq l m) := by
  unfold laws_eqPipeS.f
  by_cases he : l.length = m.length
  · rw [if_pos (by omega)]
    exact eqP_loop l m he h l.length (l.length + 1) 0 (by omega) (by omega) (by omega)
  · rw [if_neg (by omega), pipesEq_len l m he]
theorem laws_eqPipeS_.calls (A0 : Option Addr) (c0 : Nat) (l0 : List (S73)) (A1 : Option Addr) (c1 : Nat) (l1 : List (S73)) (r : Bool) (w : World) (hr0 : Kd.C k73 w A0 l0.length l0) (hc0 : l0.length ≤ c0) (hr1 : Kd.C k73 w A1 l1.length l1) (hc1 : l1.length ≤ c1) (h : laws_eqPipeS_.f l0 l1 = some r) :
    Calls Try.prog 34 #[.slice A0 l0.length c0, .slice A1 l1.length c1] w fun e w' => e = .returned (.bool r) ∧ Below w.heap.size w w' := by
  unfold laws_eqPipeS_.f at h
  split at h
  · rename_i hs
    exact laws_eqPipeS.calls (l0.length + 1) A0 c0 l0 A1 c1 l1 r w hr0 hc0 hr1 hc1 (by rw [← h]; exact laws_eqPipeS_.same l0 l1 hs)
  · exact absurd h (by simp)


/-! ### laws_eqNetwork: function 14 -/
def laws_eqNetwork.f (l0_0 : List Int) (l0_1 : List (S73)) (l1_0 : List Int) (l1_1 : List (S73)) : Option (Bool) := (laws_eqInt64S_.f l0_0 l1_0).bind fun t358 => (if t358 = true then ((laws_eqPipeS_.f l0_1 l1_1).bind fun t359 => (if t359 = true then (some true) else (some false))) else (some false))
set_option maxHeartbeats 8000000 in
set_option maxRecDepth 100000 in
theorem laws_eqNetwork.calls (A0_0 : Option Addr) (c0_0 : Nat) (l0_0 : List Int) (A0_1 : Option Addr) (c0_1 : Nat) (l0_1 : List (S73)) (A1_0 : Option Addr) (c1_0 : Nat) (l1_0 : List Int) (A1_1 : Option Addr) (c1_1 : Nat) (l1_1 : List (S73)) (r : Bool) (w : World) (hr0_0 : Kd.C (Kd.int .i64) w A0_0 l0_0.length l0_0) (hc0_0 : l0_0.length ≤ c0_0) (hr0_1 : Kd.C k73 w A0_1 l0_1.length l0_1) (hc0_1 : l0_1.length ≤ c0_1) (hr1_0 : Kd.C (Kd.int .i64) w A1_0 l1_0.length l1_0) (hc1_0 : l1_0.length ≤ c1_0) (hr1_1 : Kd.C k73 w A1_1 l1_1.length l1_1) (hc1_1 : l1_1.length ≤ c1_1) (h : laws_eqNetwork.f l0_0 l0_1 l1_0 l1_1 = some r) :
  Calls Try.prog 14 #[.agg #[.slice A0_0 l0_0.length c0_0, .slice A0_1 l0_1.length c0_1], .agg #[.slice A1_0 l1_0.length c1_0, .slice A1_1 l1_1.length c1_1]] w fun e w' => e = .returned (.bool r) ∧ Below w.heap.size w w' := by
 have hu31 := Try.underlying31
 have HR0_0 := Aside0.mk hr0_0
 have HC0_0 := Aside0.mk hc0_0
 clear hr0_0 hc0_0
 have HR0_1 := Aside0.mk hr0_1
 have HC0_1 := Aside0.mk hc0_1
 clear hr0_1 hc0_1
 have HR1_0 := Aside0.mk hr1_0
 have HC1_0 := Aside0.mk hc1_0
 clear hr1_0 hc1_0
 have HR1_1 := Aside0.mk hr1_1
 have HC1_1 := Aside0.mk hc1_1
 clear hr1_1 hc1_1
 have HB := Aside0.mk (Below.refl w.heap.size w)
 unfold laws_eqNetwork.f at h;have H := h;clear h
 replace H := Option.bind_eq_some_iff.mp H
 obtain ⟨t358, A30, H⟩ := H
 have A3 := Aside0.mk A30
 clear A30
 by_cases c4 : t358 = true
 ·subst c4;(rw [if_pos rfl] at H);replace H := Option.bind_eq_some_iff.mp H;obtain ⟨t359, A50, H⟩ := H;have A5 := Aside0.mk A50;clear A50;by_cases c6 : t359 = true
  ·subst c6;(rw [if_pos rfl] at H);obtain rfl := Option.some.inj H;go_enter Try.func14, Try.ntmps14
   go_wp2_with (first | ((with_reducible refine gate_dst (N := 2) rfl ?_); refine box_event ?hg (N := 2) ?hd (cs := #[.slice A0_0 l0_0.length c0_0, .slice A0_1 l0_1.length c0_1]) (t := 31) ?hr ?_; (case hd => rfl); (case hg => rfl); (case hr => first | (go_simp; done) | (go_simp; rfl)); intro gb356 hg w7 hbox hb; have BK356 := Aside0.mk (hbox); have GW356 := Aside0.mk ((z3_ : w.heap.size ≤ gb356)); have GE356 := Aside0.mk ((z3_ : w.heap.size ≤ gb356)); replace HB := Aside0.mk (below_step (z2_) hb); clear hb hbox hg) | ((with_reducible refine gate_dst (N := 3) rfl ?_); refine box_event ?hg (N := 3) ?hd (cs := #[.slice A1_0 l1_0.length c1_0, .slice A1_1 l1_1.length c1_1]) (t := 31) ?hr ?_; (case hd => rfl); (case hg => rfl); (case hr => first | (go_simp; done) | (go_simp; rfl)); intro gb357 hg w8 hbox hb; have BK357 := Aside0.mk (hbox); have GW357 := Aside0.mk ((z68_ : w.heap.size ≤ gb357)); have GE357 := Aside0.mk ((z68_ : w.heap.size ≤ gb357)); replace HB := Aside0.mk (below_step (z57_) hb); have NB356_357 := Aside0.mk ((z107_ : gb356 ≠ gb357)); have NB357_356 := Aside0.mk ((z108_ : gb357 ≠ gb356)); replace BK356 := Aside0.mk (blk_below (g := gb356) (o := .cells #[.slice A0_0 l0_0.length c0_0, .slice A0_1 l0_1.length c0_1] 31 (0, 0)) (z60_) hb); clear hb hbox hg; have hnb9 := NB356_357.out; have hnc9 := NB357_356.out; obtain ⟨hcz10_0,hcz10_1,hfz10_0,hfz10_1⟩ := bz2_ w8 BK356.out; obtain ⟨hcz11_0,hcz11_1,hfz11_0,hfz11_1⟩ := bz2_ w8 BK357.out) | ((with_reducible refine gate_callee (f := 13) rfl ?_); refine goesL_ (some 9) rfl rfl Try.func13 (z14_) rfl #[.slice A0_0 l0_0.length c0_0, .slice A1_0 l1_0.length c1_0] rfl (z1_) ?_; (with_reducible refine (laws_eqInt64S_.calls _ _ l0_0 _ _ l1_0 true _ ?side1 ?side2 ?side3 ?side4 A3.out).mono ?_); (case side1 => exact z223_); (case side2 => exact HC0_0.out); (case side3 => exact z232_); (case side4 => exact HC1_0.out); rintro e w' ⟨rfl, ⟨nd, rfl⟩⟩; refine ⟨_, rfl, ?_⟩) | ((with_reducible refine gate_callee (f := 34) rfl ?_); refine goesL_ (some 15) rfl rfl Try.func34 (z14_) rfl #[.slice A0_1 l0_1.length c0_1, .slice A1_1 l1_1.length c1_1] rfl (z1_) ?_; (with_reducible refine (laws_eqPipeS_.calls _ _ l0_1 _ _ l1_1 true _ ?side1 ?side2 ?side3 ?side4 A5.out).mono ?_); (case side1 => exact z238_); (case side2 => exact HC0_1.out); (case side3 => exact z239_); (case side4 => exact HC1_1.out); rintro e w12 ⟨rfl, hb⟩; refine ⟨_, rfl, ?_⟩; replace BK356 := Aside0.mk (blk_below (g := gb356) (o := .cells #[.slice A0_0 l0_0.length c0_0, .slice A0_1 l0_1.length c0_1] 31 (0, 0)) (z60_) hb); replace BK357 := Aside0.mk (blk_below (g := gb357) (o := .cells #[.slice A1_0 l1_0.length c1_0, .slice A1_1 l1_1.length c1_1] 31 (0, 0)) (by (with_reducible repeat (first | refine bN ?_ _|refine bW ?_|refine bA ?_ _)); exact BK357.out) hb); replace HB := Aside0.mk (below_step (z43_) hb); (try clear hb); (try clear hi)))
   go_ret;exact ⟨z6_, z43_⟩
  ·replace c6 := Bool.eq_false_iff.mpr c6;subst c6;(rw [if_neg (show ¬ (false = true) by decide)] at H);obtain rfl := Option.some.inj H;go_enter Try.func14, Try.ntmps14
   go_wp2_with (first | ((with_reducible refine gate_dst (N := 2) rfl ?_); refine box_event ?hg (N := 2) ?hd (cs := #[.slice A0_0 l0_0.length c0_0, .slice A0_1 l0_1.length c0_1]) (t := 31) ?hr ?_; (case hd => rfl); (case hg => rfl); (case hr => first | (go_simp; done) | (go_simp; rfl)); intro gb356 hg w13 hbox hb; have BK356 := Aside0.mk (hbox); have GW356 := Aside0.mk ((z3_ : w.heap.size ≤ gb356)); have GE356 := Aside0.mk ((z3_ : w.heap.size ≤ gb356)); replace HB := Aside0.mk (below_step (z2_) hb); clear hb hbox hg) | ((with_reducible refine gate_dst (N := 3) rfl ?_); refine box_event ?hg (N := 3) ?hd (cs := #[.slice A1_0 l1_0.length c1_0, .slice A1_1 l1_1.length c1_1]) (t := 31) ?hr ?_; (case hd => rfl); (case hg => rfl); (case hr => first | (go_simp; done) | (go_simp; rfl)); intro gb357 hg w14 hbox hb; have BK357 := Aside0.mk (hbox); have GW357 := Aside0.mk ((z68_ : w.heap.size ≤ gb357)); have GE357 := Aside0.mk ((z68_ : w.heap.size ≤ gb357)); replace HB := Aside0.mk (below_step (z57_) hb); have NB356_357 := Aside0.mk ((z107_ : gb356 ≠ gb357)); have NB357_356 := Aside0.mk ((z108_ : gb357 ≠ gb356)); replace BK356 := Aside0.mk (blk_below (g := gb356) (o := .cells #[.slice A0_0 l0_0.length c0_0, .slice A0_1 l0_1.length c0_1] 31 (0, 0)) (z60_) hb); clear hb hbox hg; have hnb15 := NB356_357.out; have hnc15 := NB357_356.out; obtain ⟨hcz16_0,hcz16_1,hfz16_0,hfz16_1⟩ := bz2_ w14 BK356.out; obtain ⟨hcz17_0,hcz17_1,hfz17_0,hfz17_1⟩ := bz2_ w14 BK357.out) | ((with_reducible refine gate_callee (f := 13) rfl ?_); refine goesL_ (some 9) rfl rfl Try.func13 (z14_) rfl #[.slice A0_0 l0_0.length c0_0, .slice A1_0 l1_0.length c1_0] rfl (z1_) ?_; (with_reducible refine (laws_eqInt64S_.calls _ _ l0_0 _ _ l1_0 true _ ?side1 ?side2 ?side3 ?side4 A3.out).mono ?_); (case side1 => exact z223_); (case side2 => exact HC0_0.out); (case side3 => exact z232_); (case side4 => exact HC1_0.out); rintro e w' ⟨rfl, ⟨nd, rfl⟩⟩; refine ⟨_, rfl, ?_⟩) | ((with_reducible refine gate_callee (f := 34) rfl ?_); refine goesL_ (some 15) rfl rfl Try.func34 (z14_) rfl #[.slice A0_1 l0_1.length c0_1, .slice A1_1 l1_1.length c1_1] rfl (z1_) ?_; (with_reducible refine (laws_eqPipeS_.calls _ _ l0_1 _ _ l1_1 false _ ?side1 ?side2 ?side3 ?side4 A5.out).mono ?_); (case side1 => exact z238_); (case side2 => exact HC0_1.out); (case side3 => exact z239_); (case side4 => exact HC1_1.out); rintro e w18 ⟨rfl, hb⟩; refine ⟨_, rfl, ?_⟩; replace BK356 := Aside0.mk (blk_below (g := gb356) (o := .cells #[.slice A0_0 l0_0.length c0_0, .slice A0_1 l0_1.length c0_1] 31 (0, 0)) (z60_) hb); replace BK357 := Aside0.mk (blk_below (g := gb357) (o := .cells #[.slice A1_0 l1_0.length c1_0, .slice A1_1 l1_1.length c1_1] 31 (0, 0)) (by (with_reducible repeat (first | refine bN ?_ _|refine bW ?_|refine bA ?_ _)); exact BK357.out) hb); replace HB := Aside0.mk (below_step (z43_) hb); (try clear hb); (try clear hi)))
   go_ret;exact ⟨z6_, z43_⟩
 ·replace c4 := Bool.eq_false_iff.mpr c4;subst c4;(rw [if_neg (show ¬ (false = true) by decide)] at H);obtain rfl := Option.some.inj H;go_enter Try.func14, Try.ntmps14
  go_wp2_with (first | ((with_reducible refine gate_dst (N := 2) rfl ?_); refine box_event ?hg (N := 2) ?hd (cs := #[.slice A0_0 l0_0.length c0_0, .slice A0_1 l0_1.length c0_1]) (t := 31) ?hr ?_; (case hd => rfl); (case hg => rfl); (case hr => first | (go_simp; done) | (go_simp; rfl)); intro gb356 hg w19 hbox hb; have BK356 := Aside0.mk (hbox); have GW356 := Aside0.mk ((z3_ : w.heap.size ≤ gb356)); have GE356 := Aside0.mk ((z3_ : w.heap.size ≤ gb356)); replace HB := Aside0.mk (below_step (z2_) hb); clear hb hbox hg) | ((with_reducible refine gate_dst (N := 3) rfl ?_); refine box_event ?hg (N := 3) ?hd (cs := #[.slice A1_0 l1_0.length c1_0, .slice A1_1 l1_1.length c1_1]) (t := 31) ?hr ?_; (case hd => rfl); (case hg => rfl); (case hr => first | (go_simp; done) | (go_simp; rfl)); intro gb357 hg w20 hbox hb; have BK357 := Aside0.mk (hbox); have GW357 := Aside0.mk ((z68_ : w.heap.size ≤ gb357)); have GE357 := Aside0.mk ((z68_ : w.heap.size ≤ gb357)); replace HB := Aside0.mk (below_step (z57_) hb); have NB356_357 := Aside0.mk ((z107_ : gb356 ≠ gb357)); have NB357_356 := Aside0.mk ((z108_ : gb357 ≠ gb356)); replace BK356 := Aside0.mk (blk_below (g := gb356) (o := .cells #[.slice A0_0 l0_0.length c0_0, .slice A0_1 l0_1.length c0_1] 31 (0, 0)) (z60_) hb); clear hb hbox hg; have hnb21 := NB356_357.out; have hnc21 := NB357_356.out; obtain ⟨hcz22_0,hcz22_1,hfz22_0,hfz22_1⟩ := bz2_ w20 BK356.out; obtain ⟨hcz23_0,hcz23_1,hfz23_0,hfz23_1⟩ := bz2_ w20 BK357.out) | ((with_reducible refine gate_callee (f := 13) rfl ?_); refine goesL_ (some 9) rfl rfl Try.func13 (z14_) rfl #[.slice A0_0 l0_0.length c0_0, .slice A1_0 l1_0.length c1_0] rfl (z1_) ?_; (with_reducible refine (laws_eqInt64S_.calls _ _ l0_0 _ _ l1_0 false _ ?side1 ?side2 ?side3 ?side4 A3.out).mono ?_); (case side1 => exact z223_); (case side2 => exact HC0_0.out); (case side3 => exact z232_); (case side4 => exact HC1_0.out); rintro e w' ⟨rfl, ⟨nd, rfl⟩⟩; refine ⟨_, rfl, ?_⟩))
  go_ret;exact ⟨z6_, z43_⟩

end Go.Proofs.Ytnmdcmfhjhgheaa.PFnExactTreeFlows
