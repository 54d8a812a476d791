-- Printed by a program of this session (wip/hprint.sh: the kit's print with hand-proved contracts put in); not by print.sh itself.
import Derived.Test.YtnmdcmfhjhgheaaPFnExactWorstNodex0
import Derived.Test.YtnmdcmfhjhgheaaPFnExactWorstNodex4
namespace Go.Proofs.Ytnmdcmfhjhgheaa.PFnExactWorstNode
open Go.RowKit Go.Proofs.YtnmdcmfhjhgheaaW.PrintWords Go.Proofs.YtnmdcmfhjhgheaaW.PrintLast Go.Proofs.YtnmdcmfhjhgheaaW.PrintMore Go.Proofs.YtnmdcmfhjhgheaaM
attribute [local go_sem] max2_int min2_int max_two min_two max_three min_three max_four min_four   -- for this text's walks alone
set_option linter.unusedVariables false
set_option linter.unusedSimpArgs false

mutual
def X12.l0 : Nat → List Int → List Int → Int → List Int → List (S73) → Option (List Int)
 | 0, _, _, _, _, _ => none
 | k + 1, x3, x4, x5, x1000, x1001 => if x5 < (x1000.length : Int) then (if x4.length < 17592186044416 then (X12.l0 k x3 (x4 ++ [x5]) (wrap64 (x5 + 1)) x1000 x1001) else (none)) else (X12.l1 k x3 x4 0 x1000 x1001)
def X12.l1 : Nat → List Int → List Int → Int → List Int → List (S73) → Option (List Int)
 | 0, _, _, _, _, _ => none
 | k + 1, x3, x4, x6, x1000, x1001 => if x6 < (x1001.length : Int) then (if 0 ≤ x6 then (if 0 ≤ (X1 x1001 x6).f1 then (if (X1 x1001 x6).f1 < (x4.length : Int) then (if 0 ≤ (X1 x1001 x6).f2 then (if (X1 x1001 x6).f2 < (x4.length : Int) then (if (rd x4 (X1 x1001 x6).f1) = (rd x4 (X1 x1001 x6).f2) then (X12.l1 k x3 x4 (wrap64 (x6 + 1)) x1000 x1001) else (if x3.length < 17592186044416 then (X12.l2 k (x3 ++ [x6]) x4 x6 (rd x4 (X1 x1001 x6).f1) (rd x4 (X1 x1001 x6).f2) 0 x1000 x1001) else (none))) else (none)) else (none)) else (none)) else (none)) else (none)) else (some x3)
def X12.l2 : Nat → List Int → List Int → Int → Int → Int → Int → List Int → List (S73) → Option (List Int)
 | 0, _, _, _, _, _, _, _, _ => none
 | k + 1, x3, x4, x6, x7, x8, x9, x1000, x1001 => if x9 < (x4.length : Int) then (if 0 ≤ x9 then (if (rd x4 x9) = x8 then (X12.l2 k x3 (x4.set (x9 : Int).toNat x7) x6 x7 x8 (wrap64 (x9 + 1)) x1000 x1001) else (X12.l2 k x3 x4 x6 x7 x8 (wrap64 (x9 + 1)) x1000 x1001)) else (none)) else (X12.l1 k x3 x4 (wrap64 (x6 + 1)) x1000 x1001)
end
def X12.f (k : Nat) (l0_0 : List Int) (l0_1 : List (S73)) : Option (List Int) := X12.l0 k (([] : List Int)) (([] : List Int)) 0 l0_0 l0_1
theorem X12.mono_l : ∀ k, (∀ y0 y1 y2 y3 y4, LeO (X12.l0 k y0 y1 y2 y3 y4) (X12.l0 (k + 1) y0 y1 y2 y3 y4)) ∧ (∀ y0 y1 y2 y3 y4, LeO (X12.l1 k y0 y1 y2 y3 y4) (X12.l1 (k + 1) y0 y1 y2 y3 y4)) ∧ (∀ y0 y1 y2 y3 y4 y5 y6 y7, LeO (X12.l2 k y0 y1 y2 y3 y4 y5 y6 y7) (X12.l2 (k + 1) y0 y1 y2 y3 y4 y5 y6 y7))
 | 0 => ⟨fun _ _ _ _ _ r h => by simp [X12.l0] at h, fun _ _ _ _ _ r h => by simp [X12.l1] at h, fun _ _ _ _ _ _ _ _ r h => by simp [X12.l2] at h⟩
 | k + 1 => by
  obtain ⟨ih0, ih1, ih2⟩ := X12.mono_l k
  refine ⟨?_, ?_, ?_⟩
  ·intro y0 y1 y2 y3 y4
   unfold X12.l0
   exact z248_
  ·intro y0 y1 y2 y3 y4
   unfold X12.l1
   exact z248_
  ·intro y0 y1 y2 y3 y4 y5 y6 y7
   unfold X12.l2
   exact z248_
theorem X12.mono : ∀ a0 a1 k, LeO (X12.f k a0 a1) (X12.f (k + 1) a0 a1) := by
 intro a0 a1 k
 obtain ⟨ih0, ih1, ih2⟩ := X12.mono_l k
 unfold X12.f
 exact z248_
set_option maxHeartbeats 8000000 in
set_option maxRecDepth 100000 in
theorem X12.calls (k : Nat) (gr0 : Nat) (A0_0 : Option Addr) (c0_0 : Nat) (l0_0 : List Int) (A0_1 : Option Addr) (c0_1 : Nat) (l0_1 : List (S73)) (r : List Int) (w : World) (hb0 : w.heap[gr0]? = some (.cells #[.slice A0_0 l0_0.length c0_0, .slice A0_1 l0_1.length c0_1] 31 (0, 0))) (hr0_0 : Kd.C (Kd.int .i64) w A0_0 l0_0.length l0_0) (hc0_0 : l0_0.length ≤ c0_0) (hr0_1 : Kd.C k73 w A0_1 l0_1.length l0_1) (hc0_1 : l0_1.length ≤ c0_1) (h : X12.f k l0_0 l0_1 = some r) :
  Calls Try.prog 80 #[.pointer (some ⟨gr0, 0, none⟩)] w fun e w' => ∃ v0_ : Value, e = .returned (v0_) ∧ Kd.R (Kd.int .i64) 2 w' w.heap.size (fun _ => True) v0_ r ∧ Below w.heap.size w w' := by
 have HR0_0 := am_ hr0_0
 have HC0_0 := am_ hc0_0
 clear hr0_0 hc0_0
 have HR0_1 := am_ hr0_1
 have HC0_1 := am_ hc0_1
 clear hr0_1 hc0_1
 have BK0 := am_ hb0
 clear hb0
 have HB := am_ (Below.refl w.heap.size w)
 unfold X12.f at h;have H := h;clear h
 obtain ⟨y158, hy158⟩ : ∃ y_ : List Int, y_ = (([] : List Int)) := ⟨_, rfl⟩
 replace H : (X12.l0 k y158 (([] : List Int)) 0 l0_0 l0_1) = some r := by first | (rw [hy158]; with_reducible exact H) | (have H2_ := (Option.bind_some _ _).symm.trans H; rw [hy158]; with_reducible exact H2_) | (have H2_ := (Option.bind_some _ _).symm.trans H; with_reducible exact H2_) | with_reducible exact H | (rw [hy158]; exact H) | exact H
 have Ny158 := am_ hy158
 clear hy158
 obtain ⟨y161, hy161⟩ : ∃ y_ : List Int, y_ = (([] : List Int)) := ⟨_, rfl⟩
 replace H : (X12.l0 k y158 y161 0 l0_0 l0_1) = some r := by first | (rw [hy161]; with_reducible exact H) | (have H2_ := (Option.bind_some _ _).symm.trans H; rw [hy161]; with_reducible exact H2_) | (have H2_ := (Option.bind_some _ _).symm.trans H; with_reducible exact H2_) | with_reducible exact H | (rw [hy161]; exact H) | exact H
 have Ny161 := am_ hy161
 clear hy161
 have H' := am_ H
 clear H
 go_enter Try.func80, Try.ntmps80
 go_wp2_with (first | ((with_reducible refine gate_dst (N := 10) rfl ?_); refine Kd.R_lit (Kd.int .i64) _ 2 ?hg (N := 10) ?hd (xs := ([] : List Int)) (inner := []) (ok := fun _ => True) (okp := fun _ => True) ?hr ?hp (fun _ hk => hk) trivial (Below.refl _ _) (Nat.le_refl _) (by simp) ?_; (case hd => rfl); (case hg => rfl); (case hr => first | (go_simp; done) | (go_simp; rfl)); (case hp => exact (Reps.none _ _)); intro v159 w2 ho3 hb hg_ hnew_; clear hg_ hnew_; (first | rw [← Ny158.out] at ho3 | (simp only [Int.reduceToNat] at ho3; rw [← Ny158.out] at ho3)); have HO160 := am_ (Kd.R_lower ho3 (below_size (z3_))); replace BK0 := am_ (blk_below (g := gr0) (o := .cells #[.slice A0_0 l0_0.length c0_0, .slice A0_1 l0_1.length c0_1] 31 (0, 0)) (z5_) hb); replace HB := am_ (below_step (z3_) hb); clear hb ho3) | ((with_reducible refine gate_dst (N := 11) rfl ?_); refine Kd.R_lit (Kd.int .i64) _ 2 ?hg (N := 11) ?hd (xs := ([] : List Int)) (inner := []) (ok := fun _ => True) (okp := fun _ => True) ?hr ?hp (fun _ hk => hk) trivial (Below.refl _ _) (Nat.le_refl _) (by simp) ?_; (case hd => rfl); (case hg => rfl); (case hr => first | (go_simp; done) | (go_simp; rfl)); (case hp => exact (Reps.none _ _)); intro v162 w4 ho5 hb hg_ hnew_; clear hg_ hnew_; (first | rw [← Ny161.out] at ho5 | (simp only [Int.reduceToNat] at ho5; rw [← Ny161.out] at ho5)); have HO163 := am_ (Kd.R_lower (Kd.R_new' ho5 (Kd.R_lt (by (with_reducible repeat (first | apply rA|apply rN|apply rW)); exact HO160.out))) (below_size (z3_))); replace HO160 := am_ (Kd.R_elder' (by (with_reducible repeat (first | apply rA|apply rN|apply rW)); exact HO160.out) (Kd.R_base ho5) hb); replace BK0 := am_ (blk_below (g := gr0) (o := .cells #[.slice A0_0 l0_0.length c0_0, .slice A0_1 l0_1.length c0_1] 31 (0, 0)) (z5_) hb); replace HB := am_ (below_step (z3_) hb); clear hb ho5))
 go_loopg [4, 5] k (fun kq v4 v5 w' => ∃ (x4_1 : List Int) (x5_1 : Int), v5 = .int .i64 x5_1 ∧ Aside0 (X12.l0 kq y158 x4_1 x5_1 l0_0 l0_1 = some r) ∧ Aside0 (kq ≤ k) ∧ Aside0 (Kd.R (Kd.int .i64) 2 w' w.heap.size (fun k_ => some k_ ≠ (v4 : Value).ownBlock) v159 y158) ∧ Aside0 (Kd.R (Kd.int .i64) 2 w' w.heap.size (fun k_ => some k_ ≠ (v159 : Value).ownBlock) v4 x4_1) ∧ Aside0 (w'.heap[gr0]? = some (.cells #[(.slice A0_0 l0_0.length c0_0), (.slice A0_1 l0_1.length c0_1)] 31 (0, 0))) ∧ Aside0 (Below w.heap.size w w'))
 case atStart => exact ⟨(y161), (0), (z8_), H', ⟨Nat.le_refl _⟩, ⟨by (with_reducible repeat (first | apply rA|apply rN|apply rW)); exact Kd.R_mono HO160.out (fun _ hk => hk.2)⟩, ⟨by (with_reducible repeat (first | apply rA|apply rN|apply rW)); exact Kd.R_mono HO163.out (fun _ hk => hk.2)⟩, ⟨z5_⟩, ⟨z3_⟩⟩
 case round =>
  clear H';obtain ⟨x4_1, x5_1, rfl, HA, HK1, HO_3, HO_4, BK0, HB⟩ := hrel
  cases gk with
  | zero => exact absurd HA.out (by simp [X12.l0])
  | succ k1 =>
   have H := HA.out;clear HA;(simp only [X12.l0] at H);by_cases c6 : x5_1 < (l0_0.length : Int)
   ·(rw [if_pos c6] at H);have c6b0 := decide_eq_true c6;clear c6;obtain ⟨c7,H⟩ := pp_ H;have LMc7 := am_ c7;clear c7;obtain ⟨y164, hy164⟩ : ∃ y_ : List Int, y_ = (x4_1 ++ [x5_1]) := ⟨_, rfl⟩;(replace H : (X12.l0 k1 y158 y164 (wrap64 (x5_1 + 1)) l0_0 l0_1) = some r := by first | (rw [hy164]; with_reducible exact H) | (have H2_ := (Option.bind_some _ _).symm.trans H; rw [hy164]; with_reducible exact H2_) | (have H2_ := (Option.bind_some _ _).symm.trans H; with_reducible exact H2_) | with_reducible exact H | (rw [hy164]; exact H) | exact H);have Ny164 := am_ hy164;clear hy164;have H' := am_ H;clear H;obtain ⟨hcz8_0,hcz8_1,hfz8_0,hfz8_1⟩ := bz2_ wr BK0.out
    go_wp2_with (first | ((with_reducible refine gate_builtin (b := .append) (xs := #[.tmp 21, .tmp 23]) rfl ?_); at_builtin; refine Kd.R_append (Kd.int .i64) (w0 := w) w.heap.size rfl (.tmp 21) (.tmp 23) 22 2 (.int .i64 0) 8 rfl Try.underlying22 info2 rfl (by decide) (by omega) u4 x4_1 x5_1 [.int .i64 x5_1] (fun k_ => some k_ ≠ (v159 : Value).ownBlock) (fun _ => False) rfl rfl ?aP (fun _ hk => hk.elim) ?aF ?aO ?aB ?aS ?aL ?_; (case aP => exact rfl); (case aB => exact (z3_)); (case aF => exact (fun k_ hk => Kd.fresh' (Kd.R_lt (z102_)) k_ hk)); (case aO => exact (z191_)); (case aS => exact (below_size (z3_))); (case aL => have := LMc7.out; omega); intro v165 w9 ho hb hg hat; rw [← Ny164.out] at ho; have n0_ := am_ (Kd.R_after (ok := (fun _ => True)) (z208_) hg hat); have n1_ := am_ (blk_grown (g := gr0) (o := .cells #[.slice A0_0 l0_0.length c0_0, .slice A0_1 l0_1.length c0_1] 31 (0, 0)) (z5_) hg (Kd.R_ne HO_4.out BK0.out (by decide))); have n2_ := am_ (hb); have n3_ := am_ (ho); clear HO_3; clear BK0; clear HB; clear HO_4; have HO_3 := n0_; have BK0 := n1_; have HB := n2_; have HO166 := n3_; clear n0_ n1_ n2_ n3_; clear ho hb hg hat))
    go_roundg k1
    case measure => have := HK1.out; omega
    case rel => exact ⟨(y164), (wrap64 (x5_1 + 1)), (z8_), H', ⟨z111_⟩, ⟨by (with_reducible repeat (first | apply rA|apply rN|apply rW)); exact Kd.R_mono HO_3.out (fun _ hk => hk.2)⟩, ⟨by (with_reducible repeat (first | apply rA|apply rN|apply rW)); exact HO166.out⟩, ⟨z5_⟩, ⟨z3_⟩⟩
   ·(rw [if_neg c6] at H);have c6b0 := decide_eq_false c6;clear c6;have H' := am_ H;clear H;obtain ⟨hcz10_0,hcz10_1,hfz10_0,hfz10_1⟩ := bz2_ wr BK0.out;go_wp2
    go_loopg [3, 6] k1 (fun kq v3 v6 w' => ∃ (x3_2 : List Int) (x4_2 : List Int) (x6_2 : Int), v6 = .int .i64 x6_2 ∧ Aside0 (X12.l1 kq x3_2 x4_2 x6_2 l0_0 l0_1 = some r) ∧ Aside0 (kq ≤ k1) ∧ Aside0 (Kd.R (Kd.int .i64) 2 w' w.heap.size (fun k_ => some k_ ≠ (u4 : Value).ownBlock) v3 x3_2) ∧ Aside0 (Kd.R (Kd.int .i64) 2 w' w.heap.size (fun k_ => some k_ ≠ (v3 : Value).ownBlock) u4 x4_2) ∧ Aside0 (w'.heap[gr0]? = some (.cells #[(.slice A0_0 l0_0.length c0_0), (.slice A0_1 l0_1.length c0_1)] 31 (0, 0))) ∧ Aside0 (Below w.heap.size w w'))
    case atStart => exact ⟨(y158), (x4_1), (0), (z8_), H', ⟨Nat.le_refl _⟩, ⟨z102_⟩, ⟨z191_⟩, ⟨z5_⟩, ⟨z3_⟩⟩
    case round =>
     clear H';(try clear c6);(try clear c6b0);(try clear c7);(try clear hcz10_0);(try clear hcz10_1);(try clear hcz8_0);(try clear hcz8_1);(try clear hfz10_0);(try clear hfz10_1);(try clear hfz8_0);(try clear hfz8_1);obtain ⟨x3_2, x4_2, x6_2, rfl, HA, HK2, HO_3, HO_4, BK0, HB⟩ := hrel
     cases gk with
     | zero => exact absurd HA.out (by simp [X12.l1])
     | succ k2 =>
      have H := HA.out;clear HA;(simp only [X12.l1] at H);by_cases c11 : x6_2 < (l0_1.length : Int)
      ·(rw [if_pos c11] at H);have c11b0 := decide_eq_true c11;clear c11;obtain ⟨c12b0,H⟩ := pd_ H;obtain ⟨c13b0,H⟩ := pd_ H;obtain ⟨c14b0,H⟩ := pd_ H;obtain ⟨c15b0,H⟩ := pd_ H;obtain ⟨c16b0,H⟩ := pd_ H;by_cases c17 : (rd x4_2 (X1 l0_1 x6_2).f1) = (rd x4_2 (X1 l0_1 x6_2).f2)
       ·(rw [if_pos c17] at H);have c17b0 : ((rd x4_2 (X1 l0_1 x6_2).f1) == (rd x4_2 (X1 l0_1 x6_2).f2)) = true := beq_iff_eq.mpr c17;have c17b1 : ((rd x4_2 (X1 l0_1 x6_2).f1) != (rd x4_2 (X1 l0_1 x6_2).f2)) = false := bne_eq_false_iff_eq.mpr c17;clear c17;have H' := am_ H;clear H;obtain ⟨hcz18_0,hcz18_1,hfz18_0,hfz18_1⟩ := bz2_ wr BK0.out;obtain ⟨p167,q167,ad167,e167,hx167_0,hx167_1,hx167_2,hx167_3,hx167_4,hx167_5⟩ := aq_ (X25 (Kd.C_below HR0_1.out HB.out) x6_2) z0_ z0_;cases e167;obtain ⟨Ao19, co19, eo19⟩ := Kd.R_slice HO_4.out;subst eo19;obtain ⟨p168,q168,ad168,e168,hx168_0⟩ := aq_ (Kd.at_int (Kd.R_reads' HO_4.out).2.2 (X1 l0_1 x6_2).f1) z0_ z0_;cases e168;have p169 : 0 ≤ (x6_2 : Int) := of_decide_eq_true (z0_);have q169 : x6_2 < (l0_1.length : Int) := of_decide_eq_true (z0_);obtain ⟨ad169, e169, hx169_0, hx169_1, hx169_2, hx169_3, hx169_4, hx169_5⟩ := X25 HR0_1.out x6_2 p169 q169;obtain rfl : ad167 = ad169 := (by injection e169);replace hx169_0 := hc_ HB hx169_0;replace hx169_1 := hc_ HB hx169_1;replace hx169_2 := hc_ HB hx169_2;replace hx169_3 := hc_ HB hx169_3;replace hx169_4 := hc_ HB hx169_4;replace hx169_5 := hc_ HB hx169_5;replace p169 := eq_true p169;replace q169 := eq_true q169;obtain ⟨p170,q170,ad170,e170,hx170_0⟩ := aq_ (Kd.at_int (Kd.R_reads' HO_4.out).2.2 (X1 l0_1 x6_2).f2) z0_ z0_;obtain rfl : ad168 = ad170 := (by injection e170);go_wp2
        go_roundg k2
        case measure => have := HK1.out; have := HK2.out; omega
        case rel => exact ⟨(x3_2), (x4_2), (wrap64 (x6_2 + 1)), (z8_), H', ⟨z157_⟩, ⟨z102_⟩, ⟨z191_⟩, ⟨z5_⟩, ⟨z3_⟩⟩
       ·(rw [if_neg c17] at H);have c17b0 : ((rd x4_2 (X1 l0_1 x6_2).f1) == (rd x4_2 (X1 l0_1 x6_2).f2)) = false := beq_eq_false_iff_ne.mpr c17;have c17b1 : ((rd x4_2 (X1 l0_1 x6_2).f1) != (rd x4_2 (X1 l0_1 x6_2).f2)) = true := bne_iff_ne.mpr c17;obtain ⟨c20,H⟩ := pp_ H;have LMc20 := am_ c20;clear c20;obtain ⟨y171, hy171⟩ : ∃ y_ : List Int, y_ = (x3_2 ++ [x6_2]) := ⟨_, rfl⟩;(replace H : (X12.l2 k2 y171 x4_2 x6_2 (rd x4_2 (X1 l0_1 x6_2).f1) (rd x4_2 (X1 l0_1 x6_2).f2) 0 l0_0 l0_1) = some r := by first | (rw [hy171]; with_reducible exact H) | (have H2_ := (Option.bind_some _ _).symm.trans H; rw [hy171]; with_reducible exact H2_) | (have H2_ := (Option.bind_some _ _).symm.trans H; with_reducible exact H2_) | with_reducible exact H | (rw [hy171]; exact H) | exact H);have Ny171 := am_ hy171;clear hy171;have H' := am_ H;clear H;obtain ⟨hcz21_0,hcz21_1,hfz21_0,hfz21_1⟩ := bz2_ wr BK0.out;obtain ⟨p167,q167,ad167,e167,hx167_0,hx167_1,hx167_2,hx167_3,hx167_4,hx167_5⟩ := aq_ (X25 (Kd.C_below HR0_1.out HB.out) x6_2) z0_ z0_;cases e167;obtain ⟨Ao22, co22, eo22⟩ := Kd.R_slice HO_4.out;subst eo22;obtain ⟨p168,q168,ad168,e168,hx168_0⟩ := aq_ (Kd.at_int (Kd.R_reads' HO_4.out).2.2 (X1 l0_1 x6_2).f1) z0_ z0_;cases e168;have p169 : 0 ≤ (x6_2 : Int) := of_decide_eq_true (z0_);have q169 : x6_2 < (l0_1.length : Int) := of_decide_eq_true (z0_);obtain ⟨ad169, e169, hx169_0, hx169_1, hx169_2, hx169_3, hx169_4, hx169_5⟩ := X25 HR0_1.out x6_2 p169 q169;obtain rfl : ad167 = ad169 := (by injection e169);replace hx169_0 := hc_ HB hx169_0;replace hx169_1 := hc_ HB hx169_1;replace hx169_2 := hc_ HB hx169_2;replace hx169_3 := hc_ HB hx169_3;replace hx169_4 := hc_ HB hx169_4;replace hx169_5 := hc_ HB hx169_5;replace p169 := eq_true p169;replace q169 := eq_true q169;obtain ⟨p170,q170,ad170,e170,hx170_0⟩ := aq_ (Kd.at_int (Kd.R_reads' HO_4.out).2.2 (X1 l0_1 x6_2).f2) z0_ z0_;obtain rfl : ad168 = ad170 := (by injection e170)
        go_wp2_with (first | ((with_reducible refine gate_builtin (b := .append) (xs := #[.tmp 59, .tmp 61]) rfl ?_); at_builtin; refine Kd.R_append (Kd.int .i64) (w0 := w) w.heap.size rfl (.tmp 59) (.tmp 61) 22 2 (.int .i64 0) 8 rfl Try.underlying22 info2 rfl (by decide) (by omega) u3 x3_2 x6_2 [.int .i64 x6_2] (fun k_ => some k_ ≠ (.slice (some ad168) x4_2.length co22 : Value).ownBlock) (fun _ => False) rfl rfl ?aP (fun _ hk => hk.elim) ?aF ?aO ?aB ?aS ?aL ?_; (case aP => exact rfl); (case aB => exact (z3_)); (case aF => exact (fun k_ hk => Kd.fresh' (Kd.R_lt (z191_)) k_ hk)); (case aO => exact (z102_)); (case aS => exact (below_size (z3_))); (case aL => have := LMc20.out; omega); intro v172 w23 ho hb hg hat; rw [← Ny171.out] at ho; have n0_ := am_ (Kd.R_after (ok := (fun _ => True)) (by (with_reducible repeat (first | apply rA|apply rN|apply rW)); exact Kd.R_mono HO_4.out (fun _ hk => ⟨trivial, hk⟩)) hg hat); have n1_ := am_ (blk_grown (g := gr0) (o := .cells #[.slice A0_0 l0_0.length c0_0, .slice (some ad167) l0_1.length c0_1] 31 (0, 0)) (z5_) hg (Kd.R_ne HO_3.out BK0.out (by decide))); have n2_ := am_ (hb); have n3_ := am_ (ho); clear HO_4; clear BK0; clear HB; clear HO_3; have HO_4 := n0_; have BK0 := n1_; have HB := n2_; have HO173 := n3_; clear n0_ n1_ n2_ n3_; clear ho hb hg hat))
        (try (generalize Value.pointer (some (Addr.add ad168 ((X1 l0_1 x6_2).f2 : Int).toNat)) = vz168_0));(try (generalize Value.pointer (some (Addr.add ad168 ((X1 l0_1 x6_2).f1 : Int).toNat)) = vz168_1))
        go_loopg [9] k2 (fun kq v9 w' => ∃ (x4_3 : List Int) (x9_3 : Int), v9 = .int .i64 x9_3 ∧ Aside0 (X12.l2 kq y171 x4_3 x6_2 (rd x4_2 (X1 l0_1 x6_2).f1) (rd x4_2 (X1 l0_1 x6_2).f2) x9_3 l0_0 l0_1 = some r) ∧ Aside0 (kq ≤ k2) ∧ Aside0 (Kd.R (Kd.int .i64) 2 w' w.heap.size (fun k_ => some k_ ≠ ((.slice (some ad168) x4_2.length co22) : Value).ownBlock) v172 y171) ∧ Aside0 (Kd.R (Kd.int .i64) 2 w' w.heap.size (fun k_ => some k_ ≠ (v172 : Value).ownBlock) (.slice (some ad168) x4_2.length co22) x4_3) ∧ Aside0 (w'.heap[gr0]? = some (.cells #[(.slice A0_0 l0_0.length c0_0), (.slice (some ad167) l0_1.length c0_1)] 31 (0, 0))) ∧ Aside0 (Below w.heap.size w w'))
        case atStart => exact ⟨(x4_2), (0), (z8_), H', ⟨Nat.le_refl _⟩, ⟨by (with_reducible repeat (first | apply rA|apply rN|apply rW)); exact HO173.out⟩, ⟨by (with_reducible repeat (first | apply rA|apply rN|apply rW)); exact Kd.R_mono HO_4.out (fun _ hk => hk.2)⟩, ⟨z5_⟩, ⟨z3_⟩⟩
        case round =>
         clear H';(try clear c6);(try clear c6b0);(try clear c7);(try clear c11);(try clear c11b0);(try clear c12b0);(try clear c13b0);(try clear c14b0);(try clear c15b0);(try clear c16b0);(try clear c17);(try clear c17b0);(try clear c17b1);(try clear c20);(try clear hcz10_0);(try clear hcz10_1);(try clear hcz18_0);(try clear hcz18_1);(try clear hcz21_0);(try clear hcz21_1);(try clear hcz8_0);(try clear hcz8_1);(try clear hfz10_0);(try clear hfz10_1);(try clear hfz18_0);(try clear hfz18_1);(try clear hfz21_0);(try clear hfz21_1);(try clear hfz8_0);(try clear hfz8_1);(try clear hx167_0);(try clear hx167_1);(try clear hx167_2);(try clear hx167_3);(try clear hx167_4);(try clear hx167_5);(try clear hx168_0);(try clear hx169_0);(try clear hx169_1);(try clear hx169_2);(try clear hx169_3);(try clear hx169_4);(try clear hx169_5);(try clear hx170_0);(try clear p167);(try clear p168);(try clear p169);(try clear p170);(try clear q167);(try clear q168);(try clear q169);(try clear q170);obtain ⟨x4_3, x9_3, rfl, HA, HK3, HO_3, HO_4, BK0, HB⟩ := hrel;have hl4_3 := (Kd.R_reads' HO_4.out).1;(rw [hl4_3] at HO_4);(try simp only [hl4_3]);(try simp only [hl4_3] at BK0);(try simp only [hl4_3] at HO_3)
         cases gk with
         | zero => exact absurd HA.out (by simp [X12.l2])
         | succ k3 =>
          have H := HA.out;clear HA;(simp only [X12.l2] at H);by_cases c24 : x9_3 < (x4_3.length : Int)
          ·(rw [if_pos c24] at H);have c24b0 := decide_eq_true c24;(try simp only [hl4_3] at c24b0);clear c24;obtain ⟨c25b0,H⟩ := pd_ H;by_cases c26 : (rd x4_3 x9_3) = (rd x4_2 (X1 l0_1 x6_2).f2)
           ·(rw [if_pos c26] at H);have c26b0 : ((rd x4_3 x9_3) == (rd x4_2 (X1 l0_1 x6_2).f2)) = true := beq_iff_eq.mpr c26;have c26b1 : ((rd x4_3 x9_3) != (rd x4_2 (X1 l0_1 x6_2).f2)) = false := bne_eq_false_iff_eq.mpr c26;clear c26;obtain ⟨y175, hy175⟩ : ∃ y_ : List Int, y_ = (x4_3.set (x9_3 : Int).toNat (rd x4_2 (X1 l0_1 x6_2).f1)) := ⟨_, rfl⟩;(replace H : (X12.l2 k3 y171 y175 x6_2 (rd x4_2 (X1 l0_1 x6_2).f1) (rd x4_2 (X1 l0_1 x6_2).f2) (wrap64 (x9_3 + 1)) l0_0 l0_1) = some r := by first | (rw [hy175]; with_reducible exact H) | (have H2_ := (Option.bind_some _ _).symm.trans H; rw [hy175]; with_reducible exact H2_) | (have H2_ := (Option.bind_some _ _).symm.trans H; with_reducible exact H2_) | with_reducible exact H | (rw [hy175]; exact H) | exact H);have Ny175 := am_ hy175;clear hy175;have H' := am_ H;clear H;obtain ⟨p174,q174,ad174,e174,hx174_0⟩ := aq_ (Kd.at_int (Kd.R_reads' HO_4.out).2.2 x9_3) z0_ z0_;obtain rfl : ad168 = ad174 := (by injection e174);have p27 : 0 ≤ (x9_3 : Int) := of_decide_eq_true (z0_);have q27 : (x9_3 : Int) < ((x4_3.length : Int) : Int) := of_decide_eq_true (z0_);obtain ⟨go27, co27, eo27, gb27, gl27, cl27, HG27⟩ := Kd.R_form HO_4.out (by omega);(first | cases eo27 | (injection eo27 with ea_ en_ ec_; (first | subst ea_ | (injection ea_ with ea_; subst ea_)); subst ec_; clear en_));have GB27 := am_ gb27;have GG27 := am_ HG27;clear gb27 gl27 HG27;(first | simp only [add_plain] at hx168_0 | skip);(first | simp only [add_plain] at hx170_0 | skip);(first | simp only [add_plain] at hx174_0 | skip);obtain ⟨hx27_0, hf27_0⟩ := Kd.R_celln 0 HO_4.out (x9_3 : Int) p27 q27;replace p27 := eq_true p27;replace q27 := eq_true q27;have HP28 := Kd.R_putg HO_4.out (x9_3 : Int) (rd x4_2 (X1 l0_1 x6_2).f1)
            go_wp2_with (first | ((with_reducible refine gate_store (t := 2) (p := 78) rfl ?_); refine store_event (t := 2) (p := 78) (v := ?vo_w29) (w1 := (wr.setCell ⟨go27, (x9_3 : Int).toNat, none⟩ (.int .i64 (rd x4_2 (X1 l0_1 x6_2).f1)))) ?hg ?ho ?hn ?hr ?_; (case ho => rfl); (case hg => rfl); (case hn => rfl); (case hr => first | (go_simp; done) | (go_simp; rfl)); intro w29 hw; have hg : wr.grownBy w29 (some go27) := (by rw [hw]; exact HP28.2); have hp_ : Kd.R (Kd.int .i64) 2 w29 w.heap.size (fun k_ => some k_ ≠ (v172 : Value).ownBlock) (.slice (some ⟨go27, 0, none⟩) x4_3.length co22) y175 := (by rw [hw, Ny175.out]; first | exact HP28.1 | exact Kd.R_mono HP28.1 (fun _ hk => ⟨hk.2.1, hk.2.2, hk.1⟩)); clear HP28; replace HO_3 := am_ (Kd.R_after (v := (.slice (some ⟨go27, 0, none⟩) x4_3.length co22)) (v1 := (.slice (some ⟨go27, 0, none⟩) x4_3.length co22)) (ok := (fun _ => True)) (z208_) hg (.inl rfl)); replace BK0 := am_ (blk_grown (g := gr0) (o := .cells #[.slice A0_0 l0_0.length c0_0, .slice (some ad167) l0_1.length c0_1] 31 (0, 0)) (z5_) hg (Kd.R_ne HO_4.out BK0.out (by decide))); replace HO_4 := am_ (hp_); replace HB := am_ ((by rw [hw]; exact below_set (HB.out) GB27.out : Below w.heap.size w w29)); clear hg hw hp_))
            (try simp only [← hl4_3])
            go_roundg k3
            case measure => have := HK1.out; have := HK2.out; have := HK3.out; omega
            case rel => exact ⟨(y175), (wrap64 (x9_3 + 1)), (z8_), H', ⟨z215_⟩, ⟨by (try simp only [hl4_3]); (with_reducible repeat (first | apply rA|apply rN|apply rW)); exact Kd.R_mono HO_3.out (fun _ hk => hk.2)⟩, ⟨z196_⟩, ⟨z175_⟩, ⟨z3_⟩⟩
           ·(rw [if_neg c26] at H);have c26b0 : ((rd x4_3 x9_3) == (rd x4_2 (X1 l0_1 x6_2).f2)) = false := beq_eq_false_iff_ne.mpr c26;have c26b1 : ((rd x4_3 x9_3) != (rd x4_2 (X1 l0_1 x6_2).f2)) = true := bne_iff_ne.mpr c26;have H' := am_ H;clear H;obtain ⟨p174,q174,ad174,e174,hx174_0⟩ := aq_ (Kd.at_int (Kd.R_reads' HO_4.out).2.2 x9_3) z0_ z0_;obtain rfl : ad168 = ad174 := (by injection e174);go_wp2;(try simp only [← hl4_3])
            go_roundg k3
            case measure => have := HK1.out; have := HK2.out; have := HK3.out; omega
            case rel => exact ⟨(x4_3), (wrap64 (x9_3 + 1)), (z8_), H', ⟨z215_⟩, ⟨by (try simp only [hl4_3]); (with_reducible repeat (first | apply rA|apply rN|apply rW)); exact HO_3.out⟩, ⟨z196_⟩, ⟨z175_⟩, ⟨z3_⟩⟩
          ·(rw [if_neg c24] at H);have c24b0 := decide_eq_false c24;(try simp only [hl4_3] at c24b0);clear c24;have H' := am_ H;clear H;go_wp2;(try simp only [← hl4_3])
           go_roundg k3
           case measure => have := HK1.out; have := HK2.out; have := HK3.out; omega
           case rel => exact ⟨(y171), (x4_3), (wrap64 (x6_2 + 1)), (z8_), H', ⟨z215_⟩, ⟨by (try simp only [hl4_3]); (with_reducible repeat (first | apply rA|apply rN|apply rW)); exact HO_3.out⟩, ⟨z196_⟩, ⟨z175_⟩, ⟨z3_⟩⟩
      ·(rw [if_neg c11] at H);have c11b0 := decide_eq_false c11;clear c11;obtain rfl := Option.some.inj H;obtain ⟨hcz30_0,hcz30_1,hfz30_0,hfz30_1⟩ := bz2_ wr BK0.out;go_wp2;go_ret;exact ⟨_, z6_, by (with_reducible repeat (first | apply rA|apply rN|apply rW)); exact Kd.R_mono HO_3.out (fun _ hk => trivial), z3_⟩

def X28.f (k : Nat) (l0_0 : List Int) (l0_1 : List (S73)) : Option (Bool) := if (l0_1.length : Int) = (wrap64 ((l0_0.length : Int) - 1)) then ((X12.f k l0_0 l0_1).bind fun t176 => (some ((t176.length : Int) == (l0_1.length : Int)))) else (some false)
theorem X28.mono : ∀ a0 a1 k, LeO (X28.f k a0 a1) (X28.f (k + 1) a0 a1) := by
 intro a0 a1 k
 unfold X28.f
 repeat' first|(with_reducible first|exact X12.mono _ _ _|exact LeO.refl _|exact LeO.none _|refine LeO.ite ?_ ?_|refine LeO.bind ?_ (fun _ => ?_))|exact X12.mono _ _ _|exact LeO.none _|refine LeO.ite ?_ ?_|refine LeO.bind ?_ (fun _ => ?_)
def X28.T1 : Bool × List (List Nat × List Nat) := (true, [([], []), ([0], [0]), ([1], [1]), ([2], [2]), ([3], [3]), ([], []), ([5], [5]), ([6], [6]), ([7], [7]), ([8], [8]), ([9], [9]), ([4, 10], [4, 10]), ([11], [11]), ([12], [12]), ([13, 12, 12], [12, 13]), ([14, 12], [12, 14]), ([12], [12]), ([16, 12], [12, 16]), ([17, 12], [12, 17]), ([18, 12], [12, 18]), ([19, 12], [12, 19]), ([15, 20, 12], [12, 15, 20]), ([12, 21], [12, 21]), ([22, 14, 0, 1, 2, 3, 4, 5, 6, 7, 8, 9, 10, 11, 12, 13, 14, 15, 16, 17, 18, 19, 20, 21, 22], [22])])
def X28.B1 : List Nat := [0, 1, 3, 7, 15, 0, 32, 96, 224, 480, 992, 2047, 4095, 8191, 16383, 32767, 8191, 73727, 204799, 466943, 991231, 2097151, 4194303, 8388607]
theorem X28.tab1 : rtab .any (opsOf Try.f50 1) = X28.T1 := by kernel_rfl
theorem X28.bits1 : waitsOk X28.T1.2 X28.B1 = true := by kernel_rfl
set_option maxHeartbeats 8000000 in
set_option maxRecDepth 100000 in
theorem X28.calls (k : Nat) (gr0 : Nat) (A0_0 : Option Addr) (c0_0 : Nat) (l0_0 : List Int) (A0_1 : Option Addr) (c0_1 : Nat) (l0_1 : List (S73)) (r : Bool) (w : World) (hb0 : w.heap[gr0]? = some (.cells #[.slice A0_0 l0_0.length c0_0, .slice A0_1 l0_1.length c0_1] 31 (0, 0))) (hr0_0 : Kd.C (Kd.int .i64) w A0_0 l0_0.length l0_0) (hc0_0 : l0_0.length ≤ c0_0) (hr0_1 : Kd.C k73 w A0_1 l0_1.length l0_1) (hc0_1 : l0_1.length ≤ c0_1) (h : X28.f k l0_0 l0_1 = some r) :
  Calls Try.prog 50 #[.pointer (some ⟨gr0, 0, none⟩)] w fun e w' => e = .returned (.bool r) ∧ Below w.heap.size w w' := by
 have HR0_0 := am_ hr0_0
 have HC0_0 := am_ hc0_0
 clear hr0_0 hc0_0
 have HR0_1 := am_ hr0_1
 have HC0_1 := am_ hc0_1
 clear hr0_1 hc0_1
 have BK0 := am_ hb0
 clear hb0
 have HB := am_ (Below.refl w.heap.size w)
 unfold X28.f at h;have H := h;clear h
 by_cases c2 : (l0_1.length : Int) = (wrap64 ((l0_0.length : Int) - 1))
 ·(rw [if_pos c2] at H);have c2b0 : ((l0_1.length : Int) == (wrap64 ((l0_0.length : Int) - 1))) = true := beq_iff_eq.mpr c2;have c2b1 : ((l0_1.length : Int) != (wrap64 ((l0_0.length : Int) - 1))) = false := bne_eq_false_iff_eq.mpr c2;clear c2;obtain ⟨t176, A30, H⟩ := ob_ H;have A3 := am_ A30;clear A30;obtain rfl := Option.some.inj H;go_enter Try.func50, Try.ntmps50;(try go_wp2);replace BK0 := am_ (blk_drew BK0.out);replace HB := am_ (below_drew1 HB.out);refine start_ (n := 24) (S := fun w' => w'.cell? ⟨gr0, 0, none⟩ = some (.slice A0_0 l0_0.length c0_0) ∧ w'.cell? ⟨gr0, 1, none⟩ = some (.slice A0_1 l0_1.length c0_1)) (ds := []) #[J,J,J,J,J,J,J,J,J,J,J,J,J,J,J,J,J,J,J,J,J,J,J,J] (z13_) rfl rfl ⟨bt_ BK0 0, bt_ BK0 1⟩ (fun hHeld => ?_); refine with_tabW X28.tab1 X28.bits1 (fun HT_ HW_ => ?_);(generalize w.drew = w4 at BK0 HB hHeld ⊢);refine pz_ 0 3 #[Y,J,J,J,J,J,J,J,J,J,J,J,J,J,J,J,J,J,J,J,J,J,J,J] HT_ ?_;refine pz_ 1 4 #[Y,Y,J,J,J,J,J,J,J,J,J,J,J,J,J,J,J,J,J,J,J,J,J,J] HT_ ?_;refine pz_ 2 5 #[Y,Y,Y,J,J,J,J,J,J,J,J,J,J,J,J,J,J,J,J,J,J,J,J,J] HT_ ?_;refine pz_ 5 8 #[Y,Y,Y,J,J,Y,J,J,J,J,J,J,J,J,J,J,J,J,J,J,J,J,J,J] HT_ ?_;refine pz_ 6 9 #[Y,Y,Y,J,J,Y,Y,J,J,J,J,J,J,J,J,J,J,J,J,J,J,J,J,J] HT_ ?_;refine pz_ 7 10 #[Y,Y,Y,J,J,Y,Y,Y,J,J,J,J,J,J,J,J,J,J,J,J,J,J,J,J] HT_ ?_;refine take_ (i := 3) (N := some 6) (v := ?_) (a' := ?_) #[Y,Y,Y,Y,J,Y,Y,Y,J,J,J,J,J,J,J,J,J,J,J,J,J,J,J,J] rfl rfl (take_ofW HT_.out HW_.out (z13_)) (fun _ _ _ h => h) (Or.inl ⟨by rfl, ?_⟩) hHeld ?_ ?_; rotate_left
  ·rintro w' ⟨s0, s1⟩; go_simp; with_reducible rfl
  rotate_left
  ·simp only [pU,pN,sB,sZ,sS,i64_w,i32_w]; rfl
  refine pz_ 4 7 #[Y,Y,Y,Y,Y,Y,Y,Y,J,J,J,J,J,J,J,J,J,J,J,J,J,J,J,J] HT_ ?_;refine take_ (i := 8) (N := some 11) (v := ?_) (a' := ?_) #[Y,Y,Y,Y,Y,Y,Y,Y,Y,J,J,J,J,J,J,J,J,J,J,J,J,J,J,J] rfl rfl (take_ofW HT_.out HW_.out (z13_)) (fun _ _ _ h => h) (Or.inl ⟨by rfl, ?_⟩) hHeld ?_ ?_; rotate_left
  ·rintro w' ⟨s0, s1⟩; go_simp; with_reducible rfl
  rotate_left
  ·simp only [pU,pN,sB,sZ,sS,i64_w,i32_w]; rfl
  refine pz_ 9 12 #[Y,Y,Y,Y,Y,Y,Y,Y,Y,Y,J,J,J,J,J,J,J,J,J,J,J,J,J,J] HT_ ?_;refine pz_ 10 13 #[Y,Y,Y,Y,Y,Y,Y,Y,Y,Y,Y,J,J,J,J,J,J,J,J,J,J,J,J,J] HT_ ?_;refine pz_ 11 14 #[Y,Y,Y,Y,Y,Y,Y,Y,Y,Y,Y,Y,J,J,J,J,J,J,J,J,J,J,J,J] HT_ ?_;refine pz_ 12 15 #[Y,Y,Y,Y,Y,Y,Y,Y,Y,Y,Y,Y,Y,J,J,J,J,J,J,J,J,J,J,J] HT_ ?_;refine pz_ 13 16 #[Y,Y,Y,Y,Y,Y,Y,Y,Y,Y,Y,Y,Y,Y,J,J,J,J,J,J,J,J,J,J] HT_ ?_;refine pz_ 16 19 #[Y,Y,Y,Y,Y,Y,Y,Y,Y,Y,Y,Y,Y,Y,J,J,Y,J,J,J,J,J,J,J] HT_ ?_;refine pz_ 17 20 #[Y,Y,Y,Y,Y,Y,Y,Y,Y,Y,Y,Y,Y,Y,J,J,Y,Y,J,J,J,J,J,J] HT_ ?_;refine pz_ 18 21 #[Y,Y,Y,Y,Y,Y,Y,Y,Y,Y,Y,Y,Y,Y,J,J,Y,Y,Y,J,J,J,J,J] HT_ ?_;refine take_ (i := 19) (N := some 22) (v := ?_) (a' := ?_) #[Y,Y,Y,Y,Y,Y,Y,Y,Y,Y,Y,Y,Y,Y,J,J,Y,Y,Y,Y,J,J,J,J] rfl rfl (take_ofW HT_.out HW_.out (z13_)) (fun _ _ _ h => h) (Or.inl ⟨by rfl, ?_⟩) hHeld ?_ ?_; rotate_left
  ·rintro w' ⟨s0, s1⟩; go_simp; with_reducible rfl
  rotate_left
  ·simp only [pU,pN,sB,sZ,sS,i64_w,i32_w]; rfl
  refine pz_ 20 23 #[Y,Y,Y,Y,Y,Y,Y,Y,Y,Y,Y,Y,Y,Y,J,J,Y,Y,Y,Y,Y,J,J,J] HT_ ?_;refine one_ (i := 14) (N := some 17) #[Y,Y,Y,Y,Y,Y,Y,Y,Y,Y,Y,Y,Y,Y,Y,J,Y,Y,Y,Y,Y,J,J,J] rfl rfl (one_of HT_.out (z13_)) (by decide) (fun K hK => ?_);refine goes_ Try.func80 (z13_) rfl #[.pointer (some ⟨gr0, 0, none⟩)] (by rfl) rfl rfl (z1_) ?_;(with_reducible refine (X12.calls k gr0 A0_0 c0_0 l0_0 A0_1 c0_1 l0_1 t176 _ ?side1 ?side2 ?side3 ?side4 ?side5 A3.out).mono ?_)
  (case side1 => exact (z5_))
  (case side2 => exact z217_)
  (case side3 => exact HC0_0.out)
  (case side4 => exact z219_)
  (case side5 => exact HC0_1.out)
  rintro e w5 ⟨v177, rfl, ho0, hb⟩;refine ⟨_, rfl, ?_⟩;have HO178 := am_ (Kd.R_lower ho0 (below_size (z3_)));replace BK0 := am_ (blk_below (g := gr0) (o := .cells #[.slice A0_0 l0_0.length c0_0, .slice A0_1 l0_1.length c0_1] 31 (0, 0)) (z5_) hb);replace HB := am_ (below_step (z3_) hb);(try clear hb);(try clear ho0);obtain ⟨Ao6, co6, eo6⟩ := Kd.R_slice HO178.out;(first | subst eo6 | (injection eo6 with f1_ f2_ f3_; have f4_ := f1_.symm; have f5_ := f3_.symm; clear f1_ f2_ f3_; subst f4_; subst f5_));refine hK.out _ _ ⟨bt_ BK0 0, bt_ BK0 1⟩ (fun hHeld => ?_);clear hK K;refine norm_ (a' := ?_) ?_ ?_
  rotate_left
  ·show Act.put _ (some 17) _ = _
   simp only [pU,pN,sB,sZ,sS,i64_w,i32_w]
   rfl
  refine pz_ 15 18 #[Y,Y,Y,Y,Y,Y,Y,Y,Y,Y,Y,Y,Y,Y,Y,Y,Y,Y,Y,Y,Y,J,J,J] HT_ ?_;refine pz_ 21 24 #[Y,Y,Y,Y,Y,Y,Y,Y,Y,Y,Y,Y,Y,Y,Y,Y,Y,Y,Y,Y,Y,Y,J,J] HT_ ?_;refine pz_ 22 25 #[Y,Y,Y,Y,Y,Y,Y,Y,Y,Y,Y,Y,Y,Y,Y,Y,Y,Y,Y,Y,Y,Y,Y,J] HT_ ?_;refine pz_ 23 2 #[Y,Y,Y,Y,Y,Y,Y,Y,Y,Y,Y,Y,Y,Y,Y,Y,Y,Y,Y,Y,Y,Y,Y,Y] HT_ ?_;refine done_ (done_of HT_.out (z13_)) ?_;(try go_wp2);go_ret;exact ⟨z6_, z3_⟩
 ·(rw [if_neg c2] at H);have c2b0 : ((l0_1.length : Int) == (wrap64 ((l0_0.length : Int) - 1))) = false := beq_eq_false_iff_ne.mpr c2;have c2b1 : ((l0_1.length : Int) != (wrap64 ((l0_0.length : Int) - 1))) = true := bne_iff_ne.mpr c2;obtain rfl := Option.some.inj H;go_enter Try.func50, Try.ntmps50;(try go_wp2);replace BK0 := am_ (blk_drew BK0.out);replace HB := am_ (below_drew1 HB.out);refine start_ (n := 24) (S := fun w' => w'.cell? ⟨gr0, 0, none⟩ = some (.slice A0_0 l0_0.length c0_0) ∧ w'.cell? ⟨gr0, 1, none⟩ = some (.slice A0_1 l0_1.length c0_1)) (ds := []) #[J,J,J,J,J,J,J,J,J,J,J,J,J,J,J,J,J,J,J,J,J,J,J,J] (z13_) rfl rfl ⟨bt_ BK0 0, bt_ BK0 1⟩ (fun hHeld => ?_); refine with_tabW X28.tab1 X28.bits1 (fun HT_ HW_ => ?_);(generalize w.drew = w7 at BK0 HB hHeld ⊢);refine pz_ 0 3 #[Y,J,J,J,J,J,J,J,J,J,J,J,J,J,J,J,J,J,J,J,J,J,J,J] HT_ ?_;refine pz_ 1 4 #[Y,Y,J,J,J,J,J,J,J,J,J,J,J,J,J,J,J,J,J,J,J,J,J,J] HT_ ?_;refine pz_ 2 5 #[Y,Y,Y,J,J,J,J,J,J,J,J,J,J,J,J,J,J,J,J,J,J,J,J,J] HT_ ?_;refine pz_ 5 8 #[Y,Y,Y,J,J,Y,J,J,J,J,J,J,J,J,J,J,J,J,J,J,J,J,J,J] HT_ ?_;refine pz_ 6 9 #[Y,Y,Y,J,J,Y,Y,J,J,J,J,J,J,J,J,J,J,J,J,J,J,J,J,J] HT_ ?_;refine pz_ 7 10 #[Y,Y,Y,J,J,Y,Y,Y,J,J,J,J,J,J,J,J,J,J,J,J,J,J,J,J] HT_ ?_;refine take_ (i := 3) (N := some 6) (v := ?_) (a' := ?_) #[Y,Y,Y,Y,J,Y,Y,Y,J,J,J,J,J,J,J,J,J,J,J,J,J,J,J,J] rfl rfl (take_ofW HT_.out HW_.out (z13_)) (fun _ _ _ h => h) (Or.inl ⟨by rfl, ?_⟩) hHeld ?_ ?_; rotate_left
  ·rintro w' ⟨s0, s1⟩; go_simp; with_reducible rfl
  rotate_left
  ·simp only [pU,pN,sB,sZ,sS,i64_w,i32_w]; rfl
  refine pz_ 4 7 #[Y,Y,Y,Y,Y,Y,Y,Y,J,J,J,J,J,J,J,J,J,J,J,J,J,J,J,J] HT_ ?_;refine take_ (i := 8) (N := some 11) (v := ?_) (a' := ?_) #[Y,Y,Y,Y,Y,Y,Y,Y,Y,J,J,J,J,J,J,J,J,J,J,J,J,J,J,J] rfl rfl (take_ofW HT_.out HW_.out (z13_)) (fun _ _ _ h => h) (Or.inl ⟨by rfl, ?_⟩) hHeld ?_ ?_; rotate_left
  ·rintro w' ⟨s0, s1⟩; go_simp; with_reducible rfl
  rotate_left
  ·simp only [pU,pN,sB,sZ,sS,i64_w,i32_w]; rfl
  refine pz_ 9 12 #[Y,Y,Y,Y,Y,Y,Y,Y,Y,Y,J,J,J,J,J,J,J,J,J,J,J,J,J,J] HT_ ?_;refine pz_ 10 13 #[Y,Y,Y,Y,Y,Y,Y,Y,Y,Y,Y,J,J,J,J,J,J,J,J,J,J,J,J,J] HT_ ?_;refine pz_ 11 14 #[Y,Y,Y,Y,Y,Y,Y,Y,Y,Y,Y,Y,J,J,J,J,J,J,J,J,J,J,J,J] HT_ ?_;refine pz_ 12 15 #[Y,Y,Y,Y,Y,Y,Y,Y,Y,Y,Y,Y,Y,J,J,J,J,J,J,J,J,J,J,J] HT_ ?_;refine pu_ 13 16 #[Y,Y,Y,Y,Y,Y,Y,Y,Y,Y,Y,Y,Y,Y,J,J,J,J,J,J,J,J,J,J] HT_ ?_;refine pu_ 14 17 #[Y,Y,Y,Y,Y,Y,Y,Y,Y,Y,Y,Y,Y,Y,Y,J,J,J,J,J,J,J,J,J] HT_ ?_;refine pu_ 15 18 #[Y,Y,Y,Y,Y,Y,Y,Y,Y,Y,Y,Y,Y,Y,Y,Y,J,J,J,J,J,J,J,J] HT_ ?_;refine pu_ 16 19 #[Y,Y,Y,Y,Y,Y,Y,Y,Y,Y,Y,Y,Y,Y,Y,Y,Y,J,J,J,J,J,J,J] HT_ ?_;refine pu_ 17 20 #[Y,Y,Y,Y,Y,Y,Y,Y,Y,Y,Y,Y,Y,Y,Y,Y,Y,Y,J,J,J,J,J,J] HT_ ?_;refine pu_ 18 21 #[Y,Y,Y,Y,Y,Y,Y,Y,Y,Y,Y,Y,Y,Y,Y,Y,Y,Y,Y,J,J,J,J,J] HT_ ?_;refine pu_ 19 22 #[Y,Y,Y,Y,Y,Y,Y,Y,Y,Y,Y,Y,Y,Y,Y,Y,Y,Y,Y,Y,J,J,J,J] HT_ ?_;refine pu_ 20 23 #[Y,Y,Y,Y,Y,Y,Y,Y,Y,Y,Y,Y,Y,Y,Y,Y,Y,Y,Y,Y,Y,J,J,J] HT_ ?_;refine pu_ 21 24 #[Y,Y,Y,Y,Y,Y,Y,Y,Y,Y,Y,Y,Y,Y,Y,Y,Y,Y,Y,Y,Y,Y,J,J] HT_ ?_;refine pz_ 22 25 #[Y,Y,Y,Y,Y,Y,Y,Y,Y,Y,Y,Y,Y,Y,Y,Y,Y,Y,Y,Y,Y,Y,Y,J] HT_ ?_;refine pz_ 23 2 #[Y,Y,Y,Y,Y,Y,Y,Y,Y,Y,Y,Y,Y,Y,Y,Y,Y,Y,Y,Y,Y,Y,Y,Y] HT_ ?_;refine done_ (done_of HT_.out (z13_)) ?_;(try go_wp2);go_ret;exact ⟨z6_, z3_⟩

def X42.f (k : Nat) (l0_0 : List Int) (l0_1 : List (S73)) (a1 : Int) (l2 : List Int) : Option (Int) := (X34.f l0_0 l0_1 a1).bind fun t179 => (if t179 = 0 then ((X23.f k l0_0 l0_1 l2).bind fun t180 => (if t180 = true then ((X28.f k l0_0 l0_1).bind fun t181 => (if t181 = true then (some 0) else (some 6))) else (some 7))) else (some t179))
theorem X42.mono : ∀ a0 a1 a2 a3 k, LeO (X42.f k a0 a1 a2 a3) (X42.f (k + 1) a0 a1 a2 a3) := by
 intro a0 a1 a2 a3 k
 unfold X42.f
 repeat' first|(with_reducible first|exact X28.mono _ _ _|exact X23.mono _ _ _ _|exact LeO.refl _|exact LeO.none _|refine LeO.ite ?_ ?_|refine LeO.bind ?_ (fun _ => ?_))|exact X28.mono _ _ _|exact X23.mono _ _ _ _|exact LeO.none _|refine LeO.ite ?_ ?_|refine LeO.bind ?_ (fun _ => ?_)
set_option maxHeartbeats 8000000 in
set_option maxRecDepth 100000 in
theorem X42.calls (k : Nat) (gr0 : Nat) (A0_0 : Option Addr) (c0_0 : Nat) (l0_0 : List Int) (A0_1 : Option Addr) (c0_1 : Nat) (l0_1 : List (S73)) (a1 : Int) (A2 : Option Addr) (c2 : Nat) (l2 : List Int) (r : Int) (w : World) (hb0 : w.heap[gr0]? = some (.cells #[.slice A0_0 l0_0.length c0_0, .slice A0_1 l0_1.length c0_1] 31 (0, 0))) (hr0_0 : Kd.C (Kd.int .i64) w A0_0 l0_0.length l0_0) (hc0_0 : l0_0.length ≤ c0_0) (hr0_1 : Kd.C k73 w A0_1 l0_1.length l0_1) (hc0_1 : l0_1.length ≤ c0_1) (hr2 : Kd.C (Kd.int .i64) w A2 l2.length l2) (hc2 : l2.length ≤ c2) (h : X42.f k l0_0 l0_1 a1 l2 = some r) :
  Calls Try.prog 28 #[.pointer (some ⟨gr0, 0, none⟩), .int .i64 a1, .slice A2 l2.length c2] w fun e w' => e = .returned (.int .i64 r) ∧ Below w.heap.size w w' := by
 have HR0_0 := am_ hr0_0
 have HC0_0 := am_ hc0_0
 clear hr0_0 hc0_0
 have HR0_1 := am_ hr0_1
 have HC0_1 := am_ hc0_1
 clear hr0_1 hc0_1
 have HR2 := am_ hr2
 have HC2 := am_ hc2
 clear hr2 hc2
 have BK0 := am_ hb0
 clear hb0
 have HB := am_ (Below.refl w.heap.size w)
 unfold X42.f at h;have H := h;clear h
 obtain ⟨t179, A40, H⟩ := ob_ H
 have A4 := am_ A40
 clear A40
 by_cases c5 : t179 = 0
 ·(rw [if_pos c5] at H);have c5b0 : (t179 == 0) = true := beq_iff_eq.mpr c5;have c5b1 : (t179 != 0) = false := bne_eq_false_iff_eq.mpr c5;clear c5;obtain ⟨t180, A60, H⟩ := ob_ H;have A6 := am_ A60;clear A60;by_cases c7 : t180 = true
  ·subst c7;(rw [if_pos rfl] at H);obtain ⟨t181, A80, H⟩ := ob_ H;have A8 := am_ A80;clear A80;by_cases c9 : t181 = true
   ·subst c9;(rw [if_pos rfl] at H);obtain rfl := Option.some.inj H;go_enter Try.func28, Try.ntmps28
    go_wp2_with (first | ((with_reducible refine gate_callee (f := 43) rfl ?_); refine goesL_ (some 10) rfl rfl Try.func43 (z13_) rfl #[.pointer (some ⟨gr0, 0, none⟩), .int .i64 a1] rfl (z1_) ?_; (with_reducible refine (X34.calls gr0 A0_0 c0_0 l0_0 A0_1 c0_1 l0_1 a1 t179 _ ?side1 ?side2 ?side3 ?side4 ?side5 A4.out).mono ?_); (case side1 => exact (z5_)); (case side2 => exact z220_); (case side3 => exact HC0_0.out); (case side4 => exact z221_); (case side5 => exact HC0_1.out); rintro e w' ⟨rfl, ⟨nd, rfl⟩⟩; refine ⟨_, rfl, ?_⟩) | ((with_reducible refine gate_callee (f := 49) rfl ?_); refine goesL_ (some 16) rfl rfl Try.func49 (z13_) rfl #[.pointer (some ⟨gr0, 0, none⟩), .slice A2 l2.length c2] rfl (z1_) ?_; (with_reducible refine (X23.calls k gr0 A0_0 c0_0 l0_0 A0_1 c0_1 l0_1 _ _ l2 true _ ?side1 ?side2 ?side3 ?side4 ?side5 ?side6 ?side7 A6.out).mono ?_); (case side1 => exact (z5_)); (case side2 => exact z220_); (case side3 => exact HC0_0.out); (case side4 => exact z221_); (case side5 => exact HC0_1.out); (case side6 => exact z225_); (case side7 => exact HC2.out); rintro e w' ⟨rfl, ⟨nd, rfl⟩⟩; refine ⟨_, rfl, ?_⟩) | ((with_reducible refine gate_callee (f := 50) rfl ?_); refine goesL_ (some 19) rfl rfl Try.func50 (z13_) rfl #[.pointer (some ⟨gr0, 0, none⟩)] rfl (z1_) ?_; (with_reducible refine (X28.calls k gr0 A0_0 c0_0 l0_0 A0_1 c0_1 l0_1 true _ ?side1 ?side2 ?side3 ?side4 ?side5 A8.out).mono ?_); (case side1 => exact (z5_)); (case side2 => exact z220_); (case side3 => exact HC0_0.out); (case side4 => exact z221_); (case side5 => exact HC0_1.out); rintro e w10 ⟨rfl, hb⟩; refine ⟨_, rfl, ?_⟩; replace BK0 := am_ (blk_below (g := gr0) (o := .cells #[.slice A0_0 l0_0.length c0_0, .slice A0_1 l0_1.length c0_1] 31 (0, 0)) (z5_) hb); replace HB := am_ (below_step (z3_) hb); (try clear hb); (try clear hi)))
    go_ret;exact ⟨z6_, z3_⟩
   ·replace c9 := Bool.eq_false_iff.mpr c9;subst c9;(rw [if_neg (show ¬ (false = true) by decide)] at H);obtain rfl := Option.some.inj H;go_enter Try.func28, Try.ntmps28
    go_wp2_with (first | ((with_reducible refine gate_callee (f := 43) rfl ?_); refine goesL_ (some 10) rfl rfl Try.func43 (z13_) rfl #[.pointer (some ⟨gr0, 0, none⟩), .int .i64 a1] rfl (z1_) ?_; (with_reducible refine (X34.calls gr0 A0_0 c0_0 l0_0 A0_1 c0_1 l0_1 a1 t179 _ ?side1 ?side2 ?side3 ?side4 ?side5 A4.out).mono ?_); (case side1 => exact (z5_)); (case side2 => exact z220_); (case side3 => exact HC0_0.out); (case side4 => exact z221_); (case side5 => exact HC0_1.out); rintro e w' ⟨rfl, ⟨nd, rfl⟩⟩; refine ⟨_, rfl, ?_⟩) | ((with_reducible refine gate_callee (f := 49) rfl ?_); refine goesL_ (some 16) rfl rfl Try.func49 (z13_) rfl #[.pointer (some ⟨gr0, 0, none⟩), .slice A2 l2.length c2] rfl (z1_) ?_; (with_reducible refine (X23.calls k gr0 A0_0 c0_0 l0_0 A0_1 c0_1 l0_1 _ _ l2 true _ ?side1 ?side2 ?side3 ?side4 ?side5 ?side6 ?side7 A6.out).mono ?_); (case side1 => exact (z5_)); (case side2 => exact z220_); (case side3 => exact HC0_0.out); (case side4 => exact z221_); (case side5 => exact HC0_1.out); (case side6 => exact z225_); (case side7 => exact HC2.out); rintro e w' ⟨rfl, ⟨nd, rfl⟩⟩; refine ⟨_, rfl, ?_⟩) | ((with_reducible refine gate_callee (f := 50) rfl ?_); refine goesL_ (some 19) rfl rfl Try.func50 (z13_) rfl #[.pointer (some ⟨gr0, 0, none⟩)] rfl (z1_) ?_; (with_reducible refine (X28.calls k gr0 A0_0 c0_0 l0_0 A0_1 c0_1 l0_1 false _ ?side1 ?side2 ?side3 ?side4 ?side5 A8.out).mono ?_); (case side1 => exact (z5_)); (case side2 => exact z220_); (case side3 => exact HC0_0.out); (case side4 => exact z221_); (case side5 => exact HC0_1.out); rintro e w11 ⟨rfl, hb⟩; refine ⟨_, rfl, ?_⟩; replace BK0 := am_ (blk_below (g := gr0) (o := .cells #[.slice A0_0 l0_0.length c0_0, .slice A0_1 l0_1.length c0_1] 31 (0, 0)) (z5_) hb); replace HB := am_ (below_step (z3_) hb); (try clear hb); (try clear hi)))
    go_ret;exact ⟨z6_, z3_⟩
  ·replace c7 := Bool.eq_false_iff.mpr c7;subst c7;(rw [if_neg (show ¬ (false = true) by decide)] at H);obtain rfl := Option.some.inj H;go_enter Try.func28, Try.ntmps28
   go_wp2_with (first | ((with_reducible refine gate_callee (f := 43) rfl ?_); refine goesL_ (some 10) rfl rfl Try.func43 (z13_) rfl #[.pointer (some ⟨gr0, 0, none⟩), .int .i64 a1] rfl (z1_) ?_; (with_reducible refine (X34.calls gr0 A0_0 c0_0 l0_0 A0_1 c0_1 l0_1 a1 t179 _ ?side1 ?side2 ?side3 ?side4 ?side5 A4.out).mono ?_); (case side1 => exact (z5_)); (case side2 => exact z220_); (case side3 => exact HC0_0.out); (case side4 => exact z221_); (case side5 => exact HC0_1.out); rintro e w' ⟨rfl, ⟨nd, rfl⟩⟩; refine ⟨_, rfl, ?_⟩) | ((with_reducible refine gate_callee (f := 49) rfl ?_); refine goesL_ (some 16) rfl rfl Try.func49 (z13_) rfl #[.pointer (some ⟨gr0, 0, none⟩), .slice A2 l2.length c2] rfl (z1_) ?_; (with_reducible refine (X23.calls k gr0 A0_0 c0_0 l0_0 A0_1 c0_1 l0_1 _ _ l2 false _ ?side1 ?side2 ?side3 ?side4 ?side5 ?side6 ?side7 A6.out).mono ?_); (case side1 => exact (z5_)); (case side2 => exact z220_); (case side3 => exact HC0_0.out); (case side4 => exact z221_); (case side5 => exact HC0_1.out); (case side6 => exact z225_); (case side7 => exact HC2.out); rintro e w' ⟨rfl, ⟨nd, rfl⟩⟩; refine ⟨_, rfl, ?_⟩))
   go_ret;exact ⟨z6_, z3_⟩
 ·(rw [if_neg c5] at H);have c5b0 : (t179 == 0) = false := beq_eq_false_iff_ne.mpr c5;have c5b1 : (t179 != 0) = true := bne_iff_ne.mpr c5;obtain rfl := Option.some.inj H;go_enter Try.func28, Try.ntmps28
  go_wp2_with (first | ((with_reducible refine gate_callee (f := 43) rfl ?_); refine goesL_ (some 10) rfl rfl Try.func43 (z13_) rfl #[.pointer (some ⟨gr0, 0, none⟩), .int .i64 a1] rfl (z1_) ?_; (with_reducible refine (X34.calls gr0 A0_0 c0_0 l0_0 A0_1 c0_1 l0_1 a1 t179 _ ?side1 ?side2 ?side3 ?side4 ?side5 A4.out).mono ?_); (case side1 => exact (z5_)); (case side2 => exact z220_); (case side3 => exact HC0_0.out); (case side4 => exact z221_); (case side5 => exact HC0_1.out); rintro e w' ⟨rfl, ⟨nd, rfl⟩⟩; refine ⟨_, rfl, ?_⟩))
  go_ret;exact ⟨z6_, z3_⟩

end Go.Proofs.Ytnmdcmfhjhgheaa.PFnExactWorstNode
