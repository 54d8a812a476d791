-- Printed by a program of this session (wip/hprint.sh: the kit's print with hand-proved contracts put in); not by print.sh itself.
import Derived.Test.YtcgbagdpedpdpaaPFnExactIsTreex0
import Derived.Test.YtcgbagdpedpdpaaPFnExactIsTreex4
namespace Go.Proofs.Ytcgbagdpedpdpaa.PFnExactIsTree
open Go.RowKit Go.Proofs.YtcgbagdpedpdpaaW.PrintWords Go.Proofs.YtcgbagdpedpdpaaW.PrintLast Go.Proofs.YtcgbagdpedpdpaaW.PrintMore Go.Proofs.YtcgbagdpedpdpaaM
attribute [local go_sem] max2_int min2_int max_two min_two max_three min_three max_four min_four   -- for this text's walks alone
set_option linter.unusedVariables false
set_option linter.unusedSimpArgs false

/-! ### spec_l04Tree: function 58 -/
mutual
def spec_l04Tree.l0 : Nat → List Int → List Int → Int → List Int → List (S60) → Option (List Int)
 | 0, _, _, _, _, _ => none
 | k + 1, x3, x4, x5, x1000, x1001 => if x5 < (x1000.length : Int) then (if x4.length < 17592186044416 then (spec_l04Tree.l0 k x3 (x4 ++ [x5]) (wrap64 (x5 + 1)) x1000 x1001) else (none)) else (spec_l04Tree.l1 k x3 x4 0 x1000 x1001)
def spec_l04Tree.l1 : Nat → List Int → List Int → Int → List Int → List (S60) → Option (List Int)
 | 0, _, _, _, _, _ => none
 | k + 1, x3, x4, x6, x1000, x1001 => if x6 < (x1001.length : Int) then (if 0 ≤ x6 then (if 0 ≤ ((rd_T60 x1001 x6).f1) then (if ((rd_T60 x1001 x6).f1) < (x4.length : Int) then (if 0 ≤ ((rd_T60 x1001 x6).f2) then (if ((rd_T60 x1001 x6).f2) < (x4.length : Int) then (if (rd x4 ((rd_T60 x1001 x6).f1)) = (rd x4 ((rd_T60 x1001 x6).f2)) then (spec_l04Tree.l1 k x3 x4 (wrap64 (x6 + 1)) x1000 x1001) else (if x3.length < 17592186044416 then (spec_l04Tree.l2 k (x3 ++ [x6]) x4 x6 (rd x4 ((rd_T60 x1001 x6).f1)) (rd x4 ((rd_T60 x1001 x6).f2)) 0 x1000 x1001) else (none))) else (none)) else (none)) else (none)) else (none)) else (none)) else (some x3)
def spec_l04Tree.l2 : Nat → List Int → List Int → Int → Int → Int → Int → List Int → List (S60) → Option (List Int)
 | 0, _, _, _, _, _, _, _, _ => none
 | k + 1, x3, x4, x6, x7, x8, x9, x1000, x1001 => if x9 < (x4.length : Int) then (if 0 ≤ x9 then (if (rd x4 x9) = x8 then (spec_l04Tree.l2 k x3 (x4.set (x9 : Int).toNat x7) x6 x7 x8 (wrap64 (x9 + 1)) x1000 x1001) else (spec_l04Tree.l2 k x3 x4 x6 x7 x8 (wrap64 (x9 + 1)) x1000 x1001)) else (none)) else (spec_l04Tree.l1 k x3 x4 (wrap64 (x6 + 1)) x1000 x1001)
end
def spec_l04Tree.f (k : Nat) (l0_0 : List Int) (l0_1 : List (S60)) : Option (List Int) := spec_l04Tree.l0 k (([] : List Int)) (([] : List Int)) 0 l0_0 l0_1
theorem spec_l04Tree.mono_l : ∀ k, (∀ y0 y1 y2 y3 y4, LeO (spec_l04Tree.l0 k y0 y1 y2 y3 y4) (spec_l04Tree.l0 (k + 1) y0 y1 y2 y3 y4)) ∧ (∀ y0 y1 y2 y3 y4, LeO (spec_l04Tree.l1 k y0 y1 y2 y3 y4) (spec_l04Tree.l1 (k + 1) y0 y1 y2 y3 y4)) ∧ (∀ y0 y1 y2 y3 y4 y5 y6 y7, LeO (spec_l04Tree.l2 k y0 y1 y2 y3 y4 y5 y6 y7) (spec_l04Tree.l2 (k + 1) y0 y1 y2 y3 y4 y5 y6 y7))
 | 0 => ⟨fun _ _ _ _ _ r h => by simp [spec_l04Tree.l0] at h, fun _ _ _ _ _ r h => by simp [spec_l04Tree.l1] at h, fun _ _ _ _ _ _ _ _ r h => by simp [spec_l04Tree.l2] at h⟩
 | k + 1 => by
  obtain ⟨ih0, ih1, ih2⟩ := spec_l04Tree.mono_l k
  refine ⟨?_, ?_, ?_⟩
  ·intro y0 y1 y2 y3 y4
   unfold spec_l04Tree.l0
   repeat' first
   | (with_reducible exact ih0 _ _ _ _ _)
   | (with_reducible exact ih1 _ _ _ _ _)
   | (with_reducible exact ih2 _ _ _ _ _ _ _ _)
   | (with_reducible exact LeO.refl _)
   | (with_reducible exact LeO.none _)
   | (with_reducible refine LeO.ite ?_ ?_)
   | (with_reducible refine LeO.bind ?_ (fun _ => ?_))
   | exact ih0 _ _ _ _ _
   | exact ih1 _ _ _ _ _
   | exact ih2 _ _ _ _ _ _ _ _
   | exact LeO.none _
   | refine LeO.ite ?_ ?_
   | refine LeO.bind ?_ (fun _ => ?_)
  ·intro y0 y1 y2 y3 y4
   unfold spec_l04Tree.l1
   repeat' first
   | (with_reducible exact ih0 _ _ _ _ _)
   | (with_reducible exact ih1 _ _ _ _ _)
   | (with_reducible exact ih2 _ _ _ _ _ _ _ _)
   | (with_reducible exact LeO.refl _)
   | (with_reducible exact LeO.none _)
   | (with_reducible refine LeO.ite ?_ ?_)
   | (with_reducible refine LeO.bind ?_ (fun _ => ?_))
   | exact ih0 _ _ _ _ _
   | exact ih1 _ _ _ _ _
   | exact ih2 _ _ _ _ _ _ _ _
   | exact LeO.none _
   | refine LeO.ite ?_ ?_
   | refine LeO.bind ?_ (fun _ => ?_)
  ·intro y0 y1 y2 y3 y4 y5 y6 y7
   unfold spec_l04Tree.l2
   repeat' first
   | (with_reducible exact ih0 _ _ _ _ _)
   | (with_reducible exact ih1 _ _ _ _ _)
   | (with_reducible exact ih2 _ _ _ _ _ _ _ _)
   | (with_reducible exact LeO.refl _)
   | (with_reducible exact LeO.none _)
   | (with_reducible refine LeO.ite ?_ ?_)
   | (with_reducible refine LeO.bind ?_ (fun _ => ?_))
   | exact ih0 _ _ _ _ _
   | exact ih1 _ _ _ _ _
   | exact ih2 _ _ _ _ _ _ _ _
   | exact LeO.none _
   | refine LeO.ite ?_ ?_
   | refine LeO.bind ?_ (fun _ => ?_)
theorem spec_l04Tree.mono : ∀ a0 a1 k, LeO (spec_l04Tree.f k a0 a1) (spec_l04Tree.f (k + 1) a0 a1) := by
 intro a0 a1 k
 obtain ⟨ih0, ih1, ih2⟩ := spec_l04Tree.mono_l k
 unfold spec_l04Tree.f
 repeat' first
   | (with_reducible exact ih0 _ _ _ _ _)
   | (with_reducible exact ih1 _ _ _ _ _)
   | (with_reducible exact ih2 _ _ _ _ _ _ _ _)
   | (with_reducible exact LeO.refl _)
   | (with_reducible exact LeO.none _)
   | (with_reducible refine LeO.ite ?_ ?_)
   | (with_reducible refine LeO.bind ?_ (fun _ => ?_))
   | exact ih0 _ _ _ _ _
   | exact ih1 _ _ _ _ _
   | exact ih2 _ _ _ _ _ _ _ _
   | exact LeO.none _
   | refine LeO.ite ?_ ?_
   | refine LeO.bind ?_ (fun _ => ?_)
set_option maxHeartbeats 8000000 in
set_option maxRecDepth 100000 in
theorem spec_l04Tree.calls (k : Nat) (gr0 : Nat) (A0_0 : Option Addr) (c0_0 : Nat) (l0_0 : List Int) (A0_1 : Option Addr) (c0_1 : Nat) (l0_1 : List (S60)) (r : List Int) (w : World) (hb0 : w.heap[gr0]? = some (.cells #[.slice A0_0 l0_0.length c0_0, .slice A0_1 l0_1.length c0_1] 31 (0, 0))) (hr0_0 : Kd.C (Kd.int .i64) w A0_0 l0_0.length l0_0) (hc0_0 : l0_0.length ≤ c0_0) (hr0_1 : Kd.C k60 w A0_1 l0_1.length l0_1) (hc0_1 : l0_1.length ≤ c0_1) (h : spec_l04Tree.f k l0_0 l0_1 = some r) :
  Calls Try.prog 58 #[.pointer (some ⟨gr0, 0, none⟩)] w fun e w' => ∃ v0_ : Value, e = .returned (v0_) ∧ Kd.R (Kd.int .i64) 2 w' w.heap.size (fun _ => True) v0_ r ∧ Below w.heap.size w w' := by
 have HR0_0 := Aside0.mk hr0_0
 have HC0_0 := Aside0.mk hc0_0
 clear hr0_0 hc0_0
 have HR0_1 := Aside0.mk hr0_1
 have HC0_1 := Aside0.mk hc0_1
 clear hr0_1 hc0_1
 have BK0 := Aside0.mk hb0
 clear hb0
 have HB := Aside0.mk (Below.refl w.heap.size w)
 have H : (spec_l04Tree.l0 k (([] : List Int)) (([] : List Int)) 0 l0_0 l0_1) = some r := h
 clear h
 obtain ⟨y153, hy153⟩ : ∃ y_ : List Int, y_ = (([] : List Int)) := ⟨_, rfl⟩
 replace H : (spec_l04Tree.l0 k y153 (([] : List Int)) 0 l0_0 l0_1) = some r := by first | (rw [hy153]; with_reducible exact H) | (have H2_ := (Option.bind_some _ _).symm.trans H; rw [hy153]; with_reducible exact H2_) | (have H2_ := (Option.bind_some _ _).symm.trans H; with_reducible exact H2_) | with_reducible exact H | (rw [hy153]; exact H) | exact H
 have Ny153 := Aside0.mk hy153
 clear hy153
 obtain ⟨y156, hy156⟩ : ∃ y_ : List Int, y_ = (([] : List Int)) := ⟨_, rfl⟩
 replace H : (spec_l04Tree.l0 k y153 y156 0 l0_0 l0_1) = some r := by first | (rw [hy156]; with_reducible exact H) | (have H2_ := (Option.bind_some _ _).symm.trans H; rw [hy156]; with_reducible exact H2_) | (have H2_ := (Option.bind_some _ _).symm.trans H; with_reducible exact H2_) | with_reducible exact H | (rw [hy156]; exact H) | exact H
 have Ny156 := Aside0.mk hy156
 clear hy156
 have H' := Aside0.mk H
 clear H
 go_enter Try.func58, Try.ntmps58
 go_wp2_with (first | ((with_reducible refine gate_dst (N := 10) rfl ?_); refine Kd.R_lit (Kd.int .i64) _ 2 ?hg (N := 10) ?hd (xs := ([] : List Int)) (inner := []) (ok := fun _ => True) (okp := fun _ => True) ?hr ?hp (fun _ hk => hk) trivial (Below.refl _ _) (Nat.le_refl _) (by simp) ?_; (case hd => rfl); (case hg => rfl); (case hr => first | (go_simp; done) | (go_simp; rfl)); (case hp => exact (Reps.none _ _)); intro v154 w2 ho3 hb hg_ hnew_; clear hg_ hnew_; (first | rw [← Ny153.out] at ho3 | (simp only [Int.reduceToNat] at ho3; rw [← Ny153.out] at ho3)); have n0_ := Aside0.mk (Kd.R_lower ho3 (below_size (by repeat (first | (with_reducible first | exact HB.out|apply wA|apply wN|apply wD |refine wS ?_ GE0.out) | exact HB.out)))); have n1_ := Aside0.mk (blk_below (g := gr0) (o := .cells #[.slice A0_0 l0_0.length c0_0, .slice A0_1 l0_1.length c0_1] 31 (0, 0)) (by (with_reducible repeat (first | refine bN ?_ _|refine bW ?_|refine bA ?_ _)); exact BK0.out) hb); have n2_ := Aside0.mk (below_step (by repeat (first | (with_reducible first | exact HB.out|apply wA|apply wN|apply wD |refine wS ?_ GE0.out) | exact HB.out)) hb); clear BK0; clear HB; have HO155 := n0_; have BK0 := n1_; have HB := n2_; clear n0_ n1_ n2_; clear hb ho3) | ((with_reducible refine gate_dst (N := 11) rfl ?_); refine Kd.R_lit (Kd.int .i64) _ 2 ?hg (N := 11) ?hd (xs := ([] : List Int)) (inner := []) (ok := fun _ => True) (okp := fun _ => True) ?hr ?hp (fun _ hk => hk) trivial (Below.refl _ _) (Nat.le_refl _) (by simp) ?_; (case hd => rfl); (case hg => rfl); (case hr => first | (go_simp; done) | (go_simp; rfl)); (case hp => exact (Reps.none _ _)); intro v157 w4 ho5 hb hg_ hnew_; clear hg_ hnew_; (first | rw [← Ny156.out] at ho5 | (simp only [Int.reduceToNat] at ho5; rw [← Ny156.out] at ho5)); have n0_ := Aside0.mk (Kd.R_elder' (by (with_reducible repeat (first | apply rA|apply rN|apply rW)); exact HO155.out) (Kd.R_base ho5) hb); have n1_ := Aside0.mk (Kd.R_lower (Kd.R_new' ho5 (Kd.R_lt (by (with_reducible repeat (first | apply rA|apply rN|apply rW)); exact HO155.out))) (below_size (by repeat (first | (with_reducible first | exact HB.out|apply wA|apply wN|apply wD |refine wS ?_ GE0.out) | exact HB.out)))); have n2_ := Aside0.mk (blk_below (g := gr0) (o := .cells #[.slice A0_0 l0_0.length c0_0, .slice A0_1 l0_1.length c0_1] 31 (0, 0)) (by (with_reducible repeat (first | refine bN ?_ _|refine bW ?_|refine bA ?_ _)); exact BK0.out) hb); have n3_ := Aside0.mk (below_step (by repeat (first | (with_reducible first | exact HB.out|apply wA|apply wN|apply wD |refine wS ?_ GE0.out) | exact HB.out)) hb); clear HO155; clear BK0; clear HB; have HO155 := n0_; have HO158 := n1_; have BK0 := n2_; have HB := n3_; clear n0_ n1_ n2_ n3_; clear hb ho5))
 go_loopg [4, 5] k (fun kq v4 v5 w' => ∃ (x4_1 : List Int) (x5_1 : Int), v5 = .int .i64 x5_1 ∧ Aside0 (spec_l04Tree.l0 kq y153 x4_1 x5_1 l0_0 l0_1 = some r) ∧ Aside0 (kq ≤ k) ∧ Aside0 (Kd.R (Kd.int .i64) 2 w' w.heap.size (fun k_ => some k_ ≠ (v4 : Value).ownBlock) v154 y153) ∧ Aside0 (Kd.R (Kd.int .i64) 2 w' w.heap.size (fun k_ => some k_ ≠ (v154 : Value).ownBlock) v4 x4_1) ∧ Aside0 (w'.heap[gr0]? = some (.cells #[(.slice A0_0 l0_0.length c0_0), (.slice A0_1 l0_1.length c0_1)] 31 (0, 0))) ∧ Aside0 (Below w.heap.size w w'))
 case atStart => exact ⟨(y156), (0), (by first | rfl | (simp; done) | (simp [*]; done)), H', ⟨Nat.le_refl _⟩, ⟨by (with_reducible repeat (first | apply rA|apply rN|apply rW)); exact Kd.R_mono HO155.out (fun _ hk => hk.2)⟩, ⟨by (with_reducible repeat (first | apply rA|apply rN|apply rW)); exact Kd.R_mono HO158.out (fun _ hk => hk.2)⟩, ⟨by (with_reducible repeat (first | refine bN ?_ _|refine bW ?_|refine bA ?_ _)); exact BK0.out⟩, ⟨by repeat (first | (with_reducible first | exact HB.out|apply wA|apply wN|apply wD |refine wS ?_ GE0.out) | exact HB.out)⟩⟩
 case round =>
  clear H'
  try clear p2
  try clear c5
  obtain ⟨x4_1, x5_1, rfl, HA, HK1, HO_3, HO_4, BK0, HB⟩ := hrel
  cases gk with
  | zero => exact absurd HA.out (by simp [spec_l04Tree.l0])
  | succ k1 =>
   have H := HA.out
   clear HA
   simp only [spec_l04Tree.l0] at H
   by_cases c6 : x5_1 < (l0_0.length : Int)
   ·rw [if_pos c6] at H
    have c6b0 : decide (x5_1 < (l0_0.length : Int)) = true := decide_eq_true c6
    clear c6
    by_cases c7 : x4_1.length < 17592186044416
    ·rw [if_pos c7] at H
     have LMc7 := Aside0.mk c7
     clear c7
     obtain ⟨y159, hy159⟩ : ∃ y_ : List Int, y_ = (x4_1 ++ [x5_1]) := ⟨_, rfl⟩
     replace H : (spec_l04Tree.l0 k1 y153 y159 (wrap64 (x5_1 + 1)) l0_0 l0_1) = some r := by first | (rw [hy159]; with_reducible exact H) | (have H2_ := (Option.bind_some _ _).symm.trans H; rw [hy159]; with_reducible exact H2_) | (have H2_ := (Option.bind_some _ _).symm.trans H; with_reducible exact H2_) | with_reducible exact H | (rw [hy159]; exact H) | exact H
     have Ny159 := Aside0.mk hy159
     clear hy159
     have H' := Aside0.mk H
     clear H
     have hcz8_0 : wr.cell? ⟨gr0, 0, none⟩ = some (.slice A0_0 l0_0.length c0_0) := (blk_cell BK0.out 0).trans rfl
     have hcz8_1 : wr.cell? ⟨gr0, 1, none⟩ = some (.slice A0_1 l0_1.length c0_1) := (blk_cell BK0.out 1).trans rfl
     have hfz8_0 := blk_frozen BK0.out 0
     have hfz8_1 := blk_frozen BK0.out 1
     go_wp2_with (first | ((with_reducible refine gate_builtin (b := .append) (xs := #[.tmp 21, .tmp 23]) rfl ?_); at_builtin; refine Kd.R_append (Kd.int .i64) (w0 := w) w.heap.size rfl (.tmp 21) (.tmp 23) 22 2 (.int .i64 0) 8 rfl Try.underlying22 info2 rfl (by decide) (by omega) u4 x4_1 x5_1 [.int .i64 x5_1] (fun k_ => some k_ ≠ (v154 : Value).ownBlock) (fun _ => False) rfl rfl ?aP (fun _ hk => hk.elim) ?aF ?aO ?aB ?aS ?aL ?_; (case aP => exact rfl); (case aB => exact (by repeat (first | (with_reducible first | exact HB.out|apply wA|apply wN|apply wD |refine wS ?_ GE0.out) | exact HB.out))); (case aF => exact (fun k_ hk => Kd.fresh' (Kd.R_lt (by (with_reducible repeat (first | apply rA|apply rN|apply rW)); exact HO_3.out)) k_ hk)); (case aO => exact (by (with_reducible repeat (first | apply rA|apply rN|apply rW)); exact HO_4.out)); (case aS => exact (below_size (by repeat (first | (with_reducible first | exact HB.out|apply wA|apply wN|apply wD |refine wS ?_ GE0.out) | exact HB.out)))); (case aL => have := LMc7.out; omega); intro v160 w9 ho hb hg hat; rw [← Ny159.out] at ho; have n0_ := Aside0.mk (Kd.R_after (ok := (fun _ => True)) (by (with_reducible repeat (first | apply rA|apply rN|apply rW)); exact Kd.R_mono HO_3.out (fun _ hk => ⟨trivial, hk⟩)) hg hat); have n1_ := Aside0.mk (blk_grown (g := gr0) (o := .cells #[.slice A0_0 l0_0.length c0_0, .slice A0_1 l0_1.length c0_1] 31 (0, 0)) (by (with_reducible repeat (first | refine bN ?_ _|refine bW ?_|refine bA ?_ _)); exact BK0.out) hg (Kd.R_ne HO_4.out BK0.out (by decide))); have n2_ := Aside0.mk (hb); have n3_ := Aside0.mk (ho); clear HO_3; clear BK0; clear HB; clear HO_4; have HO_3 := n0_; have BK0 := n1_; have HB := n2_; have HO161 := n3_; clear n0_ n1_ n2_ n3_; clear ho hb hg hat))
     go_roundg k1
     case measure => have := HK1.out; omega
     case rel => exact ⟨(y159), (wrap64 (x5_1 + 1)), (by first | rfl | (simp; done) | (simp [*]; done)), H', ⟨by have := HK1.out; omega⟩, ⟨by (with_reducible repeat (first | apply rA|apply rN|apply rW)); exact Kd.R_mono HO_3.out (fun _ hk => hk.2)⟩, ⟨by (with_reducible repeat (first | apply rA|apply rN|apply rW)); exact HO161.out⟩, ⟨by (with_reducible repeat (first | refine bN ?_ _|refine bW ?_|refine bA ?_ _)); exact BK0.out⟩, ⟨by repeat (first | (with_reducible first | exact HB.out|apply wA|apply wN|apply wD |refine wS ?_ GE0.out) | exact HB.out)⟩⟩
    ·rw [if_neg c7] at H
     exact absurd H (by simp)
   ·rw [if_neg c6] at H
    have c6b0 : decide (x5_1 < (l0_0.length : Int)) = false := decide_eq_false c6
    clear c6
    have H' := Aside0.mk H
    clear H
    have hcz10_0 : wr.cell? ⟨gr0, 0, none⟩ = some (.slice A0_0 l0_0.length c0_0) := (blk_cell BK0.out 0).trans rfl
    have hcz10_1 : wr.cell? ⟨gr0, 1, none⟩ = some (.slice A0_1 l0_1.length c0_1) := (blk_cell BK0.out 1).trans rfl
    have hfz10_0 := blk_frozen BK0.out 0
    have hfz10_1 := blk_frozen BK0.out 1
    go_wp2
    go_loopg [3, 6] k1 (fun kq v3 v6 w' => ∃ (x3_2 : List Int) (x4_2 : List Int) (x6_2 : Int), v6 = .int .i64 x6_2 ∧ Aside0 (spec_l04Tree.l1 kq x3_2 x4_2 x6_2 l0_0 l0_1 = some r) ∧ Aside0 (kq ≤ k1) ∧ Aside0 (Kd.R (Kd.int .i64) 2 w' w.heap.size (fun k_ => some k_ ≠ (u4 : Value).ownBlock) v3 x3_2) ∧ Aside0 (Kd.R (Kd.int .i64) 2 w' w.heap.size (fun k_ => some k_ ≠ (v3 : Value).ownBlock) u4 x4_2) ∧ Aside0 (w'.heap[gr0]? = some (.cells #[(.slice A0_0 l0_0.length c0_0), (.slice A0_1 l0_1.length c0_1)] 31 (0, 0))) ∧ Aside0 (Below w.heap.size w w'))
    case atStart => exact ⟨(y153), (x4_1), (0), (by first | rfl | (simp; done) | (simp [*]; done)), H', ⟨Nat.le_refl _⟩, ⟨by (with_reducible repeat (first | apply rA|apply rN|apply rW)); exact HO_3.out⟩, ⟨by (with_reducible repeat (first | apply rA|apply rN|apply rW)); exact HO_4.out⟩, ⟨by (with_reducible repeat (first | refine bN ?_ _|refine bW ?_|refine bA ?_ _)); exact BK0.out⟩, ⟨by repeat (first | (with_reducible first | exact HB.out|apply wA|apply wN|apply wD |refine wS ?_ GE0.out) | exact HB.out)⟩⟩
    case round =>
     clear H'
     try clear p2
     try clear c5
     try clear c6
     try clear c6b0
     try clear p6
     try clear c7
     try clear hcz10_0
     try clear hcz10_1
     try clear hcz8_0
     try clear hcz8_1
     try clear hfz10_0
     try clear hfz10_1
     try clear hfz8_0
     try clear hfz8_1
     try clear p2
     obtain ⟨x3_2, x4_2, x6_2, rfl, HA, HK2, HO_3, HO_4, BK0, HB⟩ := hrel
     cases gk with
     | zero => exact absurd HA.out (by simp [spec_l04Tree.l1])
     | succ k2 =>
      have H := HA.out
      clear HA
      simp only [spec_l04Tree.l1] at H
      by_cases c11 : x6_2 < (l0_1.length : Int)
      ·rw [if_pos c11] at H
       have c11b0 : decide (x6_2 < (l0_1.length : Int)) = true := decide_eq_true c11
       clear c11
       by_cases c12 : 0 ≤ x6_2
       ·rw [if_pos c12] at H
        have c12b0 : decide (0 ≤ x6_2) = true := decide_eq_true c12
        clear c12
        by_cases c13 : 0 ≤ ((rd_T60 l0_1 x6_2).f1)
        ·rw [if_pos c13] at H
         have c13b0 : decide (0 ≤ ((rd_T60 l0_1 x6_2).f1)) = true := decide_eq_true c13
         clear c13
         by_cases c14 : ((rd_T60 l0_1 x6_2).f1) < (x4_2.length : Int)
         ·rw [if_pos c14] at H
          have c14b0 : decide (((rd_T60 l0_1 x6_2).f1) < (x4_2.length : Int)) = true := decide_eq_true c14
          clear c14
          by_cases c15 : 0 ≤ ((rd_T60 l0_1 x6_2).f2)
          ·rw [if_pos c15] at H
           have c15b0 : decide (0 ≤ ((rd_T60 l0_1 x6_2).f2)) = true := decide_eq_true c15
           clear c15
           by_cases c16 : ((rd_T60 l0_1 x6_2).f2) < (x4_2.length : Int)
           ·rw [if_pos c16] at H
            have c16b0 : decide (((rd_T60 l0_1 x6_2).f2) < (x4_2.length : Int)) = true := decide_eq_true c16
            clear c16
            by_cases c17 : (rd x4_2 ((rd_T60 l0_1 x6_2).f1)) = (rd x4_2 ((rd_T60 l0_1 x6_2).f2))
            ·rw [if_pos c17] at H
             have c17b0 : ((rd x4_2 ((rd_T60 l0_1 x6_2).f1)) == (rd x4_2 ((rd_T60 l0_1 x6_2).f2))) = true := beq_iff_eq.mpr c17
             have c17b1 : ((rd x4_2 ((rd_T60 l0_1 x6_2).f1)) != (rd x4_2 ((rd_T60 l0_1 x6_2).f2))) = false := bne_eq_false_iff_eq.mpr c17
             clear c17
             have H' := Aside0.mk H
             clear H
             have hcz18_0 : wr.cell? ⟨gr0, 0, none⟩ = some (.slice A0_0 l0_0.length c0_0) := (blk_cell BK0.out 0).trans rfl
             have hcz18_1 : wr.cell? ⟨gr0, 1, none⟩ = some (.slice A0_1 l0_1.length c0_1) := (blk_cell BK0.out 1).trans rfl
             have hfz18_0 := blk_frozen BK0.out 0
             have hfz18_1 := blk_frozen BK0.out 1
             have p162 : 0 ≤ (x6_2 : Int) := of_decide_eq_true (by first | (with_reducible assumption) | assumption)
             have q162 : x6_2 < (l0_1.length : Int) := of_decide_eq_true (by first | (with_reducible assumption) | assumption)
             obtain ⟨ad162, e162, hx162_0, hx162_1, hx162_2, hx162_3, hx162_4, hx162_5⟩ := at_T60 HR0_1.out x6_2 p162 q162
             cases e162
             replace hx162_0 := (HB.out.cell (World.block_lt_of_cell? w _ hx162_0)).trans hx162_0
             replace hx162_1 := (HB.out.cell (World.block_lt_of_cell? w _ hx162_1)).trans hx162_1
             replace hx162_2 := (HB.out.cell (World.block_lt_of_cell? w _ hx162_2)).trans hx162_2
             replace hx162_3 := (HB.out.cell (World.block_lt_of_cell? w _ hx162_3)).trans hx162_3
             replace hx162_4 := (HB.out.cell (World.block_lt_of_cell? w _ hx162_4)).trans hx162_4
             replace hx162_5 := (HB.out.cell (World.block_lt_of_cell? w _ hx162_5)).trans hx162_5
             replace p162 := eq_true p162
             replace q162 := eq_true q162
             obtain ⟨Ao19, co19, eo19⟩ := Kd.R_slice HO_4.out
             subst eo19
             have p163 : 0 ≤ (((rd_T60 l0_1 x6_2).f1) : Int) := of_decide_eq_true (by first | (with_reducible assumption) | assumption)
             have q163 : ((rd_T60 l0_1 x6_2).f1) < (x4_2.length : Int) := of_decide_eq_true (by first | (with_reducible assumption) | assumption)
             obtain ⟨ad163, e163, hx163_0⟩ := Kd.at_int (Kd.R_reads' HO_4.out).2.2 ((rd_T60 l0_1 x6_2).f1) p163 q163
             cases e163
             replace p163 := eq_true p163
             replace q163 := eq_true q163
             have p164 : 0 ≤ (x6_2 : Int) := of_decide_eq_true (by first | (with_reducible assumption) | assumption)
             have q164 : x6_2 < (l0_1.length : Int) := of_decide_eq_true (by first | (with_reducible assumption) | assumption)
             obtain ⟨ad164, e164, hx164_0, hx164_1, hx164_2, hx164_3, hx164_4, hx164_5⟩ := at_T60 HR0_1.out x6_2 p164 q164
             obtain rfl : ad162 = ad164 := (by injection e164)
             replace hx164_0 := (HB.out.cell (World.block_lt_of_cell? w _ hx164_0)).trans hx164_0
             replace hx164_1 := (HB.out.cell (World.block_lt_of_cell? w _ hx164_1)).trans hx164_1
             replace hx164_2 := (HB.out.cell (World.block_lt_of_cell? w _ hx164_2)).trans hx164_2
             replace hx164_3 := (HB.out.cell (World.block_lt_of_cell? w _ hx164_3)).trans hx164_3
             replace hx164_4 := (HB.out.cell (World.block_lt_of_cell? w _ hx164_4)).trans hx164_4
             replace hx164_5 := (HB.out.cell (World.block_lt_of_cell? w _ hx164_5)).trans hx164_5
             replace p164 := eq_true p164
             replace q164 := eq_true q164
             have p165 : 0 ≤ (((rd_T60 l0_1 x6_2).f2) : Int) := of_decide_eq_true (by first | (with_reducible assumption) | assumption)
             have q165 : ((rd_T60 l0_1 x6_2).f2) < (x4_2.length : Int) := of_decide_eq_true (by first | (with_reducible assumption) | assumption)
             obtain ⟨ad165, e165, hx165_0⟩ := Kd.at_int (Kd.R_reads' HO_4.out).2.2 ((rd_T60 l0_1 x6_2).f2) p165 q165
             obtain rfl : ad163 = ad165 := (by injection e165)
             replace p165 := eq_true p165
             replace q165 := eq_true q165
             go_wp2
             go_roundg k2
             case measure => have := HK1.out; have := HK2.out; omega
             case rel => exact ⟨(x3_2), (x4_2), (wrap64 (x6_2 + 1)), (by first | rfl | (simp; done) | (simp [*]; done)), H', ⟨by have := HK1.out; have := HK2.out; omega⟩, ⟨by (with_reducible repeat (first | apply rA|apply rN|apply rW)); exact HO_3.out⟩, ⟨by (with_reducible repeat (first | apply rA|apply rN|apply rW)); exact HO_4.out⟩, ⟨by (with_reducible repeat (first | refine bN ?_ _|refine bW ?_|refine bA ?_ _)); exact BK0.out⟩, ⟨by repeat (first | (with_reducible first | exact HB.out|apply wA|apply wN|apply wD |refine wS ?_ GE0.out) | exact HB.out)⟩⟩
            ·rw [if_neg c17] at H
             have c17b0 : ((rd x4_2 ((rd_T60 l0_1 x6_2).f1)) == (rd x4_2 ((rd_T60 l0_1 x6_2).f2))) = false := beq_eq_false_iff_ne.mpr c17
             have c17b1 : ((rd x4_2 ((rd_T60 l0_1 x6_2).f1)) != (rd x4_2 ((rd_T60 l0_1 x6_2).f2))) = true := bne_iff_ne.mpr c17
             by_cases c20 : x3_2.length < 17592186044416
             ·rw [if_pos c20] at H
              have LMc20 := Aside0.mk c20
              clear c20
              obtain ⟨y166, hy166⟩ : ∃ y_ : List Int, y_ = (x3_2 ++ [x6_2]) := ⟨_, rfl⟩
              replace H : (spec_l04Tree.l2 k2 y166 x4_2 x6_2 (rd x4_2 ((rd_T60 l0_1 x6_2).f1)) (rd x4_2 ((rd_T60 l0_1 x6_2).f2)) 0 l0_0 l0_1) = some r := by first | (rw [hy166]; with_reducible exact H) | (have H2_ := (Option.bind_some _ _).symm.trans H; rw [hy166]; with_reducible exact H2_) | (have H2_ := (Option.bind_some _ _).symm.trans H; with_reducible exact H2_) | with_reducible exact H | (rw [hy166]; exact H) | exact H
              have Ny166 := Aside0.mk hy166
              clear hy166
              have H' := Aside0.mk H
              clear H
              have hcz21_0 : wr.cell? ⟨gr0, 0, none⟩ = some (.slice A0_0 l0_0.length c0_0) := (blk_cell BK0.out 0).trans rfl
              have hcz21_1 : wr.cell? ⟨gr0, 1, none⟩ = some (.slice A0_1 l0_1.length c0_1) := (blk_cell BK0.out 1).trans rfl
              have hfz21_0 := blk_frozen BK0.out 0
              have hfz21_1 := blk_frozen BK0.out 1
              have p162 : 0 ≤ (x6_2 : Int) := of_decide_eq_true (by first | (with_reducible assumption) | assumption)
              have q162 : x6_2 < (l0_1.length : Int) := of_decide_eq_true (by first | (with_reducible assumption) | assumption)
              obtain ⟨ad162, e162, hx162_0, hx162_1, hx162_2, hx162_3, hx162_4, hx162_5⟩ := at_T60 HR0_1.out x6_2 p162 q162
              cases e162
              replace hx162_0 := (HB.out.cell (World.block_lt_of_cell? w _ hx162_0)).trans hx162_0
              replace hx162_1 := (HB.out.cell (World.block_lt_of_cell? w _ hx162_1)).trans hx162_1
              replace hx162_2 := (HB.out.cell (World.block_lt_of_cell? w _ hx162_2)).trans hx162_2
              replace hx162_3 := (HB.out.cell (World.block_lt_of_cell? w _ hx162_3)).trans hx162_3
              replace hx162_4 := (HB.out.cell (World.block_lt_of_cell? w _ hx162_4)).trans hx162_4
              replace hx162_5 := (HB.out.cell (World.block_lt_of_cell? w _ hx162_5)).trans hx162_5
              replace p162 := eq_true p162
              replace q162 := eq_true q162
              obtain ⟨Ao22, co22, eo22⟩ := Kd.R_slice HO_4.out
              subst eo22
              have p163 : 0 ≤ (((rd_T60 l0_1 x6_2).f1) : Int) := of_decide_eq_true (by first | (with_reducible assumption) | assumption)
              have q163 : ((rd_T60 l0_1 x6_2).f1) < (x4_2.length : Int) := of_decide_eq_true (by first | (with_reducible assumption) | assumption)
              obtain ⟨ad163, e163, hx163_0⟩ := Kd.at_int (Kd.R_reads' HO_4.out).2.2 ((rd_T60 l0_1 x6_2).f1) p163 q163
              cases e163
              replace p163 := eq_true p163
              replace q163 := eq_true q163
              have p164 : 0 ≤ (x6_2 : Int) := of_decide_eq_true (by first | (with_reducible assumption) | assumption)
              have q164 : x6_2 < (l0_1.length : Int) := of_decide_eq_true (by first | (with_reducible assumption) | assumption)
              obtain ⟨ad164, e164, hx164_0, hx164_1, hx164_2, hx164_3, hx164_4, hx164_5⟩ := at_T60 HR0_1.out x6_2 p164 q164
              obtain rfl : ad162 = ad164 := (by injection e164)
              replace hx164_0 := (HB.out.cell (World.block_lt_of_cell? w _ hx164_0)).trans hx164_0
              replace hx164_1 := (HB.out.cell (World.block_lt_of_cell? w _ hx164_1)).trans hx164_1
              replace hx164_2 := (HB.out.cell (World.block_lt_of_cell? w _ hx164_2)).trans hx164_2
              replace hx164_3 := (HB.out.cell (World.block_lt_of_cell? w _ hx164_3)).trans hx164_3
              replace hx164_4 := (HB.out.cell (World.block_lt_of_cell? w _ hx164_4)).trans hx164_4
              replace hx164_5 := (HB.out.cell (World.block_lt_of_cell? w _ hx164_5)).trans hx164_5
              replace p164 := eq_true p164
              replace q164 := eq_true q164
              have p165 : 0 ≤ (((rd_T60 l0_1 x6_2).f2) : Int) := of_decide_eq_true (by first | (with_reducible assumption) | assumption)
              have q165 : ((rd_T60 l0_1 x6_2).f2) < (x4_2.length : Int) := of_decide_eq_true (by first | (with_reducible assumption) | assumption)
              obtain ⟨ad165, e165, hx165_0⟩ := Kd.at_int (Kd.R_reads' HO_4.out).2.2 ((rd_T60 l0_1 x6_2).f2) p165 q165
              obtain rfl : ad163 = ad165 := (by injection e165)
              replace p165 := eq_true p165
              replace q165 := eq_true q165
              go_wp2_with (first | ((with_reducible refine gate_builtin (b := .append) (xs := #[.tmp 59, .tmp 61]) rfl ?_); at_builtin; refine Kd.R_append (Kd.int .i64) (w0 := w) w.heap.size rfl (.tmp 59) (.tmp 61) 22 2 (.int .i64 0) 8 rfl Try.underlying22 info2 rfl (by decide) (by omega) u3 x3_2 x6_2 [.int .i64 x6_2] (fun k_ => some k_ ≠ (.slice (some ad163) x4_2.length co22 : Value).ownBlock) (fun _ => False) rfl rfl ?aP (fun _ hk => hk.elim) ?aF ?aO ?aB ?aS ?aL ?_; (case aP => exact rfl); (case aB => exact (by repeat (first | (with_reducible first | exact HB.out|apply wA|apply wN|apply wD |refine wS ?_ GE0.out) | exact HB.out))); (case aF => exact (fun k_ hk => Kd.fresh' (Kd.R_lt (by (with_reducible repeat (first | apply rA|apply rN|apply rW)); exact HO_4.out)) k_ hk)); (case aO => exact (by (with_reducible repeat (first | apply rA|apply rN|apply rW)); exact HO_3.out)); (case aS => exact (below_size (by repeat (first | (with_reducible first | exact HB.out|apply wA|apply wN|apply wD |refine wS ?_ GE0.out) | exact HB.out)))); (case aL => have := LMc20.out; omega); intro v167 w23 ho hb hg hat; rw [← Ny166.out] at ho; have n0_ := Aside0.mk (Kd.R_after (ok := (fun _ => True)) (by (with_reducible repeat (first | apply rA|apply rN|apply rW)); exact Kd.R_mono HO_4.out (fun _ hk => ⟨trivial, hk⟩)) hg hat); have n1_ := Aside0.mk (blk_grown (g := gr0) (o := .cells #[.slice A0_0 l0_0.length c0_0, .slice (some ad162) l0_1.length c0_1] 31 (0, 0)) (by (with_reducible repeat (first | refine bN ?_ _|refine bW ?_|refine bA ?_ _)); exact BK0.out) hg (Kd.R_ne HO_3.out BK0.out (by decide))); have n2_ := Aside0.mk (hb); have n3_ := Aside0.mk (ho); clear HO_4; clear BK0; clear HB; clear HO_3; have HO_4 := n0_; have BK0 := n1_; have HB := n2_; have HO168 := n3_; clear n0_ n1_ n2_ n3_; clear ho hb hg hat))
              (try (generalize Value.pointer (some (Addr.add ad163 (((rd_T60 l0_1 x6_2).f2) : Int).toNat)) = vz163_0))
              (try (generalize Value.pointer (some (Addr.add ad163 (((rd_T60 l0_1 x6_2).f1) : Int).toNat)) = vz163_1))
              go_loopg [9] k2 (fun kq v9 w' => ∃ (x4_3 : List Int) (x9_3 : Int), v9 = .int .i64 x9_3 ∧ Aside0 (spec_l04Tree.l2 kq y166 x4_3 x6_2 (rd x4_2 ((rd_T60 l0_1 x6_2).f1)) (rd x4_2 ((rd_T60 l0_1 x6_2).f2)) x9_3 l0_0 l0_1 = some r) ∧ Aside0 (kq ≤ k2) ∧ Aside0 (Kd.R (Kd.int .i64) 2 w' w.heap.size (fun k_ => some k_ ≠ ((.slice (some ad163) x4_2.length co22) : Value).ownBlock) v167 y166) ∧ Aside0 (Kd.R (Kd.int .i64) 2 w' w.heap.size (fun k_ => some k_ ≠ (v167 : Value).ownBlock) (.slice (some ad163) x4_2.length co22) x4_3) ∧ Aside0 (w'.heap[gr0]? = some (.cells #[(.slice A0_0 l0_0.length c0_0), (.slice (some ad162) l0_1.length c0_1)] 31 (0, 0))) ∧ Aside0 (Below w.heap.size w w'))
              case atStart => exact ⟨(x4_2), (0), (by first | rfl | (simp; done) | (simp [*]; done)), H', ⟨Nat.le_refl _⟩, ⟨by (with_reducible repeat (first | apply rA|apply rN|apply rW)); exact HO168.out⟩, ⟨by (with_reducible repeat (first | apply rA|apply rN|apply rW)); exact Kd.R_mono HO_4.out (fun _ hk => hk.2)⟩, ⟨by (with_reducible repeat (first | refine bN ?_ _|refine bW ?_|refine bA ?_ _)); exact BK0.out⟩, ⟨by repeat (first | (with_reducible first | exact HB.out|apply wA|apply wN|apply wD |refine wS ?_ GE0.out) | exact HB.out)⟩⟩
              case round =>
               clear H'
               try clear c1
               try clear p1
               try clear q1
               try clear hx1
               try clear c2
               try clear p2
               try clear c5
               try clear c6
               try clear c6b0
               try clear p6
               try clear c7
               try clear c11
               try clear c11b0
               try clear c12
               try clear c12b0
               try clear c13
               try clear c13b0
               try clear c14
               try clear c14b0
               try clear c15
               try clear c15b0
               try clear c16
               try clear c16b0
               try clear p16
               try clear q16
               try clear hx16
               try clear c17
               try clear c17b0
               try clear c17b1
               try clear c20
               try clear hcz10_0
               try clear hcz10_1
               try clear hcz18_0
               try clear hcz18_1
               try clear hcz21_0
               try clear hcz21_1
               try clear hcz8_0
               try clear hcz8_1
               try clear hfz10_0
               try clear hfz10_1
               try clear hfz18_0
               try clear hfz18_1
               try clear hfz21_0
               try clear hfz21_1
               try clear hfz8_0
               try clear hfz8_1
               try clear hx162_0
               try clear hx162_1
               try clear hx162_2
               try clear hx162_3
               try clear hx162_4
               try clear hx162_5
               try clear hx163_0
               try clear hx164_0
               try clear hx164_1
               try clear hx164_2
               try clear hx164_3
               try clear hx164_4
               try clear hx164_5
               try clear hx165_0
               try clear p162
               try clear p163
               try clear p164
               try clear p165
               try clear p2
               try clear p6
               try clear q162
               try clear q163
               try clear q164
               try clear q165
               obtain ⟨x4_3, x9_3, rfl, HA, HK3, HO_3, HO_4, BK0, HB⟩ := hrel
               have hl4_3 := (Kd.R_reads' HO_4.out).1
               rw [hl4_3] at HO_4
               (try simp only [hl4_3])
               (try simp only [hl4_3] at BK0)
               (try simp only [hl4_3] at HO_3)
               cases gk with
               | zero => exact absurd HA.out (by simp [spec_l04Tree.l2])
               | succ k3 =>
                have H := HA.out
                clear HA
                simp only [spec_l04Tree.l2] at H
                by_cases c24 : x9_3 < (x4_3.length : Int)
                ·rw [if_pos c24] at H
                 have c24b0 : decide (x9_3 < (x4_3.length : Int)) = true := decide_eq_true c24
                 (try simp only [hl4_3] at c24b0)
                 clear c24
                 by_cases c25 : 0 ≤ x9_3
                 ·rw [if_pos c25] at H
                  have c25b0 : decide (0 ≤ x9_3) = true := decide_eq_true c25
                  clear c25
                  by_cases c26 : (rd x4_3 x9_3) = (rd x4_2 ((rd_T60 l0_1 x6_2).f2))
                  ·rw [if_pos c26] at H
                   have c26b0 : ((rd x4_3 x9_3) == (rd x4_2 ((rd_T60 l0_1 x6_2).f2))) = true := beq_iff_eq.mpr c26
                   have c26b1 : ((rd x4_3 x9_3) != (rd x4_2 ((rd_T60 l0_1 x6_2).f2))) = false := bne_eq_false_iff_eq.mpr c26
                   clear c26
                   obtain ⟨y170, hy170⟩ : ∃ y_ : List Int, y_ = (x4_3.set (x9_3 : Int).toNat (rd x4_2 ((rd_T60 l0_1 x6_2).f1))) := ⟨_, rfl⟩
                   replace H : (spec_l04Tree.l2 k3 y166 y170 x6_2 (rd x4_2 ((rd_T60 l0_1 x6_2).f1)) (rd x4_2 ((rd_T60 l0_1 x6_2).f2)) (wrap64 (x9_3 + 1)) l0_0 l0_1) = some r := by first | (rw [hy170]; with_reducible exact H) | (have H2_ := (Option.bind_some _ _).symm.trans H; rw [hy170]; with_reducible exact H2_) | (have H2_ := (Option.bind_some _ _).symm.trans H; with_reducible exact H2_) | with_reducible exact H | (rw [hy170]; exact H) | exact H
                   have Ny170 := Aside0.mk hy170
                   clear hy170
                   have H' := Aside0.mk H
                   clear H
                   have p169 : 0 ≤ (x9_3 : Int) := of_decide_eq_true (by first | (with_reducible assumption) | assumption)
                   have q169 : x9_3 < (x4_3.length : Int) := of_decide_eq_true (by first | (with_reducible assumption) | assumption)
                   obtain ⟨ad169, e169, hx169_0⟩ := Kd.at_int (Kd.R_reads' HO_4.out).2.2 x9_3 p169 q169
                   obtain rfl : ad163 = ad169 := (by injection e169)
                   replace p169 := eq_true p169
                   replace q169 := eq_true q169
                   have p27 : 0 ≤ (x9_3 : Int) := of_decide_eq_true (by first | (with_reducible assumption) | assumption)
                   have q27 : (x9_3 : Int) < ((x4_3.length : Int) : Int) := of_decide_eq_true (by first | (with_reducible assumption) | assumption)
                   obtain ⟨go27, co27, eo27, gb27, gl27, cl27, HG27⟩ := Kd.R_form HO_4.out (by omega)
                   (first | cases eo27 | (injection eo27 with ea_ en_ ec_; (first | subst ea_ | (injection ea_ with ea_; subst ea_)); subst ec_; clear en_))
                   have GB27 := Aside0.mk gb27
                   have GG27 := Aside0.mk HG27
                   clear gb27 gl27 HG27
                   (first | simp only [add_plain] at hx163_0 | skip)
                   (first | simp only [add_plain] at hx165_0 | skip)
                   (first | simp only [add_plain] at hx169_0 | skip)
                   obtain ⟨hx27_0, hf27_0⟩ := Kd.R_celln 0 HO_4.out (x9_3 : Int) p27 q27
                   replace p27 := eq_true p27
                   replace q27 := eq_true q27
                   have HP28 := Kd.R_putg HO_4.out (x9_3 : Int) (rd x4_2 ((rd_T60 l0_1 x6_2).f1))
                   go_wp2_with (first | ((with_reducible refine gate_store (t := 2) (p := 78) rfl ?_); refine store_event (t := 2) (p := 78) (v := ?vo_w29) (w1 := (wr.setCell ⟨go27, (x9_3 : Int).toNat, none⟩ (.int .i64 (rd x4_2 ((rd_T60 l0_1 x6_2).f1))))) ?hg ?ho ?hn ?hr ?_; (case ho => rfl); (case hg => rfl); (case hn => rfl); (case hr => first | (go_simp; done) | (go_simp; rfl)); intro w29 hw; have hg : wr.grownBy w29 (some go27) := (by rw [hw]; exact HP28.2); have hp_ : Kd.R (Kd.int .i64) 2 w29 w.heap.size (fun k_ => some k_ ≠ (v167 : Value).ownBlock) (.slice (some ⟨go27, 0, none⟩) x4_3.length co22) y170 := (by rw [hw, Ny170.out]; exact HP28.1); clear HP28; have n0_ := Aside0.mk (Kd.R_after (v := (.slice (some ⟨go27, 0, none⟩) x4_3.length co22)) (v1 := (.slice (some ⟨go27, 0, none⟩) x4_3.length co22)) (ok := (fun _ => True)) (by (with_reducible repeat (first | apply rA|apply rN|apply rW)); exact Kd.R_mono HO_3.out (fun _ hk => ⟨trivial, hk⟩)) hg (.inl rfl)); have n1_ := Aside0.mk (hp_); have n2_ := Aside0.mk (blk_grown (g := gr0) (o := .cells #[.slice A0_0 l0_0.length c0_0, .slice (some ad162) l0_1.length c0_1] 31 (0, 0)) (by (with_reducible repeat (first | refine bN ?_ _|refine bW ?_|refine bA ?_ _)); exact BK0.out) hg (Kd.R_ne HO_4.out BK0.out (by decide))); have n3_ := Aside0.mk ((by rw [hw]; exact below_set (HB.out) GB27.out : Below w.heap.size w w29)); clear HO_3; clear HO_4; clear BK0; clear HB; have HO_3 := n0_; have HO_4 := n1_; have BK0 := n2_; have HB := n3_; clear n0_ n1_ n2_ n3_; clear hg hw hp_))
                   (try simp only [← hl4_3])
                   go_roundg k3
                   case measure => have := HK1.out; have := HK2.out; have := HK3.out; omega
                   case rel => exact ⟨(y170), (wrap64 (x9_3 + 1)), (by first | rfl | (simp; done) | (simp [*]; done)), H', ⟨by have := HK1.out; have := HK2.out; have := HK3.out; omega⟩, ⟨by (try simp only [hl4_3]); (with_reducible repeat (first | apply rA|apply rN|apply rW)); exact Kd.R_mono HO_3.out (fun _ hk => hk.2)⟩, ⟨by (try simp only [hl4_3]); (with_reducible repeat (first | apply rA|apply rN|apply rW)); exact HO_4.out⟩, ⟨by (try simp only [hl4_3]); (with_reducible repeat (first | refine bN ?_ _|refine bW ?_|refine bA ?_ _)); exact BK0.out⟩, ⟨by repeat (first | (with_reducible first | exact HB.out|apply wA|apply wN|apply wD |refine wS ?_ GE0.out) | exact HB.out)⟩⟩
                  ·rw [if_neg c26] at H
                   have c26b0 : ((rd x4_3 x9_3) == (rd x4_2 ((rd_T60 l0_1 x6_2).f2))) = false := beq_eq_false_iff_ne.mpr c26
                   have c26b1 : ((rd x4_3 x9_3) != (rd x4_2 ((rd_T60 l0_1 x6_2).f2))) = true := bne_iff_ne.mpr c26
                   have H' := Aside0.mk H
                   clear H
                   have p169 : 0 ≤ (x9_3 : Int) := of_decide_eq_true (by first | (with_reducible assumption) | assumption)
                   have q169 : x9_3 < (x4_3.length : Int) := of_decide_eq_true (by first | (with_reducible assumption) | assumption)
                   obtain ⟨ad169, e169, hx169_0⟩ := Kd.at_int (Kd.R_reads' HO_4.out).2.2 x9_3 p169 q169
                   obtain rfl : ad163 = ad169 := (by injection e169)
                   replace p169 := eq_true p169
                   replace q169 := eq_true q169
                   go_wp2
                   (try simp only [← hl4_3])
                   go_roundg k3
                   case measure => have := HK1.out; have := HK2.out; have := HK3.out; omega
                   case rel => exact ⟨(x4_3), (wrap64 (x9_3 + 1)), (by first | rfl | (simp; done) | (simp [*]; done)), H', ⟨by have := HK1.out; have := HK2.out; have := HK3.out; omega⟩, ⟨by (try simp only [hl4_3]); (with_reducible repeat (first | apply rA|apply rN|apply rW)); exact HO_3.out⟩, ⟨by (try simp only [hl4_3]); (with_reducible repeat (first | apply rA|apply rN|apply rW)); exact HO_4.out⟩, ⟨by (try simp only [hl4_3]); (with_reducible repeat (first | refine bN ?_ _|refine bW ?_|refine bA ?_ _)); exact BK0.out⟩, ⟨by repeat (first | (with_reducible first | exact HB.out|apply wA|apply wN|apply wD |refine wS ?_ GE0.out) | exact HB.out)⟩⟩
                 ·rw [if_neg c25] at H
                  exact absurd H (by simp)
                ·rw [if_neg c24] at H
                 have c24b0 : decide (x9_3 < (x4_3.length : Int)) = false := decide_eq_false c24
                 (try simp only [hl4_3] at c24b0)
                 clear c24
                 have H' := Aside0.mk H
                 clear H
                 go_wp2
                 (try simp only [← hl4_3])
                 go_roundg k3
                 case measure => have := HK1.out; have := HK2.out; have := HK3.out; omega
                 case rel => exact ⟨(y166), (x4_3), (wrap64 (x6_2 + 1)), (by first | rfl | (simp; done) | (simp [*]; done)), H', ⟨by have := HK1.out; have := HK2.out; have := HK3.out; omega⟩, ⟨by (try simp only [hl4_3]); (with_reducible repeat (first | apply rA|apply rN|apply rW)); exact HO_3.out⟩, ⟨by (try simp only [hl4_3]); (with_reducible repeat (first | apply rA|apply rN|apply rW)); exact HO_4.out⟩, ⟨by (try simp only [hl4_3]); (with_reducible repeat (first | refine bN ?_ _|refine bW ?_|refine bA ?_ _)); exact BK0.out⟩, ⟨by repeat (first | (with_reducible first | exact HB.out|apply wA|apply wN|apply wD |refine wS ?_ GE0.out) | exact HB.out)⟩⟩
             ·rw [if_neg c20] at H
              exact absurd H (by simp)
           ·rw [if_neg c16] at H
            exact absurd H (by simp)
          ·rw [if_neg c15] at H
           exact absurd H (by simp)
         ·rw [if_neg c14] at H
          exact absurd H (by simp)
        ·rw [if_neg c13] at H
         exact absurd H (by simp)
       ·rw [if_neg c12] at H
        exact absurd H (by simp)
      ·rw [if_neg c11] at H
       have c11b0 : decide (x6_2 < (l0_1.length : Int)) = false := decide_eq_false c11
       clear c11
       obtain rfl := Option.some.inj H
       have hcz30_0 : wr.cell? ⟨gr0, 0, none⟩ = some (.slice A0_0 l0_0.length c0_0) := (blk_cell BK0.out 0).trans rfl
       have hcz30_1 : wr.cell? ⟨gr0, 1, none⟩ = some (.slice A0_1 l0_1.length c0_1) := (blk_cell BK0.out 1).trans rfl
       have hfz30_0 := blk_frozen BK0.out 0
       have hfz30_1 := blk_frozen BK0.out 1
       go_wp2
       go_ret
       exact ⟨_, by first | rfl | (simp [errW_none, errW_some] <;> rfl) | (simp [*, errW_none, errW_some] <;> rfl), by (with_reducible repeat (first | apply rA|apply rN|apply rW)); exact Kd.R_mono HO_3.out (fun _ hk => trivial), by repeat (first | (with_reducible first | exact HB.out|apply wA|apply wN|apply wD |refine wS ?_ GE0.out) | exact HB.out)⟩

/-! ### spec_l04IsTree: function 56 -/
def spec_l04IsTree.f (k : Nat) (l0_0 : List Int) (l0_1 : List (S60)) : Option (Bool) := if (l0_1.length : Int) = (wrap64 ((l0_0.length : Int) - 1)) then ((spec_l04Tree.f k l0_0 l0_1).bind fun t171 => (some ((t171.length : Int) == (l0_1.length : Int)))) else (some false)
theorem spec_l04IsTree.mono : ∀ a0 a1 k, LeO (spec_l04IsTree.f k a0 a1) (spec_l04IsTree.f (k + 1) a0 a1) := by
 intro a0 a1 k
 unfold spec_l04IsTree.f
 repeat' first
   | (with_reducible exact spec_l04Tree.mono _ _ _)
   | (with_reducible exact LeO.refl _)
   | (with_reducible exact LeO.none _)
   | (with_reducible refine LeO.ite ?_ ?_)
   | (with_reducible refine LeO.bind ?_ (fun _ => ?_))
   | exact spec_l04Tree.mono _ _ _
   | exact LeO.none _
   | refine LeO.ite ?_ ?_
   | refine LeO.bind ?_ (fun _ => ?_)
def spec_l04IsTree.T1 : Bool × List (List Nat × List Nat) := (true, [([], []), ([0], [0]), ([1], [1]), ([2], [2]), ([3], [3]), ([], []), ([5], [5]), ([6], [6]), ([7], [7]), ([8], [8]), ([9], [9]), ([4, 10], [4, 10]), ([11], [11]), ([12], [12]), ([13, 12, 12], [12, 13]), ([14, 12], [12, 14]), ([12], [12]), ([16, 12], [12, 16]), ([17, 12], [12, 17]), ([18, 12], [12, 18]), ([19, 12], [12, 19]), ([15, 20, 12], [12, 15, 20]), ([12, 21], [12, 21]), ([22, 14, 0, 1, 2, 3, 4, 5, 6, 7, 8, 9, 10, 11, 12, 13, 14, 15, 16, 17, 18, 19, 20, 21, 22], [22])])
def spec_l04IsTree.B1 : List Nat := [0, 1, 3, 7, 15, 0, 32, 96, 224, 480, 992, 2047, 4095, 8191, 16383, 32767, 8191, 73727, 204799, 466943, 991231, 2097151, 4194303, 8388607]
theorem spec_l04IsTree.tab1 : rtab .any (opsOf Try.f56 1) = spec_l04IsTree.T1 := by kernel_rfl
theorem spec_l04IsTree.bits1 : waitsOk spec_l04IsTree.T1.2 spec_l04IsTree.B1 = true := by kernel_rfl
set_option maxHeartbeats 8000000 in
set_option maxRecDepth 100000 in
theorem spec_l04IsTree.calls (k : Nat) (gr0 : Nat) (A0_0 : Option Addr) (c0_0 : Nat) (l0_0 : List Int) (A0_1 : Option Addr) (c0_1 : Nat) (l0_1 : List (S60)) (r : Bool) (w : World) (hb0 : w.heap[gr0]? = some (.cells #[.slice A0_0 l0_0.length c0_0, .slice A0_1 l0_1.length c0_1] 31 (0, 0))) (hr0_0 : Kd.C (Kd.int .i64) w A0_0 l0_0.length l0_0) (hc0_0 : l0_0.length ≤ c0_0) (hr0_1 : Kd.C k60 w A0_1 l0_1.length l0_1) (hc0_1 : l0_1.length ≤ c0_1) (h : spec_l04IsTree.f k l0_0 l0_1 = some r) :
  Calls Try.prog 56 #[.pointer (some ⟨gr0, 0, none⟩)] w fun e w' => e = .returned (.bool r) ∧ Below w.heap.size w w' := by
 have HR0_0 := Aside0.mk hr0_0
 have HC0_0 := Aside0.mk hc0_0
 clear hr0_0 hc0_0
 have HR0_1 := Aside0.mk hr0_1
 have HC0_1 := Aside0.mk hc0_1
 clear hr0_1 hc0_1
 have BK0 := Aside0.mk hb0
 clear hb0
 have HB := Aside0.mk (Below.refl w.heap.size w)
 have H : (if (l0_1.length : Int) = (wrap64 ((l0_0.length : Int) - 1)) then ((spec_l04Tree.f k l0_0 l0_1).bind fun t171 => (some ((t171.length : Int) == (l0_1.length : Int)))) else (some false)) = some r := h
 clear h
 by_cases c2 : (l0_1.length : Int) = (wrap64 ((l0_0.length : Int) - 1))
 ·rw [if_pos c2] at H
  have c2b0 : ((l0_1.length : Int) == (wrap64 ((l0_0.length : Int) - 1))) = true := beq_iff_eq.mpr c2
  have c2b1 : ((l0_1.length : Int) != (wrap64 ((l0_0.length : Int) - 1))) = false := bne_eq_false_iff_eq.mpr c2
  clear c2
  replace H := Option.bind_eq_some_iff.mp H
  obtain ⟨t171, A30, H⟩ := H
  replace H : (some ((t171.length : Int) == (l0_1.length : Int))) = some r := H
  have A3 := Aside0.mk A30
  clear A30
  obtain rfl := Option.some.inj H
  go_enter Try.func56, Try.ntmps56
  try go_wp2
  have n0_ := Aside0.mk (blk_drew BK0.out)
  have n1_ := Aside0.mk (below_drew1 HB.out)
  clear BK0
  clear HB
  have BK0 := n0_
  have HB := n1_
  clear n0_ n1_
  refine start_ (n := 24) (S := fun w' => w'.cell? ⟨gr0, 0, none⟩ = some (.slice A0_0 l0_0.length c0_0) ∧ w'.cell? ⟨gr0, 1, none⟩ = some (.slice A0_1 l0_1.length c0_1)) (ds := []) #[J,J,J,J,J,J,J,J,J,J,J,J,J,J,J,J,J,J,J,J,J,J,J,J] (by kernel_rfl) rfl rfl ⟨(blk_cell BK0.out 0).trans rfl, (blk_cell BK0.out 1).trans rfl⟩ (fun hHeld => ?_); refine with_tabW spec_l04IsTree.tab1 spec_l04IsTree.bits1 (fun HT_ HW_ => ?_)
  generalize w.drew = w4 at BK0 HB hHeld ⊢
  refine pure_ (i := 0) (N := some 3) (v := ?_) (a' := ?_) #[Y,J,J,J,J,J,J,J,J,J,J,J,J,J,J,J,J,J,J,J,J,J,J,J] rfl rfl (any_of HT_.out (by kernel_rfl)) (fun _ _ _ h => h) (Or.inl ⟨by rfl, ?_⟩) ?_ ?_; rotate_left
  ·intro w'; go_simp; with_reducible rfl
  rotate_left
  ·simp only [pU,pN,sB,sZ,sS,i64_w,i32_w]; rfl
  refine pure_ (i := 1) (N := some 4) (v := ?_) (a' := ?_) #[Y,Y,J,J,J,J,J,J,J,J,J,J,J,J,J,J,J,J,J,J,J,J,J,J] rfl rfl (any_of HT_.out (by kernel_rfl)) (fun _ _ _ h => h) (Or.inl ⟨by rfl, ?_⟩) ?_ ?_; rotate_left
  ·intro w'; go_simp; with_reducible rfl
  rotate_left
  ·simp only [pU,pN,sB,sZ,sS,i64_w,i32_w]; rfl
  refine pure_ (i := 2) (N := some 5) (v := ?_) (a' := ?_) #[Y,Y,Y,J,J,J,J,J,J,J,J,J,J,J,J,J,J,J,J,J,J,J,J,J] rfl rfl (any_of HT_.out (by kernel_rfl)) (fun _ _ _ h => h) (Or.inl ⟨by rfl, ?_⟩) ?_ ?_; rotate_left
  ·intro w'; go_simp; with_reducible rfl
  rotate_left
  ·simp only [pU,pN,sB,sZ,sS,i64_w,i32_w]; rfl
  refine pure_ (i := 5) (N := some 8) (v := ?_) (a' := ?_) #[Y,Y,Y,J,J,Y,J,J,J,J,J,J,J,J,J,J,J,J,J,J,J,J,J,J] rfl rfl (any_of HT_.out (by kernel_rfl)) (fun _ _ _ h => h) (Or.inl ⟨by rfl, ?_⟩) ?_ ?_; rotate_left
  ·intro w'; go_simp; with_reducible rfl
  rotate_left
  ·simp only [pU,pN,sB,sZ,sS,i64_w,i32_w]; rfl
  refine pure_ (i := 6) (N := some 9) (v := ?_) (a' := ?_) #[Y,Y,Y,J,J,Y,Y,J,J,J,J,J,J,J,J,J,J,J,J,J,J,J,J,J] rfl rfl (any_of HT_.out (by kernel_rfl)) (fun _ _ _ h => h) (Or.inl ⟨by rfl, ?_⟩) ?_ ?_; rotate_left
  ·intro w'; go_simp; with_reducible rfl
  rotate_left
  ·simp only [pU,pN,sB,sZ,sS,i64_w,i32_w]; rfl
  refine pure_ (i := 7) (N := some 10) (v := ?_) (a' := ?_) #[Y,Y,Y,J,J,Y,Y,Y,J,J,J,J,J,J,J,J,J,J,J,J,J,J,J,J] rfl rfl (any_of HT_.out (by kernel_rfl)) (fun _ _ _ h => h) (Or.inl ⟨by rfl, ?_⟩) ?_ ?_; rotate_left
  ·intro w'; go_simp; with_reducible rfl
  rotate_left
  ·simp only [pU,pN,sB,sZ,sS,i64_w,i32_w]; rfl
  refine take_ (i := 3) (N := some 6) (v := ?_) (a' := ?_) #[Y,Y,Y,Y,J,Y,Y,Y,J,J,J,J,J,J,J,J,J,J,J,J,J,J,J,J] rfl rfl (take_ofW HT_.out HW_.out (by kernel_rfl)) (fun _ _ _ h => h) (Or.inl ⟨by rfl, ?_⟩) hHeld ?_ ?_; rotate_left
  ·rintro w' ⟨s0, s1⟩; go_simp; with_reducible rfl
  rotate_left
  ·simp only [pU,pN,sB,sZ,sS,i64_w,i32_w]; rfl
  refine pure_ (i := 4) (N := some 7) (v := ?_) (a' := ?_) #[Y,Y,Y,Y,Y,Y,Y,Y,J,J,J,J,J,J,J,J,J,J,J,J,J,J,J,J] rfl rfl (any_of HT_.out (by kernel_rfl)) (fun _ _ _ h => h) (Or.inl ⟨by rfl, ?_⟩) ?_ ?_; rotate_left
  ·intro w'; go_simp; with_reducible rfl
  rotate_left
  ·simp only [pU,pN,sB,sZ,sS,i64_w,i32_w]; rfl
  refine take_ (i := 8) (N := some 11) (v := ?_) (a' := ?_) #[Y,Y,Y,Y,Y,Y,Y,Y,Y,J,J,J,J,J,J,J,J,J,J,J,J,J,J,J] rfl rfl (take_ofW HT_.out HW_.out (by kernel_rfl)) (fun _ _ _ h => h) (Or.inl ⟨by rfl, ?_⟩) hHeld ?_ ?_; rotate_left
  ·rintro w' ⟨s0, s1⟩; go_simp; with_reducible rfl
  rotate_left
  ·simp only [pU,pN,sB,sZ,sS,i64_w,i32_w]; rfl
  refine pure_ (i := 9) (N := some 12) (v := ?_) (a' := ?_) #[Y,Y,Y,Y,Y,Y,Y,Y,Y,Y,J,J,J,J,J,J,J,J,J,J,J,J,J,J] rfl rfl (any_of HT_.out (by kernel_rfl)) (fun _ _ _ h => h) (Or.inl ⟨by rfl, ?_⟩) ?_ ?_; rotate_left
  ·intro w'; go_simp; with_reducible rfl
  rotate_left
  ·simp only [pU,pN,sB,sZ,sS,i64_w,i32_w]; rfl
  refine pure_ (i := 10) (N := some 13) (v := ?_) (a' := ?_) #[Y,Y,Y,Y,Y,Y,Y,Y,Y,Y,Y,J,J,J,J,J,J,J,J,J,J,J,J,J] rfl rfl (any_of HT_.out (by kernel_rfl)) (fun _ _ _ h => h) (Or.inl ⟨by rfl, ?_⟩) ?_ ?_; rotate_left
  ·intro w'; go_simp; with_reducible rfl
  rotate_left
  ·simp only [pU,pN,sB,sZ,sS,i64_w,i32_w]; rfl
  refine pure_ (i := 11) (N := some 14) (v := ?_) (a' := ?_) #[Y,Y,Y,Y,Y,Y,Y,Y,Y,Y,Y,Y,J,J,J,J,J,J,J,J,J,J,J,J] rfl rfl (any_of HT_.out (by kernel_rfl)) (fun _ _ _ h => h) (Or.inl ⟨by rfl, ?_⟩) ?_ ?_; rotate_left
  ·intro w'; go_simp; with_reducible rfl
  rotate_left
  ·simp only [pU,pN,sB,sZ,sS,i64_w,i32_w]; rfl
  refine pure_ (i := 12) (N := some 15) (v := ?_) (a' := ?_) #[Y,Y,Y,Y,Y,Y,Y,Y,Y,Y,Y,Y,Y,J,J,J,J,J,J,J,J,J,J,J] rfl rfl (any_of HT_.out (by kernel_rfl)) (fun _ _ _ h => h) (Or.inl ⟨by rfl, ?_⟩) ?_ ?_; rotate_left
  ·intro w'; go_simp; with_reducible rfl
  rotate_left
  ·simp only [pU,pN,sB,sZ,sS,i64_w,i32_w]; rfl
  refine pure_ (i := 13) (N := some 16) (v := ?_) (a' := ?_) #[Y,Y,Y,Y,Y,Y,Y,Y,Y,Y,Y,Y,Y,Y,J,J,J,J,J,J,J,J,J,J] rfl rfl (any_of HT_.out (by kernel_rfl)) (fun _ _ _ h => h) (Or.inl ⟨by rfl, ?_⟩) ?_ ?_; rotate_left
  ·intro w'; go_simp; with_reducible rfl
  rotate_left
  ·simp only [pU,pN,sB,sZ,sS,i64_w,i32_w]; rfl
  refine pure_ (i := 16) (N := some 19) (v := ?_) (a' := ?_) #[Y,Y,Y,Y,Y,Y,Y,Y,Y,Y,Y,Y,Y,Y,J,J,Y,J,J,J,J,J,J,J] rfl rfl (any_of HT_.out (by kernel_rfl)) (fun _ _ _ h => h) (Or.inl ⟨by rfl, ?_⟩) ?_ ?_; rotate_left
  ·intro w'; go_simp; with_reducible rfl
  rotate_left
  ·simp only [pU,pN,sB,sZ,sS,i64_w,i32_w]; rfl
  refine pure_ (i := 17) (N := some 20) (v := ?_) (a' := ?_) #[Y,Y,Y,Y,Y,Y,Y,Y,Y,Y,Y,Y,Y,Y,J,J,Y,Y,J,J,J,J,J,J] rfl rfl (any_of HT_.out (by kernel_rfl)) (fun _ _ _ h => h) (Or.inl ⟨by rfl, ?_⟩) ?_ ?_; rotate_left
  ·intro w'; go_simp; with_reducible rfl
  rotate_left
  ·simp only [pU,pN,sB,sZ,sS,i64_w,i32_w]; rfl
  refine pure_ (i := 18) (N := some 21) (v := ?_) (a' := ?_) #[Y,Y,Y,Y,Y,Y,Y,Y,Y,Y,Y,Y,Y,Y,J,J,Y,Y,Y,J,J,J,J,J] rfl rfl (any_of HT_.out (by kernel_rfl)) (fun _ _ _ h => h) (Or.inl ⟨by rfl, ?_⟩) ?_ ?_; rotate_left
  ·intro w'; go_simp; with_reducible rfl
  rotate_left
  ·simp only [pU,pN,sB,sZ,sS,i64_w,i32_w]; rfl
  refine take_ (i := 19) (N := some 22) (v := ?_) (a' := ?_) #[Y,Y,Y,Y,Y,Y,Y,Y,Y,Y,Y,Y,Y,Y,J,J,Y,Y,Y,Y,J,J,J,J] rfl rfl (take_ofW HT_.out HW_.out (by kernel_rfl)) (fun _ _ _ h => h) (Or.inl ⟨by rfl, ?_⟩) hHeld ?_ ?_; rotate_left
  ·rintro w' ⟨s0, s1⟩; go_simp; with_reducible rfl
  rotate_left
  ·simp only [pU,pN,sB,sZ,sS,i64_w,i32_w]; rfl
  refine pure_ (i := 20) (N := some 23) (v := ?_) (a' := ?_) #[Y,Y,Y,Y,Y,Y,Y,Y,Y,Y,Y,Y,Y,Y,J,J,Y,Y,Y,Y,Y,J,J,J] rfl rfl (any_of HT_.out (by kernel_rfl)) (fun _ _ _ h => h) (Or.inl ⟨by rfl, ?_⟩) ?_ ?_; rotate_left
  ·intro w'; go_simp; with_reducible rfl
  rotate_left
  ·simp only [pU,pN,sB,sZ,sS,i64_w,i32_w]; rfl
  refine one_ (i := 14) (N := some 17) #[Y,Y,Y,Y,Y,Y,Y,Y,Y,Y,Y,Y,Y,Y,Y,J,Y,Y,Y,Y,Y,J,J,J] rfl rfl (one_of HT_.out (by kernel_rfl)) (by decide) (fun K hK => ?_)
  refine goes_ Try.func58 (by kernel_rfl) rfl #[.pointer (some ⟨gr0, 0, none⟩)] (by rfl) rfl rfl (by (try simp only [List.map_toArray, List.map_cons, List.map_nil]); first | done | rfl | (simp only [List.length_drop, List.length_take]; rfl)) ?_
  with_reducible refine (spec_l04Tree.calls k gr0 A0_0 c0_0 l0_0 A0_1 c0_1 l0_1 t171 _ ?side1 ?side2 ?side3 ?side4 ?side5 A3.out).mono ?_
  (case side1 => exact (by (with_reducible repeat (first | refine bN ?_ _|refine bW ?_|refine bA ?_ _)); exact BK0.out))
  (case side2 => repeat (first | exact (Kd.C_below HR0_0.out HB.out) | (with_reducible first|refine Kd.C_alloc ?_ _|refine Kd.C_drewN ?_ _|refine Kd.C_drew ?_)))
  (case side3 => exact HC0_0.out)
  (case side4 => repeat (first | exact (Kd.C_below HR0_1.out HB.out) | (with_reducible first|refine Kd.C_alloc ?_ _|refine Kd.C_drewN ?_ _|refine Kd.C_drew ?_)))
  (case side5 => exact HC0_1.out)
  rintro e w5 ⟨v172, rfl, ho0, hb⟩
  refine ⟨_, rfl, ?_⟩
  have n0_ := Aside0.mk (Kd.R_lower ho0 (below_size (by repeat (first | (with_reducible first | exact HB.out|apply wA|apply wN|apply wD |refine wS ?_ GE0.out) | exact HB.out))))
  have n1_ := Aside0.mk (blk_below (g := gr0) (o := .cells #[.slice A0_0 l0_0.length c0_0, .slice A0_1 l0_1.length c0_1] 31 (0, 0)) (by (with_reducible repeat (first | refine bN ?_ _|refine bW ?_|refine bA ?_ _)); exact BK0.out) hb)
  have n2_ := Aside0.mk (below_step (by repeat (first | (with_reducible first | exact HB.out|apply wA|apply wN|apply wD |refine wS ?_ GE0.out) | exact HB.out)) hb)
  clear BK0
  clear HB
  have HO173 := n0_
  have BK0 := n1_
  have HB := n2_
  clear n0_ n1_ n2_
  (try clear hb)
  (try clear hb2)
  (try clear hk)
  (try clear hi)
  (try clear ho0)
  obtain ⟨Ao6, co6, eo6⟩ := Kd.R_slice HO173.out
  (first | subst eo6 | (injection eo6 with f1_ f2_ f3_; have f4_ := f1_.symm; have f5_ := f3_.symm; clear f1_ f2_ f3_; subst f4_; subst f5_))
  refine hK.out _ _ ⟨(blk_cell BK0.out 0).trans rfl, (blk_cell BK0.out 1).trans rfl⟩ (fun hHeld => ?_)
  clear hK K
  refine norm_ (a' := ?_) ?_ ?_
  rotate_left
  ·show Act.put _ (some 17) _ = _
   simp only [pU,pN,sB,sZ,sS,i64_w,i32_w]
   rfl
  refine pure_ (i := 15) (N := some 18) (v := ?_) (a' := ?_) #[Y,Y,Y,Y,Y,Y,Y,Y,Y,Y,Y,Y,Y,Y,Y,Y,Y,Y,Y,Y,Y,J,J,J] rfl rfl (any_of HT_.out (by kernel_rfl)) (fun _ _ _ h => h) (Or.inl ⟨by rfl, ?_⟩) ?_ ?_; rotate_left
  ·intro w'; go_simp; with_reducible rfl
  rotate_left
  ·simp only [pU,pN,sB,sZ,sS,i64_w,i32_w]; rfl
  refine pure_ (i := 21) (N := some 24) (v := ?_) (a' := ?_) #[Y,Y,Y,Y,Y,Y,Y,Y,Y,Y,Y,Y,Y,Y,Y,Y,Y,Y,Y,Y,Y,Y,J,J] rfl rfl (any_of HT_.out (by kernel_rfl)) (fun _ _ _ h => h) (Or.inl ⟨by rfl, ?_⟩) ?_ ?_; rotate_left
  ·intro w'; go_simp; with_reducible rfl
  rotate_left
  ·simp only [pU,pN,sB,sZ,sS,i64_w,i32_w]; rfl
  refine pure_ (i := 22) (N := some 25) (v := ?_) (a' := ?_) #[Y,Y,Y,Y,Y,Y,Y,Y,Y,Y,Y,Y,Y,Y,Y,Y,Y,Y,Y,Y,Y,Y,Y,J] rfl rfl (any_of HT_.out (by kernel_rfl)) (fun _ _ _ h => h) (Or.inl ⟨by rfl, ?_⟩) ?_ ?_; rotate_left
  ·intro w'; go_simp; with_reducible rfl
  rotate_left
  ·simp only [pU,pN,sB,sZ,sS,i64_w,i32_w]; rfl
  refine pure_ (i := 23) (N := some 2) (v := ?_) (a' := ?_) #[Y,Y,Y,Y,Y,Y,Y,Y,Y,Y,Y,Y,Y,Y,Y,Y,Y,Y,Y,Y,Y,Y,Y,Y] rfl rfl (any_of HT_.out (by kernel_rfl)) (fun _ _ _ h => h) (Or.inl ⟨by rfl, ?_⟩) ?_ ?_; rotate_left
  ·intro w'; go_simp; with_reducible rfl
  rotate_left
  ·simp only [pU,pN,sB,sZ,sS,i64_w,i32_w]; rfl
  refine done_ (done_of HT_.out (by kernel_rfl)) ?_
  try go_wp2
  go_ret
  exact ⟨by first | rfl | (simp [errW_none, errW_some] <;> rfl) | (simp [*, errW_none, errW_some] <;> rfl), by repeat (first | (with_reducible first | exact HB.out|apply wA|apply wN|apply wD |refine wS ?_ GE0.out) | exact HB.out)⟩
 ·rw [if_neg c2] at H
  have c2b0 : ((l0_1.length : Int) == (wrap64 ((l0_0.length : Int) - 1))) = false := beq_eq_false_iff_ne.mpr c2
  have c2b1 : ((l0_1.length : Int) != (wrap64 ((l0_0.length : Int) - 1))) = true := bne_iff_ne.mpr c2
  obtain rfl := Option.some.inj H
  go_enter Try.func56, Try.ntmps56
  try go_wp2
  have n0_ := Aside0.mk (blk_drew BK0.out)
  have n1_ := Aside0.mk (below_drew1 HB.out)
  clear BK0
  clear HB
  have BK0 := n0_
  have HB := n1_
  clear n0_ n1_
  refine start_ (n := 24) (S := fun w' => w'.cell? ⟨gr0, 0, none⟩ = some (.slice A0_0 l0_0.length c0_0) ∧ w'.cell? ⟨gr0, 1, none⟩ = some (.slice A0_1 l0_1.length c0_1)) (ds := []) #[J,J,J,J,J,J,J,J,J,J,J,J,J,J,J,J,J,J,J,J,J,J,J,J] (by kernel_rfl) rfl rfl ⟨(blk_cell BK0.out 0).trans rfl, (blk_cell BK0.out 1).trans rfl⟩ (fun hHeld => ?_); refine with_tabW spec_l04IsTree.tab1 spec_l04IsTree.bits1 (fun HT_ HW_ => ?_)
  generalize w.drew = w7 at BK0 HB hHeld ⊢
  refine pure_ (i := 0) (N := some 3) (v := ?_) (a' := ?_) #[Y,J,J,J,J,J,J,J,J,J,J,J,J,J,J,J,J,J,J,J,J,J,J,J] rfl rfl (any_of HT_.out (by kernel_rfl)) (fun _ _ _ h => h) (Or.inl ⟨by rfl, ?_⟩) ?_ ?_; rotate_left
  ·intro w'; go_simp; with_reducible rfl
  rotate_left
  ·simp only [pU,pN,sB,sZ,sS,i64_w,i32_w]; rfl
  refine pure_ (i := 1) (N := some 4) (v := ?_) (a' := ?_) #[Y,Y,J,J,J,J,J,J,J,J,J,J,J,J,J,J,J,J,J,J,J,J,J,J] rfl rfl (any_of HT_.out (by kernel_rfl)) (fun _ _ _ h => h) (Or.inl ⟨by rfl, ?_⟩) ?_ ?_; rotate_left
  ·intro w'; go_simp; with_reducible rfl
  rotate_left
  ·simp only [pU,pN,sB,sZ,sS,i64_w,i32_w]; rfl
  refine pure_ (i := 2) (N := some 5) (v := ?_) (a' := ?_) #[Y,Y,Y,J,J,J,J,J,J,J,J,J,J,J,J,J,J,J,J,J,J,J,J,J] rfl rfl (any_of HT_.out (by kernel_rfl)) (fun _ _ _ h => h) (Or.inl ⟨by rfl, ?_⟩) ?_ ?_; rotate_left
  ·intro w'; go_simp; with_reducible rfl
  rotate_left
  ·simp only [pU,pN,sB,sZ,sS,i64_w,i32_w]; rfl
  refine pure_ (i := 5) (N := some 8) (v := ?_) (a' := ?_) #[Y,Y,Y,J,J,Y,J,J,J,J,J,J,J,J,J,J,J,J,J,J,J,J,J,J] rfl rfl (any_of HT_.out (by kernel_rfl)) (fun _ _ _ h => h) (Or.inl ⟨by rfl, ?_⟩) ?_ ?_; rotate_left
  ·intro w'; go_simp; with_reducible rfl
  rotate_left
  ·simp only [pU,pN,sB,sZ,sS,i64_w,i32_w]; rfl
  refine pure_ (i := 6) (N := some 9) (v := ?_) (a' := ?_) #[Y,Y,Y,J,J,Y,Y,J,J,J,J,J,J,J,J,J,J,J,J,J,J,J,J,J] rfl rfl (any_of HT_.out (by kernel_rfl)) (fun _ _ _ h => h) (Or.inl ⟨by rfl, ?_⟩) ?_ ?_; rotate_left
  ·intro w'; go_simp; with_reducible rfl
  rotate_left
  ·simp only [pU,pN,sB,sZ,sS,i64_w,i32_w]; rfl
  refine pure_ (i := 7) (N := some 10) (v := ?_) (a' := ?_) #[Y,Y,Y,J,J,Y,Y,Y,J,J,J,J,J,J,J,J,J,J,J,J,J,J,J,J] rfl rfl (any_of HT_.out (by kernel_rfl)) (fun _ _ _ h => h) (Or.inl ⟨by rfl, ?_⟩) ?_ ?_; rotate_left
  ·intro w'; go_simp; with_reducible rfl
  rotate_left
  ·simp only [pU,pN,sB,sZ,sS,i64_w,i32_w]; rfl
  refine take_ (i := 3) (N := some 6) (v := ?_) (a' := ?_) #[Y,Y,Y,Y,J,Y,Y,Y,J,J,J,J,J,J,J,J,J,J,J,J,J,J,J,J] rfl rfl (take_ofW HT_.out HW_.out (by kernel_rfl)) (fun _ _ _ h => h) (Or.inl ⟨by rfl, ?_⟩) hHeld ?_ ?_; rotate_left
  ·rintro w' ⟨s0, s1⟩; go_simp; with_reducible rfl
  rotate_left
  ·simp only [pU,pN,sB,sZ,sS,i64_w,i32_w]; rfl
  refine pure_ (i := 4) (N := some 7) (v := ?_) (a' := ?_) #[Y,Y,Y,Y,Y,Y,Y,Y,J,J,J,J,J,J,J,J,J,J,J,J,J,J,J,J] rfl rfl (any_of HT_.out (by kernel_rfl)) (fun _ _ _ h => h) (Or.inl ⟨by rfl, ?_⟩) ?_ ?_; rotate_left
  ·intro w'; go_simp; with_reducible rfl
  rotate_left
  ·simp only [pU,pN,sB,sZ,sS,i64_w,i32_w]; rfl
  refine take_ (i := 8) (N := some 11) (v := ?_) (a' := ?_) #[Y,Y,Y,Y,Y,Y,Y,Y,Y,J,J,J,J,J,J,J,J,J,J,J,J,J,J,J] rfl rfl (take_ofW HT_.out HW_.out (by kernel_rfl)) (fun _ _ _ h => h) (Or.inl ⟨by rfl, ?_⟩) hHeld ?_ ?_; rotate_left
  ·rintro w' ⟨s0, s1⟩; go_simp; with_reducible rfl
  rotate_left
  ·simp only [pU,pN,sB,sZ,sS,i64_w,i32_w]; rfl
  refine pure_ (i := 9) (N := some 12) (v := ?_) (a' := ?_) #[Y,Y,Y,Y,Y,Y,Y,Y,Y,Y,J,J,J,J,J,J,J,J,J,J,J,J,J,J] rfl rfl (any_of HT_.out (by kernel_rfl)) (fun _ _ _ h => h) (Or.inl ⟨by rfl, ?_⟩) ?_ ?_; rotate_left
  ·intro w'; go_simp; with_reducible rfl
  rotate_left
  ·simp only [pU,pN,sB,sZ,sS,i64_w,i32_w]; rfl
  refine pure_ (i := 10) (N := some 13) (v := ?_) (a' := ?_) #[Y,Y,Y,Y,Y,Y,Y,Y,Y,Y,Y,J,J,J,J,J,J,J,J,J,J,J,J,J] rfl rfl (any_of HT_.out (by kernel_rfl)) (fun _ _ _ h => h) (Or.inl ⟨by rfl, ?_⟩) ?_ ?_; rotate_left
  ·intro w'; go_simp; with_reducible rfl
  rotate_left
  ·simp only [pU,pN,sB,sZ,sS,i64_w,i32_w]; rfl
  refine pure_ (i := 11) (N := some 14) (v := ?_) (a' := ?_) #[Y,Y,Y,Y,Y,Y,Y,Y,Y,Y,Y,Y,J,J,J,J,J,J,J,J,J,J,J,J] rfl rfl (any_of HT_.out (by kernel_rfl)) (fun _ _ _ h => h) (Or.inl ⟨by rfl, ?_⟩) ?_ ?_; rotate_left
  ·intro w'; go_simp; with_reducible rfl
  rotate_left
  ·simp only [pU,pN,sB,sZ,sS,i64_w,i32_w]; rfl
  refine pure_ (i := 12) (N := some 15) (v := ?_) (a' := ?_) #[Y,Y,Y,Y,Y,Y,Y,Y,Y,Y,Y,Y,Y,J,J,J,J,J,J,J,J,J,J,J] rfl rfl (any_of HT_.out (by kernel_rfl)) (fun _ _ _ h => h) (Or.inl ⟨by rfl, ?_⟩) ?_ ?_; rotate_left
  ·intro w'; go_simp; with_reducible rfl
  rotate_left
  ·simp only [pU,pN,sB,sZ,sS,i64_w,i32_w]; rfl
  refine pure_ (i := 13) (N := some 16) (v := undef) (a' := ?_) #[Y,Y,Y,Y,Y,Y,Y,Y,Y,Y,Y,Y,Y,Y,J,J,J,J,J,J,J,J,J,J] rfl rfl (any_of HT_.out (by kernel_rfl)) (fun _ _ _ h => h) (Or.inr ⟨by rfl, rfl⟩) ?_ ?_; rotate_left
  ·simp only [pU,pN,sB,sZ,sS,i64_w,i32_w]; rfl
  refine pure_ (i := 14) (N := some 17) (v := undef) (a' := ?_) #[Y,Y,Y,Y,Y,Y,Y,Y,Y,Y,Y,Y,Y,Y,Y,J,J,J,J,J,J,J,J,J] rfl rfl (any_of HT_.out (by kernel_rfl)) (fun _ _ _ h => h) (Or.inr ⟨by rfl, rfl⟩) ?_ ?_; rotate_left
  ·simp only [pU,pN,sB,sZ,sS,i64_w,i32_w]; rfl
  refine pure_ (i := 15) (N := some 18) (v := undef) (a' := ?_) #[Y,Y,Y,Y,Y,Y,Y,Y,Y,Y,Y,Y,Y,Y,Y,Y,J,J,J,J,J,J,J,J] rfl rfl (any_of HT_.out (by kernel_rfl)) (fun _ _ _ h => h) (Or.inr ⟨by rfl, rfl⟩) ?_ ?_; rotate_left
  ·simp only [pU,pN,sB,sZ,sS,i64_w,i32_w]; rfl
  refine pure_ (i := 16) (N := some 19) (v := undef) (a' := ?_) #[Y,Y,Y,Y,Y,Y,Y,Y,Y,Y,Y,Y,Y,Y,Y,Y,Y,J,J,J,J,J,J,J] rfl rfl (any_of HT_.out (by kernel_rfl)) (fun _ _ _ h => h) (Or.inr ⟨by rfl, rfl⟩) ?_ ?_; rotate_left
  ·simp only [pU,pN,sB,sZ,sS,i64_w,i32_w]; rfl
  refine pure_ (i := 17) (N := some 20) (v := undef) (a' := ?_) #[Y,Y,Y,Y,Y,Y,Y,Y,Y,Y,Y,Y,Y,Y,Y,Y,Y,Y,J,J,J,J,J,J] rfl rfl (any_of HT_.out (by kernel_rfl)) (fun _ _ _ h => h) (Or.inr ⟨by rfl, rfl⟩) ?_ ?_; rotate_left
  ·simp only [pU,pN,sB,sZ,sS,i64_w,i32_w]; rfl
  refine pure_ (i := 18) (N := some 21) (v := undef) (a' := ?_) #[Y,Y,Y,Y,Y,Y,Y,Y,Y,Y,Y,Y,Y,Y,Y,Y,Y,Y,Y,J,J,J,J,J] rfl rfl (any_of HT_.out (by kernel_rfl)) (fun _ _ _ h => h) (Or.inr ⟨by rfl, rfl⟩) ?_ ?_; rotate_left
  ·simp only [pU,pN,sB,sZ,sS,i64_w,i32_w]; rfl
  refine pure_ (i := 19) (N := some 22) (v := undef) (a' := ?_) #[Y,Y,Y,Y,Y,Y,Y,Y,Y,Y,Y,Y,Y,Y,Y,Y,Y,Y,Y,Y,J,J,J,J] rfl rfl (any_of HT_.out (by kernel_rfl)) (fun _ _ _ h => h) (Or.inr ⟨by rfl, rfl⟩) ?_ ?_; rotate_left
  ·simp only [pU,pN,sB,sZ,sS,i64_w,i32_w]; rfl
  refine pure_ (i := 20) (N := some 23) (v := undef) (a' := ?_) #[Y,Y,Y,Y,Y,Y,Y,Y,Y,Y,Y,Y,Y,Y,Y,Y,Y,Y,Y,Y,Y,J,J,J] rfl rfl (any_of HT_.out (by kernel_rfl)) (fun _ _ _ h => h) (Or.inr ⟨by rfl, rfl⟩) ?_ ?_; rotate_left
  ·simp only [pU,pN,sB,sZ,sS,i64_w,i32_w]; rfl
  refine pure_ (i := 21) (N := some 24) (v := undef) (a' := ?_) #[Y,Y,Y,Y,Y,Y,Y,Y,Y,Y,Y,Y,Y,Y,Y,Y,Y,Y,Y,Y,Y,Y,J,J] rfl rfl (any_of HT_.out (by kernel_rfl)) (fun _ _ _ h => h) (Or.inr ⟨by rfl, rfl⟩) ?_ ?_; rotate_left
  ·simp only [pU,pN,sB,sZ,sS,i64_w,i32_w]; rfl
  refine pure_ (i := 22) (N := some 25) (v := ?_) (a' := ?_) #[Y,Y,Y,Y,Y,Y,Y,Y,Y,Y,Y,Y,Y,Y,Y,Y,Y,Y,Y,Y,Y,Y,Y,J] rfl rfl (any_of HT_.out (by kernel_rfl)) (fun _ _ _ h => h) (Or.inl ⟨by rfl, ?_⟩) ?_ ?_; rotate_left
  ·intro w'; go_simp; with_reducible rfl
  rotate_left
  ·simp only [pU,pN,sB,sZ,sS,i64_w,i32_w]; rfl
  refine pure_ (i := 23) (N := some 2) (v := ?_) (a' := ?_) #[Y,Y,Y,Y,Y,Y,Y,Y,Y,Y,Y,Y,Y,Y,Y,Y,Y,Y,Y,Y,Y,Y,Y,Y] rfl rfl (any_of HT_.out (by kernel_rfl)) (fun _ _ _ h => h) (Or.inl ⟨by rfl, ?_⟩) ?_ ?_; rotate_left
  ·intro w'; go_simp; with_reducible rfl
  rotate_left
  ·simp only [pU,pN,sB,sZ,sS,i64_w,i32_w]; rfl
  refine done_ (done_of HT_.out (by kernel_rfl)) ?_
  try go_wp2
  go_ret
  exact ⟨by first | rfl | (simp [errW_none, errW_some] <;> rfl) | (simp [*, errW_none, errW_some] <;> rfl), by repeat (first | (with_reducible first | exact HB.out|apply wA|apply wN|apply wD |refine wS ?_ GE0.out) | exact HB.out)⟩

/-! ### spec_IsTree: function 23 -/
def spec_IsTree.f (k : Nat) (l0_0 : List Int) (l0_1 : List (S60)) : Option (Bool) := (spec_l04Ok_.f l0_0 l0_1).bind fun t175 => (if t175 = true then ((spec_l04IsTree.f k l0_0 l0_1).bind fun t176 => (some t176)) else (some false))
theorem spec_IsTree.mono : ∀ a0 a1 k, LeO (spec_IsTree.f k a0 a1) (spec_IsTree.f (k + 1) a0 a1) := by
 intro a0 a1 k
 unfold spec_IsTree.f
 repeat' first
   | (with_reducible exact spec_l04IsTree.mono _ _ _)
   | (with_reducible exact LeO.refl _)
   | (with_reducible exact LeO.none _)
   | (with_reducible refine LeO.ite ?_ ?_)
   | (with_reducible refine LeO.bind ?_ (fun _ => ?_))
   | exact spec_l04IsTree.mono _ _ _
   | exact LeO.none _
   | refine LeO.ite ?_ ?_
   | refine LeO.bind ?_ (fun _ => ?_)
set_option maxHeartbeats 8000000 in
set_option maxRecDepth 100000 in
theorem spec_IsTree.calls (k : Nat) (A0_0 : Option Addr) (c0_0 : Nat) (l0_0 : List Int) (A0_1 : Option Addr) (c0_1 : Nat) (l0_1 : List (S60)) (r : Bool) (w : World) (hr0_0 : Kd.C (Kd.int .i64) w A0_0 l0_0.length l0_0) (hc0_0 : l0_0.length ≤ c0_0) (hr0_1 : Kd.C k60 w A0_1 l0_1.length l0_1) (hc0_1 : l0_1.length ≤ c0_1) (h : spec_IsTree.f k l0_0 l0_1 = some r) :
  Calls Try.prog 23 #[.agg #[.slice A0_0 l0_0.length c0_0, .slice A0_1 l0_1.length c0_1]] w fun e w' => e = .returned (.bool r) ∧ Below w.heap.size w w' := by
 have hu31 := Try.underlying31
 have HR0_0 := Aside0.mk hr0_0
 have HC0_0 := Aside0.mk hc0_0
 clear hr0_0 hc0_0
 have HR0_1 := Aside0.mk hr0_1
 have HC0_1 := Aside0.mk hc0_1
 clear hr0_1 hc0_1
 have HB := Aside0.mk (Below.refl w.heap.size w)
 have H : ((spec_l04Ok_.f l0_0 l0_1).bind fun t175 => (if t175 = true then ((spec_l04IsTree.f k l0_0 l0_1).bind fun t176 => (some t176)) else (some false))) = some r := h
 clear h
 replace H := Option.bind_eq_some_iff.mp H
 obtain ⟨t175, A20, H⟩ := H
 replace H : (if t175 = true then ((spec_l04IsTree.f k l0_0 l0_1).bind fun t176 => (some t176)) else (some false)) = some r := H
 have A2 := Aside0.mk A20
 clear A20
 by_cases c3 : t175 = true
 ·subst c3
  have H1 : ((spec_l04IsTree.f k l0_0 l0_1).bind fun t176 => (some t176)) = some r := by rw [if_pos rfl] at H; exact H
  clear H
  have H := H1
  clear H1
  replace H := Option.bind_eq_some_iff.mp H
  obtain ⟨t176, A40, H⟩ := H
  replace H : (some t176) = some r := H
  have A4 := Aside0.mk A40
  clear A40
  obtain rfl := Option.some.inj H
  go_enter Try.func23, Try.ntmps23
  go_wp2_with (first | ((with_reducible refine gate_dst (N := 1) rfl ?_); refine box_event ?hg (N := 1) ?hd (cs := #[.slice A0_0 l0_0.length c0_0, .slice A0_1 l0_1.length c0_1]) (t := 31) ?hr ?_; (case hd => rfl); (case hg => rfl); (case hr => first | (go_simp; done) | (go_simp; rfl)); intro gb174 hg w5 hbox hb; have n0_ := Aside0.mk (below_step (by repeat (first | (with_reducible first | exact HB.out|apply wA|apply wN|apply wD) | exact HB.out)) hb); have n1_ := Aside0.mk (hbox); have n2_ := Aside0.mk ((by rw [hg]; exact (below_size (by repeat (first | (with_reducible first | exact HB.out|apply wA|apply wN|apply wD) | exact HB.out))) : w.heap.size ≤ gb174)); have n3_ := Aside0.mk ((by rw [hg]; exact (below_size (by repeat (first | (with_reducible first | exact HB.out|apply wA|apply wN|apply wD) | exact HB.out))) : w.heap.size ≤ gb174)); clear HB; have HB := n0_; have BK174 := n1_; have GW174 := n2_; have GE174 := n3_; clear n0_ n1_ n2_ n3_; clear hb hbox hg) | ((with_reducible refine gate_callee (f := 46) rfl ?_); refine goesL_ (some 3) rfl rfl Try.func46 (by kernel_rfl) rfl #[.pointer (some ⟨gb174, 0, none⟩)] rfl (by (try simp only [List.map_toArray, List.map_cons, List.map_nil]); first | done | rfl | (simp only [List.length_drop, List.length_take]; rfl)) ?_; (with_reducible refine (spec_l04Ok_.calls gb174 A0_0 c0_0 l0_0 A0_1 c0_1 l0_1 true _ ?side1 ?side2 ?side3 ?side4 ?side5 A2.out).mono ?_); (case side1 => exact (by (with_reducible repeat (first | refine bN ?_ _|refine bW ?_|refine bA ?_ _)); exact BK174.out)); (case side2 => repeat (first | exact (Kd.C_below HR0_0.out HB.out) | (with_reducible first|refine Kd.C_alloc ?_ _|refine Kd.C_drewN ?_ _|refine Kd.C_drew ?_))); (case side3 => exact HC0_0.out); (case side4 => repeat (first | exact (Kd.C_below HR0_1.out HB.out) | (with_reducible first|refine Kd.C_alloc ?_ _|refine Kd.C_drewN ?_ _|refine Kd.C_drew ?_))); (case side5 => exact HC0_1.out); rintro e w' ⟨rfl, ⟨nd, rfl⟩⟩; refine ⟨_, rfl, ?_⟩) | (go_at_call 56; (with_reducible refine (spec_l04IsTree.calls k gb174 A0_0 c0_0 l0_0 A0_1 c0_1 l0_1 t176 _ ?side1 ?side2 ?side3 ?side4 ?side5 A4.out).mono ?_); (case side1 => exact (by (with_reducible repeat (first | refine bN ?_ _|refine bW ?_|refine bA ?_ _)); exact BK174.out)); (case side2 => repeat (first | exact (Kd.C_below HR0_0.out (by repeat (first | (with_reducible first | exact HB.out|apply wA|apply wN|apply wD |refine wS ?_ GE174.out) | exact HB.out))) | (with_reducible first|refine Kd.C_alloc ?_ _|refine Kd.C_drewN ?_ _|refine Kd.C_drew ?_))); (case side3 => exact HC0_0.out); (case side4 => repeat (first | exact (Kd.C_below HR0_1.out (by repeat (first | (with_reducible first | exact HB.out|apply wA|apply wN|apply wD |refine wS ?_ GE174.out) | exact HB.out))) | (with_reducible first|refine Kd.C_alloc ?_ _|refine Kd.C_drewN ?_ _|refine Kd.C_drew ?_))); (case side5 => exact HC0_1.out); rintro e w6 ⟨rfl, hb⟩; have n0_ := Aside0.mk (blk_below (g := gb174) (o := .cells #[.slice A0_0 l0_0.length c0_0, .slice A0_1 l0_1.length c0_1] 31 (0, 0)) (by (with_reducible repeat (first | refine bN ?_ _|refine bW ?_|refine bA ?_ _)); exact BK174.out) hb); have n1_ := Aside0.mk (below_step (by repeat (first | (with_reducible first | exact HB.out|apply wA|apply wN|apply wD |refine wS ?_ GE174.out) | exact HB.out)) hb); clear BK174; clear HB; have BK174 := n0_; have HB := n1_; clear n0_ n1_; (try clear hb); (try clear hb2); (try clear hk); (try clear hi)))
  go_ret
  exact ⟨by first | rfl | (simp [errW_none, errW_some] <;> rfl) | (simp [*, errW_none, errW_some] <;> rfl), by repeat (first | (with_reducible first | exact HB.out|apply wA|apply wN|apply wD |refine wS ?_ GE174.out) | exact HB.out)⟩
 ·replace c3 := Bool.eq_false_iff.mpr c3
  subst c3
  have H1 : (some false) = some r := by rw [if_neg (show ¬ (false = true) by decide)] at H; exact H
  clear H
  have H := H1
  clear H1
  obtain rfl := Option.some.inj H
  go_enter Try.func23, Try.ntmps23
  go_wp2_with (first | ((with_reducible refine gate_dst (N := 1) rfl ?_); refine box_event ?hg (N := 1) ?hd (cs := #[.slice A0_0 l0_0.length c0_0, .slice A0_1 l0_1.length c0_1]) (t := 31) ?hr ?_; (case hd => rfl); (case hg => rfl); (case hr => first | (go_simp; done) | (go_simp; rfl)); intro gb174 hg w7 hbox hb; have n0_ := Aside0.mk (below_step (by repeat (first | (with_reducible first | exact HB.out|apply wA|apply wN|apply wD) | exact HB.out)) hb); have n1_ := Aside0.mk (hbox); have n2_ := Aside0.mk ((by rw [hg]; exact (below_size (by repeat (first | (with_reducible first | exact HB.out|apply wA|apply wN|apply wD) | exact HB.out))) : w.heap.size ≤ gb174)); have n3_ := Aside0.mk ((by rw [hg]; exact (below_size (by repeat (first | (with_reducible first | exact HB.out|apply wA|apply wN|apply wD) | exact HB.out))) : w.heap.size ≤ gb174)); clear HB; have HB := n0_; have BK174 := n1_; have GW174 := n2_; have GE174 := n3_; clear n0_ n1_ n2_ n3_; clear hb hbox hg) | ((with_reducible refine gate_callee (f := 46) rfl ?_); refine goesL_ (some 3) rfl rfl Try.func46 (by kernel_rfl) rfl #[.pointer (some ⟨gb174, 0, none⟩)] rfl (by (try simp only [List.map_toArray, List.map_cons, List.map_nil]); first | done | rfl | (simp only [List.length_drop, List.length_take]; rfl)) ?_; (with_reducible refine (spec_l04Ok_.calls gb174 A0_0 c0_0 l0_0 A0_1 c0_1 l0_1 false _ ?side1 ?side2 ?side3 ?side4 ?side5 A2.out).mono ?_); (case side1 => exact (by (with_reducible repeat (first | refine bN ?_ _|refine bW ?_|refine bA ?_ _)); exact BK174.out)); (case side2 => repeat (first | exact (Kd.C_below HR0_0.out HB.out) | (with_reducible first|refine Kd.C_alloc ?_ _|refine Kd.C_drewN ?_ _|refine Kd.C_drew ?_))); (case side3 => exact HC0_0.out); (case side4 => repeat (first | exact (Kd.C_below HR0_1.out HB.out) | (with_reducible first|refine Kd.C_alloc ?_ _|refine Kd.C_drewN ?_ _|refine Kd.C_drew ?_))); (case side5 => exact HC0_1.out); rintro e w' ⟨rfl, ⟨nd, rfl⟩⟩; refine ⟨_, rfl, ?_⟩))
  go_ret
  exact ⟨by first | rfl | (simp [errW_none, errW_some] <;> rfl) | (simp [*, errW_none, errW_some] <;> rfl), by repeat (first | (with_reducible first | exact HB.out|apply wA|apply wN|apply wD |refine wS ?_ GE174.out) | exact HB.out)⟩

/-! ### impl_within: function 90 -/
def impl_within.f (a0 : Int) (a1 : Int) (a2 : Int) : Option (Bool) := if a0 ≥ a1 then (some (decide (a0 ≤ a2))) else (some false)
set_option maxHeartbeats 8000000 in
set_option maxRecDepth 100000 in
theorem impl_within.calls (a0 : Int) (a1 : Int) (a2 : Int) (r : Bool) (w : World) (h : impl_within.f a0 a1 a2 = some r) :
  Calls Try.prog 90 #[.int .i64 a0, .int .i64 a1, .int .i64 a2] w fun e w' => e = .returned (.bool r) ∧ Drawn0 w w' := by
 have H : (if a0 ≥ a1 then (some (decide (a0 ≤ a2))) else (some false)) = some r := h
 clear h
 by_cases c4 : a0 ≥ a1
 ·rw [if_pos c4] at H
  have c4b0 : decide (a1 ≤ a0) = true := decide_eq_true c4
  clear c4
  obtain rfl := Option.some.inj H
  go_enter Try.func90, Try.ntmps90
  go_wp2
  go_ret
  exact ⟨by first | rfl | (simp; done) | (simp [*]; done), by repeat (first | exact Drawn0.refl _ | apply Drawn0.step)⟩
 ·rw [if_neg c4] at H
  have c4b0 : decide (a1 ≤ a0) = false := decide_eq_false c4
  clear c4
  obtain rfl := Option.some.inj H
  go_enter Try.func90, Try.ntmps90
  go_wp2
  go_ret
  exact ⟨by first | rfl | (simp; done) | (simp [*]; done), by repeat (first | exact Drawn0.refl _ | apply Drawn0.step)⟩

open Go.Proofs.YtcgbagdpedpdpaaM
def impl_within_.f (a0 a1 a2 : Int) : Option Bool := some (decide (a1 ≤ a0 ∧ a0 ≤ a2))
theorem impl_within_.calls (a0 a1 a2 : Int) (r : Bool) (w : World) (h : impl_within_.f a0 a1 a2 = some r) :
    Calls Try.prog 90 #[.int .i64 a0, .int .i64 a1, .int .i64 a2] w fun e w' => e = .returned (.bool r) ∧ Drawn0 w w' :=
  impl_within.calls a0 a1 a2 r w ((in_both a0 a1 a2).trans h)

end Go.Proofs.Ytcgbagdpedpdpaa.PFnExactIsTree
