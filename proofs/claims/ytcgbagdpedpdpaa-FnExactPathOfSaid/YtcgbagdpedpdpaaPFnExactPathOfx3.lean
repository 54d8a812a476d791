-- Printed by a program of this session (wip/hprint.sh: the kit's print with hand-proved contracts put in); not by print.sh itself.
import Derived.Test.YtcgbagdpedpdpaaPFnExactPathOfx0
namespace Go.Proofs.Ytcgbagdpedpdpaa.PFnExactPathOf
open Go.RowKit Go.Proofs.YtcgbagdpedpdpaaW.PrintWords Go.Proofs.YtcgbagdpedpdpaaW.PrintLast Go.Proofs.YtcgbagdpedpdpaaW.PrintMore Go.Proofs.YtcgbagdpedpdpaaM
attribute [local go_sem] max2_int min2_int max_two min_two max_three min_three max_four min_four   -- for this text's walks alone
set_option linter.unusedVariables false
set_option linter.unusedSimpArgs false

/-! ### spec_l04Far: function 86 -/
mutual
def spec_l04Far.l0 : Nat → Int → List Int → Int → List Int → List (S60) → Option (List Int)
 | 0, _, _, _, _, _ => none
 | k + 1, x1, x5, x6, x1000, x1001 => if x6 < (x1000.length : Int) then (if x5.length < 17592186044416 then (spec_l04Far.l0 k x1 (x5 ++ [(-1)]) (wrap64 (x6 + 1)) x1000 x1001) else (none)) else (if 0 ≤ x1 then (if x1 < (x5.length : Int) then (spec_l04Far.l1 k (x5.set (x1 : Int).toNat 0) 0 x1000 x1001) else (none)) else (none))
def spec_l04Far.l1 : Nat → List Int → Int → List Int → List (S60) → Option (List Int)
 | 0, _, _, _, _ => none
 | k + 1, x5, x7, x1000, x1001 => if x7 < (x1000.length : Int) then (spec_l04Far.l2 k x5 x7 0 x1000 x1001) else (some x5)
def spec_l04Far.l2 : Nat → List Int → Int → Int → List Int → List (S60) → Option (List Int)
 | 0, _, _, _, _, _ => none
 | k + 1, x5, x7, x8, x1000, x1001 => if x8 < (x1001.length : Int) then (if 0 ≤ x8 then (if 0 ≤ ((rd_T60 x1001 x8).f1) then (if ((rd_T60 x1001 x8).f1) < (x5.length : Int) then (if (rd x5 ((rd_T60 x1001 x8).f1)) = x7 then (if 0 ≤ ((rd_T60 x1001 x8).f2) then (if ((rd_T60 x1001 x8).f2) < (x5.length : Int) then (spec_l04Far.j3 k x5 x7 x8 ((rd_T60 x1001 x8).f1) ((rd_T60 x1001 x8).f2) (decide ((rd x5 ((rd_T60 x1001 x8).f2)) < 0)) x1000 x1001) else (none)) else (none)) else (spec_l04Far.j3 k x5 x7 x8 ((rd_T60 x1001 x8).f1) ((rd_T60 x1001 x8).f2) false x1000 x1001)) else (none)) else (none)) else (none)) else (spec_l04Far.l1 k x5 (wrap64 (x7 + 1)) x1000 x1001)
def spec_l04Far.j3 : Nat → List Int → Int → Int → Int → Int → Bool → List Int → List (S60) → Option (List Int)
 | 0, _, _, _, _, _, _, _, _ => none
 | k + 1, x5, x7, x8, x9, x10, x73, x1000, x1001 => if x73 = true then (if 0 ≤ x10 then (if x10 < (x5.length : Int) then ((some (x5.set (x10 : Int).toNat (wrap64 (x7 + 1)) : List Int)).bind fun y128 => (if (rd y128 x10) = x7 then (if 0 ≤ x9 then (if x9 < (x5.length : Int) then (if (rd y128 x9) < 0 then (spec_l04Far.l2 k (y128.set (x9 : Int).toNat (wrap64 (x7 + 1))) x7 (wrap64 (x8 + 1)) x1000 x1001) else (spec_l04Far.l2 k y128 x7 (wrap64 (x8 + 1)) x1000 x1001)) else (none)) else (none)) else (spec_l04Far.l2 k y128 x7 (wrap64 (x8 + 1)) x1000 x1001))) else (none)) else (none)) else (if 0 ≤ x10 then (if x10 < (x5.length : Int) then (if (rd x5 x10) = x7 then (if 0 ≤ x9 then (if x9 < (x5.length : Int) then (if (rd x5 x9) < 0 then (spec_l04Far.l2 k (x5.set (x9 : Int).toNat (wrap64 (x7 + 1))) x7 (wrap64 (x8 + 1)) x1000 x1001) else (spec_l04Far.l2 k x5 x7 (wrap64 (x8 + 1)) x1000 x1001)) else (none)) else (none)) else (spec_l04Far.l2 k x5 x7 (wrap64 (x8 + 1)) x1000 x1001)) else (none)) else (none))
end
def spec_l04Far.f (k : Nat) (l0_0 : List Int) (l0_1 : List (S60)) (a1 : Int) : Option (List Int) := spec_l04Far.l0 k a1 (([] : List Int)) 0 l0_0 l0_1
theorem spec_l04Far.mono_l : ∀ k, (∀ y0 y1 y2 y3 y4, LeO (spec_l04Far.l0 k y0 y1 y2 y3 y4) (spec_l04Far.l0 (k + 1) y0 y1 y2 y3 y4)) ∧ (∀ y0 y1 y2 y3, LeO (spec_l04Far.l1 k y0 y1 y2 y3) (spec_l04Far.l1 (k + 1) y0 y1 y2 y3)) ∧ (∀ y0 y1 y2 y3 y4, LeO (spec_l04Far.l2 k y0 y1 y2 y3 y4) (spec_l04Far.l2 (k + 1) y0 y1 y2 y3 y4)) ∧ (∀ y0 y1 y2 y3 y4 y5 y6 y7, LeO (spec_l04Far.j3 k y0 y1 y2 y3 y4 y5 y6 y7) (spec_l04Far.j3 (k + 1) y0 y1 y2 y3 y4 y5 y6 y7))
 | 0 => ⟨fun _ _ _ _ _ r h => by simp [spec_l04Far.l0] at h, fun _ _ _ _ r h => by simp [spec_l04Far.l1] at h, fun _ _ _ _ _ r h => by simp [spec_l04Far.l2] at h, fun _ _ _ _ _ _ _ _ r h => by simp [spec_l04Far.j3] at h⟩
 | k + 1 => by
  obtain ⟨ih0, ih1, ih2, ih3⟩ := spec_l04Far.mono_l k
  refine ⟨?_, ?_, ?_, ?_⟩
  ·intro y0 y1 y2 y3 y4
   unfold spec_l04Far.l0
   repeat' first
   | (with_reducible exact ih0 _ _ _ _ _)
   | (with_reducible exact ih1 _ _ _ _)
   | (with_reducible exact ih2 _ _ _ _ _)
   | (with_reducible exact ih3 _ _ _ _ _ _ _ _)
   | (with_reducible exact LeO.refl _)
   | (with_reducible exact LeO.none _)
   | (with_reducible refine LeO.ite ?_ ?_)
   | (with_reducible refine LeO.bind ?_ (fun _ => ?_))
   | exact ih0 _ _ _ _ _
   | exact ih1 _ _ _ _
   | exact ih2 _ _ _ _ _
   | exact ih3 _ _ _ _ _ _ _ _
   | exact LeO.none _
   | refine LeO.ite ?_ ?_
   | refine LeO.bind ?_ (fun _ => ?_)
  ·intro y0 y1 y2 y3
   unfold spec_l04Far.l1
   repeat' first
   | (with_reducible exact ih0 _ _ _ _ _)
   | (with_reducible exact ih1 _ _ _ _)
   | (with_reducible exact ih2 _ _ _ _ _)
   | (with_reducible exact ih3 _ _ _ _ _ _ _ _)
   | (with_reducible exact LeO.refl _)
   | (with_reducible exact LeO.none _)
   | (with_reducible refine LeO.ite ?_ ?_)
   | (with_reducible refine LeO.bind ?_ (fun _ => ?_))
   | exact ih0 _ _ _ _ _
   | exact ih1 _ _ _ _
   | exact ih2 _ _ _ _ _
   | exact ih3 _ _ _ _ _ _ _ _
   | exact LeO.none _
   | refine LeO.ite ?_ ?_
   | refine LeO.bind ?_ (fun _ => ?_)
  ·intro y0 y1 y2 y3 y4
   unfold spec_l04Far.l2
   repeat' first
   | (with_reducible exact ih0 _ _ _ _ _)
   | (with_reducible exact ih1 _ _ _ _)
   | (with_reducible exact ih2 _ _ _ _ _)
   | (with_reducible exact ih3 _ _ _ _ _ _ _ _)
   | (with_reducible exact LeO.refl _)
   | (with_reducible exact LeO.none _)
   | (with_reducible refine LeO.ite ?_ ?_)
   | (with_reducible refine LeO.bind ?_ (fun _ => ?_))
   | exact ih0 _ _ _ _ _
   | exact ih1 _ _ _ _
   | exact ih2 _ _ _ _ _
   | exact ih3 _ _ _ _ _ _ _ _
   | exact LeO.none _
   | refine LeO.ite ?_ ?_
   | refine LeO.bind ?_ (fun _ => ?_)
  ·intro y0 y1 y2 y3 y4 y5 y6 y7
   unfold spec_l04Far.j3
   repeat' first
   | (with_reducible exact ih0 _ _ _ _ _)
   | (with_reducible exact ih1 _ _ _ _)
   | (with_reducible exact ih2 _ _ _ _ _)
   | (with_reducible exact ih3 _ _ _ _ _ _ _ _)
   | (with_reducible exact LeO.refl _)
   | (with_reducible exact LeO.none _)
   | (with_reducible refine LeO.ite ?_ ?_)
   | (with_reducible refine LeO.bind ?_ (fun _ => ?_))
   | exact ih0 _ _ _ _ _
   | exact ih1 _ _ _ _
   | exact ih2 _ _ _ _ _
   | exact ih3 _ _ _ _ _ _ _ _
   | exact LeO.none _
   | refine LeO.ite ?_ ?_
   | refine LeO.bind ?_ (fun _ => ?_)
theorem spec_l04Far.mono : ∀ a0 a1 a2 k, LeO (spec_l04Far.f k a0 a1 a2) (spec_l04Far.f (k + 1) a0 a1 a2) := by
 intro a0 a1 a2 k
 obtain ⟨ih0, ih1, ih2, ih3⟩ := spec_l04Far.mono_l k
 unfold spec_l04Far.f
 repeat' first
   | (with_reducible exact ih0 _ _ _ _ _)
   | (with_reducible exact ih1 _ _ _ _)
   | (with_reducible exact ih2 _ _ _ _ _)
   | (with_reducible exact ih3 _ _ _ _ _ _ _ _)
   | (with_reducible exact LeO.refl _)
   | (with_reducible exact LeO.none _)
   | (with_reducible refine LeO.ite ?_ ?_)
   | (with_reducible refine LeO.bind ?_ (fun _ => ?_))
   | exact ih0 _ _ _ _ _
   | exact ih1 _ _ _ _
   | exact ih2 _ _ _ _ _
   | exact ih3 _ _ _ _ _ _ _ _
   | exact LeO.none _
   | refine LeO.ite ?_ ?_
   | refine LeO.bind ?_ (fun _ => ?_)
set_option maxHeartbeats 8000000 in
set_option maxRecDepth 100000 in
theorem spec_l04Far.calls (k : Nat) (gr0 : Nat) (A0_0 : Option Addr) (c0_0 : Nat) (l0_0 : List Int) (A0_1 : Option Addr) (c0_1 : Nat) (l0_1 : List (S60)) (a1 : Int) (r : List Int) (w : World) (hb0 : w.heap[gr0]? = some (.cells #[.slice A0_0 l0_0.length c0_0, .slice A0_1 l0_1.length c0_1] 31 (0, 0))) (hr0_0 : Kd.C (Kd.int .i64) w A0_0 l0_0.length l0_0) (hc0_0 : l0_0.length ≤ c0_0) (hr0_1 : Kd.C k60 w A0_1 l0_1.length l0_1) (hc0_1 : l0_1.length ≤ c0_1) (h : spec_l04Far.f k l0_0 l0_1 a1 = some r) :
  Calls Try.prog 86 #[.pointer (some ⟨gr0, 0, none⟩), .int .i64 a1] w fun e w' => ∃ v0_ : Value, e = .returned (v0_) ∧ Kd.R (Kd.int .i64) 2 w' w.heap.size (fun _ => True) v0_ r ∧ Below w.heap.size w w' := by
 have HR0_0 := Aside0.mk hr0_0
 have HC0_0 := Aside0.mk hc0_0
 clear hr0_0 hc0_0
 have HR0_1 := Aside0.mk hr0_1
 have HC0_1 := Aside0.mk hc0_1
 clear hr0_1 hc0_1
 have BK0 := Aside0.mk hb0
 clear hb0
 have HB := Aside0.mk (Below.refl w.heap.size w)
 have H : (spec_l04Far.l0 k a1 (([] : List Int)) 0 l0_0 l0_1) = some r := h
 clear h
 obtain ⟨y117, hy117⟩ : ∃ y_ : List Int, y_ = (([] : List Int)) := ⟨_, rfl⟩
 replace H : (spec_l04Far.l0 k a1 y117 0 l0_0 l0_1) = some r := by first | (rw [hy117]; with_reducible exact H) | (have H2_ := (Option.bind_some _ _).symm.trans H; rw [hy117]; with_reducible exact H2_) | (have H2_ := (Option.bind_some _ _).symm.trans H; with_reducible exact H2_) | with_reducible exact H | (rw [hy117]; exact H) | exact H
 have Ny117 := Aside0.mk hy117
 clear hy117
 have H' := Aside0.mk H
 clear H
 go_enter Try.func86, Try.ntmps86
 go_wp2_with (first | ((with_reducible refine gate_dst (N := 11) rfl ?_); refine Kd.R_lit (Kd.int .i64) _ 2 ?hg (N := 11) ?hd (xs := ([] : List Int)) (inner := []) (ok := fun _ => True) (okp := fun _ => True) ?hr ?hp (fun _ hk => hk) trivial (Below.refl _ _) (Nat.le_refl _) (by simp) ?_; (case hd => rfl); (case hg => rfl); (case hr => first | (go_simp; done) | (go_simp; rfl)); (case hp => exact (Reps.none _ _)); intro v118 w3 ho4 hb hg_ hnew_; clear hg_ hnew_; (first | rw [← Ny117.out] at ho4 | (simp only [Int.reduceToNat] at ho4; rw [← Ny117.out] at ho4)); have n0_ := Aside0.mk (Kd.R_lower ho4 (below_size (by repeat (first | (with_reducible first | exact HB.out|apply wA|apply wN|apply wD |refine wS ?_ GE0.out) | exact HB.out)))); have n1_ := Aside0.mk (blk_below (g := gr0) (o := .cells #[.slice A0_0 l0_0.length c0_0, .slice A0_1 l0_1.length c0_1] 31 (0, 0)) (by (with_reducible repeat (first | refine bN ?_ _|refine bW ?_|refine bA ?_ _)); exact BK0.out) hb); have n2_ := Aside0.mk (below_step (by repeat (first | (with_reducible first | exact HB.out|apply wA|apply wN|apply wD |refine wS ?_ GE0.out) | exact HB.out)) hb); clear BK0; clear HB; have HO119 := n0_; have BK0 := n1_; have HB := n2_; clear n0_ n1_ n2_; clear hb ho4))
 go_loopg [5, 6] k (fun kq v5 v6 w' => ∃ (x5_1 : List Int) (x6_1 : Int), v6 = .int .i64 x6_1 ∧ Aside0 (spec_l04Far.l0 kq a1 x5_1 x6_1 l0_0 l0_1 = some r) ∧ Aside0 (kq ≤ k) ∧ Aside0 (Kd.R (Kd.int .i64) 2 w' w.heap.size (fun _ => True) v5 x5_1) ∧ Aside0 (w'.heap[gr0]? = some (.cells #[(.slice A0_0 l0_0.length c0_0), (.slice A0_1 l0_1.length c0_1)] 31 (0, 0))) ∧ Aside0 (Below w.heap.size w w'))
 case atStart => exact ⟨(y117), (0), (by first | rfl | (simp; done) | (simp [*]; done)), H', ⟨Nat.le_refl _⟩, ⟨by (with_reducible repeat (first | apply rA|apply rN|apply rW)); exact HO119.out⟩, ⟨by (with_reducible repeat (first | refine bN ?_ _|refine bW ?_|refine bA ?_ _)); exact BK0.out⟩, ⟨by repeat (first | (with_reducible first | exact HB.out|apply wA|apply wN|apply wD |refine wS ?_ GE0.out) | exact HB.out)⟩⟩
 case round =>
  clear H'
  try clear p2
  obtain ⟨x5_1, x6_1, rfl, HA, HK1, HO_5, BK0, HB⟩ := hrel
  cases gk with
  | zero => exact absurd HA.out (by simp [spec_l04Far.l0])
  | succ k1 =>
   have H := HA.out
   clear HA
   simp only [spec_l04Far.l0] at H
   by_cases c5 : x6_1 < (l0_0.length : Int)
   ·rw [if_pos c5] at H
    have c5b0 : decide (x6_1 < (l0_0.length : Int)) = true := decide_eq_true c5
    clear c5
    by_cases c6 : x5_1.length < 17592186044416
    ·rw [if_pos c6] at H
     have LMc6 := Aside0.mk c6
     clear c6
     obtain ⟨y120, hy120⟩ : ∃ y_ : List Int, y_ = (x5_1 ++ [(-1)]) := ⟨_, rfl⟩
     replace H : (spec_l04Far.l0 k1 a1 y120 (wrap64 (x6_1 + 1)) l0_0 l0_1) = some r := by first | (rw [hy120]; with_reducible exact H) | (have H2_ := (Option.bind_some _ _).symm.trans H; rw [hy120]; with_reducible exact H2_) | (have H2_ := (Option.bind_some _ _).symm.trans H; with_reducible exact H2_) | with_reducible exact H | (rw [hy120]; exact H) | exact H
     have Ny120 := Aside0.mk hy120
     clear hy120
     have H' := Aside0.mk H
     clear H
     have hcz7_0 : wr.cell? ⟨gr0, 0, none⟩ = some (.slice A0_0 l0_0.length c0_0) := (blk_cell BK0.out 0).trans rfl
     have hcz7_1 : wr.cell? ⟨gr0, 1, none⟩ = some (.slice A0_1 l0_1.length c0_1) := (blk_cell BK0.out 1).trans rfl
     have hfz7_0 := blk_frozen BK0.out 0
     have hfz7_1 := blk_frozen BK0.out 1
     go_wp2_with (first | ((with_reducible refine gate_builtin (b := .append) (xs := #[.tmp 21, .tmp 22]) rfl ?_); at_builtin; refine Kd.R_append (Kd.int .i64) (w0 := w) w.heap.size rfl (.tmp 21) (.tmp 22) 22 2 (.int .i64 0) 8 rfl Try.underlying22 info2 rfl (by decide) (by omega) u5 x5_1 (-1) [.int .i64 (-1)] (fun _ => True) (fun _ => False) rfl rfl ?aP (fun _ hk => hk.elim) ?aF ?aO ?aB ?aS ?aL ?_; (case aP => exact rfl); (case aB => exact (by repeat (first | (with_reducible first | exact HB.out|apply wA|apply wN|apply wD |refine wS ?_ GE0.out) | exact HB.out))); (case aF => exact (fun _ _ => trivial)); (case aO => exact (by (with_reducible repeat (first | apply rA|apply rN|apply rW)); exact HO_5.out)); (case aS => exact (below_size (by repeat (first | (with_reducible first | exact HB.out|apply wA|apply wN|apply wD |refine wS ?_ GE0.out) | exact HB.out)))); (case aL => have := LMc6.out; omega); intro v121 w8 ho hb hg hat; rw [← Ny120.out] at ho; have n0_ := Aside0.mk (blk_grown (g := gr0) (o := .cells #[.slice A0_0 l0_0.length c0_0, .slice A0_1 l0_1.length c0_1] 31 (0, 0)) (by (with_reducible repeat (first | refine bN ?_ _|refine bW ?_|refine bA ?_ _)); exact BK0.out) hg (Kd.R_ne HO_5.out BK0.out (by decide))); have n1_ := Aside0.mk (hb); have n2_ := Aside0.mk (ho); clear BK0; clear HB; clear HO_5; have BK0 := n0_; have HB := n1_; have HO122 := n2_; clear n0_ n1_ n2_; clear ho hb hg hat))
     go_roundg k1
     case measure => have := HK1.out; omega
     case rel => exact ⟨(y120), (wrap64 (x6_1 + 1)), (by first | rfl | (simp; done) | (simp [*]; done)), H', ⟨by have := HK1.out; omega⟩, ⟨by (with_reducible repeat (first | apply rA|apply rN|apply rW)); exact HO122.out⟩, ⟨by (with_reducible repeat (first | refine bN ?_ _|refine bW ?_|refine bA ?_ _)); exact BK0.out⟩, ⟨by repeat (first | (with_reducible first | exact HB.out|apply wA|apply wN|apply wD |refine wS ?_ GE0.out) | exact HB.out)⟩⟩
    ·rw [if_neg c6] at H
     exact absurd H (by simp)
   ·rw [if_neg c5] at H
    have c5b0 : decide (x6_1 < (l0_0.length : Int)) = false := decide_eq_false c5
    clear c5
    by_cases c9 : 0 ≤ a1
    ·rw [if_pos c9] at H
     have c9b0 : decide (0 ≤ a1) = true := decide_eq_true c9
     clear c9
     by_cases c10 : a1 < (x5_1.length : Int)
     ·rw [if_pos c10] at H
      have c10b0 : decide (a1 < (x5_1.length : Int)) = true := decide_eq_true c10
      clear c10
      obtain ⟨y123, hy123⟩ : ∃ y_ : List Int, y_ = (x5_1.set (a1 : Int).toNat 0) := ⟨_, rfl⟩
      replace H : (spec_l04Far.l1 k1 y123 0 l0_0 l0_1) = some r := by first | (rw [hy123]; with_reducible exact H) | (have H2_ := (Option.bind_some _ _).symm.trans H; rw [hy123]; with_reducible exact H2_) | (have H2_ := (Option.bind_some _ _).symm.trans H; with_reducible exact H2_) | with_reducible exact H | (rw [hy123]; exact H) | exact H
      have Ny123 := Aside0.mk hy123
      clear hy123
      have H' := Aside0.mk H
      clear H
      have hcz12_0 : wr.cell? ⟨gr0, 0, none⟩ = some (.slice A0_0 l0_0.length c0_0) := (blk_cell BK0.out 0).trans rfl
      have hcz12_1 : wr.cell? ⟨gr0, 1, none⟩ = some (.slice A0_1 l0_1.length c0_1) := (blk_cell BK0.out 1).trans rfl
      have hfz12_0 := blk_frozen BK0.out 0
      have hfz12_1 := blk_frozen BK0.out 1
      have p11 : 0 ≤ (a1 : Int) := of_decide_eq_true (by first | (with_reducible assumption) | assumption)
      have q11 : (a1 : Int) < ((x5_1.length : Int) : Int) := of_decide_eq_true (by first | (with_reducible assumption) | assumption)
      obtain ⟨go11, co11, eo11, gb11, gl11, cl11, HG11⟩ := Kd.R_form HO_5.out (by omega)
      (first | cases eo11 | (injection eo11 with ea_ en_ ec_; (first | subst ea_ | (injection ea_ with ea_; subst ea_)); subst ec_; clear en_))
      have GB11 := Aside0.mk gb11
      have GG11 := Aside0.mk HG11
      clear gb11 gl11 HG11
      obtain ⟨hx11_0, hf11_0⟩ := Kd.R_celln 0 HO_5.out (a1 : Int) p11 q11
      replace p11 := eq_true p11
      replace q11 := eq_true q11
      have HP13 := Kd.R_putg HO_5.out (a1 : Int) 0
      go_wp2_with (first | ((with_reducible refine gate_store (t := 2) (p := 26) rfl ?_); refine store_event (t := 2) (p := 26) (v := ?vo_w14) (w1 := (wr.setCell ⟨go11, (a1 : Int).toNat, none⟩ (.int .i64 0))) ?hg ?ho ?hn ?hr ?_; (case ho => rfl); (case hg => rfl); (case hn => rfl); (case hr => first | (go_simp; done) | (go_simp; rfl)); intro w14 hw; have hg : wr.grownBy w14 (some go11) := (by rw [hw]; exact HP13.2); have hp_ : Kd.R (Kd.int .i64) 2 w14 w.heap.size (fun _ => True) (.slice (some ⟨go11, 0, none⟩) x5_1.length co11) y123 := (by rw [hw, Ny123.out]; exact HP13.1); clear HP13; have n0_ := Aside0.mk (hp_); have n1_ := Aside0.mk (blk_grown (g := gr0) (o := .cells #[.slice A0_0 l0_0.length c0_0, .slice A0_1 l0_1.length c0_1] 31 (0, 0)) (by (with_reducible repeat (first | refine bN ?_ _|refine bW ?_|refine bA ?_ _)); exact BK0.out) hg (Kd.R_ne HO_5.out BK0.out (by decide))); have n2_ := Aside0.mk ((by rw [hw]; exact below_set (HB.out) GB11.out : Below w.heap.size w w14)); clear HO_5; clear BK0; clear HB; have HO_5 := n0_; have BK0 := n1_; have HB := n2_; clear n0_ n1_ n2_; clear hg hw hp_))
      go_loopg [7] k1 (fun kq v7 w' => ∃ (x5_2 : List Int) (x7_2 : Int), v7 = .int .i64 x7_2 ∧ Aside0 (spec_l04Far.l1 kq x5_2 x7_2 l0_0 l0_1 = some r) ∧ Aside0 (kq ≤ k1) ∧ Aside0 (Kd.R (Kd.int .i64) 2 w' w.heap.size (fun _ => True) (.slice (some ⟨go11, 0, none⟩) x5_1.length co11) x5_2) ∧ Aside0 (w'.heap[gr0]? = some (.cells #[(.slice A0_0 l0_0.length c0_0), (.slice A0_1 l0_1.length c0_1)] 31 (0, 0))) ∧ Aside0 (Below w.heap.size w w'))
      case atStart => exact ⟨(y123), (0), (by first | rfl | (simp; done) | (simp [*]; done)), H', ⟨Nat.le_refl _⟩, ⟨by (with_reducible repeat (first | apply rA|apply rN|apply rW)); exact HO_5.out⟩, ⟨by (with_reducible repeat (first | refine bN ?_ _|refine bW ?_|refine bA ?_ _)); exact BK0.out⟩, ⟨by repeat (first | (with_reducible first | exact HB.out|apply wA|apply wN|apply wD |refine wS ?_ GE0.out) | exact HB.out)⟩⟩
      case round =>
       clear H'
       try clear c1
       try clear p1
       try clear q1
       try clear hx1
       try clear p2
       try clear c5
       try clear c5b0
       try clear c6
       try clear p6
       try clear c8
       try clear c9
       try clear c9b0
       try clear c10
       try clear c10b0
       try clear p11
       try clear q11
       try clear hx11
       try clear hf11
       try clear hcz12_0
       try clear hcz12_1
       try clear hcz7_0
       try clear hcz7_1
       try clear hfz12_0
       try clear hfz12_1
       try clear hfz7_0
       try clear hfz7_1
       try clear hx11_0
       try clear p11
       try clear p2
       try clear q11
       obtain ⟨x5_2, x7_2, rfl, HA, HK2, HO_5, BK0, HB⟩ := hrel
       have hl5_2 := (Kd.R_reads' HO_5.out).1
       rw [hl5_2] at HO_5
       (try simp only [hl5_2])
       (try simp only [hl5_2] at BK0)
       cases gk with
       | zero => exact absurd HA.out (by simp [spec_l04Far.l1])
       | succ k2 =>
        have H := HA.out
        clear HA
        simp only [spec_l04Far.l1] at H
        by_cases c15 : x7_2 < (l0_0.length : Int)
        ·rw [if_pos c15] at H
         have c15b0 : decide (x7_2 < (l0_0.length : Int)) = true := decide_eq_true c15
         (try simp only [hl5_2] at c15b0)
         clear c15
         have H' := Aside0.mk H
         clear H
         have hcz16_0 : wr.cell? ⟨gr0, 0, none⟩ = some (.slice A0_0 l0_0.length c0_0) := (blk_cell BK0.out 0).trans rfl
         have hcz16_1 : wr.cell? ⟨gr0, 1, none⟩ = some (.slice A0_1 l0_1.length c0_1) := (blk_cell BK0.out 1).trans rfl
         have hfz16_0 := blk_frozen BK0.out 0
         have hfz16_1 := blk_frozen BK0.out 1
         go_wp2
         go_loopg [8] k2 (fun kq v8 w' => ∃ (x5_3 : List Int) (x8_3 : Int), v8 = .int .i64 x8_3 ∧ Aside0 (spec_l04Far.l2 kq x5_3 x7_2 x8_3 l0_0 l0_1 = some r) ∧ Aside0 (kq ≤ k2) ∧ Aside0 (Kd.R (Kd.int .i64) 2 w' w.heap.size (fun _ => True) (.slice (some ⟨go11, 0, none⟩) x5_2.length co11) x5_3) ∧ Aside0 (w'.heap[gr0]? = some (.cells #[(.slice A0_0 l0_0.length c0_0), (.slice A0_1 l0_1.length c0_1)] 31 (0, 0))) ∧ Aside0 (Below w.heap.size w w'))
         case atStart => exact ⟨(x5_2), (0), (by first | rfl | (simp; done) | (simp [*]; done)), H', ⟨Nat.le_refl _⟩, ⟨by (try simp only [hl5_2]); (with_reducible repeat (first | apply rA|apply rN|apply rW)); exact HO_5.out⟩, ⟨by (try simp only [hl5_2]); (with_reducible repeat (first | refine bN ?_ _|refine bW ?_|refine bA ?_ _)); exact BK0.out⟩, ⟨by repeat (first | (with_reducible first | exact HB.out|apply wA|apply wN|apply wD |refine wS ?_ GE0.out) | exact HB.out)⟩⟩
         case round =>
          clear H'
          try clear c1
          try clear p1
          try clear q1
          try clear hx1
          try clear p2
          try clear c5
          try clear c5b0
          try clear c6
          try clear p6
          try clear c8
          try clear c9
          try clear c9b0
          try clear c10
          try clear c10b0
          try clear p11
          try clear q11
          try clear hx11
          try clear hf11
          try clear c15
          try clear c15b0
          try clear hcz12_0
          try clear hcz12_1
          try clear hcz16_0
          try clear hcz16_1
          try clear hcz7_0
          try clear hcz7_1
          try clear hfz12_0
          try clear hfz12_1
          try clear hfz16_0
          try clear hfz16_1
          try clear hfz7_0
          try clear hfz7_1
          try clear hx11_0
          try clear p1
          try clear p11
          try clear p2
          try clear p6
          try clear q1
          try clear q11
          obtain ⟨x5_3, x8_3, rfl, HA, HK3, HO_5, BK0, HB⟩ := hrel
          have hl5_3 := (Kd.R_reads' HO_5.out).1
          rw [hl5_3] at HO_5
          (try simp only [hl5_3])
          (try simp only [hl5_3] at BK0)
          cases gk with
          | zero => exact absurd HA.out (by simp [spec_l04Far.l2])
          | succ k3 =>
           have H := HA.out
           clear HA
           simp only [spec_l04Far.l2] at H
           by_cases c17 : x8_3 < (l0_1.length : Int)
           ·rw [if_pos c17] at H
            have c17b0 : decide (x8_3 < (l0_1.length : Int)) = true := decide_eq_true c17
            (try simp only [hl5_2] at c17b0)
            (try simp only [hl5_3] at c17b0)
            clear c17
            by_cases c18 : 0 ≤ x8_3
            ·rw [if_pos c18] at H
             have c18b0 : decide (0 ≤ x8_3) = true := decide_eq_true c18
             clear c18
             have HC19 := Aside0.mk H
             clear H
             have hcz20_0 : wr.cell? ⟨gr0, 0, none⟩ = some (.slice A0_0 l0_0.length c0_0) := (blk_cell BK0.out 0).trans rfl
             have hcz20_1 : wr.cell? ⟨gr0, 1, none⟩ = some (.slice A0_1 l0_1.length c0_1) := (blk_cell BK0.out 1).trans rfl
             have hfz20_0 := blk_frozen BK0.out 0
             have hfz20_1 := blk_frozen BK0.out 1
             have p124 : 0 ≤ (x8_3 : Int) := of_decide_eq_true (by first | (with_reducible assumption) | assumption)
             have q124 : x8_3 < (l0_1.length : Int) := of_decide_eq_true (by first | (with_reducible assumption) | assumption)
             obtain ⟨ad124, e124, hx124_0, hx124_1, hx124_2, hx124_3, hx124_4, hx124_5⟩ := at_T60 HR0_1.out x8_3 p124 q124
             cases e124
             replace hx124_0 := (HB.out.cell (World.block_lt_of_cell? w _ hx124_0)).trans hx124_0
             replace hx124_1 := (HB.out.cell (World.block_lt_of_cell? w _ hx124_1)).trans hx124_1
             replace hx124_2 := (HB.out.cell (World.block_lt_of_cell? w _ hx124_2)).trans hx124_2
             replace hx124_3 := (HB.out.cell (World.block_lt_of_cell? w _ hx124_3)).trans hx124_3
             replace hx124_4 := (HB.out.cell (World.block_lt_of_cell? w _ hx124_4)).trans hx124_4
             replace hx124_5 := (HB.out.cell (World.block_lt_of_cell? w _ hx124_5)).trans hx124_5
             replace p124 := eq_true p124
             replace q124 := eq_true q124
             have p125 : 0 ≤ (x8_3 : Int) := of_decide_eq_true (by first | (with_reducible assumption) | assumption)
             have q125 : x8_3 < (l0_1.length : Int) := of_decide_eq_true (by first | (with_reducible assumption) | assumption)
             obtain ⟨ad125, e125, hx125_0, hx125_1, hx125_2, hx125_3, hx125_4, hx125_5⟩ := at_T60 HR0_1.out x8_3 p125 q125
             obtain rfl : ad124 = ad125 := (by injection e125)
             replace hx125_0 := (HB.out.cell (World.block_lt_of_cell? w _ hx125_0)).trans hx125_0
             replace hx125_1 := (HB.out.cell (World.block_lt_of_cell? w _ hx125_1)).trans hx125_1
             replace hx125_2 := (HB.out.cell (World.block_lt_of_cell? w _ hx125_2)).trans hx125_2
             replace hx125_3 := (HB.out.cell (World.block_lt_of_cell? w _ hx125_3)).trans hx125_3
             replace hx125_4 := (HB.out.cell (World.block_lt_of_cell? w _ hx125_4)).trans hx125_4
             replace hx125_5 := (HB.out.cell (World.block_lt_of_cell? w _ hx125_5)).trans hx125_5
             replace p125 := eq_true p125
             replace q125 := eq_true q125
             go_upto_region 15 with (fail)
             go_cut [73] (fun v73 wc => ∃ (kq : Nat) (x73_18 : Bool), v73 = .bool x73_18 ∧ Aside0 (spec_l04Far.j3 kq x5_3 x7_2 x8_3 ((rd_T60 l0_1 x8_3).f1) ((rd_T60 l0_1 x8_3).f2) x73_18 l0_0 l0_1 = some r) ∧ Aside0 (kq ≤ k3) ∧ Aside0 (Kd.R (Kd.int .i64) 2 wc w.heap.size (fun _ => True) (.slice (some ⟨go11, 0, none⟩) x5_3.length co11) x5_3) ∧ Aside0 (wc.heap[gr0]? = some (.cells #[(.slice A0_0 l0_0.length c0_0), (.slice (some ad124) l0_1.length c0_1)] 31 (0, 0))) ∧ Aside0 (Below w.heap.size w wc))
             case first =>
              have H := HC19.out
              clear HC19
              by_cases c21 : 0 ≤ ((rd_T60 l0_1 x8_3).f1)
              ·rw [if_pos c21] at H
               have c21b0 : decide (0 ≤ ((rd_T60 l0_1 x8_3).f1)) = true := decide_eq_true c21
               clear c21
               (first | rw [c21b0] | (simp only [i64_w, i32_w]; rw [c21b0]) | rw [c21b2] | skip)
               by_cases c22 : ((rd_T60 l0_1 x8_3).f1) < (x5_3.length : Int)
               ·rw [if_pos c22] at H
                have c22b0 : decide (((rd_T60 l0_1 x8_3).f1) < (x5_3.length : Int)) = true := decide_eq_true c22
                (try simp only [hl5_2] at c22b0)
                (try simp only [hl5_3] at c22b0)
                clear c22
                by_cases c23 : (rd x5_3 ((rd_T60 l0_1 x8_3).f1)) = x7_2
                ·rw [if_pos c23] at H
                 have c23b0 : ((rd x5_3 ((rd_T60 l0_1 x8_3).f1)) == x7_2) = true := beq_iff_eq.mpr c23
                 have c23b1 : ((rd x5_3 ((rd_T60 l0_1 x8_3).f1)) != x7_2) = false := bne_eq_false_iff_eq.mpr c23
                 clear c23
                 by_cases c24 : 0 ≤ ((rd_T60 l0_1 x8_3).f2)
                 ·rw [if_pos c24] at H
                  have c24b0 : decide (0 ≤ ((rd_T60 l0_1 x8_3).f2)) = true := decide_eq_true c24
                  clear c24
                  by_cases c25 : ((rd_T60 l0_1 x8_3).f2) < (x5_3.length : Int)
                  ·rw [if_pos c25] at H
                   have c25b0 : decide (((rd_T60 l0_1 x8_3).f2) < (x5_3.length : Int)) = true := decide_eq_true c25
                   (try simp only [hl5_2] at c25b0)
                   (try simp only [hl5_3] at c25b0)
                   clear c25
                   have H' := Aside0.mk H
                   clear H
                   have p126 : 0 ≤ (((rd_T60 l0_1 x8_3).f1) : Int) := of_decide_eq_true (by first | (with_reducible assumption) | assumption)
                   have q126 : ((rd_T60 l0_1 x8_3).f1) < (x5_3.length : Int) := of_decide_eq_true (by first | (with_reducible assumption) | assumption)
                   obtain ⟨ad126, e126, hx126_0⟩ := Kd.at_int (Kd.R_reads' HO_5.out).2.2 ((rd_T60 l0_1 x8_3).f1) p126 q126
                   obtain rfl : (⟨go11, 0, none⟩ : Addr) = ad126 := (by injection e126)
                   (first | simp only [add_plain] at hx126_0 | simp only [add_at] at hx126_0 | simp only [Addr.add, Nat.zero_add] at hx126_0 | skip)
                   replace p126 := eq_true p126
                   replace q126 := eq_true q126
                   have p127 : 0 ≤ (((rd_T60 l0_1 x8_3).f2) : Int) := of_decide_eq_true (by first | (with_reducible assumption) | assumption)
                   have q127 : ((rd_T60 l0_1 x8_3).f2) < (x5_3.length : Int) := of_decide_eq_true (by first | (with_reducible assumption) | assumption)
                   obtain ⟨ad127, e127, hx127_0⟩ := Kd.at_int (Kd.R_reads' HO_5.out).2.2 ((rd_T60 l0_1 x8_3).f2) p127 q127
                   obtain rfl : (⟨go11, 0, none⟩ : Addr) = ad127 := (by injection e127)
                   (first | simp only [add_plain] at hx127_0 | simp only [add_at] at hx127_0 | simp only [Addr.add, Nat.zero_add] at hx127_0 | skip)
                   replace p127 := eq_true p127
                   replace q127 := eq_true q127
                   go_wp2
                   go_meet
                   case rel => exact ⟨_, (decide ((rd x5_3 ((rd_T60 l0_1 x8_3).f2)) < 0)), (by first | rfl | (simp; done) | (simp [*]; done)), H', ⟨by have := HK1.out; have := HK2.out; have := HK3.out; first | omega | exact Nat.le_refl _⟩, ⟨by (try simp only [hl5_2]); (try simp only [hl5_3]); (with_reducible repeat (first | apply rA|apply rN|apply rW)); exact HO_5.out⟩, ⟨by (try simp only [hl5_2]); (try simp only [hl5_3]); (with_reducible repeat (first | refine bN ?_ _|refine bW ?_|refine bA ?_ _)); exact BK0.out⟩, ⟨by repeat (first | (with_reducible first | exact HB.out|apply wA|apply wN|apply wD |refine wS ?_ GE0.out) | exact HB.out)⟩⟩
                  ·rw [if_neg c25] at H
                   exact absurd H (by simp)
                 ·rw [if_neg c24] at H
                  exact absurd H (by simp)
                ·rw [if_neg c23] at H
                 have c23b0 : ((rd x5_3 ((rd_T60 l0_1 x8_3).f1)) == x7_2) = false := beq_eq_false_iff_ne.mpr c23
                 have c23b1 : ((rd x5_3 ((rd_T60 l0_1 x8_3).f1)) != x7_2) = true := bne_iff_ne.mpr c23
                 have H' := Aside0.mk H
                 clear H
                 have p126 : 0 ≤ (((rd_T60 l0_1 x8_3).f1) : Int) := of_decide_eq_true (by first | (with_reducible assumption) | assumption)
                 have q126 : ((rd_T60 l0_1 x8_3).f1) < (x5_3.length : Int) := of_decide_eq_true (by first | (with_reducible assumption) | assumption)
                 obtain ⟨ad126, e126, hx126_0⟩ := Kd.at_int (Kd.R_reads' HO_5.out).2.2 ((rd_T60 l0_1 x8_3).f1) p126 q126
                 obtain rfl : (⟨go11, 0, none⟩ : Addr) = ad126 := (by injection e126)
                 (first | simp only [add_plain] at hx126_0 | simp only [add_at] at hx126_0 | simp only [Addr.add, Nat.zero_add] at hx126_0 | skip)
                 replace p126 := eq_true p126
                 replace q126 := eq_true q126
                 go_wp2
                 go_meet
                 case rel => exact ⟨_, (false), (by first | rfl | (simp; done) | (simp [*]; done)), H', ⟨by have := HK1.out; have := HK2.out; have := HK3.out; first | omega | exact Nat.le_refl _⟩, ⟨by (try simp only [hl5_2]); (try simp only [hl5_3]); (with_reducible repeat (first | apply rA|apply rN|apply rW)); exact HO_5.out⟩, ⟨by (try simp only [hl5_2]); (try simp only [hl5_3]); (with_reducible repeat (first | refine bN ?_ _|refine bW ?_|refine bA ?_ _)); exact BK0.out⟩, ⟨by repeat (first | (with_reducible first | exact HB.out|apply wA|apply wN|apply wD |refine wS ?_ GE0.out) | exact HB.out)⟩⟩
               ·rw [if_neg c22] at H
                exact absurd H (by simp)
              ·rw [if_neg c21] at H
               exact absurd H (by simp)
             case rest =>
              clear HC19
              try clear c1
              try clear p1
              try clear q1
              try clear hx1
              try clear c2
              try clear p2
              try clear c5
              try clear c5b0
              try clear c6
              try clear p6
              try clear c8
              try clear c9
              try clear c9b0
              try clear c10
              try clear c10b0
              try clear p11
              try clear q11
              try clear hx11
              try clear hf11
              try clear p12
              try clear q12
              try clear hx12
              try clear c15
              try clear c15b0
              try clear c17
              try clear c17b0
              try clear c18
              try clear c18b0
              try clear c21
              try clear c21b0
              try clear c21b2
              try clear c22
              try clear c22b0
              try clear c23
              try clear c23b0
              try clear c23b1
              try clear c24
              try clear c24b0
              try clear c25
              try clear c25b0
              try clear hcz12_0
              try clear hcz12_1
              try clear hcz16_0
              try clear hcz16_1
              try clear hcz20_0
              try clear hcz20_1
              try clear hcz7_0
              try clear hcz7_1
              try clear hfz12_0
              try clear hfz12_1
              try clear hfz16_0
              try clear hfz16_1
              try clear hfz20_0
              try clear hfz20_1
              try clear hfz7_0
              try clear hfz7_1
              try clear hx11_0
              try clear hx124_0
              try clear hx124_1
              try clear hx124_2
              try clear hx124_3
              try clear hx124_4
              try clear hx124_5
              try clear hx125_0
              try clear hx125_1
              try clear hx125_2
              try clear hx125_3
              try clear hx125_4
              try clear hx125_5
              try clear hx126_0
              try clear hx127_0
              try clear p1
              try clear p11
              try clear p124
              try clear p125
              try clear p126
              try clear p127
              try clear p2
              try clear p6
              try clear q1
              try clear q11
              try clear q124
              try clear q125
              try clear q126
              try clear q127
              obtain ⟨kq, x73_18, rfl, HA, HJ18, HO_5, BK0, HB⟩ := hcut
              cases kq with
              | zero => exact absurd HA.out (by simp [spec_l04Far.j3])
              | succ kj18 =>
               have H := HA.out
               clear HA
               simp only [spec_l04Far.j3] at H
               by_cases c26 : x73_18 = true
               ·subst c26
                have H1 : (if 0 ≤ ((rd_T60 l0_1 x8_3).f2) then (if ((rd_T60 l0_1 x8_3).f2) < (x5_3.length : Int) then ((some (x5_3.set (((rd_T60 l0_1 x8_3).f2) : Int).toNat (wrap64 (x7_2 + 1)) : List Int)).bind fun y128 => (if (rd y128 ((rd_T60 l0_1 x8_3).f2)) = x7_2 then (if 0 ≤ ((rd_T60 l0_1 x8_3).f1) then (if ((rd_T60 l0_1 x8_3).f1) < (x5_3.length : Int) then (if (rd y128 ((rd_T60 l0_1 x8_3).f1)) < 0 then (spec_l04Far.l2 kj18 (y128.set (((rd_T60 l0_1 x8_3).f1) : Int).toNat (wrap64 (x7_2 + 1))) x7_2 (wrap64 (x8_3 + 1)) l0_0 l0_1) else (spec_l04Far.l2 kj18 y128 x7_2 (wrap64 (x8_3 + 1)) l0_0 l0_1)) else (none)) else (none)) else (spec_l04Far.l2 kj18 y128 x7_2 (wrap64 (x8_3 + 1)) l0_0 l0_1))) else (none)) else (none)) = some r := by rw [if_pos rfl] at H; exact H
                clear H
                have H := H1
                clear H1
                by_cases c27 : 0 ≤ ((rd_T60 l0_1 x8_3).f2)
                ·rw [if_pos c27] at H
                 have c27b0 : decide (0 ≤ ((rd_T60 l0_1 x8_3).f2)) = true := decide_eq_true c27
                 clear c27
                 by_cases c28 : ((rd_T60 l0_1 x8_3).f2) < (x5_3.length : Int)
                 ·rw [if_pos c28] at H
                  have c28b0 : decide (((rd_T60 l0_1 x8_3).f2) < (x5_3.length : Int)) = true := decide_eq_true c28
                  (try simp only [hl5_2] at c28b0)
                  (try simp only [hl5_3] at c28b0)
                  clear c28
                  obtain ⟨y128, hy128⟩ : ∃ y_ : List Int, y_ = (x5_3.set (((rd_T60 l0_1 x8_3).f2) : Int).toNat (wrap64 (x7_2 + 1))) := ⟨_, rfl⟩
                  replace H : (if (rd y128 ((rd_T60 l0_1 x8_3).f2)) = x7_2 then (if 0 ≤ ((rd_T60 l0_1 x8_3).f1) then (if ((rd_T60 l0_1 x8_3).f1) < (x5_3.length : Int) then (if (rd y128 ((rd_T60 l0_1 x8_3).f1)) < 0 then (spec_l04Far.l2 kj18 (y128.set (((rd_T60 l0_1 x8_3).f1) : Int).toNat (wrap64 (x7_2 + 1))) x7_2 (wrap64 (x8_3 + 1)) l0_0 l0_1) else (spec_l04Far.l2 kj18 y128 x7_2 (wrap64 (x8_3 + 1)) l0_0 l0_1)) else (none)) else (none)) else (spec_l04Far.l2 kj18 y128 x7_2 (wrap64 (x8_3 + 1)) l0_0 l0_1)) = some r := by first | (rw [hy128]; with_reducible exact H) | (have H2_ := (Option.bind_some _ _).symm.trans H; rw [hy128]; with_reducible exact H2_) | (have H2_ := (Option.bind_some _ _).symm.trans H; with_reducible exact H2_) | with_reducible exact H | (rw [hy128]; exact H) | exact H
                  have Ny128 := Aside0.mk hy128
                  clear hy128
                  by_cases c30 : (rd y128 ((rd_T60 l0_1 x8_3).f2)) = x7_2
                  ·rw [if_pos c30] at H
                   have c30b0 : ((rd y128 ((rd_T60 l0_1 x8_3).f2)) == x7_2) = true := beq_iff_eq.mpr c30
                   have c30b1 : ((rd y128 ((rd_T60 l0_1 x8_3).f2)) != x7_2) = false := bne_eq_false_iff_eq.mpr c30
                   clear c30
                   by_cases c31 : 0 ≤ ((rd_T60 l0_1 x8_3).f1)
                   ·rw [if_pos c31] at H
                    have c31b0 : decide (0 ≤ ((rd_T60 l0_1 x8_3).f1)) = true := decide_eq_true c31
                    clear c31
                    by_cases c32 : ((rd_T60 l0_1 x8_3).f1) < (x5_3.length : Int)
                    ·rw [if_pos c32] at H
                     have c32b0 : decide (((rd_T60 l0_1 x8_3).f1) < (x5_3.length : Int)) = true := decide_eq_true c32
                     (try simp only [hl5_2] at c32b0)
                     (try simp only [hl5_3] at c32b0)
                     clear c32
                     by_cases c33 : (rd y128 ((rd_T60 l0_1 x8_3).f1)) < 0
                     ·rw [if_pos c33] at H
                      have c33b0 : decide ((rd y128 ((rd_T60 l0_1 x8_3).f1)) < 0) = true := decide_eq_true c33
                      clear c33
                      obtain ⟨y131, hy131⟩ : ∃ y_ : List Int, y_ = (y128.set (((rd_T60 l0_1 x8_3).f1) : Int).toNat (wrap64 (x7_2 + 1))) := ⟨_, rfl⟩
                      replace H : (spec_l04Far.l2 kj18 y131 x7_2 (wrap64 (x8_3 + 1)) l0_0 l0_1) = some r := by first | (rw [hy131]; with_reducible exact H) | (have H2_ := (Option.bind_some _ _).symm.trans H; rw [hy131]; with_reducible exact H2_) | (have H2_ := (Option.bind_some _ _).symm.trans H; with_reducible exact H2_) | with_reducible exact H | (rw [hy131]; exact H) | exact H
                      have Ny131 := Aside0.mk hy131
                      clear hy131
                      have H' := Aside0.mk H
                      clear H
                      have p29 : 0 ≤ (((rd_T60 l0_1 x8_3).f2) : Int) := of_decide_eq_true (by first | (with_reducible assumption) | assumption)
                      have q29 : (((rd_T60 l0_1 x8_3).f2) : Int) < ((x5_3.length : Int) : Int) := of_decide_eq_true (by first | (with_reducible assumption) | assumption)
                      obtain ⟨hx29_0, hf29_0⟩ := Kd.R_celln 0 HO_5.out (((rd_T60 l0_1 x8_3).f2) : Int) p29 q29
                      replace p29 := eq_true p29
                      replace q29 := eq_true q29
                      have HP35 := Kd.R_putg HO_5.out (((rd_T60 l0_1 x8_3).f2) : Int) (wrap64 (x7_2 + 1))
                      go_wp2_with (first | ((with_reducible refine gate_store (t := 2) (p := 78) rfl ?_); refine store_event (t := 2) (p := 78) (v := ?vo_w36) (w1 := (wc.setCell ⟨go11, (((rd_T60 l0_1 x8_3).f2) : Int).toNat, none⟩ (.int .i64 (wrap64 (x7_2 + 1))))) ?hg ?ho ?hn ?hr ?_; (case ho => rfl); (case hg => rfl); (case hn => rfl); (case hr => first | (go_simp; done) | (go_simp; rfl)); intro w36 hw; have hg : wc.grownBy w36 (some go11) := (by rw [hw]; exact HP35.2); have hp_ : Kd.R (Kd.int .i64) 2 w36 w.heap.size (fun _ => True) (.slice (some ⟨go11, 0, none⟩) x5_3.length co11) y128 := (by rw [hw, Ny128.out]; exact HP35.1); clear HP35; have n0_ := Aside0.mk (hp_); have n1_ := Aside0.mk (blk_grown (g := gr0) (o := .cells #[.slice A0_0 l0_0.length c0_0, .slice (some ad124) l0_1.length c0_1] 31 (0, 0)) (by (with_reducible repeat (first | refine bN ?_ _|refine bW ?_|refine bA ?_ _)); exact BK0.out) hg (Kd.R_ne HO_5.out BK0.out (by decide))); have n2_ := Aside0.mk ((by rw [hw]; exact below_set (HB.out) GB11.out : Below w.heap.size w w36)); clear HO_5; clear BK0; clear HB; have HO_5 := n0_; have BK0 := n1_; have HB := n2_; clear n0_ n1_ n2_; clear hg hw hp_; have p129 : 0 ≤ (((rd_T60 l0_1 x8_3).f2) : Int) := of_decide_eq_true (by first | (with_reducible assumption) | assumption); have q129 : ((rd_T60 l0_1 x8_3).f2) < (y128.length : Int) := (by have h_ : (((rd_T60 l0_1 x8_3).f2) : Int) < ((x5_3.length : Int) : Int) := of_decide_eq_true (by first | (with_reducible assumption) | assumption); first | (have e_ := (Kd.R_reads' HO_5.out).1; omega) | simpa only [Ny128.out, List.length_set] using h_); have ql129 : ((((rd_T60 l0_1 x8_3).f2) : Int) < ((x5_3.length : Int) : Int)) = True := eq_true (of_decide_eq_true (by first | (with_reducible assumption) | assumption)); obtain ⟨ad129, e129, hx129_0⟩ := Kd.at_int (Kd.R_reads' HO_5.out).2.2 ((rd_T60 l0_1 x8_3).f2) p129 q129; obtain rfl : (⟨go11, 0, none⟩ : Addr) = ad129 := (by injection e129); (first | simp only [add_plain] at hx129_0 | simp only [add_at] at hx129_0 | simp only [Addr.add, Nat.zero_add] at hx129_0 | skip); replace p129 := eq_true p129; replace q129 := eq_true q129; have p130 : 0 ≤ (((rd_T60 l0_1 x8_3).f1) : Int) := of_decide_eq_true (by first | (with_reducible assumption) | assumption); have q130 : ((rd_T60 l0_1 x8_3).f1) < (y128.length : Int) := (by have h_ : (((rd_T60 l0_1 x8_3).f1) : Int) < ((x5_3.length : Int) : Int) := of_decide_eq_true (by first | (with_reducible assumption) | assumption); first | (have e_ := (Kd.R_reads' HO_5.out).1; omega) | simpa only [Ny128.out, List.length_set] using h_); have ql130 : ((((rd_T60 l0_1 x8_3).f1) : Int) < ((x5_3.length : Int) : Int)) = True := eq_true (of_decide_eq_true (by first | (with_reducible assumption) | assumption)); obtain ⟨ad130, e130, hx130_0⟩ := Kd.at_int (Kd.R_reads' HO_5.out).2.2 ((rd_T60 l0_1 x8_3).f1) p130 q130; obtain rfl : (⟨go11, 0, none⟩ : Addr) = ad130 := (by injection e130); (first | simp only [add_plain] at hx130_0 | simp only [add_at] at hx130_0 | simp only [Addr.add, Nat.zero_add] at hx130_0 | skip); replace p130 := eq_true p130; replace q130 := eq_true q130; have p34 : 0 ≤ (((rd_T60 l0_1 x8_3).f1) : Int) := of_decide_eq_true (by first | (with_reducible assumption) | assumption); have q34 : (((rd_T60 l0_1 x8_3).f1) : Int) < ((x5_3.length : Int) : Int) := of_decide_eq_true (by first | (with_reducible assumption) | assumption); obtain ⟨hx34_0, hf34_0⟩ := Kd.R_celln 0 HO_5.out (((rd_T60 l0_1 x8_3).f1) : Int) p34 q34; replace p34 := eq_true p34; replace q34 := eq_true q34; obtain ⟨hy37_, hz37_⟩ := Kd.R_celln 0 HO_5.out (((rd_T60 l0_1 x8_3).f1) : Int) (of_decide_eq_true (by first | (with_reducible assumption) | assumption)) (of_decide_eq_true (by first | (with_reducible assumption) | assumption)); have HP37 := Kd.R_putg HO_5.out (((rd_T60 l0_1 x8_3).f1) : Int) (wrap64 (x7_2 + 1))) | ((with_reducible refine gate_store (t := 2) (p := 96) rfl ?_); refine store_event (t := 2) (p := 96) (v := ?vo_w38) (w1 := (w36.setCell ⟨go11, (((rd_T60 l0_1 x8_3).f1) : Int).toNat, none⟩ (.int .i64 (wrap64 (x7_2 + 1))))) ?hg ?ho ?hn ?hr ?_; (case ho => rfl); (case hg => rfl); (case hn => rfl); (case hr => first | (go_simp; done) | (go_simp; rfl)); intro w38 hw; have hg : w36.grownBy w38 (some go11) := (by rw [hw]; exact HP37.2); have hp_ : Kd.R (Kd.int .i64) 2 w38 w.heap.size (fun _ => True) (.slice (some ⟨go11, 0, none⟩) x5_3.length co11) y131 := (by rw [hw, Ny131.out]; exact HP37.1); clear HP37; have n0_ := Aside0.mk (hp_); have n1_ := Aside0.mk (blk_grown (g := gr0) (o := .cells #[.slice A0_0 l0_0.length c0_0, .slice (some ad124) l0_1.length c0_1] 31 (0, 0)) (by (with_reducible repeat (first | refine bN ?_ _|refine bW ?_|refine bA ?_ _)); exact BK0.out) hg (Kd.R_ne HO_5.out BK0.out (by decide))); have n2_ := Aside0.mk ((by rw [hw]; exact below_set (HB.out) GB11.out : Below w.heap.size w w38)); clear HO_5; clear BK0; clear HB; have HO_5 := n0_; have BK0 := n1_; have HB := n2_; clear n0_ n1_ n2_; clear hg hw hp_))
                      (try simp only [← hl5_3])
                      go_roundg kj18
                      case measure => have := HK1.out; have := HK2.out; have := HK3.out; have := HJ18.out; omega
                      case rel => exact ⟨(y131), (wrap64 (x8_3 + 1)), (by first | rfl | (simp; done) | (simp [*]; done)), H', ⟨by have := HK1.out; have := HK2.out; have := HK3.out; have := HJ18.out; omega⟩, ⟨by (try simp only [hl5_2]); (try simp only [hl5_3]); (with_reducible repeat (first | apply rA|apply rN|apply rW)); exact HO_5.out⟩, ⟨by (try simp only [hl5_2]); (try simp only [hl5_3]); (with_reducible repeat (first | refine bN ?_ _|refine bW ?_|refine bA ?_ _)); exact BK0.out⟩, ⟨by repeat (first | (with_reducible first | exact HB.out|apply wA|apply wN|apply wD |refine wS ?_ GE0.out) | exact HB.out)⟩⟩
                     ·rw [if_neg c33] at H
                      have c33b0 : decide ((rd y128 ((rd_T60 l0_1 x8_3).f1)) < 0) = false := decide_eq_false c33
                      clear c33
                      have H' := Aside0.mk H
                      clear H
                      have p29 : 0 ≤ (((rd_T60 l0_1 x8_3).f2) : Int) := of_decide_eq_true (by first | (with_reducible assumption) | assumption)
                      have q29 : (((rd_T60 l0_1 x8_3).f2) : Int) < ((x5_3.length : Int) : Int) := of_decide_eq_true (by first | (with_reducible assumption) | assumption)
                      obtain ⟨hx29_0, hf29_0⟩ := Kd.R_celln 0 HO_5.out (((rd_T60 l0_1 x8_3).f2) : Int) p29 q29
                      replace p29 := eq_true p29
                      replace q29 := eq_true q29
                      have HP39 := Kd.R_putg HO_5.out (((rd_T60 l0_1 x8_3).f2) : Int) (wrap64 (x7_2 + 1))
                      go_wp2_with (first | ((with_reducible refine gate_store (t := 2) (p := 78) rfl ?_); refine store_event (t := 2) (p := 78) (v := ?vo_w40) (w1 := (wc.setCell ⟨go11, (((rd_T60 l0_1 x8_3).f2) : Int).toNat, none⟩ (.int .i64 (wrap64 (x7_2 + 1))))) ?hg ?ho ?hn ?hr ?_; (case ho => rfl); (case hg => rfl); (case hn => rfl); (case hr => first | (go_simp; done) | (go_simp; rfl)); intro w40 hw; have hg : wc.grownBy w40 (some go11) := (by rw [hw]; exact HP39.2); have hp_ : Kd.R (Kd.int .i64) 2 w40 w.heap.size (fun _ => True) (.slice (some ⟨go11, 0, none⟩) x5_3.length co11) y128 := (by rw [hw, Ny128.out]; exact HP39.1); clear HP39; have n0_ := Aside0.mk (hp_); have n1_ := Aside0.mk (blk_grown (g := gr0) (o := .cells #[.slice A0_0 l0_0.length c0_0, .slice (some ad124) l0_1.length c0_1] 31 (0, 0)) (by (with_reducible repeat (first | refine bN ?_ _|refine bW ?_|refine bA ?_ _)); exact BK0.out) hg (Kd.R_ne HO_5.out BK0.out (by decide))); have n2_ := Aside0.mk ((by rw [hw]; exact below_set (HB.out) GB11.out : Below w.heap.size w w40)); clear HO_5; clear BK0; clear HB; have HO_5 := n0_; have BK0 := n1_; have HB := n2_; clear n0_ n1_ n2_; clear hg hw hp_; have p129 : 0 ≤ (((rd_T60 l0_1 x8_3).f2) : Int) := of_decide_eq_true (by first | (with_reducible assumption) | assumption); have q129 : ((rd_T60 l0_1 x8_3).f2) < (y128.length : Int) := (by have h_ : (((rd_T60 l0_1 x8_3).f2) : Int) < ((x5_3.length : Int) : Int) := of_decide_eq_true (by first | (with_reducible assumption) | assumption); first | (have e_ := (Kd.R_reads' HO_5.out).1; omega) | simpa only [Ny128.out, List.length_set] using h_); have ql129 : ((((rd_T60 l0_1 x8_3).f2) : Int) < ((x5_3.length : Int) : Int)) = True := eq_true (of_decide_eq_true (by first | (with_reducible assumption) | assumption)); obtain ⟨ad129, e129, hx129_0⟩ := Kd.at_int (Kd.R_reads' HO_5.out).2.2 ((rd_T60 l0_1 x8_3).f2) p129 q129; obtain rfl : (⟨go11, 0, none⟩ : Addr) = ad129 := (by injection e129); (first | simp only [add_plain] at hx129_0 | simp only [add_at] at hx129_0 | simp only [Addr.add, Nat.zero_add] at hx129_0 | skip); replace p129 := eq_true p129; replace q129 := eq_true q129; have p130 : 0 ≤ (((rd_T60 l0_1 x8_3).f1) : Int) := of_decide_eq_true (by first | (with_reducible assumption) | assumption); have q130 : ((rd_T60 l0_1 x8_3).f1) < (y128.length : Int) := (by have h_ : (((rd_T60 l0_1 x8_3).f1) : Int) < ((x5_3.length : Int) : Int) := of_decide_eq_true (by first | (with_reducible assumption) | assumption); first | (have e_ := (Kd.R_reads' HO_5.out).1; omega) | simpa only [Ny128.out, List.length_set] using h_); have ql130 : ((((rd_T60 l0_1 x8_3).f1) : Int) < ((x5_3.length : Int) : Int)) = True := eq_true (of_decide_eq_true (by first | (with_reducible assumption) | assumption)); obtain ⟨ad130, e130, hx130_0⟩ := Kd.at_int (Kd.R_reads' HO_5.out).2.2 ((rd_T60 l0_1 x8_3).f1) p130 q130; obtain rfl : (⟨go11, 0, none⟩ : Addr) = ad130 := (by injection e130); (first | simp only [add_plain] at hx130_0 | simp only [add_at] at hx130_0 | simp only [Addr.add, Nat.zero_add] at hx130_0 | skip); replace p130 := eq_true p130; replace q130 := eq_true q130))
                      (try simp only [← hl5_3])
                      go_roundg kj18
                      case measure => have := HK1.out; have := HK2.out; have := HK3.out; have := HJ18.out; omega
                      case rel => exact ⟨(y128), (wrap64 (x8_3 + 1)), (by first | rfl | (simp; done) | (simp [*]; done)), H', ⟨by have := HK1.out; have := HK2.out; have := HK3.out; have := HJ18.out; omega⟩, ⟨by (try simp only [hl5_2]); (try simp only [hl5_3]); (with_reducible repeat (first | apply rA|apply rN|apply rW)); exact HO_5.out⟩, ⟨by (try simp only [hl5_2]); (try simp only [hl5_3]); (with_reducible repeat (first | refine bN ?_ _|refine bW ?_|refine bA ?_ _)); exact BK0.out⟩, ⟨by repeat (first | (with_reducible first | exact HB.out|apply wA|apply wN|apply wD |refine wS ?_ GE0.out) | exact HB.out)⟩⟩
                    ·rw [if_neg c32] at H
                     exact absurd H (by simp)
                   ·rw [if_neg c31] at H
                    exact absurd H (by simp)
                  ·rw [if_neg c30] at H
                   have c30b0 : ((rd y128 ((rd_T60 l0_1 x8_3).f2)) == x7_2) = false := beq_eq_false_iff_ne.mpr c30
                   have c30b1 : ((rd y128 ((rd_T60 l0_1 x8_3).f2)) != x7_2) = true := bne_iff_ne.mpr c30
                   have H' := Aside0.mk H
                   clear H
                   have p29 : 0 ≤ (((rd_T60 l0_1 x8_3).f2) : Int) := of_decide_eq_true (by first | (with_reducible assumption) | assumption)
                   have q29 : (((rd_T60 l0_1 x8_3).f2) : Int) < ((x5_3.length : Int) : Int) := of_decide_eq_true (by first | (with_reducible assumption) | assumption)
                   obtain ⟨hx29_0, hf29_0⟩ := Kd.R_celln 0 HO_5.out (((rd_T60 l0_1 x8_3).f2) : Int) p29 q29
                   replace p29 := eq_true p29
                   replace q29 := eq_true q29
                   have HP41 := Kd.R_putg HO_5.out (((rd_T60 l0_1 x8_3).f2) : Int) (wrap64 (x7_2 + 1))
                   go_wp2_with (first | ((with_reducible refine gate_store (t := 2) (p := 78) rfl ?_); refine store_event (t := 2) (p := 78) (v := ?vo_w42) (w1 := (wc.setCell ⟨go11, (((rd_T60 l0_1 x8_3).f2) : Int).toNat, none⟩ (.int .i64 (wrap64 (x7_2 + 1))))) ?hg ?ho ?hn ?hr ?_; (case ho => rfl); (case hg => rfl); (case hn => rfl); (case hr => first | (go_simp; done) | (go_simp; rfl)); intro w42 hw; have hg : wc.grownBy w42 (some go11) := (by rw [hw]; exact HP41.2); have hp_ : Kd.R (Kd.int .i64) 2 w42 w.heap.size (fun _ => True) (.slice (some ⟨go11, 0, none⟩) x5_3.length co11) y128 := (by rw [hw, Ny128.out]; exact HP41.1); clear HP41; have n0_ := Aside0.mk (hp_); have n1_ := Aside0.mk (blk_grown (g := gr0) (o := .cells #[.slice A0_0 l0_0.length c0_0, .slice (some ad124) l0_1.length c0_1] 31 (0, 0)) (by (with_reducible repeat (first | refine bN ?_ _|refine bW ?_|refine bA ?_ _)); exact BK0.out) hg (Kd.R_ne HO_5.out BK0.out (by decide))); have n2_ := Aside0.mk ((by rw [hw]; exact below_set (HB.out) GB11.out : Below w.heap.size w w42)); clear HO_5; clear BK0; clear HB; have HO_5 := n0_; have BK0 := n1_; have HB := n2_; clear n0_ n1_ n2_; clear hg hw hp_; have p129 : 0 ≤ (((rd_T60 l0_1 x8_3).f2) : Int) := of_decide_eq_true (by first | (with_reducible assumption) | assumption); have q129 : ((rd_T60 l0_1 x8_3).f2) < (y128.length : Int) := (by have h_ : (((rd_T60 l0_1 x8_3).f2) : Int) < ((x5_3.length : Int) : Int) := of_decide_eq_true (by first | (with_reducible assumption) | assumption); first | (have e_ := (Kd.R_reads' HO_5.out).1; omega) | simpa only [Ny128.out, List.length_set] using h_); have ql129 : ((((rd_T60 l0_1 x8_3).f2) : Int) < ((x5_3.length : Int) : Int)) = True := eq_true (of_decide_eq_true (by first | (with_reducible assumption) | assumption)); obtain ⟨ad129, e129, hx129_0⟩ := Kd.at_int (Kd.R_reads' HO_5.out).2.2 ((rd_T60 l0_1 x8_3).f2) p129 q129; obtain rfl : (⟨go11, 0, none⟩ : Addr) = ad129 := (by injection e129); (first | simp only [add_plain] at hx129_0 | simp only [add_at] at hx129_0 | simp only [Addr.add, Nat.zero_add] at hx129_0 | skip); replace p129 := eq_true p129; replace q129 := eq_true q129))
                   (try simp only [← hl5_3])
                   go_roundg kj18
                   case measure => have := HK1.out; have := HK2.out; have := HK3.out; have := HJ18.out; omega
                   case rel => exact ⟨(y128), (wrap64 (x8_3 + 1)), (by first | rfl | (simp; done) | (simp [*]; done)), H', ⟨by have := HK1.out; have := HK2.out; have := HK3.out; have := HJ18.out; omega⟩, ⟨by (try simp only [hl5_2]); (try simp only [hl5_3]); (with_reducible repeat (first | apply rA|apply rN|apply rW)); exact HO_5.out⟩, ⟨by (try simp only [hl5_2]); (try simp only [hl5_3]); (with_reducible repeat (first | refine bN ?_ _|refine bW ?_|refine bA ?_ _)); exact BK0.out⟩, ⟨by repeat (first | (with_reducible first | exact HB.out|apply wA|apply wN|apply wD |refine wS ?_ GE0.out) | exact HB.out)⟩⟩
                 ·rw [if_neg c28] at H
                  exact absurd H (by simp)
                ·rw [if_neg c27] at H
                 exact absurd H (by simp)
               ·replace c26 := Bool.eq_false_iff.mpr c26
                subst c26
                have H1 : (if 0 ≤ ((rd_T60 l0_1 x8_3).f2) then (if ((rd_T60 l0_1 x8_3).f2) < (x5_3.length : Int) then (if (rd x5_3 ((rd_T60 l0_1 x8_3).f2)) = x7_2 then (if 0 ≤ ((rd_T60 l0_1 x8_3).f1) then (if ((rd_T60 l0_1 x8_3).f1) < (x5_3.length : Int) then (if (rd x5_3 ((rd_T60 l0_1 x8_3).f1)) < 0 then (spec_l04Far.l2 kj18 (x5_3.set (((rd_T60 l0_1 x8_3).f1) : Int).toNat (wrap64 (x7_2 + 1))) x7_2 (wrap64 (x8_3 + 1)) l0_0 l0_1) else (spec_l04Far.l2 kj18 x5_3 x7_2 (wrap64 (x8_3 + 1)) l0_0 l0_1)) else (none)) else (none)) else (spec_l04Far.l2 kj18 x5_3 x7_2 (wrap64 (x8_3 + 1)) l0_0 l0_1)) else (none)) else (none)) = some r := by rw [if_neg (show ¬ (false = true) by decide)] at H; exact H
                clear H
                have H := H1
                clear H1
                by_cases c43 : 0 ≤ ((rd_T60 l0_1 x8_3).f2)
                ·rw [if_pos c43] at H
                 have c43b0 : decide (0 ≤ ((rd_T60 l0_1 x8_3).f2)) = true := decide_eq_true c43
                 clear c43
                 by_cases c44 : ((rd_T60 l0_1 x8_3).f2) < (x5_3.length : Int)
                 ·rw [if_pos c44] at H
                  have c44b0 : decide (((rd_T60 l0_1 x8_3).f2) < (x5_3.length : Int)) = true := decide_eq_true c44
                  (try simp only [hl5_2] at c44b0)
                  (try simp only [hl5_3] at c44b0)
                  clear c44
                  by_cases c45 : (rd x5_3 ((rd_T60 l0_1 x8_3).f2)) = x7_2
                  ·rw [if_pos c45] at H
                   have c45b0 : ((rd x5_3 ((rd_T60 l0_1 x8_3).f2)) == x7_2) = true := beq_iff_eq.mpr c45
                   have c45b1 : ((rd x5_3 ((rd_T60 l0_1 x8_3).f2)) != x7_2) = false := bne_eq_false_iff_eq.mpr c45
                   clear c45
                   by_cases c46 : 0 ≤ ((rd_T60 l0_1 x8_3).f1)
                   ·rw [if_pos c46] at H
                    have c46b0 : decide (0 ≤ ((rd_T60 l0_1 x8_3).f1)) = true := decide_eq_true c46
                    clear c46
                    by_cases c47 : ((rd_T60 l0_1 x8_3).f1) < (x5_3.length : Int)
                    ·rw [if_pos c47] at H
                     have c47b0 : decide (((rd_T60 l0_1 x8_3).f1) < (x5_3.length : Int)) = true := decide_eq_true c47
                     (try simp only [hl5_2] at c47b0)
                     (try simp only [hl5_3] at c47b0)
                     clear c47
                     by_cases c48 : (rd x5_3 ((rd_T60 l0_1 x8_3).f1)) < 0
                     ·rw [if_pos c48] at H
                      have c48b0 : decide ((rd x5_3 ((rd_T60 l0_1 x8_3).f1)) < 0) = true := decide_eq_true c48
                      clear c48
                      obtain ⟨y134, hy134⟩ : ∃ y_ : List Int, y_ = (x5_3.set (((rd_T60 l0_1 x8_3).f1) : Int).toNat (wrap64 (x7_2 + 1))) := ⟨_, rfl⟩
                      replace H : (spec_l04Far.l2 kj18 y134 x7_2 (wrap64 (x8_3 + 1)) l0_0 l0_1) = some r := by first | (rw [hy134]; with_reducible exact H) | (have H2_ := (Option.bind_some _ _).symm.trans H; rw [hy134]; with_reducible exact H2_) | (have H2_ := (Option.bind_some _ _).symm.trans H; with_reducible exact H2_) | with_reducible exact H | (rw [hy134]; exact H) | exact H
                      have Ny134 := Aside0.mk hy134
                      clear hy134
                      have H' := Aside0.mk H
                      clear H
                      have p132 : 0 ≤ (((rd_T60 l0_1 x8_3).f2) : Int) := of_decide_eq_true (by first | (with_reducible assumption) | assumption)
                      have q132 : ((rd_T60 l0_1 x8_3).f2) < (x5_3.length : Int) := of_decide_eq_true (by first | (with_reducible assumption) | assumption)
                      obtain ⟨ad132, e132, hx132_0⟩ := Kd.at_int (Kd.R_reads' HO_5.out).2.2 ((rd_T60 l0_1 x8_3).f2) p132 q132
                      obtain rfl : (⟨go11, 0, none⟩ : Addr) = ad132 := (by injection e132)
                      (first | simp only [add_plain] at hx132_0 | simp only [add_at] at hx132_0 | simp only [Addr.add, Nat.zero_add] at hx132_0 | skip)
                      replace p132 := eq_true p132
                      replace q132 := eq_true q132
                      have p133 : 0 ≤ (((rd_T60 l0_1 x8_3).f1) : Int) := of_decide_eq_true (by first | (with_reducible assumption) | assumption)
                      have q133 : ((rd_T60 l0_1 x8_3).f1) < (x5_3.length : Int) := of_decide_eq_true (by first | (with_reducible assumption) | assumption)
                      obtain ⟨ad133, e133, hx133_0⟩ := Kd.at_int (Kd.R_reads' HO_5.out).2.2 ((rd_T60 l0_1 x8_3).f1) p133 q133
                      obtain rfl : (⟨go11, 0, none⟩ : Addr) = ad133 := (by injection e133)
                      (first | simp only [add_plain] at hx133_0 | simp only [add_at] at hx133_0 | simp only [Addr.add, Nat.zero_add] at hx133_0 | skip)
                      replace p133 := eq_true p133
                      replace q133 := eq_true q133
                      have p49 : 0 ≤ (((rd_T60 l0_1 x8_3).f1) : Int) := of_decide_eq_true (by first | (with_reducible assumption) | assumption)
                      have q49 : (((rd_T60 l0_1 x8_3).f1) : Int) < ((x5_3.length : Int) : Int) := of_decide_eq_true (by first | (with_reducible assumption) | assumption)
                      obtain ⟨hx49_0, hf49_0⟩ := Kd.R_celln 0 HO_5.out (((rd_T60 l0_1 x8_3).f1) : Int) p49 q49
                      replace p49 := eq_true p49
                      replace q49 := eq_true q49
                      have HP50 := Kd.R_putg HO_5.out (((rd_T60 l0_1 x8_3).f1) : Int) (wrap64 (x7_2 + 1))
                      go_wp2_with (first | ((with_reducible refine gate_store (t := 2) (p := 96) rfl ?_); refine store_event (t := 2) (p := 96) (v := ?vo_w51) (w1 := (wc.setCell ⟨go11, (((rd_T60 l0_1 x8_3).f1) : Int).toNat, none⟩ (.int .i64 (wrap64 (x7_2 + 1))))) ?hg ?ho ?hn ?hr ?_; (case ho => rfl); (case hg => rfl); (case hn => rfl); (case hr => first | (go_simp; done) | (go_simp; rfl)); intro w51 hw; have hg : wc.grownBy w51 (some go11) := (by rw [hw]; exact HP50.2); have hp_ : Kd.R (Kd.int .i64) 2 w51 w.heap.size (fun _ => True) (.slice (some ⟨go11, 0, none⟩) x5_3.length co11) y134 := (by rw [hw, Ny134.out]; exact HP50.1); clear HP50; have n0_ := Aside0.mk (hp_); have n1_ := Aside0.mk (blk_grown (g := gr0) (o := .cells #[.slice A0_0 l0_0.length c0_0, .slice (some ad124) l0_1.length c0_1] 31 (0, 0)) (by (with_reducible repeat (first | refine bN ?_ _|refine bW ?_|refine bA ?_ _)); exact BK0.out) hg (Kd.R_ne HO_5.out BK0.out (by decide))); have n2_ := Aside0.mk ((by rw [hw]; exact below_set (HB.out) GB11.out : Below w.heap.size w w51)); clear HO_5; clear BK0; clear HB; have HO_5 := n0_; have BK0 := n1_; have HB := n2_; clear n0_ n1_ n2_; clear hg hw hp_))
                      (try simp only [← hl5_3])
                      go_roundg kj18
                      case measure => have := HK1.out; have := HK2.out; have := HK3.out; have := HJ18.out; omega
                      case rel => exact ⟨(y134), (wrap64 (x8_3 + 1)), (by first | rfl | (simp; done) | (simp [*]; done)), H', ⟨by have := HK1.out; have := HK2.out; have := HK3.out; have := HJ18.out; omega⟩, ⟨by (try simp only [hl5_2]); (try simp only [hl5_3]); (with_reducible repeat (first | apply rA|apply rN|apply rW)); exact HO_5.out⟩, ⟨by (try simp only [hl5_2]); (try simp only [hl5_3]); (with_reducible repeat (first | refine bN ?_ _|refine bW ?_|refine bA ?_ _)); exact BK0.out⟩, ⟨by repeat (first | (with_reducible first | exact HB.out|apply wA|apply wN|apply wD |refine wS ?_ GE0.out) | exact HB.out)⟩⟩
                     ·rw [if_neg c48] at H
                      have c48b0 : decide ((rd x5_3 ((rd_T60 l0_1 x8_3).f1)) < 0) = false := decide_eq_false c48
                      clear c48
                      have H' := Aside0.mk H
                      clear H
                      have p132 : 0 ≤ (((rd_T60 l0_1 x8_3).f2) : Int) := of_decide_eq_true (by first | (with_reducible assumption) | assumption)
                      have q132 : ((rd_T60 l0_1 x8_3).f2) < (x5_3.length : Int) := of_decide_eq_true (by first | (with_reducible assumption) | assumption)
                      obtain ⟨ad132, e132, hx132_0⟩ := Kd.at_int (Kd.R_reads' HO_5.out).2.2 ((rd_T60 l0_1 x8_3).f2) p132 q132
                      obtain rfl : (⟨go11, 0, none⟩ : Addr) = ad132 := (by injection e132)
                      (first | simp only [add_plain] at hx132_0 | simp only [add_at] at hx132_0 | simp only [Addr.add, Nat.zero_add] at hx132_0 | skip)
                      replace p132 := eq_true p132
                      replace q132 := eq_true q132
                      have p133 : 0 ≤ (((rd_T60 l0_1 x8_3).f1) : Int) := of_decide_eq_true (by first | (with_reducible assumption) | assumption)
                      have q133 : ((rd_T60 l0_1 x8_3).f1) < (x5_3.length : Int) := of_decide_eq_true (by first | (with_reducible assumption) | assumption)
                      obtain ⟨ad133, e133, hx133_0⟩ := Kd.at_int (Kd.R_reads' HO_5.out).2.2 ((rd_T60 l0_1 x8_3).f1) p133 q133
                      obtain rfl : (⟨go11, 0, none⟩ : Addr) = ad133 := (by injection e133)
                      (first | simp only [add_plain] at hx133_0 | simp only [add_at] at hx133_0 | simp only [Addr.add, Nat.zero_add] at hx133_0 | skip)
                      replace p133 := eq_true p133
                      replace q133 := eq_true q133
                      go_wp2
                      (try simp only [← hl5_3])
                      go_roundg kj18
                      case measure => have := HK1.out; have := HK2.out; have := HK3.out; have := HJ18.out; omega
                      case rel => exact ⟨(x5_3), (wrap64 (x8_3 + 1)), (by first | rfl | (simp; done) | (simp [*]; done)), H', ⟨by have := HK1.out; have := HK2.out; have := HK3.out; have := HJ18.out; omega⟩, ⟨by (try simp only [hl5_2]); (try simp only [hl5_3]); (with_reducible repeat (first | apply rA|apply rN|apply rW)); exact HO_5.out⟩, ⟨by (try simp only [hl5_2]); (try simp only [hl5_3]); (with_reducible repeat (first | refine bN ?_ _|refine bW ?_|refine bA ?_ _)); exact BK0.out⟩, ⟨by repeat (first | (with_reducible first | exact HB.out|apply wA|apply wN|apply wD |refine wS ?_ GE0.out) | exact HB.out)⟩⟩
                    ·rw [if_neg c47] at H
                     exact absurd H (by simp)
                   ·rw [if_neg c46] at H
                    exact absurd H (by simp)
                  ·rw [if_neg c45] at H
                   have c45b0 : ((rd x5_3 ((rd_T60 l0_1 x8_3).f2)) == x7_2) = false := beq_eq_false_iff_ne.mpr c45
                   have c45b1 : ((rd x5_3 ((rd_T60 l0_1 x8_3).f2)) != x7_2) = true := bne_iff_ne.mpr c45
                   have H' := Aside0.mk H
                   clear H
                   have p132 : 0 ≤ (((rd_T60 l0_1 x8_3).f2) : Int) := of_decide_eq_true (by first | (with_reducible assumption) | assumption)
                   have q132 : ((rd_T60 l0_1 x8_3).f2) < (x5_3.length : Int) := of_decide_eq_true (by first | (with_reducible assumption) | assumption)
                   obtain ⟨ad132, e132, hx132_0⟩ := Kd.at_int (Kd.R_reads' HO_5.out).2.2 ((rd_T60 l0_1 x8_3).f2) p132 q132
                   obtain rfl : (⟨go11, 0, none⟩ : Addr) = ad132 := (by injection e132)
                   (first | simp only [add_plain] at hx132_0 | simp only [add_at] at hx132_0 | simp only [Addr.add, Nat.zero_add] at hx132_0 | skip)
                   replace p132 := eq_true p132
                   replace q132 := eq_true q132
                   go_wp2
                   (try simp only [← hl5_3])
                   go_roundg kj18
                   case measure => have := HK1.out; have := HK2.out; have := HK3.out; have := HJ18.out; omega
                   case rel => exact ⟨(x5_3), (wrap64 (x8_3 + 1)), (by first | rfl | (simp; done) | (simp [*]; done)), H', ⟨by have := HK1.out; have := HK2.out; have := HK3.out; have := HJ18.out; omega⟩, ⟨by (try simp only [hl5_2]); (try simp only [hl5_3]); (with_reducible repeat (first | apply rA|apply rN|apply rW)); exact HO_5.out⟩, ⟨by (try simp only [hl5_2]); (try simp only [hl5_3]); (with_reducible repeat (first | refine bN ?_ _|refine bW ?_|refine bA ?_ _)); exact BK0.out⟩, ⟨by repeat (first | (with_reducible first | exact HB.out|apply wA|apply wN|apply wD |refine wS ?_ GE0.out) | exact HB.out)⟩⟩
                 ·rw [if_neg c44] at H
                  exact absurd H (by simp)
                ·rw [if_neg c43] at H
                 exact absurd H (by simp)
            ·rw [if_neg c18] at H
             exact absurd H (by simp)
           ·rw [if_neg c17] at H
            have c17b0 : decide (x8_3 < (l0_1.length : Int)) = false := decide_eq_false c17
            (try simp only [hl5_2] at c17b0)
            (try simp only [hl5_3] at c17b0)
            clear c17
            have H' := Aside0.mk H
            clear H
            have hcz52_0 : wr.cell? ⟨gr0, 0, none⟩ = some (.slice A0_0 l0_0.length c0_0) := (blk_cell BK0.out 0).trans rfl
            have hcz52_1 : wr.cell? ⟨gr0, 1, none⟩ = some (.slice A0_1 l0_1.length c0_1) := (blk_cell BK0.out 1).trans rfl
            have hfz52_0 := blk_frozen BK0.out 0
            have hfz52_1 := blk_frozen BK0.out 1
            go_wp2
            (try simp only [← hl5_2, ← hl5_3])
            go_roundg k3
            case measure => have := HK1.out; have := HK2.out; have := HK3.out; omega
            case rel => exact ⟨(x5_3), (wrap64 (x7_2 + 1)), (by first | rfl | (simp; done) | (simp [*]; done)), H', ⟨by have := HK1.out; have := HK2.out; have := HK3.out; omega⟩, ⟨by (try simp only [hl5_2]); (try simp only [hl5_3]); (with_reducible repeat (first | apply rA|apply rN|apply rW)); exact HO_5.out⟩, ⟨by (try simp only [hl5_2]); (try simp only [hl5_3]); (with_reducible repeat (first | refine bN ?_ _|refine bW ?_|refine bA ?_ _)); exact BK0.out⟩, ⟨by repeat (first | (with_reducible first | exact HB.out|apply wA|apply wN|apply wD |refine wS ?_ GE0.out) | exact HB.out)⟩⟩
        ·rw [if_neg c15] at H
         have c15b0 : decide (x7_2 < (l0_0.length : Int)) = false := decide_eq_false c15
         (try simp only [hl5_2] at c15b0)
         clear c15
         obtain rfl := Option.some.inj H
         have hcz53_0 : wr.cell? ⟨gr0, 0, none⟩ = some (.slice A0_0 l0_0.length c0_0) := (blk_cell BK0.out 0).trans rfl
         have hcz53_1 : wr.cell? ⟨gr0, 1, none⟩ = some (.slice A0_1 l0_1.length c0_1) := (blk_cell BK0.out 1).trans rfl
         have hfz53_0 := blk_frozen BK0.out 0
         have hfz53_1 := blk_frozen BK0.out 1
         go_wp2
         go_ret
         exact ⟨_, by first | rfl | (simp [errW_none, errW_some] <;> rfl) | (simp [*, errW_none, errW_some] <;> rfl), by (with_reducible repeat (first | apply rA|apply rN|apply rW)); exact HO_5.out, by repeat (first | (with_reducible first | exact HB.out|apply wA|apply wN|apply wD |refine wS ?_ GE0.out) | exact HB.out)⟩
     ·rw [if_neg c10] at H
      exact absurd H (by simp)
    ·rw [if_neg c9] at H
     exact absurd H (by simp)

end Go.Proofs.Ytcgbagdpedpdpaa.PFnExactPathOf
