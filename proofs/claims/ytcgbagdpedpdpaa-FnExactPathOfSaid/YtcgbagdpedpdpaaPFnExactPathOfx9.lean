-- Printed by a program of this session (wip/hprint.sh: the kit's print with hand-proved contracts put in); not by print.sh itself.
import Derived.Test.YtcgbagdpedpdpaaPFnExactPathOfx0
import Derived.Test.YtcgbagdpedpdpaaPFnExactPathOfx8
namespace Go.Proofs.Ytcgbagdpedpdpaa.PFnExactPathOf
open Go.RowKit Go.Proofs.YtcgbagdpedpdpaaW.PrintWords Go.Proofs.YtcgbagdpedpdpaaW.PrintLast Go.Proofs.YtcgbagdpedpdpaaW.PrintMore Go.Proofs.YtcgbagdpedpdpaaM
attribute [local go_sem] max2_int min2_int max_two min_two max_three min_three max_four min_four   -- for this text's walks alone
set_option linter.unusedVariables false
set_option linter.unusedSimpArgs false

/-! ### impl_Network_distances: function 52 -/
mutual
def impl_Network_distances.l0 : Nat → Int → List Int → Int → Int → List Int → List (S60) → Option (List Int)
 | 0, _, _, _, _, _, _ => none
 | k + 1, x1, x5, x17, x18, x217000, x217001 => if x18 < x17 then (if 0 ≤ x18 then (if x18 < (x5.length : Int) then (impl_Network_distances.l0 k x1 (x5.set (x18 : Int).toNat (-1)) x17 (wrap64 (x18 + 1)) x217000 x217001) else (none)) else (none)) else (if 0 ≤ x1 then (if x1 < (x5.length : Int) then (impl_Network_distances.l1 k (x5.set (x1 : Int).toNat 0) (([x1] : List Int)) x217000 x217001) else (none)) else (none))
def impl_Network_distances.l1 : Nat → List Int → List Int → List Int → List (S60) → Option (List Int)
 | 0, _, _, _, _ => none
 | k + 1, x5, x7, x217000, x217001 => if (x7.length : Int) > 0 then (impl_Network_distances.l2 k x5 x7 x217001 (x217001.length : Int) 0 x217000 x217001) else (some x5)
def impl_Network_distances.l2 : Nat → List Int → List Int → List (S60) → Int → Int → List Int → List (S60) → Option (List Int)
 | 0, _, _, _, _, _, _, _ => none
 | k + 1, x5, x7, x36, x37, x38, x217000, x217001 => if x38 < x37 then (if 0 ≤ x38 then (if x38 < (x36.length : Int) then (if 0 < (x7.length : Int) then ((impl_Pipe_other.f ((rd_T60 x36 x38).f0) ((rd_T60 x36 x38).f1) ((rd_T60 x36 x38).f2) ((rd_T60 x36 x38).f3) ((rd_T60 x36 x38).f4) ((rd_T60 x36 x38).f5) (rd x7 0)).bind fun bt228 => (if bt228.2 = true then (if 0 ≤ bt228.1 then (if bt228.1 < (x5.length : Int) then (if (rd x5 bt228.1) < 0 then (if 0 ≤ (rd x7 0) then (if (rd x7 0) < (x5.length : Int) then (if x7.length < 17592186044416 then (impl_Network_distances.l2 k (x5.set (bt228.1 : Int).toNat (wrap64 ((rd x5 (rd x7 0)) + 1))) (x7 ++ [bt228.1]) x36 x37 (wrap64 (x38 + 1)) x217000 x217001) else (none)) else (none)) else (none)) else (impl_Network_distances.l2 k x5 x7 x36 x37 (wrap64 (x38 + 1)) x217000 x217001)) else (none)) else (none)) else (impl_Network_distances.l2 k x5 x7 x36 x37 (wrap64 (x38 + 1)) x217000 x217001))) else (none)) else (none)) else (none)) else (if 1 ≤ (x7.length : Int) then (impl_Network_distances.l1 k x5 (x7.drop (1 : Int).toNat) x217000 x217001) else (none))
end
def impl_Network_distances.f (k : Nat) (l0_0 : List Int) (l0_1 : List (S60)) (a1 : Int) : Option (List Int) := if 0 ≤ (l0_0.length : Int) then (if ((l0_0.length : Int) : Int).toNat ≤ 35184372088832 then ((some (List.replicate ((l0_0.length : Int) : Int).toNat 0 : List Int)).bind fun y217 => (impl_Network_distances.l0 k a1 y217 (y217.length : Int) 0 l0_0 l0_1)) else (none)) else (none)
theorem impl_Network_distances.mono_l : ∀ k, (∀ y0 y1 y2 y3 y4 y5, LeO (impl_Network_distances.l0 k y0 y1 y2 y3 y4 y5) (impl_Network_distances.l0 (k + 1) y0 y1 y2 y3 y4 y5)) ∧ (∀ y0 y1 y2 y3, LeO (impl_Network_distances.l1 k y0 y1 y2 y3) (impl_Network_distances.l1 (k + 1) y0 y1 y2 y3)) ∧ (∀ y0 y1 y2 y3 y4 y5 y6, LeO (impl_Network_distances.l2 k y0 y1 y2 y3 y4 y5 y6) (impl_Network_distances.l2 (k + 1) y0 y1 y2 y3 y4 y5 y6))
 | 0 => ⟨fun _ _ _ _ _ _ r h => by simp [impl_Network_distances.l0] at h, fun _ _ _ _ r h => by simp [impl_Network_distances.l1] at h, fun _ _ _ _ _ _ _ r h => by simp [impl_Network_distances.l2] at h⟩
 | k + 1 => by
  obtain ⟨ih0, ih1, ih2⟩ := impl_Network_distances.mono_l k
  refine ⟨?_, ?_, ?_⟩
  ·intro y0 y1 y2 y3 y4 y5
   unfold impl_Network_distances.l0
   repeat' first
   | (with_reducible exact ih0 _ _ _ _ _ _)
   | (with_reducible exact ih1 _ _ _ _)
   | (with_reducible exact ih2 _ _ _ _ _ _ _)
   | (with_reducible exact LeO.refl _)
   | (with_reducible exact LeO.none _)
   | (with_reducible refine LeO.ite ?_ ?_)
   | (with_reducible refine LeO.bind ?_ (fun _ => ?_))
   | exact ih0 _ _ _ _ _ _
   | exact ih1 _ _ _ _
   | exact ih2 _ _ _ _ _ _ _
   | exact LeO.none _
   | refine LeO.ite ?_ ?_
   | refine LeO.bind ?_ (fun _ => ?_)
  ·intro y0 y1 y2 y3
   unfold impl_Network_distances.l1
   repeat' first
   | (with_reducible exact ih0 _ _ _ _ _ _)
   | (with_reducible exact ih1 _ _ _ _)
   | (with_reducible exact ih2 _ _ _ _ _ _ _)
   | (with_reducible exact LeO.refl _)
   | (with_reducible exact LeO.none _)
   | (with_reducible refine LeO.ite ?_ ?_)
   | (with_reducible refine LeO.bind ?_ (fun _ => ?_))
   | exact ih0 _ _ _ _ _ _
   | exact ih1 _ _ _ _
   | exact ih2 _ _ _ _ _ _ _
   | exact LeO.none _
   | refine LeO.ite ?_ ?_
   | refine LeO.bind ?_ (fun _ => ?_)
  ·intro y0 y1 y2 y3 y4 y5 y6
   unfold impl_Network_distances.l2
   repeat' first
   | (with_reducible exact ih0 _ _ _ _ _ _)
   | (with_reducible exact ih1 _ _ _ _)
   | (with_reducible exact ih2 _ _ _ _ _ _ _)
   | (with_reducible exact LeO.refl _)
   | (with_reducible exact LeO.none _)
   | (with_reducible refine LeO.ite ?_ ?_)
   | (with_reducible refine LeO.bind ?_ (fun _ => ?_))
   | exact ih0 _ _ _ _ _ _
   | exact ih1 _ _ _ _
   | exact ih2 _ _ _ _ _ _ _
   | exact LeO.none _
   | refine LeO.ite ?_ ?_
   | refine LeO.bind ?_ (fun _ => ?_)
theorem impl_Network_distances.mono : ∀ a0 a1 a2 k, LeO (impl_Network_distances.f k a0 a1 a2) (impl_Network_distances.f (k + 1) a0 a1 a2) := by
 intro a0 a1 a2 k
 obtain ⟨ih0, ih1, ih2⟩ := impl_Network_distances.mono_l k
 unfold impl_Network_distances.f
 repeat' first
   | (with_reducible exact ih0 _ _ _ _ _ _)
   | (with_reducible exact ih1 _ _ _ _)
   | (with_reducible exact ih2 _ _ _ _ _ _ _)
   | (with_reducible exact LeO.refl _)
   | (with_reducible exact LeO.none _)
   | (with_reducible refine LeO.ite ?_ ?_)
   | (with_reducible refine LeO.bind ?_ (fun _ => ?_))
   | exact ih0 _ _ _ _ _ _
   | exact ih1 _ _ _ _
   | exact ih2 _ _ _ _ _ _ _
   | exact LeO.none _
   | refine LeO.ite ?_ ?_
   | refine LeO.bind ?_ (fun _ => ?_)
def impl_Network_distances.T14 : Bool × List (List Nat × List Nat) := (true, [([], []), ([], []), ([1], [1]), ([2], [2]), ([0, 3], [0, 3]), ([4], [4]), ([5], [5]), ([5], [5]), ([6, 4, 0, 1, 2, 3, 4, 5, 6], [6]), ([7, 8, 0, 1, 2, 3, 4, 5, 6, 7, 8], [7])])
def impl_Network_distances.B14 : List Nat := [0, 0, 2, 6, 15, 31, 63, 63, 127, 511]
theorem impl_Network_distances.tab14 : rtab .any (opsOf Try.f52 14) = impl_Network_distances.T14 := by kernel_rfl
theorem impl_Network_distances.bits14 : waitsOk impl_Network_distances.T14.2 impl_Network_distances.B14 = true := by kernel_rfl
set_option maxHeartbeats 8000000 in
set_option maxRecDepth 100000 in
theorem impl_Network_distances.calls (k : Nat) (A0_0 : Option Addr) (c0_0 : Nat) (l0_0 : List Int) (A0_1 : Option Addr) (c0_1 : Nat) (l0_1 : List (S60)) (a1 : Int) (r : List Int) (w : World) (hr0_0 : Kd.C (Kd.int .i64) w A0_0 l0_0.length l0_0) (hc0_0 : l0_0.length ≤ c0_0) (hr0_1 : Kd.C k60 w A0_1 l0_1.length l0_1) (hc0_1 : l0_1.length ≤ c0_1) (h : impl_Network_distances.f k l0_0 l0_1 a1 = some r) :
  Calls Try.prog 52 #[.agg #[.slice A0_0 l0_0.length c0_0, .slice A0_1 l0_1.length c0_1], .int .i64 a1] w fun e w' => ∃ v0_ : Value, e = .returned (v0_) ∧ Kd.R (Kd.int .i64) 2 w' w.heap.size (fun _ => True) v0_ r ∧ Below w.heap.size w w' := by
 have hu31 := Try.underlying31
 have hu60 := Try.underlying60
 have HR0_0 := Aside0.mk hr0_0
 have HC0_0 := Aside0.mk hc0_0
 clear hr0_0 hc0_0
 have HR0_1 := Aside0.mk hr0_1
 have HC0_1 := Aside0.mk hc0_1
 clear hr0_1 hc0_1
 have HB := Aside0.mk (Below.refl w.heap.size w)
 have H : (if 0 ≤ (l0_0.length : Int) then (if ((l0_0.length : Int) : Int).toNat ≤ 35184372088832 then ((some (List.replicate ((l0_0.length : Int) : Int).toNat 0 : List Int)).bind fun y217 => (impl_Network_distances.l0 k a1 y217 (y217.length : Int) 0 l0_0 l0_1)) else (none)) else (none)) = some r := h
 clear h
 by_cases c3 : 0 ≤ (l0_0.length : Int)
 ·rw [if_pos c3] at H
  have c3b0 := eq_true c3
  have c3b1 : decide (0 ≤ (l0_0.length : Int)) = true := decide_eq_true c3
  clear c3
  by_cases c4 : ((l0_0.length : Int) : Int).toNat ≤ 35184372088832
  ·rw [if_pos c4] at H
   have c4b0 := eq_true c4
   have c4b1 : decide (((l0_0.length : Int) : Int).toNat ≤ 35184372088832) = true := decide_eq_true c4
   clear c4
   obtain ⟨y217, hy217⟩ : ∃ y_ : List Int, y_ = (List.replicate ((l0_0.length : Int) : Int).toNat 0) := ⟨_, rfl⟩
   replace H : (impl_Network_distances.l0 k a1 y217 (y217.length : Int) 0 l0_0 l0_1) = some r := by first | (rw [hy217]; with_reducible exact H) | (have H2_ := (Option.bind_some _ _).symm.trans H; rw [hy217]; with_reducible exact H2_) | (have H2_ := (Option.bind_some _ _).symm.trans H; with_reducible exact H2_) | with_reducible exact H | (rw [hy217]; exact H) | exact H
   have Ny217 := Aside0.mk hy217
   clear hy217
   have H' := Aside0.mk H
   clear H
   go_enter Try.func52, Try.ntmps52
   go_wp2_with (first | ((with_reducible refine gate_dst (N := 2) rfl ?_); refine box_event ?hg (N := 2) ?hd (cs := #[.slice A0_0 l0_0.length c0_0, .slice A0_1 l0_1.length c0_1]) (t := 31) ?hr ?_; (case hd => rfl); (case hg => rfl); (case hr => first | (go_simp; done) | (go_simp; rfl)); intro gb216 hg w5 hbox hb; have n0_ := Aside0.mk (below_step (by repeat (first | (with_reducible first | exact HB.out|apply wA|apply wN|apply wD) | exact HB.out)) hb); have n1_ := Aside0.mk (hbox); have n2_ := Aside0.mk ((by rw [hg]; exact (below_size (by repeat (first | (with_reducible first | exact HB.out|apply wA|apply wN|apply wD) | exact HB.out))) : w.heap.size ≤ gb216)); have n3_ := Aside0.mk ((by rw [hg]; exact (below_size (by repeat (first | (with_reducible first | exact HB.out|apply wA|apply wN|apply wD) | exact HB.out))) : w.heap.size ≤ gb216)); clear HB; have HB := n0_; have BK216 := n1_; have GW216 := n2_; have GE216 := n3_; clear n0_ n1_ n2_ n3_; clear hb hbox hg; have hcz6_0 : w5.cell? ⟨gb216, 0, none⟩ = some (.slice A0_0 l0_0.length c0_0) := (blk_cell BK216.out 0).trans rfl; have hcz6_1 : w5.cell? ⟨gb216, 1, none⟩ = some (.slice A0_1 l0_1.length c0_1) := (blk_cell BK216.out 1).trans rfl; have hfz6_0 := blk_frozen BK216.out 0; have hfz6_1 := blk_frozen BK216.out 1) | ((with_reducible refine gate_dst (N := 15) rfl ?_); refine Kd.R_make (Kd.int .i64) _ 2 rfl (N := 15) rfl 22 _ _ rfl (l0_0.length : Int) rfl rfl Try.underlying22 (.int .i64 0) 8 info2 rfl (by decide) (by omega) 0 (ok := fun _ => True) (okp := fun _ => True) rfl (fun _ hk => hk) trivial (of_decide_eq_true (by first | (with_reducible assumption) | assumption)) (Nat.le_trans (Nat.mul_le_mul_right _ (of_decide_eq_true (by first | (with_reducible assumption) | assumption) : (l0_0.length : Int).toNat ≤ 35184372088832)) (by omega)) (Below.refl _ _) (Nat.le_refl _) ?_; intro v218 w7 ho8 hb hg_ hnew_; clear hg_ hnew_; (first | rw [← Ny217.out] at ho8 | (simp only [Int.reduceToNat] at ho8; rw [← Ny217.out] at ho8)); have n0_ := Aside0.mk (Kd.R_lower ho8 (below_size (by repeat (first | (with_reducible first | exact HB.out|apply wA|apply wN|apply wD |refine wS ?_ GE216.out) | exact HB.out)))); have n1_ := Aside0.mk (blk_below (g := gb216) (o := .cells #[.slice A0_0 l0_0.length c0_0, .slice A0_1 l0_1.length c0_1] 31 (0, 0)) (by (with_reducible repeat (first | refine bN ?_ _|refine bW ?_|refine bA ?_ _)); exact BK216.out) hb); have n2_ := Aside0.mk (below_step (by repeat (first | (with_reducible first | exact HB.out|apply wA|apply wN|apply wD |refine wS ?_ GE216.out) | exact HB.out)) hb); clear BK216; clear HB; have HO219 := n0_; have BK216 := n1_; have HB := n2_; clear n0_ n1_ n2_; clear hb ho8; obtain ⟨Ao9, co9, eo9⟩ := Kd.R_slice HO219.out; subst eo9))
   go_loopg [18] k (fun kq v18 w' => ∃ (x5_1 : List Int) (x18_1 : Int), v18 = .int .i64 x18_1 ∧ Aside0 (impl_Network_distances.l0 kq a1 x5_1 (y217.length : Int) x18_1 l0_0 l0_1 = some r) ∧ Aside0 (kq ≤ k) ∧ Aside0 (Kd.R (Kd.int .i64) 2 w' w.heap.size (fun _ => True) (.slice Ao9 y217.length co9) x5_1) ∧ Aside0 (w'.heap[gb216]? = some (.cells #[(.slice A0_0 l0_0.length c0_0), (.slice A0_1 l0_1.length c0_1)] 31 (0, 0))) ∧ Aside0 (Below w.heap.size w w'))
   case atStart => exact ⟨(y217), (0), (by first | rfl | (simp; done) | (simp [*]; done)), H', ⟨Nat.le_refl _⟩, ⟨by (with_reducible repeat (first | apply rA|apply rN|apply rW)); exact HO219.out⟩, ⟨by (with_reducible repeat (first | refine bN ?_ _|refine bW ?_|refine bA ?_ _)); exact BK216.out⟩, ⟨by repeat (first | (with_reducible first | exact HB.out|apply wA|apply wN|apply wD |refine wS ?_ GE216.out) | exact HB.out)⟩⟩
   case round =>
    clear H'
    try clear p2
    try clear c3
    try clear c3b0
    try clear c3b1
    try clear c4
    try clear c4b0
    try clear c4b1
    try clear c5
    try clear hcz6_0
    try clear hcz6_1
    try clear hfz6_0
    try clear hfz6_1
    obtain ⟨x5_1, x18_1, rfl, HA, HK1, HO_5, BK216, HB⟩ := hrel
    have hl5_1 := (Kd.R_reads' HO_5.out).1
    rw [hl5_1] at HO_5
    (try simp only [hl5_1])
    (try simp only [hl5_1] at BK216)
    cases gk with
    | zero => exact absurd HA.out (by simp [impl_Network_distances.l0])
    | succ k1 =>
     have H := HA.out
     clear HA
     simp only [impl_Network_distances.l0] at H
     by_cases c10 : x18_1 < (y217.length : Int)
     ·rw [if_pos c10] at H
      have c10b0 : decide (x18_1 < (y217.length : Int)) = true := decide_eq_true c10
      (try simp only [hl5_1] at c10b0)
      clear c10
      by_cases c11 : 0 ≤ x18_1
      ·rw [if_pos c11] at H
       have c11b0 : decide (0 ≤ x18_1) = true := decide_eq_true c11
       clear c11
       by_cases c12 : x18_1 < (x5_1.length : Int)
       ·rw [if_pos c12] at H
        have c12b0 : decide (x18_1 < (x5_1.length : Int)) = true := decide_eq_true c12
        (try simp only [hl5_1] at c12b0)
        clear c12
        obtain ⟨y220, hy220⟩ : ∃ y_ : List Int, y_ = (x5_1.set (x18_1 : Int).toNat (-1)) := ⟨_, rfl⟩
        replace H : (impl_Network_distances.l0 k1 a1 y220 (y217.length : Int) (wrap64 (x18_1 + 1)) l0_0 l0_1) = some r := by first | (rw [hy220]; with_reducible exact H) | (have H2_ := (Option.bind_some _ _).symm.trans H; rw [hy220]; with_reducible exact H2_) | (have H2_ := (Option.bind_some _ _).symm.trans H; with_reducible exact H2_) | with_reducible exact H | (rw [hy220]; exact H) | exact H
        have Ny220 := Aside0.mk hy220
        clear hy220
        have H' := Aside0.mk H
        clear H
        have p13 : 0 ≤ (x18_1 : Int) := of_decide_eq_true (by first | (with_reducible assumption) | assumption)
        have q13 : (x18_1 : Int) < ((x5_1.length : Int) : Int) := of_decide_eq_true (by first | (with_reducible assumption) | assumption)
        obtain ⟨go13, co13, eo13, gb13, gl13, cl13, HG13⟩ := Kd.R_form HO_5.out (by omega)
        (first | cases eo13 | (injection eo13 with ea_ en_ ec_; (first | subst ea_ | (injection ea_ with ea_; subst ea_)); subst ec_; clear en_))
        have GB13 := Aside0.mk gb13
        have GG13 := Aside0.mk HG13
        clear gb13 gl13 HG13
        obtain ⟨hx13_0, hf13_0⟩ := Kd.R_celln 0 HO_5.out (x18_1 : Int) p13 q13
        replace p13 := eq_true p13
        replace q13 := eq_true q13
        have HP14 := Kd.R_putg HO_5.out (x18_1 : Int) (-1)
        go_wp2_with (first | ((with_reducible refine gate_store (t := 2) (p := 23) rfl ?_); refine store_event (t := 2) (p := 23) (v := ?vo_w15) (w1 := (wr.setCell ⟨go13, (x18_1 : Int).toNat, none⟩ (.int .i64 (-1)))) ?hg ?ho ?hn ?hr ?_; (case ho => rfl); (case hg => rfl); (case hn => rfl); (case hr => first | (go_simp; done) | (go_simp; rfl)); intro w15 hw; have hg : wr.grownBy w15 (some go13) := (by rw [hw]; exact HP14.2); have hp_ : Kd.R (Kd.int .i64) 2 w15 w.heap.size (fun _ => True) (.slice (some ⟨go13, 0, none⟩) x5_1.length co9) y220 := (by rw [hw, Ny220.out]; exact HP14.1); clear HP14; have n0_ := Aside0.mk (hp_); have n1_ := Aside0.mk (blk_grown (g := gb216) (o := .cells #[.slice A0_0 l0_0.length c0_0, .slice A0_1 l0_1.length c0_1] 31 (0, 0)) (by (with_reducible repeat (first | refine bN ?_ _|refine bW ?_|refine bA ?_ _)); exact BK216.out) hg (Kd.R_ne HO_5.out BK216.out (by decide))); have n2_ := Aside0.mk ((by rw [hw]; exact below_set (HB.out) GB13.out : Below w.heap.size w w15)); clear HO_5; clear BK216; clear HB; have HO_5 := n0_; have BK216 := n1_; have HB := n2_; clear n0_ n1_ n2_; clear hg hw hp_))
        (try simp only [← hl5_1])
        go_roundg k1
        case measure => have := HK1.out; omega
        case rel => exact ⟨(y220), (wrap64 (x18_1 + 1)), (by first | rfl | (simp; done) | (simp [*]; done)), H', ⟨by have := HK1.out; omega⟩, ⟨by (try simp only [hl5_1]); (with_reducible repeat (first | apply rA|apply rN|apply rW)); exact HO_5.out⟩, ⟨by (try simp only [hl5_1]); (with_reducible repeat (first | refine bN ?_ _|refine bW ?_|refine bA ?_ _)); exact BK216.out⟩, ⟨by repeat (first | (with_reducible first | exact HB.out|apply wA|apply wN|apply wD |refine wS ?_ GE216.out) | exact HB.out)⟩⟩
       ·rw [if_neg c12] at H
        exact absurd H (by simp)
      ·rw [if_neg c11] at H
       exact absurd H (by simp)
     ·rw [if_neg c10] at H
      have c10b0 : decide (x18_1 < (y217.length : Int)) = false := decide_eq_false c10
      (try simp only [hl5_1] at c10b0)
      clear c10
      by_cases c16 : 0 ≤ a1
      ·rw [if_pos c16] at H
       have c16b0 : decide (0 ≤ a1) = true := decide_eq_true c16
       clear c16
       by_cases c17 : a1 < (x5_1.length : Int)
       ·rw [if_pos c17] at H
        have c17b0 : decide (a1 < (x5_1.length : Int)) = true := decide_eq_true c17
        (try simp only [hl5_1] at c17b0)
        clear c17
        obtain ⟨y221, hy221⟩ : ∃ y_ : List Int, y_ = (x5_1.set (a1 : Int).toNat 0) := ⟨_, rfl⟩
        replace H : (impl_Network_distances.l1 k1 y221 (([a1] : List Int)) l0_0 l0_1) = some r := by first | (rw [hy221]; with_reducible exact H) | (have H2_ := (Option.bind_some _ _).symm.trans H; rw [hy221]; with_reducible exact H2_) | (have H2_ := (Option.bind_some _ _).symm.trans H; with_reducible exact H2_) | with_reducible exact H | (rw [hy221]; exact H) | exact H
        have Ny221 := Aside0.mk hy221
        clear hy221
        obtain ⟨y222, hy222⟩ : ∃ y_ : List Int, y_ = (([a1] : List Int)) := ⟨_, rfl⟩
        replace H : (impl_Network_distances.l1 k1 y221 y222 l0_0 l0_1) = some r := by first | (rw [hy222]; with_reducible exact H) | (have H2_ := (Option.bind_some _ _).symm.trans H; rw [hy222]; with_reducible exact H2_) | (have H2_ := (Option.bind_some _ _).symm.trans H; with_reducible exact H2_) | with_reducible exact H | (rw [hy222]; exact H) | exact H
        have Ny222 := Aside0.mk hy222
        clear hy222
        have H' := Aside0.mk H
        clear H
        have p18 : 0 ≤ (a1 : Int) := of_decide_eq_true (by first | (with_reducible assumption) | assumption)
        have q18 : (a1 : Int) < ((x5_1.length : Int) : Int) := of_decide_eq_true (by first | (with_reducible assumption) | assumption)
        obtain ⟨go18, co18, eo18, gb18, gl18, cl18, HG18⟩ := Kd.R_form HO_5.out (by omega)
        (first | cases eo18 | (injection eo18 with ea_ en_ ec_; (first | subst ea_ | (injection ea_ with ea_; subst ea_)); subst ec_; clear en_))
        have GB18 := Aside0.mk gb18
        have GG18 := Aside0.mk HG18
        clear gb18 gl18 HG18
        obtain ⟨hx18_0, hf18_0⟩ := Kd.R_celln 0 HO_5.out (a1 : Int) p18 q18
        replace p18 := eq_true p18
        replace q18 := eq_true q18
        have HP19 := Kd.R_putg HO_5.out (a1 : Int) 0
        go_wp2_with (first | ((with_reducible refine gate_store (t := 2) (p := 27) rfl ?_); refine store_event (t := 2) (p := 27) (v := ?vo_w20) (w1 := (wr.setCell ⟨go18, (a1 : Int).toNat, none⟩ (.int .i64 0))) ?hg ?ho ?hn ?hr ?_; (case ho => rfl); (case hg => rfl); (case hn => rfl); (case hr => first | (go_simp; done) | (go_simp; rfl)); intro w20 hw; have hg : wr.grownBy w20 (some go18) := (by rw [hw]; exact HP19.2); have hp_ : Kd.R (Kd.int .i64) 2 w20 w.heap.size (fun _ => True) (.slice (some ⟨go18, 0, none⟩) x5_1.length co9) y221 := (by rw [hw, Ny221.out]; exact HP19.1); clear HP19; have n0_ := Aside0.mk (hp_); have n1_ := Aside0.mk (blk_grown (g := gb216) (o := .cells #[.slice A0_0 l0_0.length c0_0, .slice A0_1 l0_1.length c0_1] 31 (0, 0)) (by (with_reducible repeat (first | refine bN ?_ _|refine bW ?_|refine bA ?_ _)); exact BK216.out) hg (Kd.R_ne HO_5.out BK216.out (by decide))); have n2_ := Aside0.mk ((by rw [hw]; exact below_set (HB.out) GB18.out : Below w.heap.size w w20)); clear HO_5; clear BK216; clear HB; have HO_5 := n0_; have BK216 := n1_; have HB := n2_; clear n0_ n1_ n2_; clear hg hw hp_) | ((with_reducible refine gate_dst (N := 29) rfl ?_); refine Kd.R_lit (Kd.int .i64) _ 2 ?hg (N := 29) ?hd (xs := ([a1] : List Int)) (inner := [.int .i64 a1]) (ok := fun _ => True) (okp := fun _ => True) ?hr ?hp (fun _ hk => hk) trivial (Below.refl _ _) (Nat.le_refl _) (by simp) ?_; (case hd => rfl); (case hg => rfl); (case hr => first | (go_simp; done) | (go_simp; rfl)); (case hp => exact (Reps.one (show Kd.M (Kd.int .i64) _ _ _ a1 [.int .i64 a1] from rfl) (Reps.none _ _))); intro v223 w21 ho22 hb hg_ hnew_; clear hg_ hnew_; (first | rw [← Ny222.out] at ho22 | (simp only [Int.reduceToNat] at ho22; rw [← Ny222.out] at ho22)); have n0_ := Aside0.mk (Kd.R_elder' (by (with_reducible repeat (first | apply rA|apply rN|apply rW)); exact HO_5.out) (Kd.R_base ho22) hb); have n1_ := Aside0.mk (Kd.R_lower (Kd.R_new' ho22 (Kd.R_lt (by (with_reducible repeat (first | apply rA|apply rN|apply rW)); exact HO_5.out))) (below_size (by repeat (first | (with_reducible first | exact HB.out|apply wA|apply wN|apply wD |refine wS ?_ GE216.out) | exact HB.out)))); have n2_ := Aside0.mk (blk_below (g := gb216) (o := .cells #[.slice A0_0 l0_0.length c0_0, .slice A0_1 l0_1.length c0_1] 31 (0, 0)) (by (with_reducible repeat (first | refine bN ?_ _|refine bW ?_|refine bA ?_ _)); exact BK216.out) hb); have n3_ := Aside0.mk (below_step (by repeat (first | (with_reducible first | exact HB.out|apply wA|apply wN|apply wD |refine wS ?_ GE216.out) | exact HB.out)) hb); clear HO_5; clear BK216; clear HB; have HO_5 := n0_; have HO224 := n1_; have BK216 := n2_; have HB := n3_; clear n0_ n1_ n2_ n3_; clear hb ho22))
        go_loopg [7] k1 (fun kq v7 w' => ∃ (x5_2 : List Int) (x7_2 : List Int), Aside0 (impl_Network_distances.l1 kq x5_2 x7_2 l0_0 l0_1 = some r) ∧ Aside0 (kq ≤ k1) ∧ Aside0 (Kd.R (Kd.int .i64) 2 w' w.heap.size (fun k_ => some k_ ≠ (v7 : Value).ownBlock) (.slice (some ⟨go18, 0, none⟩) x5_1.length co9) x5_2) ∧ Aside0 (Kd.Q (Kd.int .i64) 2 w' w.heap.size (fun k_ => some k_ ≠ ((.slice (some ⟨go18, 0, none⟩) x5_1.length co9) : Value).ownBlock) v7 x7_2) ∧ Aside0 (w'.heap[gb216]? = some (.cells #[(.slice A0_0 l0_0.length c0_0), (.slice A0_1 l0_1.length c0_1)] 31 (0, 0))) ∧ Aside0 (Below w.heap.size w w'))
        case atStart => exact ⟨(y221), (y222), H', ⟨Nat.le_refl _⟩, ⟨by (try simp only [hl5_1]); (with_reducible repeat (first | apply rA|apply rN|apply rW)); exact Kd.R_mono HO_5.out (fun _ hk => hk.2)⟩, ⟨Kd.Q_of_R (by (try simp only [hl5_1]); (with_reducible repeat (first | apply rA|apply rN|apply rW)); exact Kd.R_mono HO224.out (fun _ hk => hk.2))⟩, ⟨by (try simp only [hl5_1]); (with_reducible repeat (first | refine bN ?_ _|refine bW ?_|refine bA ?_ _)); exact BK216.out⟩, ⟨by repeat (first | (with_reducible first | exact HB.out|apply wA|apply wN|apply wD |refine wS ?_ GE216.out) | exact HB.out)⟩⟩
        case round =>
         clear H'
         try clear c1
         try clear p1
         try clear q1
         try clear hx1
         try clear p2
         try clear c3
         try clear c3b0
         try clear c3b1
         try clear c4
         try clear c4b0
         try clear c4b1
         try clear c5
         try clear p6
         try clear c10
         try clear c10b0
         try clear c11
         try clear c11b0
         try clear c12
         try clear c12b0
         try clear p13
         try clear q13
         try clear hx13
         try clear hf13
         try clear c16
         try clear c16b0
         try clear c17
         try clear c17b0
         try clear p18
         try clear q18
         try clear hx18
         try clear hf18
         try clear hcz6_0
         try clear hcz6_1
         try clear hfz6_0
         try clear hfz6_1
         try clear hx13_0
         try clear hx18_0
         try clear p13
         try clear p18
         try clear p2
         try clear q13
         try clear q18
         obtain ⟨x5_2, x7_2, HA, HK2, HO_5, HO_7, BK216, HB⟩ := hrel
         have hl5_2 := (Kd.R_reads' HO_5.out).1
         rw [hl5_2] at HO_5
         (try simp only [hl5_2])
         (try simp only [hl5_2] at BK216)
         (try simp only [hl5_2] at HO_7)
         cases gk with
         | zero => exact absurd HA.out (by simp [impl_Network_distances.l1])
         | succ k2 =>
          have H := HA.out
          clear HA
          simp only [impl_Network_distances.l1] at H
          by_cases c23 : (x7_2.length : Int) > 0
          ·rw [if_pos c23] at H
           have c23b0 : decide (0 < (x7_2.length : Int)) = true := decide_eq_true c23
           (try simp only [hl5_1] at c23b0)
           (try simp only [hl5_2] at c23b0)
           have c23b1 : decide (0 < x7_2.length) = true := decide_eq_true (by omega)
           (try simp only [hl5_1] at c23b1)
           (try simp only [hl5_2] at c23b1)
           clear c23
           have H' := Aside0.mk H
           clear H
           obtain ⟨Ao24, co24, eo24, _⟩ := Kd.Q_slice HO_7.out
           subst eo24
           have hcz25_0 : wr.cell? ⟨gb216, 0, none⟩ = some (.slice A0_0 l0_0.length c0_0) := (blk_cell BK216.out 0).trans rfl
           have hcz25_1 : wr.cell? ⟨gb216, 1, none⟩ = some (.slice A0_1 l0_1.length c0_1) := (blk_cell BK216.out 1).trans rfl
           have hfz25_0 := blk_frozen BK216.out 0
           have hfz25_1 := blk_frozen BK216.out 1
           go_wp2
           go_loopg [7, 38] k2 (fun kq v7 v38 w' => ∃ (x5_3 : List Int) (x7_3 : List Int) (x38_3 : Int), v38 = .int .i64 x38_3 ∧ Aside0 (impl_Network_distances.l2 kq x5_3 x7_3 l0_1 (l0_1.length : Int) x38_3 l0_0 l0_1 = some r) ∧ Aside0 (kq ≤ k2) ∧ Aside0 (Kd.R (Kd.int .i64) 2 w' w.heap.size (fun k_ => some k_ ≠ (v7 : Value).ownBlock) (.slice (some ⟨go18, 0, none⟩) x5_2.length co9) x5_3) ∧ Aside0 (Kd.Q (Kd.int .i64) 2 w' w.heap.size (fun k_ => some k_ ≠ ((.slice (some ⟨go18, 0, none⟩) x5_2.length co9) : Value).ownBlock) v7 x7_3) ∧ Aside0 (w'.heap[gb216]? = some (.cells #[(.slice A0_0 l0_0.length c0_0), (.slice A0_1 l0_1.length c0_1)] 31 (0, 0))) ∧ Aside0 (Below w.heap.size w w'))
           case atStart => exact ⟨(x5_2), (x7_2), (0), (by first | rfl | (simp; done) | (simp [*]; done)), H', ⟨Nat.le_refl _⟩, ⟨by (try simp only [hl5_1]); (try simp only [hl5_2]); (with_reducible repeat (first | apply rA|apply rN|apply rW)); exact HO_5.out⟩, ⟨by (try simp only [hl5_1]); (try simp only [hl5_2]); (with_reducible repeat (first | apply Kd.Q_alloc | apply Kd.Q_drewN | apply Kd.Q_drew)); exact HO_7.out⟩, ⟨by (try simp only [hl5_1]); (try simp only [hl5_2]); (with_reducible repeat (first | refine bN ?_ _|refine bW ?_|refine bA ?_ _)); exact BK216.out⟩, ⟨by repeat (first | (with_reducible first | exact HB.out|apply wA|apply wN|apply wD |refine wS ?_ GE216.out) | exact HB.out)⟩⟩
           case round =>
            clear H'
            try clear c1
            try clear p1
            try clear q1
            try clear hx1
            try clear c2
            try clear p2
            try clear c3
            try clear c3b0
            try clear c3b1
            try clear c4
            try clear c4b0
            try clear c4b1
            try clear c5
            try clear p6
            try clear c10
            try clear c10b0
            try clear c11
            try clear c11b0
            try clear c12
            try clear c12b0
            try clear p13
            try clear q13
            try clear hx13
            try clear hf13
            try clear c16
            try clear c16b0
            try clear c17
            try clear c17b0
            try clear p18
            try clear q18
            try clear hx18
            try clear hf18
            try clear c23
            try clear c23b0
            try clear c23b1
            try clear hcz25_0
            try clear hcz25_1
            try clear hcz6_0
            try clear hcz6_1
            try clear hfz25_0
            try clear hfz25_1
            try clear hfz6_0
            try clear hfz6_1
            try clear hx13_0
            try clear hx18_0
            try clear p1
            try clear p13
            try clear p18
            try clear p2
            try clear p6
            try clear q1
            try clear q13
            try clear q18
            obtain ⟨x5_3, x7_3, x38_3, rfl, HA, HK3, HO_5, HO_7, BK216, HB⟩ := hrel
            have hl5_3 := (Kd.R_reads' HO_5.out).1
            rw [hl5_3] at HO_5
            (try simp only [hl5_3])
            (try simp only [hl5_3] at BK216)
            (try simp only [hl5_3] at HO_7)
            cases gk with
            | zero => exact absurd HA.out (by simp [impl_Network_distances.l2])
            | succ k3 =>
             have H := HA.out
             clear HA
             simp only [impl_Network_distances.l2] at H
             by_cases c26 : x38_3 < (l0_1.length : Int)
             ·rw [if_pos c26] at H
              have c26b0 : decide (x38_3 < (l0_1.length : Int)) = true := decide_eq_true c26
              (try simp only [hl5_1] at c26b0)
              (try simp only [hl5_2] at c26b0)
              (try simp only [hl5_3] at c26b0)
              clear c26
              by_cases c27 : 0 ≤ x38_3
              ·rw [if_pos c27] at H
               have c27b0 : decide (0 ≤ x38_3) = true := decide_eq_true c27
               clear c27
               by_cases c28 : x38_3 < (l0_1.length : Int)
               ·rw [if_pos c28] at H
                have c28b0 : decide (x38_3 < (l0_1.length : Int)) = true := decide_eq_true c28
                (try simp only [hl5_1] at c28b0)
                (try simp only [hl5_2] at c28b0)
                (try simp only [hl5_3] at c28b0)
                clear c28
                by_cases c29 : 0 < (x7_3.length : Int)
                ·rw [if_pos c29] at H
                 have c29b0 : decide (0 < (x7_3.length : Int)) = true := decide_eq_true c29
                 (try simp only [hl5_1] at c29b0)
                 (try simp only [hl5_2] at c29b0)
                 (try simp only [hl5_3] at c29b0)
                 have c29b1 : decide (0 < x7_3.length) = true := decide_eq_true (by omega)
                 (try simp only [hl5_1] at c29b1)
                 (try simp only [hl5_2] at c29b1)
                 (try simp only [hl5_3] at c29b1)
                 clear c29
                 replace H := Option.bind_eq_some_iff.mp H
                 obtain ⟨⟨t228, t229⟩, A300, H⟩ := H
                 replace H : (if t229 = true then (if 0 ≤ t228 then (if t228 < (x5_3.length : Int) then (if (rd x5_3 t228) < 0 then (if 0 ≤ (rd x7_3 0) then (if (rd x7_3 0) < (x5_3.length : Int) then (if x7_3.length < 17592186044416 then (impl_Network_distances.l2 k3 (x5_3.set (t228 : Int).toNat (wrap64 ((rd x5_3 (rd x7_3 0)) + 1))) (x7_3 ++ [t228]) l0_1 (l0_1.length : Int) (wrap64 (x38_3 + 1)) l0_0 l0_1) else (none)) else (none)) else (none)) else (impl_Network_distances.l2 k3 x5_3 x7_3 l0_1 (l0_1.length : Int) (wrap64 (x38_3 + 1)) l0_0 l0_1)) else (none)) else (none)) else (impl_Network_distances.l2 k3 x5_3 x7_3 l0_1 (l0_1.length : Int) (wrap64 (x38_3 + 1)) l0_0 l0_1)) = some r := H
                 have A30 := Aside0.mk A300
                 clear A300
                 by_cases c31 : t229 = true
                 ·subst c31
                  have H1 : (if 0 ≤ t228 then (if t228 < (x5_3.length : Int) then (if (rd x5_3 t228) < 0 then (if 0 ≤ (rd x7_3 0) then (if (rd x7_3 0) < (x5_3.length : Int) then (if x7_3.length < 17592186044416 then (impl_Network_distances.l2 k3 (x5_3.set (t228 : Int).toNat (wrap64 ((rd x5_3 (rd x7_3 0)) + 1))) (x7_3 ++ [t228]) l0_1 (l0_1.length : Int) (wrap64 (x38_3 + 1)) l0_0 l0_1) else (none)) else (none)) else (none)) else (impl_Network_distances.l2 k3 x5_3 x7_3 l0_1 (l0_1.length : Int) (wrap64 (x38_3 + 1)) l0_0 l0_1)) else (none)) else (none)) = some r := by rw [if_pos rfl] at H; exact H
                  clear H
                  have H := H1
                  clear H1
                  by_cases c32 : 0 ≤ t228
                  ·rw [if_pos c32] at H
                   have c32b0 : decide (0 ≤ t228) = true := decide_eq_true c32
                   clear c32
                   by_cases c33 : t228 < (x5_3.length : Int)
                   ·rw [if_pos c33] at H
                    have c33b0 : decide (t228 < (x5_3.length : Int)) = true := decide_eq_true c33
                    (try simp only [hl5_1] at c33b0)
                    (try simp only [hl5_2] at c33b0)
                    (try simp only [hl5_3] at c33b0)
                    clear c33
                    by_cases c34 : (rd x5_3 t228) < 0
                    ·rw [if_pos c34] at H
                     have c34b0 : decide ((rd x5_3 t228) < 0) = true := decide_eq_true c34
                     clear c34
                     by_cases c35 : 0 ≤ (rd x7_3 0)
                     ·rw [if_pos c35] at H
                      have c35b0 : decide (0 ≤ (rd x7_3 0)) = true := decide_eq_true c35
                      clear c35
                      by_cases c36 : (rd x7_3 0) < (x5_3.length : Int)
                      ·rw [if_pos c36] at H
                       have c36b0 : decide ((rd x7_3 0) < (x5_3.length : Int)) = true := decide_eq_true c36
                       (try simp only [hl5_1] at c36b0)
                       (try simp only [hl5_2] at c36b0)
                       (try simp only [hl5_3] at c36b0)
                       clear c36
                       obtain ⟨y233, hy233⟩ : ∃ y_ : List Int, y_ = (x5_3.set (t228 : Int).toNat (wrap64 ((rd x5_3 (rd x7_3 0)) + 1))) := ⟨_, rfl⟩
                       replace H : (if x7_3.length < 17592186044416 then (impl_Network_distances.l2 k3 y233 (x7_3 ++ [t228]) l0_1 (l0_1.length : Int) (wrap64 (x38_3 + 1)) l0_0 l0_1) else (none)) = some r := by first | (rw [hy233]; with_reducible exact H) | (have H2_ := (Option.bind_some _ _).symm.trans H; rw [hy233]; with_reducible exact H2_) | (have H2_ := (Option.bind_some _ _).symm.trans H; with_reducible exact H2_) | with_reducible exact H | (rw [hy233]; exact H) | exact H
                       have Ny233 := Aside0.mk hy233
                       clear hy233
                       by_cases c38 : x7_3.length < 17592186044416
                       ·rw [if_pos c38] at H
                        have LMc38 := Aside0.mk c38
                        clear c38
                        obtain ⟨y234, hy234⟩ : ∃ y_ : List Int, y_ = (x7_3 ++ [t228]) := ⟨_, rfl⟩
                        replace H : (impl_Network_distances.l2 k3 y233 y234 l0_1 (l0_1.length : Int) (wrap64 (x38_3 + 1)) l0_0 l0_1) = some r := by first | (rw [hy234]; with_reducible exact H) | (have H2_ := (Option.bind_some _ _).symm.trans H; rw [hy234]; with_reducible exact H2_) | (have H2_ := (Option.bind_some _ _).symm.trans H; with_reducible exact H2_) | with_reducible exact H | (rw [hy234]; exact H) | exact H
                        have Ny234 := Aside0.mk hy234
                        clear hy234
                        have H' := Aside0.mk H
                        clear H
                        have p225 : 0 ≤ (x38_3 : Int) := of_decide_eq_true (by first | (with_reducible assumption) | assumption)
                        have q225 : x38_3 < (l0_1.length : Int) := of_decide_eq_true (by first | (with_reducible assumption) | assumption)
                        obtain ⟨ad225, e225, hx225_0, hx225_1, hx225_2, hx225_3, hx225_4, hx225_5⟩ := at_T60 HR0_1.out x38_3 p225 q225
                        cases e225
                        replace hx225_0 := (HB.out.cell (World.block_lt_of_cell? w _ hx225_0)).trans hx225_0
                        replace hx225_1 := (HB.out.cell (World.block_lt_of_cell? w _ hx225_1)).trans hx225_1
                        replace hx225_2 := (HB.out.cell (World.block_lt_of_cell? w _ hx225_2)).trans hx225_2
                        replace hx225_3 := (HB.out.cell (World.block_lt_of_cell? w _ hx225_3)).trans hx225_3
                        replace hx225_4 := (HB.out.cell (World.block_lt_of_cell? w _ hx225_4)).trans hx225_4
                        replace hx225_5 := (HB.out.cell (World.block_lt_of_cell? w _ hx225_5)).trans hx225_5
                        replace p225 := eq_true p225
                        replace q225 := eq_true q225
                        try go_wp2_with (first | ((with_reducible refine gate_dst (N := 9) rfl ?_); refine box_event ?hg (N := 9) ?hd (cs := #[.string (⟨#[]⟩ : ByteArray), .int .i64 0, .int .i64 0, .int .i64 0, .int .i64 0, .int .i64 0]) (t := 60) ?hr ?_; (case hd => rfl); (case hg => rfl); (case hr => first | (go_simp; done) | (go_simp; rfl)); intro gb226 hg w39 hbox hb; have n0_ := Aside0.mk (Kd.R_below (by (with_reducible repeat (first | apply rA|apply rN|apply rW)); exact HO_5.out) hb); have n1_ := Aside0.mk (Kd.Q_below (by (with_reducible repeat (first | apply Kd.Q_alloc | apply Kd.Q_drewN | apply Kd.Q_drew)); exact HO_7.out) hb); have n2_ := Aside0.mk (blk_below (g := gb216) (o := .cells #[.slice A0_0 l0_0.length c0_0, .slice (some ad225) l0_1.length c0_1] 31 (0, 0)) (by (with_reducible repeat (first | refine bN ?_ _|refine bW ?_|refine bA ?_ _)); exact BK216.out) hb); have n3_ := Aside0.mk (below_step (by repeat (first | (with_reducible first | exact HB.out|apply wA|apply wN|apply wD |refine wS ?_ GE216.out) | exact HB.out)) hb); have n4_ := Aside0.mk (hbox); have n5_ := Aside0.mk ((by rw [hg]; exact (below_size (by repeat (first | (with_reducible first | exact HB.out|apply wA|apply wN|apply wD |refine wS ?_ GE216.out) | exact HB.out))) : w.heap.size ≤ gb226)); have n6_ := Aside0.mk ((by rw [hg]; exact (below_size (by repeat (first | (with_reducible first | exact HB.out|apply wA|apply wN|apply wD |refine wS ?_ GE216.out) | exact HB.out))) : w.heap.size ≤ gb226)); have n7_ := Aside0.mk ((by rw [hg]; exact Nat.ne_of_lt (blk_lt (g := gb216) (o := .cells #[.slice A0_0 l0_0.length c0_0, .slice (some ad225) l0_1.length c0_1] 31 (0, 0)) (by (with_reducible repeat (first | refine bN ?_ _|refine bW ?_|refine bA ?_ _)); exact BK216.out)) : gb216 ≠ gb226)); have n8_ := Aside0.mk ((by rw [hg]; exact Nat.ne_of_gt (blk_lt (g := gb216) (o := .cells #[.slice A0_0 l0_0.length c0_0, .slice (some ad225) l0_1.length c0_1] 31 (0, 0)) (by (with_reducible repeat (first | refine bN ?_ _|refine bW ?_|refine bA ?_ _)); exact BK216.out)) : gb226 ≠ gb216)); clear HO_5; clear HO_7; clear BK216; clear HB; have HO_5 := n0_; have HO_7 := n1_; have BK216 := n2_; have HB := n3_; have BK226 := n4_; have GW226 := n5_; have GE226 := n6_; have NB216_226 := n7_; have NB226_216 := n8_; clear n0_ n1_ n2_ n3_ n4_ n5_ n6_ n7_ n8_; clear hb hbox hg; have hnb40 := NB226_216.out; have hnc40 := NB216_226.out; have hcz41_0 : w39.cell? ⟨gb226, 0, none⟩ = some (.string (⟨#[]⟩ : ByteArray)) := (blk_cell BK226.out 0).trans rfl; have hcz41_1 : w39.cell? ⟨gb226, 1, none⟩ = some (.int .i64 0) := (blk_cell BK226.out 1).trans rfl; have hcz41_2 : w39.cell? ⟨gb226, 2, none⟩ = some (.int .i64 0) := (blk_cell BK226.out 2).trans rfl; have hcz41_3 : w39.cell? ⟨gb226, 3, none⟩ = some (.int .i64 0) := (blk_cell BK226.out 3).trans rfl; have hcz41_4 : w39.cell? ⟨gb226, 4, none⟩ = some (.int .i64 0) := (blk_cell BK226.out 4).trans rfl; have hcz41_5 : w39.cell? ⟨gb226, 5, none⟩ = some (.int .i64 0) := (blk_cell BK226.out 5).trans rfl; have hfz41_0 := blk_frozen BK226.out 0; have hfz41_1 := blk_frozen BK226.out 1; have hfz41_2 := blk_frozen BK226.out 2; have hfz41_3 := blk_frozen BK226.out 3; have hfz41_4 := blk_frozen BK226.out 4; have hfz41_5 := blk_frozen BK226.out 5))
                        have n0_ : Aside0 (Kd.R (Kd.int .i64) 2 ((((((w39.setCell ⟨gb226, 0, none⟩ (.string ((rd_T60 l0_1 x38_3).f0))).setCell ⟨gb226, 1, none⟩ (.int .i64 ((rd_T60 l0_1 x38_3).f1))).setCell ⟨gb226, 2, none⟩ (.int .i64 ((rd_T60 l0_1 x38_3).f2))).setCell ⟨gb226, 3, none⟩ (.int .i64 ((rd_T60 l0_1 x38_3).f3))).setCell ⟨gb226, 4, none⟩ (.int .i64 ((rd_T60 l0_1 x38_3).f4))).setCell ⟨gb226, 5, none⟩ (.int .i64 ((rd_T60 l0_1 x38_3).f5))) w.heap.size (fun k_ => some k_ ≠ (u7 : Value).ownBlock) (.slice (some ⟨go18, 0, none⟩) x5_3.length co9) x5_3) := ⟨by (with_reducible repeat (first | apply rA|apply rN|apply rW)); exact Kd.R_mono (Kd.R_far (p := ⟨gb226, 5, none⟩) (Kd.R_far (p := ⟨gb226, 4, none⟩) (Kd.R_far (p := ⟨gb226, 3, none⟩) (Kd.R_far (p := ⟨gb226, 2, none⟩) (Kd.R_far (p := ⟨gb226, 1, none⟩) (Kd.R_far (p := ⟨gb226, 0, none⟩) (Kd.R_types HO_5.out BK226.out (by decide)) (fun _ hk => hk.2) (.string ((rd_T60 l0_1 x38_3).f0))) (fun _ hk => hk.2) (.int .i64 ((rd_T60 l0_1 x38_3).f1))) (fun _ hk => hk.2) (.int .i64 ((rd_T60 l0_1 x38_3).f2))) (fun _ hk => hk.2) (.int .i64 ((rd_T60 l0_1 x38_3).f3))) (fun _ hk => hk.2) (.int .i64 ((rd_T60 l0_1 x38_3).f4))) (fun _ hk => hk.2) (.int .i64 ((rd_T60 l0_1 x38_3).f5))) (fun _ hk => hk.1)⟩
                        have n1_ : Aside0 (Kd.Q (Kd.int .i64) 2 ((((((w39.setCell ⟨gb226, 0, none⟩ (.string ((rd_T60 l0_1 x38_3).f0))).setCell ⟨gb226, 1, none⟩ (.int .i64 ((rd_T60 l0_1 x38_3).f1))).setCell ⟨gb226, 2, none⟩ (.int .i64 ((rd_T60 l0_1 x38_3).f2))).setCell ⟨gb226, 3, none⟩ (.int .i64 ((rd_T60 l0_1 x38_3).f3))).setCell ⟨gb226, 4, none⟩ (.int .i64 ((rd_T60 l0_1 x38_3).f4))).setCell ⟨gb226, 5, none⟩ (.int .i64 ((rd_T60 l0_1 x38_3).f5))) w.heap.size (fun k_ => some k_ ≠ (.slice (some ⟨go18, 0, none⟩) x5_3.length co9 : Value).ownBlock) u7 x7_3) := ⟨by (with_reducible repeat (first | apply Kd.Q_alloc | apply Kd.Q_drewN | apply Kd.Q_drew)); exact Kd.Q_mono (Kd.Q_far (p := ⟨gb226, 5, none⟩) (Kd.Q_far (p := ⟨gb226, 4, none⟩) (Kd.Q_far (p := ⟨gb226, 3, none⟩) (Kd.Q_far (p := ⟨gb226, 2, none⟩) (Kd.Q_far (p := ⟨gb226, 1, none⟩) (Kd.Q_far (p := ⟨gb226, 0, none⟩) (Kd.Q_types HO_7.out BK226.out (by decide)) (fun _ hk => hk.2) (.string ((rd_T60 l0_1 x38_3).f0))) (fun _ hk => hk.2) (.int .i64 ((rd_T60 l0_1 x38_3).f1))) (fun _ hk => hk.2) (.int .i64 ((rd_T60 l0_1 x38_3).f2))) (fun _ hk => hk.2) (.int .i64 ((rd_T60 l0_1 x38_3).f3))) (fun _ hk => hk.2) (.int .i64 ((rd_T60 l0_1 x38_3).f4))) (fun _ hk => hk.2) (.int .i64 ((rd_T60 l0_1 x38_3).f5))) (fun _ hk => hk.1)⟩
                        have n2_ : Aside0 (((((((w39.setCell ⟨gb226, 0, none⟩ (.string ((rd_T60 l0_1 x38_3).f0))).setCell ⟨gb226, 1, none⟩ (.int .i64 ((rd_T60 l0_1 x38_3).f1))).setCell ⟨gb226, 2, none⟩ (.int .i64 ((rd_T60 l0_1 x38_3).f2))).setCell ⟨gb226, 3, none⟩ (.int .i64 ((rd_T60 l0_1 x38_3).f3))).setCell ⟨gb226, 4, none⟩ (.int .i64 ((rd_T60 l0_1 x38_3).f4))).setCell ⟨gb226, 5, none⟩ (.int .i64 ((rd_T60 l0_1 x38_3).f5))).heap[gb216]? = some (.cells #[.slice A0_0 l0_0.length c0_0, .slice (some ad225) l0_1.length c0_1] 31 (0, 0))) := ⟨by (with_reducible repeat (first | refine bN ?_ _|refine bW ?_|refine bA ?_ _)); refine blk_far ?_ NB216_226.out _; (with_reducible repeat (first | refine bN ?_ _|refine bW ?_|refine bA ?_ _)); refine blk_far ?_ NB216_226.out _; (with_reducible repeat (first | refine bN ?_ _|refine bW ?_|refine bA ?_ _)); refine blk_far ?_ NB216_226.out _; (with_reducible repeat (first | refine bN ?_ _|refine bW ?_|refine bA ?_ _)); refine blk_far ?_ NB216_226.out _; (with_reducible repeat (first | refine bN ?_ _|refine bW ?_|refine bA ?_ _)); refine blk_far ?_ NB216_226.out _; (with_reducible repeat (first | refine bN ?_ _|refine bW ?_|refine bA ?_ _)); refine blk_far ?_ NB216_226.out _; (with_reducible repeat (first | refine bN ?_ _|refine bW ?_|refine bA ?_ _)); exact BK216.out⟩
                        have n3_ : Aside0 (((((((w39.setCell ⟨gb226, 0, none⟩ (.string ((rd_T60 l0_1 x38_3).f0))).setCell ⟨gb226, 1, none⟩ (.int .i64 ((rd_T60 l0_1 x38_3).f1))).setCell ⟨gb226, 2, none⟩ (.int .i64 ((rd_T60 l0_1 x38_3).f2))).setCell ⟨gb226, 3, none⟩ (.int .i64 ((rd_T60 l0_1 x38_3).f3))).setCell ⟨gb226, 4, none⟩ (.int .i64 ((rd_T60 l0_1 x38_3).f4))).setCell ⟨gb226, 5, none⟩ (.int .i64 ((rd_T60 l0_1 x38_3).f5))).heap[gb226]? = some (.cells #[.string ((rd_T60 l0_1 x38_3).f0), .int .i64 ((rd_T60 l0_1 x38_3).f1), .int .i64 ((rd_T60 l0_1 x38_3).f2), .int .i64 ((rd_T60 l0_1 x38_3).f3), .int .i64 ((rd_T60 l0_1 x38_3).f4), .int .i64 ((rd_T60 l0_1 x38_3).f5)] 60 (0, 0))) := ⟨by (with_reducible repeat (first | refine bN ?_ _|refine bW ?_|refine bA ?_ _)); refine blk_put (cs := #[.string ((rd_T60 l0_1 x38_3).f0), .int .i64 ((rd_T60 l0_1 x38_3).f1), .int .i64 ((rd_T60 l0_1 x38_3).f2), .int .i64 ((rd_T60 l0_1 x38_3).f3), .int .i64 ((rd_T60 l0_1 x38_3).f4), .int .i64 0]) ?_ 5 _ rfl; (with_reducible repeat (first | refine bN ?_ _|refine bW ?_|refine bA ?_ _)); refine blk_put (cs := #[.string ((rd_T60 l0_1 x38_3).f0), .int .i64 ((rd_T60 l0_1 x38_3).f1), .int .i64 ((rd_T60 l0_1 x38_3).f2), .int .i64 ((rd_T60 l0_1 x38_3).f3), .int .i64 0, .int .i64 0]) ?_ 4 _ rfl; (with_reducible repeat (first | refine bN ?_ _|refine bW ?_|refine bA ?_ _)); refine blk_put (cs := #[.string ((rd_T60 l0_1 x38_3).f0), .int .i64 ((rd_T60 l0_1 x38_3).f1), .int .i64 ((rd_T60 l0_1 x38_3).f2), .int .i64 0, .int .i64 0, .int .i64 0]) ?_ 3 _ rfl; (with_reducible repeat (first | refine bN ?_ _|refine bW ?_|refine bA ?_ _)); refine blk_put (cs := #[.string ((rd_T60 l0_1 x38_3).f0), .int .i64 ((rd_T60 l0_1 x38_3).f1), .int .i64 0, .int .i64 0, .int .i64 0, .int .i64 0]) ?_ 2 _ rfl; (with_reducible repeat (first | refine bN ?_ _|refine bW ?_|refine bA ?_ _)); refine blk_put (cs := #[.string ((rd_T60 l0_1 x38_3).f0), .int .i64 0, .int .i64 0, .int .i64 0, .int .i64 0, .int .i64 0]) ?_ 1 _ rfl; (with_reducible repeat (first | refine bN ?_ _|refine bW ?_|refine bA ?_ _)); refine blk_put (cs := #[.string (⟨#[]⟩ : ByteArray), .int .i64 0, .int .i64 0, .int .i64 0, .int .i64 0, .int .i64 0]) ?_ 0 _ rfl; (with_reducible repeat (first | refine bN ?_ _|refine bW ?_|refine bA ?_ _)); exact BK226.out⟩
                        have n4_ : Aside0 (Below w.heap.size w ((((((w39.setCell ⟨gb226, 0, none⟩ (.string ((rd_T60 l0_1 x38_3).f0))).setCell ⟨gb226, 1, none⟩ (.int .i64 ((rd_T60 l0_1 x38_3).f1))).setCell ⟨gb226, 2, none⟩ (.int .i64 ((rd_T60 l0_1 x38_3).f2))).setCell ⟨gb226, 3, none⟩ (.int .i64 ((rd_T60 l0_1 x38_3).f3))).setCell ⟨gb226, 4, none⟩ (.int .i64 ((rd_T60 l0_1 x38_3).f4))).setCell ⟨gb226, 5, none⟩ (.int .i64 ((rd_T60 l0_1 x38_3).f5)))) := ⟨by repeat (first | (with_reducible first | exact HB.out|apply wA|apply wN|apply wD |refine wS ?_ GE216.out |refine wS ?_ GE226.out) | exact HB.out)⟩
                        (try clear HO_5)
                        (try clear HO_7)
                        (try clear BK216)
                        (try clear BK226)
                        (try clear HB)
                        generalize ((((((w39.setCell ⟨gb226, 0, none⟩ (.string ((rd_T60 l0_1 x38_3).f0))).setCell ⟨gb226, 1, none⟩ (.int .i64 ((rd_T60 l0_1 x38_3).f1))).setCell ⟨gb226, 2, none⟩ (.int .i64 ((rd_T60 l0_1 x38_3).f2))).setCell ⟨gb226, 3, none⟩ (.int .i64 ((rd_T60 l0_1 x38_3).f3))).setCell ⟨gb226, 4, none⟩ (.int .i64 ((rd_T60 l0_1 x38_3).f4))).setCell ⟨gb226, 5, none⟩ (.int .i64 ((rd_T60 l0_1 x38_3).f5))) = w42 at n0_ n1_ n2_ n3_ n4_ ⊢
                        have HO_5 := n0_
                        have HO_7 := n1_
                        have BK216 := n2_
                        have BK226 := n3_
                        have HB := n4_
                        clear n0_ n1_ n2_ n3_ n4_
                        have n0_ := Aside0.mk (Kd.R_drew HO_5.out)
                        have n1_ := Aside0.mk (Kd.Q_drew HO_7.out)
                        have n2_ := Aside0.mk (blk_drew BK216.out)
                        have n3_ := Aside0.mk (blk_drew BK226.out)
                        have n4_ := Aside0.mk (below_drew1 HB.out)
                        clear HO_5
                        clear HO_7
                        clear BK216
                        clear BK226
                        clear HB
                        have HO_5 := n0_
                        have HO_7 := n1_
                        have BK216 := n2_
                        have BK226 := n3_
                        have HB := n4_
                        clear n0_ n1_ n2_ n3_ n4_
                        obtain ⟨Ao44, co44, eo44, _⟩ := Kd.Q_slice HO_7.out
                        (first | subst eo44 | (injection eo44 with f1_ f2_ f3_; have f4_ := f1_.symm; have f5_ := f3_.symm; clear f1_ f2_ f3_; subst f4_; subst f5_))
                        have p227 : 0 ≤ (0 : Int) := (by omega)
                        have q227 : 0 < (x7_3.length : Int) := of_decide_eq_true (by first | (with_reducible assumption) | assumption)
                        obtain ⟨ad227, e227, hx227_0⟩ := Kd.at_int (Kd.Q_reads' HO_7.out).2.2 0 p227 q227
                        cases e227
                        have qi227 : (0 < x7_3.length) = True := eq_true (by omega)
                        (try rw [show ((0 : Int)).toNat = 0 from rfl] at hx227_0)
                        (try rw [Addr.add_zero'] at hx227_0)
                        replace p227 := eq_true p227
                        replace q227 := eq_true q227
                        refine start_ (n := 10) (S := fun w' => w'.cell? ⟨gb226, 0, none⟩ = some (.string ((rd_T60 l0_1 x38_3).f0)) ∧ w'.cell? ⟨gb226, 1, none⟩ = some (.int .i64 ((rd_T60 l0_1 x38_3).f1)) ∧ w'.cell? ⟨gb226, 2, none⟩ = some (.int .i64 ((rd_T60 l0_1 x38_3).f2)) ∧ w'.cell? ⟨gb226, 3, none⟩ = some (.int .i64 ((rd_T60 l0_1 x38_3).f3)) ∧ w'.cell? ⟨gb226, 4, none⟩ = some (.int .i64 ((rd_T60 l0_1 x38_3).f4)) ∧ w'.cell? ⟨gb226, 5, none⟩ = some (.int .i64 ((rd_T60 l0_1 x38_3).f5)) ∧ w'.cell? ad227 = some (.int .i64 (rd x7_3 0))) (ds := []) #[J,J,J,J,J,J,J,J,J,J] (by kernel_rfl) rfl rfl ⟨(blk_cell BK226.out 0).trans rfl, (blk_cell BK226.out 1).trans rfl, (blk_cell BK226.out 2).trans rfl, (blk_cell BK226.out 3).trans rfl, (blk_cell BK226.out 4).trans rfl, (blk_cell BK226.out 5).trans rfl, hx227_0⟩ (fun hHeld => ?_); refine with_tabW impl_Network_distances.tab14 impl_Network_distances.bits14 (fun HT_ HW_ => ?_)
                        generalize w42.drew = w43 at HO_5 HO_7 BK216 BK226 HB hx227_0 hHeld ⊢
                        refine pure_ (i := 1) (N := some 44) (v := ?_) (a' := ?_) #[J,Y,J,J,J,J,J,J,J,J] rfl rfl (any_of HT_.out (by kernel_rfl)) (fun _ _ _ h => h) (Or.inl ⟨by rfl, ?_⟩) ?_ ?_; rotate_left
                        ·intro w'; go_simp; with_reducible rfl
                        rotate_left
                        ·simp only [pU,pN,sB,sZ,sS,i64_w,i32_w]; rfl
                        refine pure_ (i := 2) (N := some 45) (v := ?_) (a' := ?_) #[J,Y,Y,J,J,J,J,J,J,J] rfl rfl (any_of HT_.out (by kernel_rfl)) (fun _ _ _ h => h) (Or.inl ⟨by rfl, ?_⟩) ?_ ?_; rotate_left
                        ·intro w'; go_simp; with_reducible rfl
                        rotate_left
                        ·simp only [pU,pN,sB,sZ,sS,i64_w,i32_w]; rfl
                        refine take_ (i := 0) (N := some 43) (v := ?_) (a' := ?_) #[Y,Y,Y,J,J,J,J,J,J,J] rfl rfl (take_ofW HT_.out HW_.out (by kernel_rfl)) (fun _ _ _ h => h) (Or.inl ⟨by rfl, ?_⟩) hHeld ?_ ?_; rotate_left
                        ·rintro w' ⟨s0, s1, s2, s3, s4, s5, s6⟩; go_simp; with_reducible rfl
                        rotate_left
                        ·simp only [pU,pN,sB,sZ,sS,i64_w,i32_w]; rfl
                        refine take_ (i := 3) (N := some 46) (v := ?_) (a' := ?_) #[Y,Y,Y,Y,J,J,J,J,J,J] rfl rfl (take_ofW HT_.out HW_.out (by kernel_rfl)) (fun _ _ _ h => h) (Or.inl ⟨by rfl, ?_⟩) hHeld ?_ ?_; rotate_left
                        ·rintro w' ⟨s0, s1, s2, s3, s4, s5, s6⟩; go_simp; with_reducible rfl
                        rotate_left
                        ·simp only [pU,pN,sB,sZ,sS,i64_w,i32_w]; rfl
                        refine one_ (i := 4) (N := some 47) #[Y,Y,Y,Y,Y,J,J,J,J,J] rfl rfl (one_of HT_.out (by kernel_rfl)) (by decide) (fun K hK => ?_)
                        refine goes_ Try.func53 (by kernel_rfl) rfl #[.agg #[.string ((rd_T60 l0_1 x38_3).f0), .int .i64 ((rd_T60 l0_1 x38_3).f1), .int .i64 ((rd_T60 l0_1 x38_3).f2), .int .i64 ((rd_T60 l0_1 x38_3).f3), .int .i64 ((rd_T60 l0_1 x38_3).f4), .int .i64 ((rd_T60 l0_1 x38_3).f5)], .int .i64 (rd x7_3 0)] (by rfl) rfl rfl (by (try simp only [List.map_toArray, List.map_cons, List.map_nil]); first | done | rfl | (simp only [List.length_drop, List.length_take]; rfl)) ?_
                        with_reducible refine (impl_Pipe_other.calls ((rd_T60 l0_1 x38_3).f0) ((rd_T60 l0_1 x38_3).f1) ((rd_T60 l0_1 x38_3).f2) ((rd_T60 l0_1 x38_3).f3) ((rd_T60 l0_1 x38_3).f4) ((rd_T60 l0_1 x38_3).f5) (rd x7_3 0) t228 true _ A30.out).mono ?_
                        rintro e w45 ⟨rfl, hb⟩
                        have HS6_ := (hb.cell (World.block_lt_of_cell? _ _ (hHeld.2.2.2.2.2.2))).trans (hHeld.2.2.2.2.2.2)
                        refine ⟨_, rfl, ?_⟩
                        have n0_ := Aside0.mk (Kd.R_below (by (with_reducible repeat (first | apply rA|apply rN|apply rW)); exact HO_5.out) hb)
                        have n1_ := Aside0.mk (Kd.Q_below (by (with_reducible repeat (first | apply Kd.Q_alloc | apply Kd.Q_drewN | apply Kd.Q_drew)); exact HO_7.out) hb)
                        have n2_ := Aside0.mk (blk_below (g := gb216) (o := .cells #[.slice A0_0 l0_0.length c0_0, .slice (some ad225) l0_1.length c0_1] 31 (0, 0)) (by (with_reducible repeat (first | refine bN ?_ _|refine bW ?_|refine bA ?_ _)); exact BK216.out) hb)
                        have n3_ := Aside0.mk (blk_below (g := gb226) (o := .cells #[.string ((rd_T60 l0_1 x38_3).f0), .int .i64 ((rd_T60 l0_1 x38_3).f1), .int .i64 ((rd_T60 l0_1 x38_3).f2), .int .i64 ((rd_T60 l0_1 x38_3).f3), .int .i64 ((rd_T60 l0_1 x38_3).f4), .int .i64 ((rd_T60 l0_1 x38_3).f5)] 60 (0, 0)) (by (with_reducible repeat (first | refine bN ?_ _|refine bW ?_|refine bA ?_ _)); exact BK226.out) hb)
                        have n4_ := Aside0.mk (below_step (by repeat (first | (with_reducible first | exact HB.out|apply wA|apply wN|apply wD |refine wS ?_ GE216.out |refine wS ?_ GE226.out) | exact HB.out)) hb)
                        clear HO_5
                        clear HO_7
                        clear BK216
                        clear BK226
                        clear HB
                        have HO_5 := n0_
                        have HO_7 := n1_
                        have BK216 := n2_
                        have BK226 := n3_
                        have HB := n4_
                        clear n0_ n1_ n2_ n3_ n4_
                        (try clear hb)
                        (try clear hb2)
                        (try clear hk)
                        (try clear hi)
                        refine hK.out _ _ ⟨(blk_cell BK226.out 0).trans rfl, (blk_cell BK226.out 1).trans rfl, (blk_cell BK226.out 2).trans rfl, (blk_cell BK226.out 3).trans rfl, (blk_cell BK226.out 4).trans rfl, (blk_cell BK226.out 5).trans rfl, HS6_⟩ (fun hHeld => ?_)
                        clear hK K
                        refine norm_ (a' := ?_) ?_ ?_
                        rotate_left
                        ·show Act.put _ (some 47) _ = _
                         simp only [pU,pN,sB,sZ,sS,i64_w,i32_w]
                         rfl
                        refine pure_ (i := 5) (N := some 42) (v := ?_) (a' := ?_) #[Y,Y,Y,Y,Y,Y,J,J,J,J] rfl rfl (any_of HT_.out (by kernel_rfl)) (fun _ _ _ h => h) (Or.inl ⟨by rfl, ?_⟩) ?_ ?_; rotate_left
                        ·intro w'; go_simp; with_reducible rfl
                        rotate_left
                        ·simp only [pU,pN,sB,sZ,sS,i64_w,i32_w]; rfl
                        refine pure_ (i := 6) (N := some 48) (v := ?_) (a' := ?_) #[Y,Y,Y,Y,Y,Y,Y,J,J,J] rfl rfl (any_of HT_.out (by kernel_rfl)) (fun _ _ _ h => h) (Or.inl ⟨by rfl, ?_⟩) ?_ ?_; rotate_left
                        ·intro w'; go_simp; with_reducible rfl
                        rotate_left
                        ·simp only [pU,pN,sB,sZ,sS,i64_w,i32_w]; rfl
                        refine pure_ (i := 7) (N := some 49) (v := ?_) (a' := ?_) #[Y,Y,Y,Y,Y,Y,Y,Y,J,J] rfl rfl (any_of HT_.out (by kernel_rfl)) (fun _ _ _ h => h) (Or.inl ⟨by rfl, ?_⟩) ?_ ?_; rotate_left
                        ·intro w'; go_simp; with_reducible rfl
                        rotate_left
                        ·simp only [pU,pN,sB,sZ,sS,i64_w,i32_w]; rfl
                        refine pure_ (i := 8) (N := some 10) (v := ?_) (a' := ?_) #[Y,Y,Y,Y,Y,Y,Y,Y,Y,J] rfl rfl (any_of HT_.out (by kernel_rfl)) (fun _ _ _ h => h) (Or.inl ⟨by rfl, ?_⟩) ?_ ?_; rotate_left
                        ·intro w'; go_simp; with_reducible rfl
                        rotate_left
                        ·simp only [pU,pN,sB,sZ,sS,i64_w,i32_w]; rfl
                        refine pure_ (i := 9) (N := some 11) (v := ?_) (a' := ?_) #[Y,Y,Y,Y,Y,Y,Y,Y,Y,Y] rfl rfl (any_of HT_.out (by kernel_rfl)) (fun _ _ _ h => h) (Or.inl ⟨by rfl, ?_⟩) ?_ ?_; rotate_left
                        ·intro w'; go_simp; with_reducible rfl
                        rotate_left
                        ·simp only [pU,pN,sB,sZ,sS,i64_w,i32_w]; rfl
                        refine done_ (done_of HT_.out (by kernel_rfl)) ?_
                        have p230 : 0 ≤ (t228 : Int) := of_decide_eq_true (by first | (with_reducible assumption) | assumption)
                        have q230 : t228 < (x5_3.length : Int) := of_decide_eq_true (by first | (with_reducible assumption) | assumption)
                        obtain ⟨ad230, e230, hx230_0⟩ := Kd.at_int (Kd.R_reads' HO_5.out).2.2 t228 p230 q230
                        obtain rfl : (⟨go18, 0, none⟩ : Addr) = ad230 := (by injection e230)
                        (first | simp only [add_plain] at hx230_0 | simp only [add_at] at hx230_0 | simp only [Addr.add, Nat.zero_add] at hx230_0 | skip)
                        replace p230 := eq_true p230
                        replace q230 := eq_true q230
                        have p231 : 0 ≤ (0 : Int) := (by omega)
                        have q231 : 0 < (x7_3.length : Int) := of_decide_eq_true (by first | (with_reducible assumption) | assumption)
                        obtain ⟨ad231, e231, hx231_0⟩ := Kd.at_int (Kd.Q_reads' HO_7.out).2.2 0 p231 q231
                        obtain rfl : ad227 = ad231 := (by injection e231)
                        have qi231 : (0 < x7_3.length) = True := eq_true (by omega)
                        (try rw [show ((0 : Int)).toNat = 0 from rfl] at hx231_0)
                        (try rw [Addr.add_zero'] at hx231_0)
                        replace p231 := eq_true p231
                        replace q231 := eq_true q231
                        have p232 : 0 ≤ ((rd x7_3 0) : Int) := of_decide_eq_true (by first | (with_reducible assumption) | assumption)
                        have q232 : (rd x7_3 0) < (x5_3.length : Int) := of_decide_eq_true (by first | (with_reducible assumption) | assumption)
                        obtain ⟨ad232, e232, hx232_0⟩ := Kd.at_int (Kd.R_reads' HO_5.out).2.2 (rd x7_3 0) p232 q232
                        obtain rfl : (⟨go18, 0, none⟩ : Addr) = ad232 := (by injection e232)
                        (first | simp only [add_plain] at hx232_0 | simp only [add_at] at hx232_0 | simp only [Addr.add, Nat.zero_add] at hx232_0 | skip)
                        replace p232 := eq_true p232
                        replace q232 := eq_true q232
                        have p37 : 0 ≤ (t228 : Int) := of_decide_eq_true (by first | (with_reducible assumption) | assumption)
                        have q37 : (t228 : Int) < ((x5_3.length : Int) : Int) := of_decide_eq_true (by first | (with_reducible assumption) | assumption)
                        obtain ⟨hx37_0, hf37_0⟩ := Kd.R_celln 0 HO_5.out (t228 : Int) p37 q37
                        replace p37 := eq_true p37
                        replace q37 := eq_true q37
                        obtain ⟨hy46_, hz46_⟩ := Kd.R_celln 0 HO_5.out (t228 : Int) (of_decide_eq_true (by first | (with_reducible assumption) | assumption)) (of_decide_eq_true (by first | (with_reducible assumption) | assumption))
                        have HP46 := Kd.R_putg HO_5.out (t228 : Int) (wrap64 ((rd x5_3 (rd x7_3 0)) + 1))
                        try go_wp2_with (first | ((with_reducible refine gate_store (t := 2) (p := 67) rfl ?_); refine store_event (t := 2) (p := 67) (v := ?vo_w47) (w1 := (w45.setCell ⟨go18, (t228 : Int).toNat, none⟩ (.int .i64 (wrap64 ((rd x5_3 (rd x7_3 0)) + 1))))) ?hg ?ho ?hn ?hr ?_; (case ho => rfl); (case hg => rfl); (case hn => rfl); (case hr => first | (go_simp; done) | (go_simp; rfl)); intro w47 hw; have hg : w45.grownBy w47 (some go18) := (by rw [hw]; exact HP46.2); have hp_ : Kd.R (Kd.int .i64) 2 w47 w.heap.size (fun k_ => some k_ ≠ (.slice (some ad227) x7_3.length co44 : Value).ownBlock) (.slice (some ⟨go18, 0, none⟩) x5_3.length co9) y233 := (by rw [hw, Ny233.out]; exact HP46.1); clear HP46; have n0_ := Aside0.mk (hp_); have n1_ := Aside0.mk (Kd.Q_after (v := (.slice (some ⟨go18, 0, none⟩) x5_3.length co9)) (v1 := (.slice (some ⟨go18, 0, none⟩) x5_3.length co9)) (ok := (fun _ => True)) (by (with_reducible repeat (first | apply Kd.Q_alloc | apply Kd.Q_drewN | apply Kd.Q_drew)); exact Kd.Q_mono HO_7.out (fun _ hk => ⟨trivial, hk⟩)) hg (.inl rfl)); have n2_ := Aside0.mk (blk_grown (g := gb216) (o := .cells #[.slice A0_0 l0_0.length c0_0, .slice (some ad225) l0_1.length c0_1] 31 (0, 0)) (by (with_reducible repeat (first | refine bN ?_ _|refine bW ?_|refine bA ?_ _)); exact BK216.out) hg (Kd.R_ne HO_5.out BK216.out (by decide))); have n3_ := Aside0.mk (blk_grown (g := gb226) (o := .cells #[.string ((rd_T60 l0_1 x38_3).f0), .int .i64 ((rd_T60 l0_1 x38_3).f1), .int .i64 ((rd_T60 l0_1 x38_3).f2), .int .i64 ((rd_T60 l0_1 x38_3).f3), .int .i64 ((rd_T60 l0_1 x38_3).f4), .int .i64 ((rd_T60 l0_1 x38_3).f5)] 60 (0, 0)) (by (with_reducible repeat (first | refine bN ?_ _|refine bW ?_|refine bA ?_ _)); exact BK226.out) hg (Kd.R_ne HO_5.out BK226.out (by decide))); have n4_ := Aside0.mk ((by rw [hw]; exact below_set (HB.out) GB18.out : Below w.heap.size w w47)); clear HO_5; clear HO_7; clear BK216; clear BK226; clear HB; have HO_5 := n0_; have HO_7 := n1_; have BK216 := n2_; have BK226 := n3_; have HB := n4_; clear n0_ n1_ n2_ n3_ n4_; clear hg hw hp_) | ((with_reducible refine gate_builtin (b := .append) (xs := #[.tmp 68, .tmp 70]) rfl ?_); at_builtin; refine Kd.Q_append (Kd.int .i64) (w0 := w) w.heap.size rfl (.tmp 68) (.tmp 70) 22 2 (.int .i64 0) 8 rfl Try.underlying22 info2 rfl (by decide) (by omega) (.slice (some ad227) x7_3.length co44) x7_3 t228 [.int .i64 t228] (fun k_ => some k_ ≠ (.slice (some ⟨go18, 0, none⟩) x5_3.length co9 : Value).ownBlock) (fun _ => False) rfl rfl ?aP (fun _ hk => hk.elim) ?aF ?aO ?aB ?aS ?aL ?_; (case aP => exact rfl); (case aB => exact (by repeat (first | (with_reducible first | exact HB.out|apply wA|apply wN|apply wD |refine wS ?_ GE216.out |refine wS ?_ GE226.out) | exact HB.out))); (case aF => exact (fun k_ hk => Kd.fresh' (Kd.R_lt (by (with_reducible repeat (first | apply rA|apply rN|apply rW)); exact HO_5.out)) k_ hk)); (case aO => exact (by (with_reducible repeat (first | apply Kd.Q_alloc | apply Kd.Q_drewN | apply Kd.Q_drew)); exact Kd.Q_mono HO_7.out (fun _ hk => hk.2))); (case aS => exact (below_size (by repeat (first | (with_reducible first | exact HB.out|apply wA|apply wN|apply wD |refine wS ?_ GE216.out |refine wS ?_ GE226.out) | exact HB.out)))); (case aL => have := LMc38.out; omega); intro v235 w48 ho hb hg hat; rw [← Ny234.out] at ho; have n0_ := Aside0.mk (Kd.R_after (ok := (fun _ => True)) (by (with_reducible repeat (first | apply rA|apply rN|apply rW)); exact Kd.R_mono HO_5.out (fun _ hk => ⟨trivial, hk⟩)) hg hat); have n1_ := Aside0.mk (blk_grown (g := gb216) (o := .cells #[.slice A0_0 l0_0.length c0_0, .slice (some ad225) l0_1.length c0_1] 31 (0, 0)) (by (with_reducible repeat (first | refine bN ?_ _|refine bW ?_|refine bA ?_ _)); exact BK216.out) hg (Kd.Q_ne HO_7.out BK216.out (by decide))); have n2_ := Aside0.mk (blk_grown (g := gb226) (o := .cells #[.string ((rd_T60 l0_1 x38_3).f0), .int .i64 ((rd_T60 l0_1 x38_3).f1), .int .i64 ((rd_T60 l0_1 x38_3).f2), .int .i64 ((rd_T60 l0_1 x38_3).f3), .int .i64 ((rd_T60 l0_1 x38_3).f4), .int .i64 ((rd_T60 l0_1 x38_3).f5)] 60 (0, 0)) (by (with_reducible repeat (first | refine bN ?_ _|refine bW ?_|refine bA ?_ _)); exact BK226.out) hg (Kd.Q_ne HO_7.out BK226.out (by decide))); have n3_ := Aside0.mk (hb); have n4_ := Aside0.mk (ho); clear HO_5; clear BK216; clear BK226; clear HB; clear HO_7; have HO_5 := n0_; have BK216 := n1_; have BK226 := n2_; have HB := n3_; have HO236 := n4_; clear n0_ n1_ n2_ n3_ n4_; clear ho hb hg hat))
                        (try simp only [← hl5_3])
                        go_roundg k3
                        case measure => have := HK1.out; have := HK2.out; have := HK3.out; omega
                        case rel => exact ⟨(y233), (y234), (wrap64 (x38_3 + 1)), (by first | rfl | (simp; done) | (simp [*]; done)), H', ⟨by have := HK1.out; have := HK2.out; have := HK3.out; omega⟩, ⟨by (try simp only [hl5_1]); (try simp only [hl5_2]); (try simp only [hl5_3]); (with_reducible repeat (first | apply rA|apply rN|apply rW)); exact Kd.R_mono HO_5.out (fun _ hk => hk.2)⟩, ⟨by (try simp only [hl5_1]); (try simp only [hl5_2]); (try simp only [hl5_3]); (with_reducible repeat (first | apply Kd.Q_alloc | apply Kd.Q_drewN | apply Kd.Q_drew)); exact HO236.out⟩, ⟨by (try simp only [hl5_1]); (try simp only [hl5_2]); (try simp only [hl5_3]); (with_reducible repeat (first | refine bN ?_ _|refine bW ?_|refine bA ?_ _)); exact BK216.out⟩, ⟨by repeat (first | (with_reducible first | exact HB.out|apply wA|apply wN|apply wD |refine wS ?_ GE216.out |refine wS ?_ GE226.out) | exact HB.out)⟩⟩
                       ·rw [if_neg c38] at H
                        exact absurd H (by simp)
                      ·rw [if_neg c36] at H
                       exact absurd H (by simp)
                     ·rw [if_neg c35] at H
                      exact absurd H (by simp)
                    ·rw [if_neg c34] at H
                     have c34b0 : decide ((rd x5_3 t228) < 0) = false := decide_eq_false c34
                     clear c34
                     have H' := Aside0.mk H
                     clear H
                     have p225 : 0 ≤ (x38_3 : Int) := of_decide_eq_true (by first | (with_reducible assumption) | assumption)
                     have q225 : x38_3 < (l0_1.length : Int) := of_decide_eq_true (by first | (with_reducible assumption) | assumption)
                     obtain ⟨ad225, e225, hx225_0, hx225_1, hx225_2, hx225_3, hx225_4, hx225_5⟩ := at_T60 HR0_1.out x38_3 p225 q225
                     cases e225
                     replace hx225_0 := (HB.out.cell (World.block_lt_of_cell? w _ hx225_0)).trans hx225_0
                     replace hx225_1 := (HB.out.cell (World.block_lt_of_cell? w _ hx225_1)).trans hx225_1
                     replace hx225_2 := (HB.out.cell (World.block_lt_of_cell? w _ hx225_2)).trans hx225_2
                     replace hx225_3 := (HB.out.cell (World.block_lt_of_cell? w _ hx225_3)).trans hx225_3
                     replace hx225_4 := (HB.out.cell (World.block_lt_of_cell? w _ hx225_4)).trans hx225_4
                     replace hx225_5 := (HB.out.cell (World.block_lt_of_cell? w _ hx225_5)).trans hx225_5
                     replace p225 := eq_true p225
                     replace q225 := eq_true q225
                     try go_wp2_with (first | ((with_reducible refine gate_dst (N := 9) rfl ?_); refine box_event ?hg (N := 9) ?hd (cs := #[.string (⟨#[]⟩ : ByteArray), .int .i64 0, .int .i64 0, .int .i64 0, .int .i64 0, .int .i64 0]) (t := 60) ?hr ?_; (case hd => rfl); (case hg => rfl); (case hr => first | (go_simp; done) | (go_simp; rfl)); intro gb226 hg w49 hbox hb; have n0_ := Aside0.mk (Kd.R_below (by (with_reducible repeat (first | apply rA|apply rN|apply rW)); exact HO_5.out) hb); have n1_ := Aside0.mk (Kd.Q_below (by (with_reducible repeat (first | apply Kd.Q_alloc | apply Kd.Q_drewN | apply Kd.Q_drew)); exact HO_7.out) hb); have n2_ := Aside0.mk (blk_below (g := gb216) (o := .cells #[.slice A0_0 l0_0.length c0_0, .slice (some ad225) l0_1.length c0_1] 31 (0, 0)) (by (with_reducible repeat (first | refine bN ?_ _|refine bW ?_|refine bA ?_ _)); exact BK216.out) hb); have n3_ := Aside0.mk (below_step (by repeat (first | (with_reducible first | exact HB.out|apply wA|apply wN|apply wD |refine wS ?_ GE216.out) | exact HB.out)) hb); have n4_ := Aside0.mk (hbox); have n5_ := Aside0.mk ((by rw [hg]; exact (below_size (by repeat (first | (with_reducible first | exact HB.out|apply wA|apply wN|apply wD |refine wS ?_ GE216.out) | exact HB.out))) : w.heap.size ≤ gb226)); have n6_ := Aside0.mk ((by rw [hg]; exact (below_size (by repeat (first | (with_reducible first | exact HB.out|apply wA|apply wN|apply wD |refine wS ?_ GE216.out) | exact HB.out))) : w.heap.size ≤ gb226)); have n7_ := Aside0.mk ((by rw [hg]; exact Nat.ne_of_lt (blk_lt (g := gb216) (o := .cells #[.slice A0_0 l0_0.length c0_0, .slice (some ad225) l0_1.length c0_1] 31 (0, 0)) (by (with_reducible repeat (first | refine bN ?_ _|refine bW ?_|refine bA ?_ _)); exact BK216.out)) : gb216 ≠ gb226)); have n8_ := Aside0.mk ((by rw [hg]; exact Nat.ne_of_gt (blk_lt (g := gb216) (o := .cells #[.slice A0_0 l0_0.length c0_0, .slice (some ad225) l0_1.length c0_1] 31 (0, 0)) (by (with_reducible repeat (first | refine bN ?_ _|refine bW ?_|refine bA ?_ _)); exact BK216.out)) : gb226 ≠ gb216)); clear HO_5; clear HO_7; clear BK216; clear HB; have HO_5 := n0_; have HO_7 := n1_; have BK216 := n2_; have HB := n3_; have BK226 := n4_; have GW226 := n5_; have GE226 := n6_; have NB216_226 := n7_; have NB226_216 := n8_; clear n0_ n1_ n2_ n3_ n4_ n5_ n6_ n7_ n8_; clear hb hbox hg; have hnb50 := NB226_216.out; have hnc50 := NB216_226.out; have hcz51_0 : w49.cell? ⟨gb226, 0, none⟩ = some (.string (⟨#[]⟩ : ByteArray)) := (blk_cell BK226.out 0).trans rfl; have hcz51_1 : w49.cell? ⟨gb226, 1, none⟩ = some (.int .i64 0) := (blk_cell BK226.out 1).trans rfl; have hcz51_2 : w49.cell? ⟨gb226, 2, none⟩ = some (.int .i64 0) := (blk_cell BK226.out 2).trans rfl; have hcz51_3 : w49.cell? ⟨gb226, 3, none⟩ = some (.int .i64 0) := (blk_cell BK226.out 3).trans rfl; have hcz51_4 : w49.cell? ⟨gb226, 4, none⟩ = some (.int .i64 0) := (blk_cell BK226.out 4).trans rfl; have hcz51_5 : w49.cell? ⟨gb226, 5, none⟩ = some (.int .i64 0) := (blk_cell BK226.out 5).trans rfl; have hfz51_0 := blk_frozen BK226.out 0; have hfz51_1 := blk_frozen BK226.out 1; have hfz51_2 := blk_frozen BK226.out 2; have hfz51_3 := blk_frozen BK226.out 3; have hfz51_4 := blk_frozen BK226.out 4; have hfz51_5 := blk_frozen BK226.out 5))
                     have n0_ : Aside0 (Kd.R (Kd.int .i64) 2 ((((((w49.setCell ⟨gb226, 0, none⟩ (.string ((rd_T60 l0_1 x38_3).f0))).setCell ⟨gb226, 1, none⟩ (.int .i64 ((rd_T60 l0_1 x38_3).f1))).setCell ⟨gb226, 2, none⟩ (.int .i64 ((rd_T60 l0_1 x38_3).f2))).setCell ⟨gb226, 3, none⟩ (.int .i64 ((rd_T60 l0_1 x38_3).f3))).setCell ⟨gb226, 4, none⟩ (.int .i64 ((rd_T60 l0_1 x38_3).f4))).setCell ⟨gb226, 5, none⟩ (.int .i64 ((rd_T60 l0_1 x38_3).f5))) w.heap.size (fun k_ => some k_ ≠ (u7 : Value).ownBlock) (.slice (some ⟨go18, 0, none⟩) x5_3.length co9) x5_3) := ⟨by (with_reducible repeat (first | apply rA|apply rN|apply rW)); exact Kd.R_mono (Kd.R_far (p := ⟨gb226, 5, none⟩) (Kd.R_far (p := ⟨gb226, 4, none⟩) (Kd.R_far (p := ⟨gb226, 3, none⟩) (Kd.R_far (p := ⟨gb226, 2, none⟩) (Kd.R_far (p := ⟨gb226, 1, none⟩) (Kd.R_far (p := ⟨gb226, 0, none⟩) (Kd.R_types HO_5.out BK226.out (by decide)) (fun _ hk => hk.2) (.string ((rd_T60 l0_1 x38_3).f0))) (fun _ hk => hk.2) (.int .i64 ((rd_T60 l0_1 x38_3).f1))) (fun _ hk => hk.2) (.int .i64 ((rd_T60 l0_1 x38_3).f2))) (fun _ hk => hk.2) (.int .i64 ((rd_T60 l0_1 x38_3).f3))) (fun _ hk => hk.2) (.int .i64 ((rd_T60 l0_1 x38_3).f4))) (fun _ hk => hk.2) (.int .i64 ((rd_T60 l0_1 x38_3).f5))) (fun _ hk => hk.1)⟩
                     have n1_ : Aside0 (Kd.Q (Kd.int .i64) 2 ((((((w49.setCell ⟨gb226, 0, none⟩ (.string ((rd_T60 l0_1 x38_3).f0))).setCell ⟨gb226, 1, none⟩ (.int .i64 ((rd_T60 l0_1 x38_3).f1))).setCell ⟨gb226, 2, none⟩ (.int .i64 ((rd_T60 l0_1 x38_3).f2))).setCell ⟨gb226, 3, none⟩ (.int .i64 ((rd_T60 l0_1 x38_3).f3))).setCell ⟨gb226, 4, none⟩ (.int .i64 ((rd_T60 l0_1 x38_3).f4))).setCell ⟨gb226, 5, none⟩ (.int .i64 ((rd_T60 l0_1 x38_3).f5))) w.heap.size (fun k_ => some k_ ≠ (.slice (some ⟨go18, 0, none⟩) x5_3.length co9 : Value).ownBlock) u7 x7_3) := ⟨by (with_reducible repeat (first | apply Kd.Q_alloc | apply Kd.Q_drewN | apply Kd.Q_drew)); exact Kd.Q_mono (Kd.Q_far (p := ⟨gb226, 5, none⟩) (Kd.Q_far (p := ⟨gb226, 4, none⟩) (Kd.Q_far (p := ⟨gb226, 3, none⟩) (Kd.Q_far (p := ⟨gb226, 2, none⟩) (Kd.Q_far (p := ⟨gb226, 1, none⟩) (Kd.Q_far (p := ⟨gb226, 0, none⟩) (Kd.Q_types HO_7.out BK226.out (by decide)) (fun _ hk => hk.2) (.string ((rd_T60 l0_1 x38_3).f0))) (fun _ hk => hk.2) (.int .i64 ((rd_T60 l0_1 x38_3).f1))) (fun _ hk => hk.2) (.int .i64 ((rd_T60 l0_1 x38_3).f2))) (fun _ hk => hk.2) (.int .i64 ((rd_T60 l0_1 x38_3).f3))) (fun _ hk => hk.2) (.int .i64 ((rd_T60 l0_1 x38_3).f4))) (fun _ hk => hk.2) (.int .i64 ((rd_T60 l0_1 x38_3).f5))) (fun _ hk => hk.1)⟩
                     have n2_ : Aside0 (((((((w49.setCell ⟨gb226, 0, none⟩ (.string ((rd_T60 l0_1 x38_3).f0))).setCell ⟨gb226, 1, none⟩ (.int .i64 ((rd_T60 l0_1 x38_3).f1))).setCell ⟨gb226, 2, none⟩ (.int .i64 ((rd_T60 l0_1 x38_3).f2))).setCell ⟨gb226, 3, none⟩ (.int .i64 ((rd_T60 l0_1 x38_3).f3))).setCell ⟨gb226, 4, none⟩ (.int .i64 ((rd_T60 l0_1 x38_3).f4))).setCell ⟨gb226, 5, none⟩ (.int .i64 ((rd_T60 l0_1 x38_3).f5))).heap[gb216]? = some (.cells #[.slice A0_0 l0_0.length c0_0, .slice (some ad225) l0_1.length c0_1] 31 (0, 0))) := ⟨by (with_reducible repeat (first | refine bN ?_ _|refine bW ?_|refine bA ?_ _)); refine blk_far ?_ NB216_226.out _; (with_reducible repeat (first | refine bN ?_ _|refine bW ?_|refine bA ?_ _)); refine blk_far ?_ NB216_226.out _; (with_reducible repeat (first | refine bN ?_ _|refine bW ?_|refine bA ?_ _)); refine blk_far ?_ NB216_226.out _; (with_reducible repeat (first | refine bN ?_ _|refine bW ?_|refine bA ?_ _)); refine blk_far ?_ NB216_226.out _; (with_reducible repeat (first | refine bN ?_ _|refine bW ?_|refine bA ?_ _)); refine blk_far ?_ NB216_226.out _; (with_reducible repeat (first | refine bN ?_ _|refine bW ?_|refine bA ?_ _)); refine blk_far ?_ NB216_226.out _; (with_reducible repeat (first | refine bN ?_ _|refine bW ?_|refine bA ?_ _)); exact BK216.out⟩
                     have n3_ : Aside0 (((((((w49.setCell ⟨gb226, 0, none⟩ (.string ((rd_T60 l0_1 x38_3).f0))).setCell ⟨gb226, 1, none⟩ (.int .i64 ((rd_T60 l0_1 x38_3).f1))).setCell ⟨gb226, 2, none⟩ (.int .i64 ((rd_T60 l0_1 x38_3).f2))).setCell ⟨gb226, 3, none⟩ (.int .i64 ((rd_T60 l0_1 x38_3).f3))).setCell ⟨gb226, 4, none⟩ (.int .i64 ((rd_T60 l0_1 x38_3).f4))).setCell ⟨gb226, 5, none⟩ (.int .i64 ((rd_T60 l0_1 x38_3).f5))).heap[gb226]? = some (.cells #[.string ((rd_T60 l0_1 x38_3).f0), .int .i64 ((rd_T60 l0_1 x38_3).f1), .int .i64 ((rd_T60 l0_1 x38_3).f2), .int .i64 ((rd_T60 l0_1 x38_3).f3), .int .i64 ((rd_T60 l0_1 x38_3).f4), .int .i64 ((rd_T60 l0_1 x38_3).f5)] 60 (0, 0))) := ⟨by (with_reducible repeat (first | refine bN ?_ _|refine bW ?_|refine bA ?_ _)); refine blk_put (cs := #[.string ((rd_T60 l0_1 x38_3).f0), .int .i64 ((rd_T60 l0_1 x38_3).f1), .int .i64 ((rd_T60 l0_1 x38_3).f2), .int .i64 ((rd_T60 l0_1 x38_3).f3), .int .i64 ((rd_T60 l0_1 x38_3).f4), .int .i64 0]) ?_ 5 _ rfl; (with_reducible repeat (first | refine bN ?_ _|refine bW ?_|refine bA ?_ _)); refine blk_put (cs := #[.string ((rd_T60 l0_1 x38_3).f0), .int .i64 ((rd_T60 l0_1 x38_3).f1), .int .i64 ((rd_T60 l0_1 x38_3).f2), .int .i64 ((rd_T60 l0_1 x38_3).f3), .int .i64 0, .int .i64 0]) ?_ 4 _ rfl; (with_reducible repeat (first | refine bN ?_ _|refine bW ?_|refine bA ?_ _)); refine blk_put (cs := #[.string ((rd_T60 l0_1 x38_3).f0), .int .i64 ((rd_T60 l0_1 x38_3).f1), .int .i64 ((rd_T60 l0_1 x38_3).f2), .int .i64 0, .int .i64 0, .int .i64 0]) ?_ 3 _ rfl; (with_reducible repeat (first | refine bN ?_ _|refine bW ?_|refine bA ?_ _)); refine blk_put (cs := #[.string ((rd_T60 l0_1 x38_3).f0), .int .i64 ((rd_T60 l0_1 x38_3).f1), .int .i64 0, .int .i64 0, .int .i64 0, .int .i64 0]) ?_ 2 _ rfl; (with_reducible repeat (first | refine bN ?_ _|refine bW ?_|refine bA ?_ _)); refine blk_put (cs := #[.string ((rd_T60 l0_1 x38_3).f0), .int .i64 0, .int .i64 0, .int .i64 0, .int .i64 0, .int .i64 0]) ?_ 1 _ rfl; (with_reducible repeat (first | refine bN ?_ _|refine bW ?_|refine bA ?_ _)); refine blk_put (cs := #[.string (⟨#[]⟩ : ByteArray), .int .i64 0, .int .i64 0, .int .i64 0, .int .i64 0, .int .i64 0]) ?_ 0 _ rfl; (with_reducible repeat (first | refine bN ?_ _|refine bW ?_|refine bA ?_ _)); exact BK226.out⟩
                     have n4_ : Aside0 (Below w.heap.size w ((((((w49.setCell ⟨gb226, 0, none⟩ (.string ((rd_T60 l0_1 x38_3).f0))).setCell ⟨gb226, 1, none⟩ (.int .i64 ((rd_T60 l0_1 x38_3).f1))).setCell ⟨gb226, 2, none⟩ (.int .i64 ((rd_T60 l0_1 x38_3).f2))).setCell ⟨gb226, 3, none⟩ (.int .i64 ((rd_T60 l0_1 x38_3).f3))).setCell ⟨gb226, 4, none⟩ (.int .i64 ((rd_T60 l0_1 x38_3).f4))).setCell ⟨gb226, 5, none⟩ (.int .i64 ((rd_T60 l0_1 x38_3).f5)))) := ⟨by repeat (first | (with_reducible first | exact HB.out|apply wA|apply wN|apply wD |refine wS ?_ GE216.out |refine wS ?_ GE226.out) | exact HB.out)⟩
                     (try clear HO_5)
                     (try clear HO_7)
                     (try clear BK216)
                     (try clear BK226)
                     (try clear HB)
                     generalize ((((((w49.setCell ⟨gb226, 0, none⟩ (.string ((rd_T60 l0_1 x38_3).f0))).setCell ⟨gb226, 1, none⟩ (.int .i64 ((rd_T60 l0_1 x38_3).f1))).setCell ⟨gb226, 2, none⟩ (.int .i64 ((rd_T60 l0_1 x38_3).f2))).setCell ⟨gb226, 3, none⟩ (.int .i64 ((rd_T60 l0_1 x38_3).f3))).setCell ⟨gb226, 4, none⟩ (.int .i64 ((rd_T60 l0_1 x38_3).f4))).setCell ⟨gb226, 5, none⟩ (.int .i64 ((rd_T60 l0_1 x38_3).f5))) = w52 at n0_ n1_ n2_ n3_ n4_ ⊢
                     have HO_5 := n0_
                     have HO_7 := n1_
                     have BK216 := n2_
                     have BK226 := n3_
                     have HB := n4_
                     clear n0_ n1_ n2_ n3_ n4_
                     have n0_ := Aside0.mk (Kd.R_drew HO_5.out)
                     have n1_ := Aside0.mk (Kd.Q_drew HO_7.out)
                     have n2_ := Aside0.mk (blk_drew BK216.out)
                     have n3_ := Aside0.mk (blk_drew BK226.out)
                     have n4_ := Aside0.mk (below_drew1 HB.out)
                     clear HO_5
                     clear HO_7
                     clear BK216
                     clear BK226
                     clear HB
                     have HO_5 := n0_
                     have HO_7 := n1_
                     have BK216 := n2_
                     have BK226 := n3_
                     have HB := n4_
                     clear n0_ n1_ n2_ n3_ n4_
                     obtain ⟨Ao54, co54, eo54, _⟩ := Kd.Q_slice HO_7.out
                     (first | subst eo54 | (injection eo54 with f1_ f2_ f3_; have f4_ := f1_.symm; have f5_ := f3_.symm; clear f1_ f2_ f3_; subst f4_; subst f5_))
                     have p227 : 0 ≤ (0 : Int) := (by omega)
                     have q227 : 0 < (x7_3.length : Int) := of_decide_eq_true (by first | (with_reducible assumption) | assumption)
                     obtain ⟨ad227, e227, hx227_0⟩ := Kd.at_int (Kd.Q_reads' HO_7.out).2.2 0 p227 q227
                     cases e227
                     have qi227 : (0 < x7_3.length) = True := eq_true (by omega)
                     (try rw [show ((0 : Int)).toNat = 0 from rfl] at hx227_0)
                     (try rw [Addr.add_zero'] at hx227_0)
                     replace p227 := eq_true p227
                     replace q227 := eq_true q227
                     refine start_ (n := 10) (S := fun w' => w'.cell? ⟨gb226, 0, none⟩ = some (.string ((rd_T60 l0_1 x38_3).f0)) ∧ w'.cell? ⟨gb226, 1, none⟩ = some (.int .i64 ((rd_T60 l0_1 x38_3).f1)) ∧ w'.cell? ⟨gb226, 2, none⟩ = some (.int .i64 ((rd_T60 l0_1 x38_3).f2)) ∧ w'.cell? ⟨gb226, 3, none⟩ = some (.int .i64 ((rd_T60 l0_1 x38_3).f3)) ∧ w'.cell? ⟨gb226, 4, none⟩ = some (.int .i64 ((rd_T60 l0_1 x38_3).f4)) ∧ w'.cell? ⟨gb226, 5, none⟩ = some (.int .i64 ((rd_T60 l0_1 x38_3).f5)) ∧ w'.cell? ad227 = some (.int .i64 (rd x7_3 0))) (ds := []) #[J,J,J,J,J,J,J,J,J,J] (by kernel_rfl) rfl rfl ⟨(blk_cell BK226.out 0).trans rfl, (blk_cell BK226.out 1).trans rfl, (blk_cell BK226.out 2).trans rfl, (blk_cell BK226.out 3).trans rfl, (blk_cell BK226.out 4).trans rfl, (blk_cell BK226.out 5).trans rfl, hx227_0⟩ (fun hHeld => ?_); refine with_tabW impl_Network_distances.tab14 impl_Network_distances.bits14 (fun HT_ HW_ => ?_)
                     generalize w52.drew = w53 at HO_5 HO_7 BK216 BK226 HB hx227_0 hHeld ⊢
                     refine pure_ (i := 1) (N := some 44) (v := ?_) (a' := ?_) #[J,Y,J,J,J,J,J,J,J,J] rfl rfl (any_of HT_.out (by kernel_rfl)) (fun _ _ _ h => h) (Or.inl ⟨by rfl, ?_⟩) ?_ ?_; rotate_left
                     ·intro w'; go_simp; with_reducible rfl
                     rotate_left
                     ·simp only [pU,pN,sB,sZ,sS,i64_w,i32_w]; rfl
                     refine pure_ (i := 2) (N := some 45) (v := ?_) (a' := ?_) #[J,Y,Y,J,J,J,J,J,J,J] rfl rfl (any_of HT_.out (by kernel_rfl)) (fun _ _ _ h => h) (Or.inl ⟨by rfl, ?_⟩) ?_ ?_; rotate_left
                     ·intro w'; go_simp; with_reducible rfl
                     rotate_left
                     ·simp only [pU,pN,sB,sZ,sS,i64_w,i32_w]; rfl
                     refine take_ (i := 0) (N := some 43) (v := ?_) (a' := ?_) #[Y,Y,Y,J,J,J,J,J,J,J] rfl rfl (take_ofW HT_.out HW_.out (by kernel_rfl)) (fun _ _ _ h => h) (Or.inl ⟨by rfl, ?_⟩) hHeld ?_ ?_; rotate_left
                     ·rintro w' ⟨s0, s1, s2, s3, s4, s5, s6⟩; go_simp; with_reducible rfl
                     rotate_left
                     ·simp only [pU,pN,sB,sZ,sS,i64_w,i32_w]; rfl
                     refine take_ (i := 3) (N := some 46) (v := ?_) (a' := ?_) #[Y,Y,Y,Y,J,J,J,J,J,J] rfl rfl (take_ofW HT_.out HW_.out (by kernel_rfl)) (fun _ _ _ h => h) (Or.inl ⟨by rfl, ?_⟩) hHeld ?_ ?_; rotate_left
                     ·rintro w' ⟨s0, s1, s2, s3, s4, s5, s6⟩; go_simp; with_reducible rfl
                     rotate_left
                     ·simp only [pU,pN,sB,sZ,sS,i64_w,i32_w]; rfl
                     refine one_ (i := 4) (N := some 47) #[Y,Y,Y,Y,Y,J,J,J,J,J] rfl rfl (one_of HT_.out (by kernel_rfl)) (by decide) (fun K hK => ?_)
                     refine goes_ Try.func53 (by kernel_rfl) rfl #[.agg #[.string ((rd_T60 l0_1 x38_3).f0), .int .i64 ((rd_T60 l0_1 x38_3).f1), .int .i64 ((rd_T60 l0_1 x38_3).f2), .int .i64 ((rd_T60 l0_1 x38_3).f3), .int .i64 ((rd_T60 l0_1 x38_3).f4), .int .i64 ((rd_T60 l0_1 x38_3).f5)], .int .i64 (rd x7_3 0)] (by rfl) rfl rfl (by (try simp only [List.map_toArray, List.map_cons, List.map_nil]); first | done | rfl | (simp only [List.length_drop, List.length_take]; rfl)) ?_
                     with_reducible refine (impl_Pipe_other.calls ((rd_T60 l0_1 x38_3).f0) ((rd_T60 l0_1 x38_3).f1) ((rd_T60 l0_1 x38_3).f2) ((rd_T60 l0_1 x38_3).f3) ((rd_T60 l0_1 x38_3).f4) ((rd_T60 l0_1 x38_3).f5) (rd x7_3 0) t228 true _ A30.out).mono ?_
                     rintro e w55 ⟨rfl, hb⟩
                     have HS6_ := (hb.cell (World.block_lt_of_cell? _ _ (hHeld.2.2.2.2.2.2))).trans (hHeld.2.2.2.2.2.2)
                     refine ⟨_, rfl, ?_⟩
                     have n0_ := Aside0.mk (Kd.R_below (by (with_reducible repeat (first | apply rA|apply rN|apply rW)); exact HO_5.out) hb)
                     have n1_ := Aside0.mk (Kd.Q_below (by (with_reducible repeat (first | apply Kd.Q_alloc | apply Kd.Q_drewN | apply Kd.Q_drew)); exact HO_7.out) hb)
                     have n2_ := Aside0.mk (blk_below (g := gb216) (o := .cells #[.slice A0_0 l0_0.length c0_0, .slice (some ad225) l0_1.length c0_1] 31 (0, 0)) (by (with_reducible repeat (first | refine bN ?_ _|refine bW ?_|refine bA ?_ _)); exact BK216.out) hb)
                     have n3_ := Aside0.mk (blk_below (g := gb226) (o := .cells #[.string ((rd_T60 l0_1 x38_3).f0), .int .i64 ((rd_T60 l0_1 x38_3).f1), .int .i64 ((rd_T60 l0_1 x38_3).f2), .int .i64 ((rd_T60 l0_1 x38_3).f3), .int .i64 ((rd_T60 l0_1 x38_3).f4), .int .i64 ((rd_T60 l0_1 x38_3).f5)] 60 (0, 0)) (by (with_reducible repeat (first | refine bN ?_ _|refine bW ?_|refine bA ?_ _)); exact BK226.out) hb)
                     have n4_ := Aside0.mk (below_step (by repeat (first | (with_reducible first | exact HB.out|apply wA|apply wN|apply wD |refine wS ?_ GE216.out |refine wS ?_ GE226.out) | exact HB.out)) hb)
                     clear HO_5
                     clear HO_7
                     clear BK216
                     clear BK226
                     clear HB
                     have HO_5 := n0_
                     have HO_7 := n1_
                     have BK216 := n2_
                     have BK226 := n3_
                     have HB := n4_
                     clear n0_ n1_ n2_ n3_ n4_
                     (try clear hb)
                     (try clear hb2)
                     (try clear hk)
                     (try clear hi)
                     refine hK.out _ _ ⟨(blk_cell BK226.out 0).trans rfl, (blk_cell BK226.out 1).trans rfl, (blk_cell BK226.out 2).trans rfl, (blk_cell BK226.out 3).trans rfl, (blk_cell BK226.out 4).trans rfl, (blk_cell BK226.out 5).trans rfl, HS6_⟩ (fun hHeld => ?_)
                     clear hK K
                     refine norm_ (a' := ?_) ?_ ?_
                     rotate_left
                     ·show Act.put _ (some 47) _ = _
                      simp only [pU,pN,sB,sZ,sS,i64_w,i32_w]
                      rfl
                     refine pure_ (i := 5) (N := some 42) (v := ?_) (a' := ?_) #[Y,Y,Y,Y,Y,Y,J,J,J,J] rfl rfl (any_of HT_.out (by kernel_rfl)) (fun _ _ _ h => h) (Or.inl ⟨by rfl, ?_⟩) ?_ ?_; rotate_left
                     ·intro w'; go_simp; with_reducible rfl
                     rotate_left
                     ·simp only [pU,pN,sB,sZ,sS,i64_w,i32_w]; rfl
                     refine pure_ (i := 6) (N := some 48) (v := ?_) (a' := ?_) #[Y,Y,Y,Y,Y,Y,Y,J,J,J] rfl rfl (any_of HT_.out (by kernel_rfl)) (fun _ _ _ h => h) (Or.inl ⟨by rfl, ?_⟩) ?_ ?_; rotate_left
                     ·intro w'; go_simp; with_reducible rfl
                     rotate_left
                     ·simp only [pU,pN,sB,sZ,sS,i64_w,i32_w]; rfl
                     refine pure_ (i := 7) (N := some 49) (v := ?_) (a' := ?_) #[Y,Y,Y,Y,Y,Y,Y,Y,J,J] rfl rfl (any_of HT_.out (by kernel_rfl)) (fun _ _ _ h => h) (Or.inl ⟨by rfl, ?_⟩) ?_ ?_; rotate_left
                     ·intro w'; go_simp; with_reducible rfl
                     rotate_left
                     ·simp only [pU,pN,sB,sZ,sS,i64_w,i32_w]; rfl
                     refine pure_ (i := 8) (N := some 10) (v := ?_) (a' := ?_) #[Y,Y,Y,Y,Y,Y,Y,Y,Y,J] rfl rfl (any_of HT_.out (by kernel_rfl)) (fun _ _ _ h => h) (Or.inl ⟨by rfl, ?_⟩) ?_ ?_; rotate_left
                     ·intro w'; go_simp; with_reducible rfl
                     rotate_left
                     ·simp only [pU,pN,sB,sZ,sS,i64_w,i32_w]; rfl
                     refine pure_ (i := 9) (N := some 11) (v := ?_) (a' := ?_) #[Y,Y,Y,Y,Y,Y,Y,Y,Y,Y] rfl rfl (any_of HT_.out (by kernel_rfl)) (fun _ _ _ h => h) (Or.inl ⟨by rfl, ?_⟩) ?_ ?_; rotate_left
                     ·intro w'; go_simp; with_reducible rfl
                     rotate_left
                     ·simp only [pU,pN,sB,sZ,sS,i64_w,i32_w]; rfl
                     refine done_ (done_of HT_.out (by kernel_rfl)) ?_
                     have p230 : 0 ≤ (t228 : Int) := of_decide_eq_true (by first | (with_reducible assumption) | assumption)
                     have q230 : t228 < (x5_3.length : Int) := of_decide_eq_true (by first | (with_reducible assumption) | assumption)
                     obtain ⟨ad230, e230, hx230_0⟩ := Kd.at_int (Kd.R_reads' HO_5.out).2.2 t228 p230 q230
                     obtain rfl : (⟨go18, 0, none⟩ : Addr) = ad230 := (by injection e230)
                     (first | simp only [add_plain] at hx230_0 | simp only [add_at] at hx230_0 | simp only [Addr.add, Nat.zero_add] at hx230_0 | skip)
                     replace p230 := eq_true p230
                     replace q230 := eq_true q230
                     try go_wp2
                     (try simp only [← hl5_3])
                     go_roundg k3
                     case measure => have := HK1.out; have := HK2.out; have := HK3.out; omega
                     case rel => exact ⟨(x5_3), (x7_3), (wrap64 (x38_3 + 1)), (by first | rfl | (simp; done) | (simp [*]; done)), H', ⟨by have := HK1.out; have := HK2.out; have := HK3.out; omega⟩, ⟨by (try simp only [hl5_1]); (try simp only [hl5_2]); (try simp only [hl5_3]); (with_reducible repeat (first | apply rA|apply rN|apply rW)); exact HO_5.out⟩, ⟨by (try simp only [hl5_1]); (try simp only [hl5_2]); (try simp only [hl5_3]); (with_reducible repeat (first | apply Kd.Q_alloc | apply Kd.Q_drewN | apply Kd.Q_drew)); exact HO_7.out⟩, ⟨by (try simp only [hl5_1]); (try simp only [hl5_2]); (try simp only [hl5_3]); (with_reducible repeat (first | refine bN ?_ _|refine bW ?_|refine bA ?_ _)); exact BK216.out⟩, ⟨by repeat (first | (with_reducible first | exact HB.out|apply wA|apply wN|apply wD |refine wS ?_ GE216.out |refine wS ?_ GE226.out) | exact HB.out)⟩⟩
                   ·rw [if_neg c33] at H
                    exact absurd H (by simp)
                  ·rw [if_neg c32] at H
                   exact absurd H (by simp)
                 ·replace c31 := Bool.eq_false_iff.mpr c31
                  subst c31
                  have H1 : (impl_Network_distances.l2 k3 x5_3 x7_3 l0_1 (l0_1.length : Int) (wrap64 (x38_3 + 1)) l0_0 l0_1) = some r := by rw [if_neg (show ¬ (false = true) by decide)] at H; exact H
                  clear H
                  have H := H1
                  clear H1
                  have H' := Aside0.mk H
                  clear H
                  have p225 : 0 ≤ (x38_3 : Int) := of_decide_eq_true (by first | (with_reducible assumption) | assumption)
                  have q225 : x38_3 < (l0_1.length : Int) := of_decide_eq_true (by first | (with_reducible assumption) | assumption)
                  obtain ⟨ad225, e225, hx225_0, hx225_1, hx225_2, hx225_3, hx225_4, hx225_5⟩ := at_T60 HR0_1.out x38_3 p225 q225
                  cases e225
                  replace hx225_0 := (HB.out.cell (World.block_lt_of_cell? w _ hx225_0)).trans hx225_0
                  replace hx225_1 := (HB.out.cell (World.block_lt_of_cell? w _ hx225_1)).trans hx225_1
                  replace hx225_2 := (HB.out.cell (World.block_lt_of_cell? w _ hx225_2)).trans hx225_2
                  replace hx225_3 := (HB.out.cell (World.block_lt_of_cell? w _ hx225_3)).trans hx225_3
                  replace hx225_4 := (HB.out.cell (World.block_lt_of_cell? w _ hx225_4)).trans hx225_4
                  replace hx225_5 := (HB.out.cell (World.block_lt_of_cell? w _ hx225_5)).trans hx225_5
                  replace p225 := eq_true p225
                  replace q225 := eq_true q225
                  try go_wp2_with (first | ((with_reducible refine gate_dst (N := 9) rfl ?_); refine box_event ?hg (N := 9) ?hd (cs := #[.string (⟨#[]⟩ : ByteArray), .int .i64 0, .int .i64 0, .int .i64 0, .int .i64 0, .int .i64 0]) (t := 60) ?hr ?_; (case hd => rfl); (case hg => rfl); (case hr => first | (go_simp; done) | (go_simp; rfl)); intro gb226 hg w56 hbox hb; have n0_ := Aside0.mk (Kd.R_below (by (with_reducible repeat (first | apply rA|apply rN|apply rW)); exact HO_5.out) hb); have n1_ := Aside0.mk (Kd.Q_below (by (with_reducible repeat (first | apply Kd.Q_alloc | apply Kd.Q_drewN | apply Kd.Q_drew)); exact HO_7.out) hb); have n2_ := Aside0.mk (blk_below (g := gb216) (o := .cells #[.slice A0_0 l0_0.length c0_0, .slice (some ad225) l0_1.length c0_1] 31 (0, 0)) (by (with_reducible repeat (first | refine bN ?_ _|refine bW ?_|refine bA ?_ _)); exact BK216.out) hb); have n3_ := Aside0.mk (below_step (by repeat (first | (with_reducible first | exact HB.out|apply wA|apply wN|apply wD |refine wS ?_ GE216.out) | exact HB.out)) hb); have n4_ := Aside0.mk (hbox); have n5_ := Aside0.mk ((by rw [hg]; exact (below_size (by repeat (first | (with_reducible first | exact HB.out|apply wA|apply wN|apply wD |refine wS ?_ GE216.out) | exact HB.out))) : w.heap.size ≤ gb226)); have n6_ := Aside0.mk ((by rw [hg]; exact (below_size (by repeat (first | (with_reducible first | exact HB.out|apply wA|apply wN|apply wD |refine wS ?_ GE216.out) | exact HB.out))) : w.heap.size ≤ gb226)); have n7_ := Aside0.mk ((by rw [hg]; exact Nat.ne_of_lt (blk_lt (g := gb216) (o := .cells #[.slice A0_0 l0_0.length c0_0, .slice (some ad225) l0_1.length c0_1] 31 (0, 0)) (by (with_reducible repeat (first | refine bN ?_ _|refine bW ?_|refine bA ?_ _)); exact BK216.out)) : gb216 ≠ gb226)); have n8_ := Aside0.mk ((by rw [hg]; exact Nat.ne_of_gt (blk_lt (g := gb216) (o := .cells #[.slice A0_0 l0_0.length c0_0, .slice (some ad225) l0_1.length c0_1] 31 (0, 0)) (by (with_reducible repeat (first | refine bN ?_ _|refine bW ?_|refine bA ?_ _)); exact BK216.out)) : gb226 ≠ gb216)); clear HO_5; clear HO_7; clear BK216; clear HB; have HO_5 := n0_; have HO_7 := n1_; have BK216 := n2_; have HB := n3_; have BK226 := n4_; have GW226 := n5_; have GE226 := n6_; have NB216_226 := n7_; have NB226_216 := n8_; clear n0_ n1_ n2_ n3_ n4_ n5_ n6_ n7_ n8_; clear hb hbox hg; have hnb57 := NB226_216.out; have hnc57 := NB216_226.out; have hcz58_0 : w56.cell? ⟨gb226, 0, none⟩ = some (.string (⟨#[]⟩ : ByteArray)) := (blk_cell BK226.out 0).trans rfl; have hcz58_1 : w56.cell? ⟨gb226, 1, none⟩ = some (.int .i64 0) := (blk_cell BK226.out 1).trans rfl; have hcz58_2 : w56.cell? ⟨gb226, 2, none⟩ = some (.int .i64 0) := (blk_cell BK226.out 2).trans rfl; have hcz58_3 : w56.cell? ⟨gb226, 3, none⟩ = some (.int .i64 0) := (blk_cell BK226.out 3).trans rfl; have hcz58_4 : w56.cell? ⟨gb226, 4, none⟩ = some (.int .i64 0) := (blk_cell BK226.out 4).trans rfl; have hcz58_5 : w56.cell? ⟨gb226, 5, none⟩ = some (.int .i64 0) := (blk_cell BK226.out 5).trans rfl; have hfz58_0 := blk_frozen BK226.out 0; have hfz58_1 := blk_frozen BK226.out 1; have hfz58_2 := blk_frozen BK226.out 2; have hfz58_3 := blk_frozen BK226.out 3; have hfz58_4 := blk_frozen BK226.out 4; have hfz58_5 := blk_frozen BK226.out 5))
                  have n0_ : Aside0 (Kd.R (Kd.int .i64) 2 ((((((w56.setCell ⟨gb226, 0, none⟩ (.string ((rd_T60 l0_1 x38_3).f0))).setCell ⟨gb226, 1, none⟩ (.int .i64 ((rd_T60 l0_1 x38_3).f1))).setCell ⟨gb226, 2, none⟩ (.int .i64 ((rd_T60 l0_1 x38_3).f2))).setCell ⟨gb226, 3, none⟩ (.int .i64 ((rd_T60 l0_1 x38_3).f3))).setCell ⟨gb226, 4, none⟩ (.int .i64 ((rd_T60 l0_1 x38_3).f4))).setCell ⟨gb226, 5, none⟩ (.int .i64 ((rd_T60 l0_1 x38_3).f5))) w.heap.size (fun k_ => some k_ ≠ (u7 : Value).ownBlock) (.slice (some ⟨go18, 0, none⟩) x5_3.length co9) x5_3) := ⟨by (with_reducible repeat (first | apply rA|apply rN|apply rW)); exact Kd.R_mono (Kd.R_far (p := ⟨gb226, 5, none⟩) (Kd.R_far (p := ⟨gb226, 4, none⟩) (Kd.R_far (p := ⟨gb226, 3, none⟩) (Kd.R_far (p := ⟨gb226, 2, none⟩) (Kd.R_far (p := ⟨gb226, 1, none⟩) (Kd.R_far (p := ⟨gb226, 0, none⟩) (Kd.R_types HO_5.out BK226.out (by decide)) (fun _ hk => hk.2) (.string ((rd_T60 l0_1 x38_3).f0))) (fun _ hk => hk.2) (.int .i64 ((rd_T60 l0_1 x38_3).f1))) (fun _ hk => hk.2) (.int .i64 ((rd_T60 l0_1 x38_3).f2))) (fun _ hk => hk.2) (.int .i64 ((rd_T60 l0_1 x38_3).f3))) (fun _ hk => hk.2) (.int .i64 ((rd_T60 l0_1 x38_3).f4))) (fun _ hk => hk.2) (.int .i64 ((rd_T60 l0_1 x38_3).f5))) (fun _ hk => hk.1)⟩
                  have n1_ : Aside0 (Kd.Q (Kd.int .i64) 2 ((((((w56.setCell ⟨gb226, 0, none⟩ (.string ((rd_T60 l0_1 x38_3).f0))).setCell ⟨gb226, 1, none⟩ (.int .i64 ((rd_T60 l0_1 x38_3).f1))).setCell ⟨gb226, 2, none⟩ (.int .i64 ((rd_T60 l0_1 x38_3).f2))).setCell ⟨gb226, 3, none⟩ (.int .i64 ((rd_T60 l0_1 x38_3).f3))).setCell ⟨gb226, 4, none⟩ (.int .i64 ((rd_T60 l0_1 x38_3).f4))).setCell ⟨gb226, 5, none⟩ (.int .i64 ((rd_T60 l0_1 x38_3).f5))) w.heap.size (fun k_ => some k_ ≠ (.slice (some ⟨go18, 0, none⟩) x5_3.length co9 : Value).ownBlock) u7 x7_3) := ⟨by (with_reducible repeat (first | apply Kd.Q_alloc | apply Kd.Q_drewN | apply Kd.Q_drew)); exact Kd.Q_mono (Kd.Q_far (p := ⟨gb226, 5, none⟩) (Kd.Q_far (p := ⟨gb226, 4, none⟩) (Kd.Q_far (p := ⟨gb226, 3, none⟩) (Kd.Q_far (p := ⟨gb226, 2, none⟩) (Kd.Q_far (p := ⟨gb226, 1, none⟩) (Kd.Q_far (p := ⟨gb226, 0, none⟩) (Kd.Q_types HO_7.out BK226.out (by decide)) (fun _ hk => hk.2) (.string ((rd_T60 l0_1 x38_3).f0))) (fun _ hk => hk.2) (.int .i64 ((rd_T60 l0_1 x38_3).f1))) (fun _ hk => hk.2) (.int .i64 ((rd_T60 l0_1 x38_3).f2))) (fun _ hk => hk.2) (.int .i64 ((rd_T60 l0_1 x38_3).f3))) (fun _ hk => hk.2) (.int .i64 ((rd_T60 l0_1 x38_3).f4))) (fun _ hk => hk.2) (.int .i64 ((rd_T60 l0_1 x38_3).f5))) (fun _ hk => hk.1)⟩
                  have n2_ : Aside0 (((((((w56.setCell ⟨gb226, 0, none⟩ (.string ((rd_T60 l0_1 x38_3).f0))).setCell ⟨gb226, 1, none⟩ (.int .i64 ((rd_T60 l0_1 x38_3).f1))).setCell ⟨gb226, 2, none⟩ (.int .i64 ((rd_T60 l0_1 x38_3).f2))).setCell ⟨gb226, 3, none⟩ (.int .i64 ((rd_T60 l0_1 x38_3).f3))).setCell ⟨gb226, 4, none⟩ (.int .i64 ((rd_T60 l0_1 x38_3).f4))).setCell ⟨gb226, 5, none⟩ (.int .i64 ((rd_T60 l0_1 x38_3).f5))).heap[gb216]? = some (.cells #[.slice A0_0 l0_0.length c0_0, .slice (some ad225) l0_1.length c0_1] 31 (0, 0))) := ⟨by (with_reducible repeat (first | refine bN ?_ _|refine bW ?_|refine bA ?_ _)); refine blk_far ?_ NB216_226.out _; (with_reducible repeat (first | refine bN ?_ _|refine bW ?_|refine bA ?_ _)); refine blk_far ?_ NB216_226.out _; (with_reducible repeat (first | refine bN ?_ _|refine bW ?_|refine bA ?_ _)); refine blk_far ?_ NB216_226.out _; (with_reducible repeat (first | refine bN ?_ _|refine bW ?_|refine bA ?_ _)); refine blk_far ?_ NB216_226.out _; (with_reducible repeat (first | refine bN ?_ _|refine bW ?_|refine bA ?_ _)); refine blk_far ?_ NB216_226.out _; (with_reducible repeat (first | refine bN ?_ _|refine bW ?_|refine bA ?_ _)); refine blk_far ?_ NB216_226.out _; (with_reducible repeat (first | refine bN ?_ _|refine bW ?_|refine bA ?_ _)); exact BK216.out⟩
                  have n3_ : Aside0 (((((((w56.setCell ⟨gb226, 0, none⟩ (.string ((rd_T60 l0_1 x38_3).f0))).setCell ⟨gb226, 1, none⟩ (.int .i64 ((rd_T60 l0_1 x38_3).f1))).setCell ⟨gb226, 2, none⟩ (.int .i64 ((rd_T60 l0_1 x38_3).f2))).setCell ⟨gb226, 3, none⟩ (.int .i64 ((rd_T60 l0_1 x38_3).f3))).setCell ⟨gb226, 4, none⟩ (.int .i64 ((rd_T60 l0_1 x38_3).f4))).setCell ⟨gb226, 5, none⟩ (.int .i64 ((rd_T60 l0_1 x38_3).f5))).heap[gb226]? = some (.cells #[.string ((rd_T60 l0_1 x38_3).f0), .int .i64 ((rd_T60 l0_1 x38_3).f1), .int .i64 ((rd_T60 l0_1 x38_3).f2), .int .i64 ((rd_T60 l0_1 x38_3).f3), .int .i64 ((rd_T60 l0_1 x38_3).f4), .int .i64 ((rd_T60 l0_1 x38_3).f5)] 60 (0, 0))) := ⟨by (with_reducible repeat (first | refine bN ?_ _|refine bW ?_|refine bA ?_ _)); refine blk_put (cs := #[.string ((rd_T60 l0_1 x38_3).f0), .int .i64 ((rd_T60 l0_1 x38_3).f1), .int .i64 ((rd_T60 l0_1 x38_3).f2), .int .i64 ((rd_T60 l0_1 x38_3).f3), .int .i64 ((rd_T60 l0_1 x38_3).f4), .int .i64 0]) ?_ 5 _ rfl; (with_reducible repeat (first | refine bN ?_ _|refine bW ?_|refine bA ?_ _)); refine blk_put (cs := #[.string ((rd_T60 l0_1 x38_3).f0), .int .i64 ((rd_T60 l0_1 x38_3).f1), .int .i64 ((rd_T60 l0_1 x38_3).f2), .int .i64 ((rd_T60 l0_1 x38_3).f3), .int .i64 0, .int .i64 0]) ?_ 4 _ rfl; (with_reducible repeat (first | refine bN ?_ _|refine bW ?_|refine bA ?_ _)); refine blk_put (cs := #[.string ((rd_T60 l0_1 x38_3).f0), .int .i64 ((rd_T60 l0_1 x38_3).f1), .int .i64 ((rd_T60 l0_1 x38_3).f2), .int .i64 0, .int .i64 0, .int .i64 0]) ?_ 3 _ rfl; (with_reducible repeat (first | refine bN ?_ _|refine bW ?_|refine bA ?_ _)); refine blk_put (cs := #[.string ((rd_T60 l0_1 x38_3).f0), .int .i64 ((rd_T60 l0_1 x38_3).f1), .int .i64 0, .int .i64 0, .int .i64 0, .int .i64 0]) ?_ 2 _ rfl; (with_reducible repeat (first | refine bN ?_ _|refine bW ?_|refine bA ?_ _)); refine blk_put (cs := #[.string ((rd_T60 l0_1 x38_3).f0), .int .i64 0, .int .i64 0, .int .i64 0, .int .i64 0, .int .i64 0]) ?_ 1 _ rfl; (with_reducible repeat (first | refine bN ?_ _|refine bW ?_|refine bA ?_ _)); refine blk_put (cs := #[.string (⟨#[]⟩ : ByteArray), .int .i64 0, .int .i64 0, .int .i64 0, .int .i64 0, .int .i64 0]) ?_ 0 _ rfl; (with_reducible repeat (first | refine bN ?_ _|refine bW ?_|refine bA ?_ _)); exact BK226.out⟩
                  have n4_ : Aside0 (Below w.heap.size w ((((((w56.setCell ⟨gb226, 0, none⟩ (.string ((rd_T60 l0_1 x38_3).f0))).setCell ⟨gb226, 1, none⟩ (.int .i64 ((rd_T60 l0_1 x38_3).f1))).setCell ⟨gb226, 2, none⟩ (.int .i64 ((rd_T60 l0_1 x38_3).f2))).setCell ⟨gb226, 3, none⟩ (.int .i64 ((rd_T60 l0_1 x38_3).f3))).setCell ⟨gb226, 4, none⟩ (.int .i64 ((rd_T60 l0_1 x38_3).f4))).setCell ⟨gb226, 5, none⟩ (.int .i64 ((rd_T60 l0_1 x38_3).f5)))) := ⟨by repeat (first | (with_reducible first | exact HB.out|apply wA|apply wN|apply wD |refine wS ?_ GE216.out |refine wS ?_ GE226.out) | exact HB.out)⟩
                  (try clear HO_5)
                  (try clear HO_7)
                  (try clear BK216)
                  (try clear BK226)
                  (try clear HB)
                  generalize ((((((w56.setCell ⟨gb226, 0, none⟩ (.string ((rd_T60 l0_1 x38_3).f0))).setCell ⟨gb226, 1, none⟩ (.int .i64 ((rd_T60 l0_1 x38_3).f1))).setCell ⟨gb226, 2, none⟩ (.int .i64 ((rd_T60 l0_1 x38_3).f2))).setCell ⟨gb226, 3, none⟩ (.int .i64 ((rd_T60 l0_1 x38_3).f3))).setCell ⟨gb226, 4, none⟩ (.int .i64 ((rd_T60 l0_1 x38_3).f4))).setCell ⟨gb226, 5, none⟩ (.int .i64 ((rd_T60 l0_1 x38_3).f5))) = w59 at n0_ n1_ n2_ n3_ n4_ ⊢
                  have HO_5 := n0_
                  have HO_7 := n1_
                  have BK216 := n2_
                  have BK226 := n3_
                  have HB := n4_
                  clear n0_ n1_ n2_ n3_ n4_
                  have n0_ := Aside0.mk (Kd.R_drew HO_5.out)
                  have n1_ := Aside0.mk (Kd.Q_drew HO_7.out)
                  have n2_ := Aside0.mk (blk_drew BK216.out)
                  have n3_ := Aside0.mk (blk_drew BK226.out)
                  have n4_ := Aside0.mk (below_drew1 HB.out)
                  clear HO_5
                  clear HO_7
                  clear BK216
                  clear BK226
                  clear HB
                  have HO_5 := n0_
                  have HO_7 := n1_
                  have BK216 := n2_
                  have BK226 := n3_
                  have HB := n4_
                  clear n0_ n1_ n2_ n3_ n4_
                  obtain ⟨Ao61, co61, eo61, _⟩ := Kd.Q_slice HO_7.out
                  (first | subst eo61 | (injection eo61 with f1_ f2_ f3_; have f4_ := f1_.symm; have f5_ := f3_.symm; clear f1_ f2_ f3_; subst f4_; subst f5_))
                  have p227 : 0 ≤ (0 : Int) := (by omega)
                  have q227 : 0 < (x7_3.length : Int) := of_decide_eq_true (by first | (with_reducible assumption) | assumption)
                  obtain ⟨ad227, e227, hx227_0⟩ := Kd.at_int (Kd.Q_reads' HO_7.out).2.2 0 p227 q227
                  cases e227
                  have qi227 : (0 < x7_3.length) = True := eq_true (by omega)
                  (try rw [show ((0 : Int)).toNat = 0 from rfl] at hx227_0)
                  (try rw [Addr.add_zero'] at hx227_0)
                  replace p227 := eq_true p227
                  replace q227 := eq_true q227
                  refine start_ (n := 10) (S := fun w' => w'.cell? ⟨gb226, 0, none⟩ = some (.string ((rd_T60 l0_1 x38_3).f0)) ∧ w'.cell? ⟨gb226, 1, none⟩ = some (.int .i64 ((rd_T60 l0_1 x38_3).f1)) ∧ w'.cell? ⟨gb226, 2, none⟩ = some (.int .i64 ((rd_T60 l0_1 x38_3).f2)) ∧ w'.cell? ⟨gb226, 3, none⟩ = some (.int .i64 ((rd_T60 l0_1 x38_3).f3)) ∧ w'.cell? ⟨gb226, 4, none⟩ = some (.int .i64 ((rd_T60 l0_1 x38_3).f4)) ∧ w'.cell? ⟨gb226, 5, none⟩ = some (.int .i64 ((rd_T60 l0_1 x38_3).f5)) ∧ w'.cell? ad227 = some (.int .i64 (rd x7_3 0))) (ds := []) #[J,J,J,J,J,J,J,J,J,J] (by kernel_rfl) rfl rfl ⟨(blk_cell BK226.out 0).trans rfl, (blk_cell BK226.out 1).trans rfl, (blk_cell BK226.out 2).trans rfl, (blk_cell BK226.out 3).trans rfl, (blk_cell BK226.out 4).trans rfl, (blk_cell BK226.out 5).trans rfl, hx227_0⟩ (fun hHeld => ?_); refine with_tabW impl_Network_distances.tab14 impl_Network_distances.bits14 (fun HT_ HW_ => ?_)
                  generalize w59.drew = w60 at HO_5 HO_7 BK216 BK226 HB hx227_0 hHeld ⊢
                  refine pure_ (i := 1) (N := some 44) (v := ?_) (a' := ?_) #[J,Y,J,J,J,J,J,J,J,J] rfl rfl (any_of HT_.out (by kernel_rfl)) (fun _ _ _ h => h) (Or.inl ⟨by rfl, ?_⟩) ?_ ?_; rotate_left
                  ·intro w'; go_simp; with_reducible rfl
                  rotate_left
                  ·simp only [pU,pN,sB,sZ,sS,i64_w,i32_w]; rfl
                  refine pure_ (i := 2) (N := some 45) (v := ?_) (a' := ?_) #[J,Y,Y,J,J,J,J,J,J,J] rfl rfl (any_of HT_.out (by kernel_rfl)) (fun _ _ _ h => h) (Or.inl ⟨by rfl, ?_⟩) ?_ ?_; rotate_left
                  ·intro w'; go_simp; with_reducible rfl
                  rotate_left
                  ·simp only [pU,pN,sB,sZ,sS,i64_w,i32_w]; rfl
                  refine take_ (i := 0) (N := some 43) (v := ?_) (a' := ?_) #[Y,Y,Y,J,J,J,J,J,J,J] rfl rfl (take_ofW HT_.out HW_.out (by kernel_rfl)) (fun _ _ _ h => h) (Or.inl ⟨by rfl, ?_⟩) hHeld ?_ ?_; rotate_left
                  ·rintro w' ⟨s0, s1, s2, s3, s4, s5, s6⟩; go_simp; with_reducible rfl
                  rotate_left
                  ·simp only [pU,pN,sB,sZ,sS,i64_w,i32_w]; rfl
                  refine take_ (i := 3) (N := some 46) (v := ?_) (a' := ?_) #[Y,Y,Y,Y,J,J,J,J,J,J] rfl rfl (take_ofW HT_.out HW_.out (by kernel_rfl)) (fun _ _ _ h => h) (Or.inl ⟨by rfl, ?_⟩) hHeld ?_ ?_; rotate_left
                  ·rintro w' ⟨s0, s1, s2, s3, s4, s5, s6⟩; go_simp; with_reducible rfl
                  rotate_left
                  ·simp only [pU,pN,sB,sZ,sS,i64_w,i32_w]; rfl
                  refine one_ (i := 4) (N := some 47) #[Y,Y,Y,Y,Y,J,J,J,J,J] rfl rfl (one_of HT_.out (by kernel_rfl)) (by decide) (fun K hK => ?_)
                  refine goes_ Try.func53 (by kernel_rfl) rfl #[.agg #[.string ((rd_T60 l0_1 x38_3).f0), .int .i64 ((rd_T60 l0_1 x38_3).f1), .int .i64 ((rd_T60 l0_1 x38_3).f2), .int .i64 ((rd_T60 l0_1 x38_3).f3), .int .i64 ((rd_T60 l0_1 x38_3).f4), .int .i64 ((rd_T60 l0_1 x38_3).f5)], .int .i64 (rd x7_3 0)] (by rfl) rfl rfl (by (try simp only [List.map_toArray, List.map_cons, List.map_nil]); first | done | rfl | (simp only [List.length_drop, List.length_take]; rfl)) ?_
                  with_reducible refine (impl_Pipe_other.calls ((rd_T60 l0_1 x38_3).f0) ((rd_T60 l0_1 x38_3).f1) ((rd_T60 l0_1 x38_3).f2) ((rd_T60 l0_1 x38_3).f3) ((rd_T60 l0_1 x38_3).f4) ((rd_T60 l0_1 x38_3).f5) (rd x7_3 0) t228 false _ A30.out).mono ?_
                  rintro e w62 ⟨rfl, hb⟩
                  have HS6_ := (hb.cell (World.block_lt_of_cell? _ _ (hHeld.2.2.2.2.2.2))).trans (hHeld.2.2.2.2.2.2)
                  refine ⟨_, rfl, ?_⟩
                  have n0_ := Aside0.mk (Kd.R_below (by (with_reducible repeat (first | apply rA|apply rN|apply rW)); exact HO_5.out) hb)
                  have n1_ := Aside0.mk (Kd.Q_below (by (with_reducible repeat (first | apply Kd.Q_alloc | apply Kd.Q_drewN | apply Kd.Q_drew)); exact HO_7.out) hb)
                  have n2_ := Aside0.mk (blk_below (g := gb216) (o := .cells #[.slice A0_0 l0_0.length c0_0, .slice (some ad225) l0_1.length c0_1] 31 (0, 0)) (by (with_reducible repeat (first | refine bN ?_ _|refine bW ?_|refine bA ?_ _)); exact BK216.out) hb)
                  have n3_ := Aside0.mk (blk_below (g := gb226) (o := .cells #[.string ((rd_T60 l0_1 x38_3).f0), .int .i64 ((rd_T60 l0_1 x38_3).f1), .int .i64 ((rd_T60 l0_1 x38_3).f2), .int .i64 ((rd_T60 l0_1 x38_3).f3), .int .i64 ((rd_T60 l0_1 x38_3).f4), .int .i64 ((rd_T60 l0_1 x38_3).f5)] 60 (0, 0)) (by (with_reducible repeat (first | refine bN ?_ _|refine bW ?_|refine bA ?_ _)); exact BK226.out) hb)
                  have n4_ := Aside0.mk (below_step (by repeat (first | (with_reducible first | exact HB.out|apply wA|apply wN|apply wD |refine wS ?_ GE216.out |refine wS ?_ GE226.out) | exact HB.out)) hb)
                  clear HO_5
                  clear HO_7
                  clear BK216
                  clear BK226
                  clear HB
                  have HO_5 := n0_
                  have HO_7 := n1_
                  have BK216 := n2_
                  have BK226 := n3_
                  have HB := n4_
                  clear n0_ n1_ n2_ n3_ n4_
                  (try clear hb)
                  (try clear hb2)
                  (try clear hk)
                  (try clear hi)
                  refine hK.out _ _ ⟨(blk_cell BK226.out 0).trans rfl, (blk_cell BK226.out 1).trans rfl, (blk_cell BK226.out 2).trans rfl, (blk_cell BK226.out 3).trans rfl, (blk_cell BK226.out 4).trans rfl, (blk_cell BK226.out 5).trans rfl, HS6_⟩ (fun hHeld => ?_)
                  clear hK K
                  refine norm_ (a' := ?_) ?_ ?_
                  rotate_left
                  ·show Act.put _ (some 47) _ = _
                   simp only [pU,pN,sB,sZ,sS,i64_w,i32_w]
                   rfl
                  refine pure_ (i := 5) (N := some 42) (v := ?_) (a' := ?_) #[Y,Y,Y,Y,Y,Y,J,J,J,J] rfl rfl (any_of HT_.out (by kernel_rfl)) (fun _ _ _ h => h) (Or.inl ⟨by rfl, ?_⟩) ?_ ?_; rotate_left
                  ·intro w'; go_simp; with_reducible rfl
                  rotate_left
                  ·simp only [pU,pN,sB,sZ,sS,i64_w,i32_w]; rfl
                  refine pure_ (i := 6) (N := some 48) (v := ?_) (a' := ?_) #[Y,Y,Y,Y,Y,Y,Y,J,J,J] rfl rfl (any_of HT_.out (by kernel_rfl)) (fun _ _ _ h => h) (Or.inl ⟨by rfl, ?_⟩) ?_ ?_; rotate_left
                  ·intro w'; go_simp; with_reducible rfl
                  rotate_left
                  ·simp only [pU,pN,sB,sZ,sS,i64_w,i32_w]; rfl
                  refine pure_ (i := 7) (N := some 49) (v := ?_) (a' := ?_) #[Y,Y,Y,Y,Y,Y,Y,Y,J,J] rfl rfl (any_of HT_.out (by kernel_rfl)) (fun _ _ _ h => h) (Or.inl ⟨by rfl, ?_⟩) ?_ ?_; rotate_left
                  ·intro w'; go_simp; with_reducible rfl
                  rotate_left
                  ·simp only [pU,pN,sB,sZ,sS,i64_w,i32_w]; rfl
                  refine pure_ (i := 8) (N := some 10) (v := ?_) (a' := ?_) #[Y,Y,Y,Y,Y,Y,Y,Y,Y,J] rfl rfl (any_of HT_.out (by kernel_rfl)) (fun _ _ _ h => h) (Or.inl ⟨by rfl, ?_⟩) ?_ ?_; rotate_left
                  ·intro w'; go_simp; with_reducible rfl
                  rotate_left
                  ·simp only [pU,pN,sB,sZ,sS,i64_w,i32_w]; rfl
                  refine pure_ (i := 9) (N := some 11) (v := ?_) (a' := ?_) #[Y,Y,Y,Y,Y,Y,Y,Y,Y,Y] rfl rfl (any_of HT_.out (by kernel_rfl)) (fun _ _ _ h => h) (Or.inl ⟨by rfl, ?_⟩) ?_ ?_; rotate_left
                  ·intro w'; go_simp; with_reducible rfl
                  rotate_left
                  ·simp only [pU,pN,sB,sZ,sS,i64_w,i32_w]; rfl
                  refine done_ (done_of HT_.out (by kernel_rfl)) ?_
                  try go_wp2
                  (try simp only [← hl5_3])
                  go_roundg k3
                  case measure => have := HK1.out; have := HK2.out; have := HK3.out; omega
                  case rel => exact ⟨(x5_3), (x7_3), (wrap64 (x38_3 + 1)), (by first | rfl | (simp; done) | (simp [*]; done)), H', ⟨by have := HK1.out; have := HK2.out; have := HK3.out; omega⟩, ⟨by (try simp only [hl5_1]); (try simp only [hl5_2]); (try simp only [hl5_3]); (with_reducible repeat (first | apply rA|apply rN|apply rW)); exact HO_5.out⟩, ⟨by (try simp only [hl5_1]); (try simp only [hl5_2]); (try simp only [hl5_3]); (with_reducible repeat (first | apply Kd.Q_alloc | apply Kd.Q_drewN | apply Kd.Q_drew)); exact HO_7.out⟩, ⟨by (try simp only [hl5_1]); (try simp only [hl5_2]); (try simp only [hl5_3]); (with_reducible repeat (first | refine bN ?_ _|refine bW ?_|refine bA ?_ _)); exact BK216.out⟩, ⟨by repeat (first | (with_reducible first | exact HB.out|apply wA|apply wN|apply wD |refine wS ?_ GE216.out |refine wS ?_ GE226.out) | exact HB.out)⟩⟩
                ·rw [if_neg c29] at H
                 exact absurd H (by simp)
               ·rw [if_neg c28] at H
                exact absurd H (by simp)
              ·rw [if_neg c27] at H
               exact absurd H (by simp)
             ·rw [if_neg c26] at H
              have c26b0 : decide (x38_3 < (l0_1.length : Int)) = false := decide_eq_false c26
              (try simp only [hl5_1] at c26b0)
              (try simp only [hl5_2] at c26b0)
              (try simp only [hl5_3] at c26b0)
              clear c26
              by_cases c63 : 1 ≤ (x7_3.length : Int)
              ·rw [if_pos c63] at H
               have c63b0 := eq_true c63
               have c63b1 : decide (1 ≤ (x7_3.length : Int)) = true := decide_eq_true c63
               (try simp only [hl5_1] at c63b1)
               (try simp only [hl5_2] at c63b1)
               (try simp only [hl5_3] at c63b1)
               clear c63
               obtain ⟨y237, hy237⟩ : ∃ y_ : List Int, y_ = (x7_3.drop (1 : Int).toNat) := ⟨_, rfl⟩
               replace H : (impl_Network_distances.l1 k3 x5_3 y237 l0_0 l0_1) = some r := by first | (rw [hy237]; with_reducible exact H) | (have H2_ := (Option.bind_some _ _).symm.trans H; rw [hy237]; with_reducible exact H2_) | (have H2_ := (Option.bind_some _ _).symm.trans H; with_reducible exact H2_) | with_reducible exact H | (rw [hy237]; exact H) | exact H
               have Ny237 := Aside0.mk hy237
               clear hy237
               have H' := Aside0.mk H
               clear H
               obtain ⟨Ao64, co64, eo64, _⟩ := Kd.Q_slice HO_7.out
               subst eo64
               have q65 : (1 : Int) ≤ ((x7_3.length : Int) : Int) := of_decide_eq_true (by first | (with_reducible assumption) | assumption)
               obtain ⟨i065, hi065, _, hsz65, _⟩ := info_parts info2
               have hcut65 := cut_from (P := Try.prog) 22 2 .i64 Try.underlying22 hi065 1 hsz65 Ao64 x7_3.length co64 1 (by omega) q65
               have hr65 := Kd.Q_drop (k := (1 : Int).toNat) HO_7.out (by omega)
               obtain ⟨A65, hA65⟩ : ∃ A1, A1 = (if co64 = (1 : Int).toNat then Ao64 else (Ao64 : Option Addr).map (·.add ((1 : Int).toNat * 1))) := ⟨_, rfl⟩
               obtain ⟨c65, hc65⟩ : ∃ c1, c1 = co64 - (1 : Int).toNat := ⟨_, rfl⟩
               have hy65 : y237.length = x7_3.length - (1 : Int).toNat := (by rw [Ny237.out, List.length_drop])
               rw [← Ny237.out] at hr65
               rw [← hy65, ← hA65, ← hc65] at hcut65
               replace hr65 : Kd.Q (Kd.int .i64) 2 wr w.heap.size (fun k_ => some k_ ≠ (.slice (some ⟨go18, 0, none⟩) x5_3.length co9 : Value).ownBlock) (.slice A65 y237.length c65) y237 := (by rw [hA65, hc65, hy65]; exact hr65)
               have HE65 : Aside0 ((Value.slice A65 y237.length c65).ownBlock = (.slice Ao64 x7_3.length co64 : Value).ownBlock) := ⟨by rw [hA65]; split <;> (cases (Ao64 : Option Addr) <;> rfl)⟩
               clear hy65 hi065 hsz65 HO_7 hA65 hc65
               have HO239 := Aside0.mk hr65
               clear hr65
               replace q65 := eq_true q65
               have n_ := Aside0.mk (Kd.R_mono (ok' := fun k_ => some k_ ≠ (.slice A65 y237.length c65 : Value).ownBlock) HO_5.out (fun k_ hk => (by rw [HE65.out]; exact hk)))
               clear HO_5
               have HO_5 := n_
               clear n_
               go_wp2
               (try simp only [← hl5_2, ← hl5_3])
               go_roundg k3
               case measure => have := HK1.out; have := HK2.out; have := HK3.out; omega
               case rel => exact ⟨(x5_3), (y237), H', ⟨by have := HK1.out; have := HK2.out; have := HK3.out; omega⟩, ⟨by (try simp only [hl5_1]); (try simp only [hl5_2]); (try simp only [hl5_3]); (with_reducible repeat (first | apply rA|apply rN|apply rW)); exact HO_5.out⟩, ⟨by (try simp only [hl5_1]); (try simp only [hl5_2]); (try simp only [hl5_3]); (with_reducible repeat (first | apply Kd.Q_alloc | apply Kd.Q_drewN | apply Kd.Q_drew)); exact HO239.out⟩, ⟨by (try simp only [hl5_1]); (try simp only [hl5_2]); (try simp only [hl5_3]); (with_reducible repeat (first | refine bN ?_ _|refine bW ?_|refine bA ?_ _)); exact BK216.out⟩, ⟨by repeat (first | (with_reducible first | exact HB.out|apply wA|apply wN|apply wD |refine wS ?_ GE216.out) | exact HB.out)⟩⟩
              ·rw [if_neg c63] at H
               exact absurd H (by simp)
          ·rw [if_neg c23] at H
           have c23b0 : decide (0 < (x7_2.length : Int)) = false := decide_eq_false c23
           (try simp only [hl5_1] at c23b0)
           (try simp only [hl5_2] at c23b0)
           have c23b1 : decide (0 < x7_2.length) = false := decide_eq_false (by omega)
           (try simp only [hl5_1] at c23b1)
           (try simp only [hl5_2] at c23b1)
           clear c23
           obtain rfl := Option.some.inj H
           obtain ⟨Ao66, co66, eo66, _⟩ := Kd.Q_slice HO_7.out
           subst eo66
           go_wp2
           go_ret
           exact ⟨_, by first | rfl | (simp [errW_none, errW_some] <;> rfl) | (simp [*, errW_none, errW_some] <;> rfl), by (with_reducible repeat (first | apply rA|apply rN|apply rW)); exact Kd.R_mono HO_5.out (fun _ hk => trivial), by repeat (first | (with_reducible first | exact HB.out|apply wA|apply wN|apply wD |refine wS ?_ GE216.out) | exact HB.out)⟩
       ·rw [if_neg c17] at H
        exact absurd H (by simp)
      ·rw [if_neg c16] at H
       exact absurd H (by simp)
  ·rw [if_neg c4] at H
   exact absurd H (by simp)
 ·rw [if_neg c3] at H
  exact absurd H (by simp)

end Go.Proofs.Ytcgbagdpedpdpaa.PFnExactPathOf
