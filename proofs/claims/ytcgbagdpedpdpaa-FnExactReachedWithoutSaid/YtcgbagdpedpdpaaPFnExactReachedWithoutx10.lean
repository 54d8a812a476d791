-- Printed by a program of this session (wip/hprint.sh: the kit's print with hand-proved contracts put in); not by print.sh itself.
import Derived.Test.YtcgbagdpedpdpaaPFnExactReachedWithoutx0
import Derived.Test.YtcgbagdpedpdpaaPFnExactReachedWithoutx7
import Derived.Test.YtcgbagdpedpdpaaPFnExactReachedWithoutx9
namespace Go.Proofs.Ytcgbagdpedpdpaa.PFnExactReachedWithout
open Go.RowKit Go.Proofs.YtcgbagdpedpdpaaW.PrintWords Go.Proofs.YtcgbagdpedpdpaaW.PrintLast Go.Proofs.YtcgbagdpedpdpaaW.PrintMore Go.Proofs.YtcgbagdpedpdpaaM
attribute [local go_sem] max2_int min2_int max_two min_two max_three min_three max_four min_four   -- for this text's walks alone
set_option linter.unusedVariables false
set_option linter.unusedSimpArgs false

/-! ### impl_Network_reached: function 65 -/
mutual
def impl_Network_reached.l0 : Nat → List Int → List Int → Int → List Int → List (S60) → Option (List Int)
 | 0, _, _, _, _, _ => none
 | k + 1, x2, x7, x8, x243000, x243001 => if x8 < (x7.length : Int) then (impl_Network_reached.l1 k x2 x7 x8 x243001 (x243001.length : Int) 0 x243000 x243001) else ((slices_Sort_int64_int64.f x7).bind fun t246 => (some t246))
def impl_Network_reached.l1 : Nat → List Int → List Int → Int → List (S60) → Int → Int → List Int → List (S60) → Option (List Int)
 | 0, _, _, _, _, _, _, _, _ => none
 | k + 1, x2, x7, x8, x22, x23, x24, x243000, x243001 => if x24 < x23 then (if 0 ≤ x24 then (if x24 < (x22.length : Int) then (if 0 ≤ x8 then (if x8 < (x7.length : Int) then ((impl_Pipe_other.f ((rd_T60 x22 x24).f0) ((rd_T60 x22 x24).f1) ((rd_T60 x22 x24).f2) ((rd_T60 x22 x24).f3) ((rd_T60 x22 x24).f4) ((rd_T60 x22 x24).f5) (rd x7 x8)).bind fun bt250 => (if bt250.2 = true then ((slices_Contains_int64_int64.f k x2 x24).bind fun t252 => (if t252 = true then (impl_Network_reached.l1 k x2 x7 x8 x22 x23 (wrap64 (x24 + 1)) x243000 x243001) else ((slices_Contains_int64_int64.f k x7 bt250.1).bind fun t253 => (if t253 = true then (impl_Network_reached.l1 k x2 x7 x8 x22 x23 (wrap64 (x24 + 1)) x243000 x243001) else (if x7.length < 17592186044416 then (impl_Network_reached.l1 k x2 (x7 ++ [bt250.1]) x8 x22 x23 (wrap64 (x24 + 1)) x243000 x243001) else (none)))))) else (impl_Network_reached.l1 k x2 x7 x8 x22 x23 (wrap64 (x24 + 1)) x243000 x243001))) else (none)) else (none)) else (none)) else (none)) else (impl_Network_reached.l0 k x2 x7 (wrap64 (x8 + 1)) x243000 x243001)
end
def impl_Network_reached.f (k : Nat) (l0_0 : List Int) (l0_1 : List (S60)) (a1 : Int) (l2 : List Int) : Option (List Int) := impl_Network_reached.l0 k l2 (([a1] : List Int)) 0 l0_0 l0_1
theorem impl_Network_reached.mono_l : ∀ k, (∀ y0 y1 y2 y3 y4, LeO (impl_Network_reached.l0 k y0 y1 y2 y3 y4) (impl_Network_reached.l0 (k + 1) y0 y1 y2 y3 y4)) ∧ (∀ y0 y1 y2 y3 y4 y5 y6 y7, LeO (impl_Network_reached.l1 k y0 y1 y2 y3 y4 y5 y6 y7) (impl_Network_reached.l1 (k + 1) y0 y1 y2 y3 y4 y5 y6 y7))
 | 0 => ⟨fun _ _ _ _ _ r h => by simp [impl_Network_reached.l0] at h, fun _ _ _ _ _ _ _ _ r h => by simp [impl_Network_reached.l1] at h⟩
 | k + 1 => by
  obtain ⟨ih0, ih1⟩ := impl_Network_reached.mono_l k
  refine ⟨?_, ?_⟩
  ·intro y0 y1 y2 y3 y4
   unfold impl_Network_reached.l0
   repeat' first
   | (with_reducible exact ih0 _ _ _ _ _)
   | (with_reducible exact ih1 _ _ _ _ _ _ _ _)
   | (with_reducible exact slices_Contains_int64_int64.mono _ _ _)
   | (with_reducible exact LeO.refl _)
   | (with_reducible exact LeO.none _)
   | (with_reducible refine LeO.ite ?_ ?_)
   | (with_reducible refine LeO.bind ?_ (fun _ => ?_))
   | exact ih0 _ _ _ _ _
   | exact ih1 _ _ _ _ _ _ _ _
   | exact slices_Contains_int64_int64.mono _ _ _
   | exact LeO.none _
   | refine LeO.ite ?_ ?_
   | refine LeO.bind ?_ (fun _ => ?_)
  ·intro y0 y1 y2 y3 y4 y5 y6 y7
   unfold impl_Network_reached.l1
   repeat' first
   | (with_reducible exact ih0 _ _ _ _ _)
   | (with_reducible exact ih1 _ _ _ _ _ _ _ _)
   | (with_reducible exact slices_Contains_int64_int64.mono _ _ _)
   | (with_reducible exact LeO.refl _)
   | (with_reducible exact LeO.none _)
   | (with_reducible refine LeO.ite ?_ ?_)
   | (with_reducible refine LeO.bind ?_ (fun _ => ?_))
   | exact ih0 _ _ _ _ _
   | exact ih1 _ _ _ _ _ _ _ _
   | exact slices_Contains_int64_int64.mono _ _ _
   | exact LeO.none _
   | refine LeO.ite ?_ ?_
   | refine LeO.bind ?_ (fun _ => ?_)
theorem impl_Network_reached.mono : ∀ a0 a1 a2 a3 k, LeO (impl_Network_reached.f k a0 a1 a2 a3) (impl_Network_reached.f (k + 1) a0 a1 a2 a3) := by
 intro a0 a1 a2 a3 k
 obtain ⟨ih0, ih1⟩ := impl_Network_reached.mono_l k
 unfold impl_Network_reached.f
 repeat' first
   | (with_reducible exact ih0 _ _ _ _ _)
   | (with_reducible exact ih1 _ _ _ _ _ _ _ _)
   | (with_reducible exact slices_Contains_int64_int64.mono _ _ _)
   | (with_reducible exact LeO.refl _)
   | (with_reducible exact LeO.none _)
   | (with_reducible refine LeO.ite ?_ ?_)
   | (with_reducible refine LeO.bind ?_ (fun _ => ?_))
   | exact ih0 _ _ _ _ _
   | exact ih1 _ _ _ _ _ _ _ _
   | exact slices_Contains_int64_int64.mono _ _ _
   | exact LeO.none _
   | refine LeO.ite ?_ ?_
   | refine LeO.bind ?_ (fun _ => ?_)
def impl_Network_reached.T8 : Bool × List (List Nat × List Nat) := (true, [([], []), ([], []), ([], []), ([1, 2], [1, 2]), ([3], [3]), ([0, 4], [0, 4]), ([5], [5]), ([6], [6]), ([6], [6]), ([7, 5, 0, 1, 2, 3, 4, 5, 6, 7], [7]), ([8, 9, 0, 1, 2, 3, 4, 5, 6, 7, 8, 9], [8])])
def impl_Network_reached.B8 : List Nat := [0, 0, 0, 6, 14, 31, 63, 127, 127, 255, 1023]
theorem impl_Network_reached.tab8 : rtab .any (opsOf Try.f65 8) = impl_Network_reached.T8 := by kernel_rfl
theorem impl_Network_reached.bits8 : waitsOk impl_Network_reached.T8.2 impl_Network_reached.B8 = true := by kernel_rfl
set_option maxHeartbeats 8000000 in
set_option maxRecDepth 100000 in
theorem impl_Network_reached.calls (k : Nat) (A0_0 : Option Addr) (c0_0 : Nat) (l0_0 : List Int) (A0_1 : Option Addr) (c0_1 : Nat) (l0_1 : List (S60)) (a1 : Int) (A2 : Option Addr) (c2 : Nat) (l2 : List Int) (r : List Int) (w : World) (hr0_0 : Kd.C (Kd.int .i64) w A0_0 l0_0.length l0_0) (hc0_0 : l0_0.length ≤ c0_0) (hr0_1 : Kd.C k60 w A0_1 l0_1.length l0_1) (hc0_1 : l0_1.length ≤ c0_1) (hr2 : Kd.C (Kd.int .i64) w A2 l2.length l2) (hc2 : l2.length ≤ c2) (h : impl_Network_reached.f k l0_0 l0_1 a1 l2 = some r) :
  Calls Try.prog 65 #[.agg #[.slice A0_0 l0_0.length c0_0, .slice A0_1 l0_1.length c0_1], .int .i64 a1, .slice A2 l2.length c2] w fun e w' => ∃ v0_ : Value, e = .returned (v0_) ∧ Kd.R (Kd.int .i64) 2 w' w.heap.size (fun _ => True) v0_ r ∧ Below w.heap.size w w' := by
 have hu31 := Try.underlying31
 have hu60 := Try.underlying60
 have HR0_0 := Aside0.mk hr0_0
 have HC0_0 := Aside0.mk hc0_0
 clear hr0_0 hc0_0
 have HR0_1 := Aside0.mk hr0_1
 have HC0_1 := Aside0.mk hc0_1
 clear hr0_1 hc0_1
 have HR2 := Aside0.mk hr2
 have HC2 := Aside0.mk hc2
 clear hr2 hc2
 have HB := Aside0.mk (Below.refl w.heap.size w)
 have H : (impl_Network_reached.l0 k l2 (([a1] : List Int)) 0 l0_0 l0_1) = some r := h
 clear h
 obtain ⟨y243, hy243⟩ : ∃ y_ : List Int, y_ = (([a1] : List Int)) := ⟨_, rfl⟩
 replace H : (impl_Network_reached.l0 k l2 y243 0 l0_0 l0_1) = some r := by first | (rw [hy243]; with_reducible exact H) | (have H2_ := (Option.bind_some _ _).symm.trans H; rw [hy243]; with_reducible exact H2_) | (have H2_ := (Option.bind_some _ _).symm.trans H; with_reducible exact H2_) | with_reducible exact H | (rw [hy243]; exact H) | exact H
 have Ny243 := Aside0.mk hy243
 clear hy243
 have H' := Aside0.mk H
 clear H
 go_enter Try.func65, Try.ntmps65
 go_wp2_with (first | ((with_reducible refine gate_dst (N := 3) rfl ?_); refine box_event ?hg (N := 3) ?hd (cs := #[.slice A0_0 l0_0.length c0_0, .slice A0_1 l0_1.length c0_1]) (t := 31) ?hr ?_; (case hd => rfl); (case hg => rfl); (case hr => first | (go_simp; done) | (go_simp; rfl)); intro gb242 hg w4 hbox hb; have n0_ := Aside0.mk (below_step (by repeat (first | (with_reducible first | exact HB.out|apply wA|apply wN|apply wD) | exact HB.out)) hb); have n1_ := Aside0.mk (hbox); have n2_ := Aside0.mk ((by rw [hg]; exact (below_size (by repeat (first | (with_reducible first | exact HB.out|apply wA|apply wN|apply wD) | exact HB.out))) : w.heap.size ≤ gb242)); have n3_ := Aside0.mk ((by rw [hg]; exact (below_size (by repeat (first | (with_reducible first | exact HB.out|apply wA|apply wN|apply wD) | exact HB.out))) : w.heap.size ≤ gb242)); clear HB; have HB := n0_; have BK242 := n1_; have GW242 := n2_; have GE242 := n3_; clear n0_ n1_ n2_ n3_; clear hb hbox hg) | ((with_reducible refine gate_dst (N := 14) rfl ?_); refine Kd.R_lit (Kd.int .i64) _ 2 ?hg (N := 14) ?hd (xs := ([a1] : List Int)) (inner := [.int .i64 a1]) (ok := fun _ => True) (okp := fun _ => True) ?hr ?hp (fun _ hk => hk) trivial (Below.refl _ _) (Nat.le_refl _) (by simp) ?_; (case hd => rfl); (case hg => rfl); (case hr => first | (go_simp; done) | (go_simp; rfl)); (case hp => exact (Reps.one (show Kd.M (Kd.int .i64) _ _ _ a1 [.int .i64 a1] from rfl) (Reps.none _ _))); intro v244 w5 ho6 hb hg_ hnew_; clear hg_ hnew_; (first | rw [← Ny243.out] at ho6 | (simp only [Int.reduceToNat] at ho6; rw [← Ny243.out] at ho6)); have n0_ := Aside0.mk (Kd.R_lower ho6 (below_size (by repeat (first | (with_reducible first | exact HB.out|apply wA|apply wN|apply wD |refine wS ?_ GE242.out) | exact HB.out)))); have n1_ := Aside0.mk (blk_below (g := gb242) (o := .cells #[.slice A0_0 l0_0.length c0_0, .slice A0_1 l0_1.length c0_1] 31 (0, 0)) (by (with_reducible repeat (first | refine bN ?_ _|refine bW ?_|refine bA ?_ _)); exact BK242.out) hb); have n2_ := Aside0.mk (below_step (by repeat (first | (with_reducible first | exact HB.out|apply wA|apply wN|apply wD |refine wS ?_ GE242.out) | exact HB.out)) hb); clear BK242; clear HB; have HO245 := n0_; have BK242 := n1_; have HB := n2_; clear n0_ n1_ n2_; clear hb ho6))
 go_loopg [7, 8] k (fun kq v7 v8 w' => ∃ (x7_1 : List Int) (x8_1 : Int), v8 = .int .i64 x8_1 ∧ Aside0 (impl_Network_reached.l0 kq l2 x7_1 x8_1 l0_0 l0_1 = some r) ∧ Aside0 (kq ≤ k) ∧ Aside0 (Kd.R (Kd.int .i64) 2 w' w.heap.size (fun _ => True) v7 x7_1) ∧ Aside0 (w'.heap[gb242]? = some (.cells #[(.slice A0_0 l0_0.length c0_0), (.slice A0_1 l0_1.length c0_1)] 31 (0, 0))) ∧ Aside0 (Below w.heap.size w w'))
 case atStart => exact ⟨(y243), (0), (by first | rfl | (simp; done) | (simp [*]; done)), H', ⟨Nat.le_refl _⟩, ⟨by (with_reducible repeat (first | apply rA|apply rN|apply rW)); exact HO245.out⟩, ⟨by (with_reducible repeat (first | refine bN ?_ _|refine bW ?_|refine bA ?_ _)); exact BK242.out⟩, ⟨by repeat (first | (with_reducible first | exact HB.out|apply wA|apply wN|apply wD |refine wS ?_ GE242.out) | exact HB.out)⟩⟩
 case round =>
  clear H'
  try clear c2
  try clear p2
  try clear c6
  obtain ⟨x7_1, x8_1, rfl, HA, HK1, HO_7, BK242, HB⟩ := hrel
  cases gk with
  | zero => exact absurd HA.out (by simp [impl_Network_reached.l0])
  | succ k1 =>
   have H := HA.out
   clear HA
   simp only [impl_Network_reached.l0] at H
   by_cases c7 : x8_1 < (x7_1.length : Int)
   ·rw [if_pos c7] at H
    have c7b0 : decide (x8_1 < (x7_1.length : Int)) = true := decide_eq_true c7
    clear c7
    have H' := Aside0.mk H
    clear H
    obtain ⟨Ao8, co8, eo8⟩ := Kd.R_slice HO_7.out
    subst eo8
    have hcz9_0 : wr.cell? ⟨gb242, 0, none⟩ = some (.slice A0_0 l0_0.length c0_0) := (blk_cell BK242.out 0).trans rfl
    have hcz9_1 : wr.cell? ⟨gb242, 1, none⟩ = some (.slice A0_1 l0_1.length c0_1) := (blk_cell BK242.out 1).trans rfl
    have hfz9_0 := blk_frozen BK242.out 0
    have hfz9_1 := blk_frozen BK242.out 1
    go_wp2
    go_loopg [7, 24] k1 (fun kq v7 v24 w' => ∃ (x7_2 : List Int) (x24_2 : Int), v24 = .int .i64 x24_2 ∧ Aside0 (impl_Network_reached.l1 kq l2 x7_2 x8_1 l0_1 (l0_1.length : Int) x24_2 l0_0 l0_1 = some r) ∧ Aside0 (kq ≤ k1) ∧ Aside0 (Kd.R (Kd.int .i64) 2 w' w.heap.size (fun _ => True) v7 x7_2) ∧ Aside0 (w'.heap[gb242]? = some (.cells #[(.slice A0_0 l0_0.length c0_0), (.slice A0_1 l0_1.length c0_1)] 31 (0, 0))) ∧ Aside0 (Below w.heap.size w w'))
    case atStart => exact ⟨(x7_1), (0), (by first | rfl | (simp; done) | (simp [*]; done)), H', ⟨Nat.le_refl _⟩, ⟨by (with_reducible repeat (first | apply rA|apply rN|apply rW)); exact HO_7.out⟩, ⟨by (with_reducible repeat (first | refine bN ?_ _|refine bW ?_|refine bA ?_ _)); exact BK242.out⟩, ⟨by repeat (first | (with_reducible first | exact HB.out|apply wA|apply wN|apply wD |refine wS ?_ GE242.out) | exact HB.out)⟩⟩
    case round =>
     clear H'
     try clear c2
     try clear p2
     try clear c6
     try clear c7
     try clear c7b0
     try clear hcz9_0
     try clear hcz9_1
     try clear hfz9_0
     try clear hfz9_1
     try clear p2
     obtain ⟨x7_2, x24_2, rfl, HA, HK2, HO_7, BK242, HB⟩ := hrel
     cases gk with
     | zero => exact absurd HA.out (by simp [impl_Network_reached.l1])
     | succ k2 =>
      have H := HA.out
      clear HA
      simp only [impl_Network_reached.l1] at H
      by_cases c10 : x24_2 < (l0_1.length : Int)
      ·rw [if_pos c10] at H
       have c10b0 : decide (x24_2 < (l0_1.length : Int)) = true := decide_eq_true c10
       clear c10
       by_cases c11 : 0 ≤ x24_2
       ·rw [if_pos c11] at H
        have c11b0 : decide (0 ≤ x24_2) = true := decide_eq_true c11
        clear c11
        by_cases c12 : x24_2 < (l0_1.length : Int)
        ·rw [if_pos c12] at H
         have c12b0 : decide (x24_2 < (l0_1.length : Int)) = true := decide_eq_true c12
         clear c12
         by_cases c13 : 0 ≤ x8_1
         ·rw [if_pos c13] at H
          have c13b0 : decide (0 ≤ x8_1) = true := decide_eq_true c13
          clear c13
          by_cases c14 : x8_1 < (x7_2.length : Int)
          ·rw [if_pos c14] at H
           have c14b0 : decide (x8_1 < (x7_2.length : Int)) = true := decide_eq_true c14
           clear c14
           replace H := Option.bind_eq_some_iff.mp H
           obtain ⟨⟨t250, t251⟩, A150, H⟩ := H
           replace H : (if t251 = true then ((slices_Contains_int64_int64.f k2 l2 x24_2).bind fun t252 => (if t252 = true then (impl_Network_reached.l1 k2 l2 x7_2 x8_1 l0_1 (l0_1.length : Int) (wrap64 (x24_2 + 1)) l0_0 l0_1) else ((slices_Contains_int64_int64.f k2 x7_2 t250).bind fun t253 => (if t253 = true then (impl_Network_reached.l1 k2 l2 x7_2 x8_1 l0_1 (l0_1.length : Int) (wrap64 (x24_2 + 1)) l0_0 l0_1) else (if x7_2.length < 17592186044416 then (impl_Network_reached.l1 k2 l2 (x7_2 ++ [t250]) x8_1 l0_1 (l0_1.length : Int) (wrap64 (x24_2 + 1)) l0_0 l0_1) else (none)))))) else (impl_Network_reached.l1 k2 l2 x7_2 x8_1 l0_1 (l0_1.length : Int) (wrap64 (x24_2 + 1)) l0_0 l0_1)) = some r := H
           have A15 := Aside0.mk A150
           clear A150
           by_cases c16 : t251 = true
           ·subst c16
            have H1 : ((slices_Contains_int64_int64.f k2 l2 x24_2).bind fun t252 => (if t252 = true then (impl_Network_reached.l1 k2 l2 x7_2 x8_1 l0_1 (l0_1.length : Int) (wrap64 (x24_2 + 1)) l0_0 l0_1) else ((slices_Contains_int64_int64.f k2 x7_2 t250).bind fun t253 => (if t253 = true then (impl_Network_reached.l1 k2 l2 x7_2 x8_1 l0_1 (l0_1.length : Int) (wrap64 (x24_2 + 1)) l0_0 l0_1) else (if x7_2.length < 17592186044416 then (impl_Network_reached.l1 k2 l2 (x7_2 ++ [t250]) x8_1 l0_1 (l0_1.length : Int) (wrap64 (x24_2 + 1)) l0_0 l0_1) else (none)))))) = some r := by rw [if_pos rfl] at H; exact H
            clear H
            have H := H1
            clear H1
            replace H := Option.bind_eq_some_iff.mp H
            obtain ⟨t252, A170, H⟩ := H
            replace H : (if t252 = true then (impl_Network_reached.l1 k2 l2 x7_2 x8_1 l0_1 (l0_1.length : Int) (wrap64 (x24_2 + 1)) l0_0 l0_1) else ((slices_Contains_int64_int64.f k2 x7_2 t250).bind fun t253 => (if t253 = true then (impl_Network_reached.l1 k2 l2 x7_2 x8_1 l0_1 (l0_1.length : Int) (wrap64 (x24_2 + 1)) l0_0 l0_1) else (if x7_2.length < 17592186044416 then (impl_Network_reached.l1 k2 l2 (x7_2 ++ [t250]) x8_1 l0_1 (l0_1.length : Int) (wrap64 (x24_2 + 1)) l0_0 l0_1) else (none))))) = some r := H
            have A17 := Aside0.mk A170
            clear A170
            by_cases c18 : t252 = true
            ·subst c18
             have H1 : (impl_Network_reached.l1 k2 l2 x7_2 x8_1 l0_1 (l0_1.length : Int) (wrap64 (x24_2 + 1)) l0_0 l0_1) = some r := by rw [if_pos rfl] at H; exact H
             clear H
             have H := H1
             clear H1
             have H' := Aside0.mk H
             clear H
             have p247 : 0 ≤ (x24_2 : Int) := of_decide_eq_true (by first | (with_reducible assumption) | assumption)
             have q247 : x24_2 < (l0_1.length : Int) := of_decide_eq_true (by first | (with_reducible assumption) | assumption)
             obtain ⟨ad247, e247, hx247_0, hx247_1, hx247_2, hx247_3, hx247_4, hx247_5⟩ := at_T60 HR0_1.out x24_2 p247 q247
             cases e247
             replace hx247_0 := (HB.out.cell (World.block_lt_of_cell? w _ hx247_0)).trans hx247_0
             replace hx247_1 := (HB.out.cell (World.block_lt_of_cell? w _ hx247_1)).trans hx247_1
             replace hx247_2 := (HB.out.cell (World.block_lt_of_cell? w _ hx247_2)).trans hx247_2
             replace hx247_3 := (HB.out.cell (World.block_lt_of_cell? w _ hx247_3)).trans hx247_3
             replace hx247_4 := (HB.out.cell (World.block_lt_of_cell? w _ hx247_4)).trans hx247_4
             replace hx247_5 := (HB.out.cell (World.block_lt_of_cell? w _ hx247_5)).trans hx247_5
             replace p247 := eq_true p247
             replace q247 := eq_true q247
             try go_wp2_with (first | ((with_reducible refine gate_dst (N := 10) rfl ?_); refine box_event ?hg (N := 10) ?hd (cs := #[.string (⟨#[]⟩ : ByteArray), .int .i64 0, .int .i64 0, .int .i64 0, .int .i64 0, .int .i64 0]) (t := 60) ?hr ?_; (case hd => rfl); (case hg => rfl); (case hr => first | (go_simp; done) | (go_simp; rfl)); intro gb248 hg w19 hbox hb; have n0_ := Aside0.mk (Kd.R_below (by (with_reducible repeat (first | apply rA|apply rN|apply rW)); exact HO_7.out) hb); have n1_ := Aside0.mk (blk_below (g := gb242) (o := .cells #[.slice A0_0 l0_0.length c0_0, .slice (some ad247) l0_1.length c0_1] 31 (0, 0)) (by (with_reducible repeat (first | refine bN ?_ _|refine bW ?_|refine bA ?_ _)); exact BK242.out) hb); have n2_ := Aside0.mk (below_step (by repeat (first | (with_reducible first | exact HB.out|apply wA|apply wN|apply wD |refine wS ?_ GE242.out) | exact HB.out)) hb); have n3_ := Aside0.mk (hbox); have n4_ := Aside0.mk ((by rw [hg]; exact (below_size (by repeat (first | (with_reducible first | exact HB.out|apply wA|apply wN|apply wD |refine wS ?_ GE242.out) | exact HB.out))) : w.heap.size ≤ gb248)); have n5_ := Aside0.mk ((by rw [hg]; exact (below_size (by repeat (first | (with_reducible first | exact HB.out|apply wA|apply wN|apply wD |refine wS ?_ GE242.out) | exact HB.out))) : w.heap.size ≤ gb248)); have n6_ := Aside0.mk ((by rw [hg]; exact Nat.ne_of_lt (blk_lt (g := gb242) (o := .cells #[.slice A0_0 l0_0.length c0_0, .slice (some ad247) l0_1.length c0_1] 31 (0, 0)) (by (with_reducible repeat (first | refine bN ?_ _|refine bW ?_|refine bA ?_ _)); exact BK242.out)) : gb242 ≠ gb248)); have n7_ := Aside0.mk ((by rw [hg]; exact Nat.ne_of_gt (blk_lt (g := gb242) (o := .cells #[.slice A0_0 l0_0.length c0_0, .slice (some ad247) l0_1.length c0_1] 31 (0, 0)) (by (with_reducible repeat (first | refine bN ?_ _|refine bW ?_|refine bA ?_ _)); exact BK242.out)) : gb248 ≠ gb242)); clear HO_7; clear BK242; clear HB; have HO_7 := n0_; have BK242 := n1_; have HB := n2_; have BK248 := n3_; have GW248 := n4_; have GE248 := n5_; have NB242_248 := n6_; have NB248_242 := n7_; clear n0_ n1_ n2_ n3_ n4_ n5_ n6_ n7_; clear hb hbox hg; have hnb20 := NB248_242.out; have hnc20 := NB242_248.out; have hcz21_0 : w19.cell? ⟨gb248, 0, none⟩ = some (.string (⟨#[]⟩ : ByteArray)) := (blk_cell BK248.out 0).trans rfl; have hcz21_1 : w19.cell? ⟨gb248, 1, none⟩ = some (.int .i64 0) := (blk_cell BK248.out 1).trans rfl; have hcz21_2 : w19.cell? ⟨gb248, 2, none⟩ = some (.int .i64 0) := (blk_cell BK248.out 2).trans rfl; have hcz21_3 : w19.cell? ⟨gb248, 3, none⟩ = some (.int .i64 0) := (blk_cell BK248.out 3).trans rfl; have hcz21_4 : w19.cell? ⟨gb248, 4, none⟩ = some (.int .i64 0) := (blk_cell BK248.out 4).trans rfl; have hcz21_5 : w19.cell? ⟨gb248, 5, none⟩ = some (.int .i64 0) := (blk_cell BK248.out 5).trans rfl; have hfz21_0 := blk_frozen BK248.out 0; have hfz21_1 := blk_frozen BK248.out 1; have hfz21_2 := blk_frozen BK248.out 2; have hfz21_3 := blk_frozen BK248.out 3; have hfz21_4 := blk_frozen BK248.out 4; have hfz21_5 := blk_frozen BK248.out 5))
             have n0_ : Aside0 (Kd.R (Kd.int .i64) 2 ((((((w19.setCell ⟨gb248, 0, none⟩ (.string ((rd_T60 l0_1 x24_2).f0))).setCell ⟨gb248, 1, none⟩ (.int .i64 ((rd_T60 l0_1 x24_2).f1))).setCell ⟨gb248, 2, none⟩ (.int .i64 ((rd_T60 l0_1 x24_2).f2))).setCell ⟨gb248, 3, none⟩ (.int .i64 ((rd_T60 l0_1 x24_2).f3))).setCell ⟨gb248, 4, none⟩ (.int .i64 ((rd_T60 l0_1 x24_2).f4))).setCell ⟨gb248, 5, none⟩ (.int .i64 ((rd_T60 l0_1 x24_2).f5))) w.heap.size (fun _ => True) u7 x7_2) := ⟨by (with_reducible repeat (first | apply rA|apply rN|apply rW)); exact Kd.R_mono (Kd.R_far (p := ⟨gb248, 5, none⟩) (Kd.R_far (p := ⟨gb248, 4, none⟩) (Kd.R_far (p := ⟨gb248, 3, none⟩) (Kd.R_far (p := ⟨gb248, 2, none⟩) (Kd.R_far (p := ⟨gb248, 1, none⟩) (Kd.R_far (p := ⟨gb248, 0, none⟩) (Kd.R_types HO_7.out BK248.out (by decide)) (fun _ hk => hk.2) (.string ((rd_T60 l0_1 x24_2).f0))) (fun _ hk => hk.2) (.int .i64 ((rd_T60 l0_1 x24_2).f1))) (fun _ hk => hk.2) (.int .i64 ((rd_T60 l0_1 x24_2).f2))) (fun _ hk => hk.2) (.int .i64 ((rd_T60 l0_1 x24_2).f3))) (fun _ hk => hk.2) (.int .i64 ((rd_T60 l0_1 x24_2).f4))) (fun _ hk => hk.2) (.int .i64 ((rd_T60 l0_1 x24_2).f5))) (fun _ hk => trivial)⟩
             have n1_ : Aside0 (((((((w19.setCell ⟨gb248, 0, none⟩ (.string ((rd_T60 l0_1 x24_2).f0))).setCell ⟨gb248, 1, none⟩ (.int .i64 ((rd_T60 l0_1 x24_2).f1))).setCell ⟨gb248, 2, none⟩ (.int .i64 ((rd_T60 l0_1 x24_2).f2))).setCell ⟨gb248, 3, none⟩ (.int .i64 ((rd_T60 l0_1 x24_2).f3))).setCell ⟨gb248, 4, none⟩ (.int .i64 ((rd_T60 l0_1 x24_2).f4))).setCell ⟨gb248, 5, none⟩ (.int .i64 ((rd_T60 l0_1 x24_2).f5))).heap[gb242]? = some (.cells #[.slice A0_0 l0_0.length c0_0, .slice (some ad247) l0_1.length c0_1] 31 (0, 0))) := ⟨by (with_reducible repeat (first | refine bN ?_ _|refine bW ?_|refine bA ?_ _)); refine blk_far ?_ NB242_248.out _; (with_reducible repeat (first | refine bN ?_ _|refine bW ?_|refine bA ?_ _)); refine blk_far ?_ NB242_248.out _; (with_reducible repeat (first | refine bN ?_ _|refine bW ?_|refine bA ?_ _)); refine blk_far ?_ NB242_248.out _; (with_reducible repeat (first | refine bN ?_ _|refine bW ?_|refine bA ?_ _)); refine blk_far ?_ NB242_248.out _; (with_reducible repeat (first | refine bN ?_ _|refine bW ?_|refine bA ?_ _)); refine blk_far ?_ NB242_248.out _; (with_reducible repeat (first | refine bN ?_ _|refine bW ?_|refine bA ?_ _)); refine blk_far ?_ NB242_248.out _; (with_reducible repeat (first | refine bN ?_ _|refine bW ?_|refine bA ?_ _)); exact BK242.out⟩
             have n2_ : Aside0 (((((((w19.setCell ⟨gb248, 0, none⟩ (.string ((rd_T60 l0_1 x24_2).f0))).setCell ⟨gb248, 1, none⟩ (.int .i64 ((rd_T60 l0_1 x24_2).f1))).setCell ⟨gb248, 2, none⟩ (.int .i64 ((rd_T60 l0_1 x24_2).f2))).setCell ⟨gb248, 3, none⟩ (.int .i64 ((rd_T60 l0_1 x24_2).f3))).setCell ⟨gb248, 4, none⟩ (.int .i64 ((rd_T60 l0_1 x24_2).f4))).setCell ⟨gb248, 5, none⟩ (.int .i64 ((rd_T60 l0_1 x24_2).f5))).heap[gb248]? = some (.cells #[.string ((rd_T60 l0_1 x24_2).f0), .int .i64 ((rd_T60 l0_1 x24_2).f1), .int .i64 ((rd_T60 l0_1 x24_2).f2), .int .i64 ((rd_T60 l0_1 x24_2).f3), .int .i64 ((rd_T60 l0_1 x24_2).f4), .int .i64 ((rd_T60 l0_1 x24_2).f5)] 60 (0, 0))) := ⟨by (with_reducible repeat (first | refine bN ?_ _|refine bW ?_|refine bA ?_ _)); refine blk_put (cs := #[.string ((rd_T60 l0_1 x24_2).f0), .int .i64 ((rd_T60 l0_1 x24_2).f1), .int .i64 ((rd_T60 l0_1 x24_2).f2), .int .i64 ((rd_T60 l0_1 x24_2).f3), .int .i64 ((rd_T60 l0_1 x24_2).f4), .int .i64 0]) ?_ 5 _ rfl; (with_reducible repeat (first | refine bN ?_ _|refine bW ?_|refine bA ?_ _)); refine blk_put (cs := #[.string ((rd_T60 l0_1 x24_2).f0), .int .i64 ((rd_T60 l0_1 x24_2).f1), .int .i64 ((rd_T60 l0_1 x24_2).f2), .int .i64 ((rd_T60 l0_1 x24_2).f3), .int .i64 0, .int .i64 0]) ?_ 4 _ rfl; (with_reducible repeat (first | refine bN ?_ _|refine bW ?_|refine bA ?_ _)); refine blk_put (cs := #[.string ((rd_T60 l0_1 x24_2).f0), .int .i64 ((rd_T60 l0_1 x24_2).f1), .int .i64 ((rd_T60 l0_1 x24_2).f2), .int .i64 0, .int .i64 0, .int .i64 0]) ?_ 3 _ rfl; (with_reducible repeat (first | refine bN ?_ _|refine bW ?_|refine bA ?_ _)); refine blk_put (cs := #[.string ((rd_T60 l0_1 x24_2).f0), .int .i64 ((rd_T60 l0_1 x24_2).f1), .int .i64 0, .int .i64 0, .int .i64 0, .int .i64 0]) ?_ 2 _ rfl; (with_reducible repeat (first | refine bN ?_ _|refine bW ?_|refine bA ?_ _)); refine blk_put (cs := #[.string ((rd_T60 l0_1 x24_2).f0), .int .i64 0, .int .i64 0, .int .i64 0, .int .i64 0, .int .i64 0]) ?_ 1 _ rfl; (with_reducible repeat (first | refine bN ?_ _|refine bW ?_|refine bA ?_ _)); refine blk_put (cs := #[.string (⟨#[]⟩ : ByteArray), .int .i64 0, .int .i64 0, .int .i64 0, .int .i64 0, .int .i64 0]) ?_ 0 _ rfl; (with_reducible repeat (first | refine bN ?_ _|refine bW ?_|refine bA ?_ _)); exact BK248.out⟩
             have n3_ : Aside0 (Below w.heap.size w ((((((w19.setCell ⟨gb248, 0, none⟩ (.string ((rd_T60 l0_1 x24_2).f0))).setCell ⟨gb248, 1, none⟩ (.int .i64 ((rd_T60 l0_1 x24_2).f1))).setCell ⟨gb248, 2, none⟩ (.int .i64 ((rd_T60 l0_1 x24_2).f2))).setCell ⟨gb248, 3, none⟩ (.int .i64 ((rd_T60 l0_1 x24_2).f3))).setCell ⟨gb248, 4, none⟩ (.int .i64 ((rd_T60 l0_1 x24_2).f4))).setCell ⟨gb248, 5, none⟩ (.int .i64 ((rd_T60 l0_1 x24_2).f5)))) := ⟨by repeat (first | (with_reducible first | exact HB.out|apply wA|apply wN|apply wD |refine wS ?_ GE242.out |refine wS ?_ GE248.out) | exact HB.out)⟩
             (try clear HO_7)
             (try clear BK242)
             (try clear BK248)
             (try clear HB)
             generalize ((((((w19.setCell ⟨gb248, 0, none⟩ (.string ((rd_T60 l0_1 x24_2).f0))).setCell ⟨gb248, 1, none⟩ (.int .i64 ((rd_T60 l0_1 x24_2).f1))).setCell ⟨gb248, 2, none⟩ (.int .i64 ((rd_T60 l0_1 x24_2).f2))).setCell ⟨gb248, 3, none⟩ (.int .i64 ((rd_T60 l0_1 x24_2).f3))).setCell ⟨gb248, 4, none⟩ (.int .i64 ((rd_T60 l0_1 x24_2).f4))).setCell ⟨gb248, 5, none⟩ (.int .i64 ((rd_T60 l0_1 x24_2).f5))) = w22 at n0_ n1_ n2_ n3_ ⊢
             have HO_7 := n0_
             have BK242 := n1_
             have BK248 := n2_
             have HB := n3_
             clear n0_ n1_ n2_ n3_
             have n0_ := Aside0.mk (Kd.R_drew HO_7.out)
             have n1_ := Aside0.mk (blk_drew BK242.out)
             have n2_ := Aside0.mk (blk_drew BK248.out)
             have n3_ := Aside0.mk (below_drew1 HB.out)
             clear HO_7
             clear BK242
             clear BK248
             clear HB
             have HO_7 := n0_
             have BK242 := n1_
             have BK248 := n2_
             have HB := n3_
             clear n0_ n1_ n2_ n3_
             obtain ⟨Ao24, co24, eo24⟩ := Kd.R_slice HO_7.out
             (first | subst eo24 | (injection eo24 with f1_ f2_ f3_; have f4_ := f1_.symm; have f5_ := f3_.symm; clear f1_ f2_ f3_; subst f4_; subst f5_))
             have p249 : 0 ≤ (x8_1 : Int) := of_decide_eq_true (by first | (with_reducible assumption) | assumption)
             have q249 : x8_1 < (x7_2.length : Int) := of_decide_eq_true (by first | (with_reducible assumption) | assumption)
             obtain ⟨ad249, e249, hx249_0⟩ := Kd.at_int (Kd.R_reads' HO_7.out).2.2 x8_1 p249 q249
             cases e249
             replace p249 := eq_true p249
             replace q249 := eq_true q249
             refine start_ (n := 11) (S := fun w' => w'.cell? ⟨gb248, 0, none⟩ = some (.string ((rd_T60 l0_1 x24_2).f0)) ∧ w'.cell? ⟨gb248, 1, none⟩ = some (.int .i64 ((rd_T60 l0_1 x24_2).f1)) ∧ w'.cell? ⟨gb248, 2, none⟩ = some (.int .i64 ((rd_T60 l0_1 x24_2).f2)) ∧ w'.cell? ⟨gb248, 3, none⟩ = some (.int .i64 ((rd_T60 l0_1 x24_2).f3)) ∧ w'.cell? ⟨gb248, 4, none⟩ = some (.int .i64 ((rd_T60 l0_1 x24_2).f4)) ∧ w'.cell? ⟨gb248, 5, none⟩ = some (.int .i64 ((rd_T60 l0_1 x24_2).f5)) ∧ w'.cell? (ad249.add (x8_1).toNat) = some (.int .i64 (rd x7_2 x8_1))) (ds := []) #[J,J,J,J,J,J,J,J,J,J,J] (by kernel_rfl) rfl rfl ⟨(blk_cell BK248.out 0).trans rfl, (blk_cell BK248.out 1).trans rfl, (blk_cell BK248.out 2).trans rfl, (blk_cell BK248.out 3).trans rfl, (blk_cell BK248.out 4).trans rfl, (blk_cell BK248.out 5).trans rfl, hx249_0⟩ (fun hHeld => ?_); refine with_tabW impl_Network_reached.tab8 impl_Network_reached.bits8 (fun HT_ HW_ => ?_)
             generalize w22.drew = w23 at HO_7 BK242 BK248 HB hx249_0 hHeld ⊢
             refine pure_ (i := 1) (N := some 31) (v := ?_) (a' := ?_) #[J,Y,J,J,J,J,J,J,J,J,J] rfl rfl (any_of HT_.out (by kernel_rfl)) (fun _ _ _ h => h) (Or.inl ⟨by rfl, ?_⟩) ?_ ?_; rotate_left
             ·intro w'; go_simp; with_reducible rfl
             rotate_left
             ·simp only [pU,pN,sB,sZ,sS,i64_w,i32_w]; rfl
             refine pure_ (i := 2) (N := some 32) (v := ?_) (a' := ?_) #[J,Y,Y,J,J,J,J,J,J,J,J] rfl rfl (any_of HT_.out (by kernel_rfl)) (fun _ _ _ h => h) (Or.inl ⟨by rfl, ?_⟩) ?_ ?_; rotate_left
             ·intro w'; go_simp; with_reducible rfl
             rotate_left
             ·simp only [pU,pN,sB,sZ,sS,i64_w,i32_w]; rfl
             refine pure_ (i := 3) (N := some 33) (v := ?_) (a' := ?_) #[J,Y,Y,Y,J,J,J,J,J,J,J] rfl rfl (any_of HT_.out (by kernel_rfl)) (fun _ _ _ h => h) (Or.inl ⟨by rfl, ?_⟩) ?_ ?_; rotate_left
             ·intro w'; go_simp; with_reducible rfl
             rotate_left
             ·simp only [pU,pN,sB,sZ,sS,i64_w,i32_w]; rfl
             refine take_ (i := 0) (N := some 30) (v := ?_) (a' := ?_) #[Y,Y,Y,Y,J,J,J,J,J,J,J] rfl rfl (take_ofW HT_.out HW_.out (by kernel_rfl)) (fun _ _ _ h => h) (Or.inl ⟨by rfl, ?_⟩) hHeld ?_ ?_; rotate_left
             ·rintro w' ⟨s0, s1, s2, s3, s4, s5, s6⟩; go_simp; with_reducible rfl
             rotate_left
             ·simp only [pU,pN,sB,sZ,sS,i64_w,i32_w]; rfl
             refine take_ (i := 4) (N := some 34) (v := ?_) (a' := ?_) #[Y,Y,Y,Y,Y,J,J,J,J,J,J] rfl rfl (take_ofW HT_.out HW_.out (by kernel_rfl)) (fun _ _ _ h => h) (Or.inl ⟨by rfl, ?_⟩) hHeld ?_ ?_; rotate_left
             ·rintro w' ⟨s0, s1, s2, s3, s4, s5, s6⟩; go_simp; with_reducible rfl
             rotate_left
             ·simp only [pU,pN,sB,sZ,sS,i64_w,i32_w]; rfl
             refine one_ (i := 5) (N := some 35) #[Y,Y,Y,Y,Y,Y,J,J,J,J,J] rfl rfl (one_of HT_.out (by kernel_rfl)) (by decide) (fun K hK => ?_)
             refine goes_ Try.func53 (by kernel_rfl) rfl #[.agg #[.string ((rd_T60 l0_1 x24_2).f0), .int .i64 ((rd_T60 l0_1 x24_2).f1), .int .i64 ((rd_T60 l0_1 x24_2).f2), .int .i64 ((rd_T60 l0_1 x24_2).f3), .int .i64 ((rd_T60 l0_1 x24_2).f4), .int .i64 ((rd_T60 l0_1 x24_2).f5)], .int .i64 (rd x7_2 x8_1)] (by rfl) rfl rfl (by (try simp only [List.map_toArray, List.map_cons, List.map_nil]); first | done | rfl | (simp only [List.length_drop, List.length_take]; rfl)) ?_
             with_reducible refine (impl_Pipe_other.calls ((rd_T60 l0_1 x24_2).f0) ((rd_T60 l0_1 x24_2).f1) ((rd_T60 l0_1 x24_2).f2) ((rd_T60 l0_1 x24_2).f3) ((rd_T60 l0_1 x24_2).f4) ((rd_T60 l0_1 x24_2).f5) (rd x7_2 x8_1) t250 true _ A15.out).mono ?_
             rintro e w25 ⟨rfl, hb⟩
             have HS6_ := (hb.cell (World.block_lt_of_cell? _ _ (hHeld.2.2.2.2.2.2))).trans (hHeld.2.2.2.2.2.2)
             refine ⟨_, rfl, ?_⟩
             have n0_ := Aside0.mk (Kd.R_below (by (with_reducible repeat (first | apply rA|apply rN|apply rW)); exact HO_7.out) hb)
             have n1_ := Aside0.mk (blk_below (g := gb242) (o := .cells #[.slice A0_0 l0_0.length c0_0, .slice (some ad247) l0_1.length c0_1] 31 (0, 0)) (by (with_reducible repeat (first | refine bN ?_ _|refine bW ?_|refine bA ?_ _)); exact BK242.out) hb)
             have n2_ := Aside0.mk (blk_below (g := gb248) (o := .cells #[.string ((rd_T60 l0_1 x24_2).f0), .int .i64 ((rd_T60 l0_1 x24_2).f1), .int .i64 ((rd_T60 l0_1 x24_2).f2), .int .i64 ((rd_T60 l0_1 x24_2).f3), .int .i64 ((rd_T60 l0_1 x24_2).f4), .int .i64 ((rd_T60 l0_1 x24_2).f5)] 60 (0, 0)) (by (with_reducible repeat (first | refine bN ?_ _|refine bW ?_|refine bA ?_ _)); exact BK248.out) hb)
             have n3_ := Aside0.mk (below_step (by repeat (first | (with_reducible first | exact HB.out|apply wA|apply wN|apply wD |refine wS ?_ GE242.out |refine wS ?_ GE248.out) | exact HB.out)) hb)
             clear HO_7
             clear BK242
             clear BK248
             clear HB
             have HO_7 := n0_
             have BK242 := n1_
             have BK248 := n2_
             have HB := n3_
             clear n0_ n1_ n2_ n3_
             (try clear hb)
             (try clear hb2)
             (try clear hk)
             (try clear hi)
             refine hK.out _ _ ⟨(blk_cell BK248.out 0).trans rfl, (blk_cell BK248.out 1).trans rfl, (blk_cell BK248.out 2).trans rfl, (blk_cell BK248.out 3).trans rfl, (blk_cell BK248.out 4).trans rfl, (blk_cell BK248.out 5).trans rfl, HS6_⟩ (fun hHeld => ?_)
             clear hK K
             refine norm_ (a' := ?_) ?_ ?_
             rotate_left
             ·show Act.put _ (some 35) _ = _
              simp only [pU,pN,sB,sZ,sS,i64_w,i32_w]
              rfl
             refine pure_ (i := 6) (N := some 29) (v := ?_) (a' := ?_) #[Y,Y,Y,Y,Y,Y,Y,J,J,J,J] rfl rfl (any_of HT_.out (by kernel_rfl)) (fun _ _ _ h => h) (Or.inl ⟨by rfl, ?_⟩) ?_ ?_; rotate_left
             ·intro w'; go_simp; with_reducible rfl
             rotate_left
             ·simp only [pU,pN,sB,sZ,sS,i64_w,i32_w]; rfl
             refine pure_ (i := 7) (N := some 36) (v := ?_) (a' := ?_) #[Y,Y,Y,Y,Y,Y,Y,Y,J,J,J] rfl rfl (any_of HT_.out (by kernel_rfl)) (fun _ _ _ h => h) (Or.inl ⟨by rfl, ?_⟩) ?_ ?_; rotate_left
             ·intro w'; go_simp; with_reducible rfl
             rotate_left
             ·simp only [pU,pN,sB,sZ,sS,i64_w,i32_w]; rfl
             refine pure_ (i := 8) (N := some 37) (v := ?_) (a' := ?_) #[Y,Y,Y,Y,Y,Y,Y,Y,Y,J,J] rfl rfl (any_of HT_.out (by kernel_rfl)) (fun _ _ _ h => h) (Or.inl ⟨by rfl, ?_⟩) ?_ ?_; rotate_left
             ·intro w'; go_simp; with_reducible rfl
             rotate_left
             ·simp only [pU,pN,sB,sZ,sS,i64_w,i32_w]; rfl
             refine pure_ (i := 9) (N := some 11) (v := ?_) (a' := ?_) #[Y,Y,Y,Y,Y,Y,Y,Y,Y,Y,J] rfl rfl (any_of HT_.out (by kernel_rfl)) (fun _ _ _ h => h) (Or.inl ⟨by rfl, ?_⟩) ?_ ?_; rotate_left
             ·intro w'; go_simp; with_reducible rfl
             rotate_left
             ·simp only [pU,pN,sB,sZ,sS,i64_w,i32_w]; rfl
             refine pure_ (i := 10) (N := some 12) (v := ?_) (a' := ?_) #[Y,Y,Y,Y,Y,Y,Y,Y,Y,Y,Y] rfl rfl (any_of HT_.out (by kernel_rfl)) (fun _ _ _ h => h) (Or.inl ⟨by rfl, ?_⟩) ?_ ?_; rotate_left
             ·intro w'; go_simp; with_reducible rfl
             rotate_left
             ·simp only [pU,pN,sB,sZ,sS,i64_w,i32_w]; rfl
             refine done_ (done_of HT_.out (by kernel_rfl)) ?_
             try go_wp2_with (first | (go_at_call 97; (with_reducible refine (slices_Contains_int64_int64.calls k2 _ _ l2 x24_2 true _ ?side1 ?side2 A17.out).mono ?_); (case side1 => repeat (first | exact (Kd.C_below HR2.out HB.out) | (with_reducible first|refine Kd.C_alloc ?_ _|refine Kd.C_drewN ?_ _|refine Kd.C_drew ?_))); (case side2 => exact HC2.out); rintro e w' ⟨rfl, ⟨nd, rfl⟩⟩))
             go_roundg k2
             case measure => have := HK1.out; have := HK2.out; omega
             case rel => exact ⟨(x7_2), (wrap64 (x24_2 + 1)), (by first | rfl | (simp; done) | (simp [*]; done)), H', ⟨by have := HK1.out; have := HK2.out; omega⟩, ⟨by (with_reducible repeat (first | apply rA|apply rN|apply rW)); exact HO_7.out⟩, ⟨by (with_reducible repeat (first | refine bN ?_ _|refine bW ?_|refine bA ?_ _)); exact BK242.out⟩, ⟨by repeat (first | (with_reducible first | exact HB.out|apply wA|apply wN|apply wD |refine wS ?_ GE242.out |refine wS ?_ GE248.out) | exact HB.out)⟩⟩
            ·replace c18 := Bool.eq_false_iff.mpr c18
             subst c18
             have H1 : ((slices_Contains_int64_int64.f k2 x7_2 t250).bind fun t253 => (if t253 = true then (impl_Network_reached.l1 k2 l2 x7_2 x8_1 l0_1 (l0_1.length : Int) (wrap64 (x24_2 + 1)) l0_0 l0_1) else (if x7_2.length < 17592186044416 then (impl_Network_reached.l1 k2 l2 (x7_2 ++ [t250]) x8_1 l0_1 (l0_1.length : Int) (wrap64 (x24_2 + 1)) l0_0 l0_1) else (none)))) = some r := by rw [if_neg (show ¬ (false = true) by decide)] at H; exact H
             clear H
             have H := H1
             clear H1
             replace H := Option.bind_eq_some_iff.mp H
             obtain ⟨t253, A260, H⟩ := H
             replace H : (if t253 = true then (impl_Network_reached.l1 k2 l2 x7_2 x8_1 l0_1 (l0_1.length : Int) (wrap64 (x24_2 + 1)) l0_0 l0_1) else (if x7_2.length < 17592186044416 then (impl_Network_reached.l1 k2 l2 (x7_2 ++ [t250]) x8_1 l0_1 (l0_1.length : Int) (wrap64 (x24_2 + 1)) l0_0 l0_1) else (none))) = some r := H
             have A26 := Aside0.mk A260
             clear A260
             by_cases c27 : t253 = true
             ·subst c27
              have H1 : (impl_Network_reached.l1 k2 l2 x7_2 x8_1 l0_1 (l0_1.length : Int) (wrap64 (x24_2 + 1)) l0_0 l0_1) = some r := by rw [if_pos rfl] at H; exact H
              clear H
              have H := H1
              clear H1
              have H' := Aside0.mk H
              clear H
              have p247 : 0 ≤ (x24_2 : Int) := of_decide_eq_true (by first | (with_reducible assumption) | assumption)
              have q247 : x24_2 < (l0_1.length : Int) := of_decide_eq_true (by first | (with_reducible assumption) | assumption)
              obtain ⟨ad247, e247, hx247_0, hx247_1, hx247_2, hx247_3, hx247_4, hx247_5⟩ := at_T60 HR0_1.out x24_2 p247 q247
              cases e247
              replace hx247_0 := (HB.out.cell (World.block_lt_of_cell? w _ hx247_0)).trans hx247_0
              replace hx247_1 := (HB.out.cell (World.block_lt_of_cell? w _ hx247_1)).trans hx247_1
              replace hx247_2 := (HB.out.cell (World.block_lt_of_cell? w _ hx247_2)).trans hx247_2
              replace hx247_3 := (HB.out.cell (World.block_lt_of_cell? w _ hx247_3)).trans hx247_3
              replace hx247_4 := (HB.out.cell (World.block_lt_of_cell? w _ hx247_4)).trans hx247_4
              replace hx247_5 := (HB.out.cell (World.block_lt_of_cell? w _ hx247_5)).trans hx247_5
              replace p247 := eq_true p247
              replace q247 := eq_true q247
              try go_wp2_with (first | ((with_reducible refine gate_dst (N := 10) rfl ?_); refine box_event ?hg (N := 10) ?hd (cs := #[.string (⟨#[]⟩ : ByteArray), .int .i64 0, .int .i64 0, .int .i64 0, .int .i64 0, .int .i64 0]) (t := 60) ?hr ?_; (case hd => rfl); (case hg => rfl); (case hr => first | (go_simp; done) | (go_simp; rfl)); intro gb248 hg w28 hbox hb; have n0_ := Aside0.mk (Kd.R_below (by (with_reducible repeat (first | apply rA|apply rN|apply rW)); exact HO_7.out) hb); have n1_ := Aside0.mk (blk_below (g := gb242) (o := .cells #[.slice A0_0 l0_0.length c0_0, .slice (some ad247) l0_1.length c0_1] 31 (0, 0)) (by (with_reducible repeat (first | refine bN ?_ _|refine bW ?_|refine bA ?_ _)); exact BK242.out) hb); have n2_ := Aside0.mk (below_step (by repeat (first | (with_reducible first | exact HB.out|apply wA|apply wN|apply wD |refine wS ?_ GE242.out) | exact HB.out)) hb); have n3_ := Aside0.mk (hbox); have n4_ := Aside0.mk ((by rw [hg]; exact (below_size (by repeat (first | (with_reducible first | exact HB.out|apply wA|apply wN|apply wD |refine wS ?_ GE242.out) | exact HB.out))) : w.heap.size ≤ gb248)); have n5_ := Aside0.mk ((by rw [hg]; exact (below_size (by repeat (first | (with_reducible first | exact HB.out|apply wA|apply wN|apply wD |refine wS ?_ GE242.out) | exact HB.out))) : w.heap.size ≤ gb248)); have n6_ := Aside0.mk ((by rw [hg]; exact Nat.ne_of_lt (blk_lt (g := gb242) (o := .cells #[.slice A0_0 l0_0.length c0_0, .slice (some ad247) l0_1.length c0_1] 31 (0, 0)) (by (with_reducible repeat (first | refine bN ?_ _|refine bW ?_|refine bA ?_ _)); exact BK242.out)) : gb242 ≠ gb248)); have n7_ := Aside0.mk ((by rw [hg]; exact Nat.ne_of_gt (blk_lt (g := gb242) (o := .cells #[.slice A0_0 l0_0.length c0_0, .slice (some ad247) l0_1.length c0_1] 31 (0, 0)) (by (with_reducible repeat (first | refine bN ?_ _|refine bW ?_|refine bA ?_ _)); exact BK242.out)) : gb248 ≠ gb242)); clear HO_7; clear BK242; clear HB; have HO_7 := n0_; have BK242 := n1_; have HB := n2_; have BK248 := n3_; have GW248 := n4_; have GE248 := n5_; have NB242_248 := n6_; have NB248_242 := n7_; clear n0_ n1_ n2_ n3_ n4_ n5_ n6_ n7_; clear hb hbox hg; have hnb29 := NB248_242.out; have hnc29 := NB242_248.out; have hcz30_0 : w28.cell? ⟨gb248, 0, none⟩ = some (.string (⟨#[]⟩ : ByteArray)) := (blk_cell BK248.out 0).trans rfl; have hcz30_1 : w28.cell? ⟨gb248, 1, none⟩ = some (.int .i64 0) := (blk_cell BK248.out 1).trans rfl; have hcz30_2 : w28.cell? ⟨gb248, 2, none⟩ = some (.int .i64 0) := (blk_cell BK248.out 2).trans rfl; have hcz30_3 : w28.cell? ⟨gb248, 3, none⟩ = some (.int .i64 0) := (blk_cell BK248.out 3).trans rfl; have hcz30_4 : w28.cell? ⟨gb248, 4, none⟩ = some (.int .i64 0) := (blk_cell BK248.out 4).trans rfl; have hcz30_5 : w28.cell? ⟨gb248, 5, none⟩ = some (.int .i64 0) := (blk_cell BK248.out 5).trans rfl; have hfz30_0 := blk_frozen BK248.out 0; have hfz30_1 := blk_frozen BK248.out 1; have hfz30_2 := blk_frozen BK248.out 2; have hfz30_3 := blk_frozen BK248.out 3; have hfz30_4 := blk_frozen BK248.out 4; have hfz30_5 := blk_frozen BK248.out 5))
              have n0_ : Aside0 (Kd.R (Kd.int .i64) 2 ((((((w28.setCell ⟨gb248, 0, none⟩ (.string ((rd_T60 l0_1 x24_2).f0))).setCell ⟨gb248, 1, none⟩ (.int .i64 ((rd_T60 l0_1 x24_2).f1))).setCell ⟨gb248, 2, none⟩ (.int .i64 ((rd_T60 l0_1 x24_2).f2))).setCell ⟨gb248, 3, none⟩ (.int .i64 ((rd_T60 l0_1 x24_2).f3))).setCell ⟨gb248, 4, none⟩ (.int .i64 ((rd_T60 l0_1 x24_2).f4))).setCell ⟨gb248, 5, none⟩ (.int .i64 ((rd_T60 l0_1 x24_2).f5))) w.heap.size (fun _ => True) u7 x7_2) := ⟨by (with_reducible repeat (first | apply rA|apply rN|apply rW)); exact Kd.R_mono (Kd.R_far (p := ⟨gb248, 5, none⟩) (Kd.R_far (p := ⟨gb248, 4, none⟩) (Kd.R_far (p := ⟨gb248, 3, none⟩) (Kd.R_far (p := ⟨gb248, 2, none⟩) (Kd.R_far (p := ⟨gb248, 1, none⟩) (Kd.R_far (p := ⟨gb248, 0, none⟩) (Kd.R_types HO_7.out BK248.out (by decide)) (fun _ hk => hk.2) (.string ((rd_T60 l0_1 x24_2).f0))) (fun _ hk => hk.2) (.int .i64 ((rd_T60 l0_1 x24_2).f1))) (fun _ hk => hk.2) (.int .i64 ((rd_T60 l0_1 x24_2).f2))) (fun _ hk => hk.2) (.int .i64 ((rd_T60 l0_1 x24_2).f3))) (fun _ hk => hk.2) (.int .i64 ((rd_T60 l0_1 x24_2).f4))) (fun _ hk => hk.2) (.int .i64 ((rd_T60 l0_1 x24_2).f5))) (fun _ hk => trivial)⟩
              have n1_ : Aside0 (((((((w28.setCell ⟨gb248, 0, none⟩ (.string ((rd_T60 l0_1 x24_2).f0))).setCell ⟨gb248, 1, none⟩ (.int .i64 ((rd_T60 l0_1 x24_2).f1))).setCell ⟨gb248, 2, none⟩ (.int .i64 ((rd_T60 l0_1 x24_2).f2))).setCell ⟨gb248, 3, none⟩ (.int .i64 ((rd_T60 l0_1 x24_2).f3))).setCell ⟨gb248, 4, none⟩ (.int .i64 ((rd_T60 l0_1 x24_2).f4))).setCell ⟨gb248, 5, none⟩ (.int .i64 ((rd_T60 l0_1 x24_2).f5))).heap[gb242]? = some (.cells #[.slice A0_0 l0_0.length c0_0, .slice (some ad247) l0_1.length c0_1] 31 (0, 0))) := ⟨by (with_reducible repeat (first | refine bN ?_ _|refine bW ?_|refine bA ?_ _)); refine blk_far ?_ NB242_248.out _; (with_reducible repeat (first | refine bN ?_ _|refine bW ?_|refine bA ?_ _)); refine blk_far ?_ NB242_248.out _; (with_reducible repeat (first | refine bN ?_ _|refine bW ?_|refine bA ?_ _)); refine blk_far ?_ NB242_248.out _; (with_reducible repeat (first | refine bN ?_ _|refine bW ?_|refine bA ?_ _)); refine blk_far ?_ NB242_248.out _; (with_reducible repeat (first | refine bN ?_ _|refine bW ?_|refine bA ?_ _)); refine blk_far ?_ NB242_248.out _; (with_reducible repeat (first | refine bN ?_ _|refine bW ?_|refine bA ?_ _)); refine blk_far ?_ NB242_248.out _; (with_reducible repeat (first | refine bN ?_ _|refine bW ?_|refine bA ?_ _)); exact BK242.out⟩
              have n2_ : Aside0 (((((((w28.setCell ⟨gb248, 0, none⟩ (.string ((rd_T60 l0_1 x24_2).f0))).setCell ⟨gb248, 1, none⟩ (.int .i64 ((rd_T60 l0_1 x24_2).f1))).setCell ⟨gb248, 2, none⟩ (.int .i64 ((rd_T60 l0_1 x24_2).f2))).setCell ⟨gb248, 3, none⟩ (.int .i64 ((rd_T60 l0_1 x24_2).f3))).setCell ⟨gb248, 4, none⟩ (.int .i64 ((rd_T60 l0_1 x24_2).f4))).setCell ⟨gb248, 5, none⟩ (.int .i64 ((rd_T60 l0_1 x24_2).f5))).heap[gb248]? = some (.cells #[.string ((rd_T60 l0_1 x24_2).f0), .int .i64 ((rd_T60 l0_1 x24_2).f1), .int .i64 ((rd_T60 l0_1 x24_2).f2), .int .i64 ((rd_T60 l0_1 x24_2).f3), .int .i64 ((rd_T60 l0_1 x24_2).f4), .int .i64 ((rd_T60 l0_1 x24_2).f5)] 60 (0, 0))) := ⟨by (with_reducible repeat (first | refine bN ?_ _|refine bW ?_|refine bA ?_ _)); refine blk_put (cs := #[.string ((rd_T60 l0_1 x24_2).f0), .int .i64 ((rd_T60 l0_1 x24_2).f1), .int .i64 ((rd_T60 l0_1 x24_2).f2), .int .i64 ((rd_T60 l0_1 x24_2).f3), .int .i64 ((rd_T60 l0_1 x24_2).f4), .int .i64 0]) ?_ 5 _ rfl; (with_reducible repeat (first | refine bN ?_ _|refine bW ?_|refine bA ?_ _)); refine blk_put (cs := #[.string ((rd_T60 l0_1 x24_2).f0), .int .i64 ((rd_T60 l0_1 x24_2).f1), .int .i64 ((rd_T60 l0_1 x24_2).f2), .int .i64 ((rd_T60 l0_1 x24_2).f3), .int .i64 0, .int .i64 0]) ?_ 4 _ rfl; (with_reducible repeat (first | refine bN ?_ _|refine bW ?_|refine bA ?_ _)); refine blk_put (cs := #[.string ((rd_T60 l0_1 x24_2).f0), .int .i64 ((rd_T60 l0_1 x24_2).f1), .int .i64 ((rd_T60 l0_1 x24_2).f2), .int .i64 0, .int .i64 0, .int .i64 0]) ?_ 3 _ rfl; (with_reducible repeat (first | refine bN ?_ _|refine bW ?_|refine bA ?_ _)); refine blk_put (cs := #[.string ((rd_T60 l0_1 x24_2).f0), .int .i64 ((rd_T60 l0_1 x24_2).f1), .int .i64 0, .int .i64 0, .int .i64 0, .int .i64 0]) ?_ 2 _ rfl; (with_reducible repeat (first | refine bN ?_ _|refine bW ?_|refine bA ?_ _)); refine blk_put (cs := #[.string ((rd_T60 l0_1 x24_2).f0), .int .i64 0, .int .i64 0, .int .i64 0, .int .i64 0, .int .i64 0]) ?_ 1 _ rfl; (with_reducible repeat (first | refine bN ?_ _|refine bW ?_|refine bA ?_ _)); refine blk_put (cs := #[.string (⟨#[]⟩ : ByteArray), .int .i64 0, .int .i64 0, .int .i64 0, .int .i64 0, .int .i64 0]) ?_ 0 _ rfl; (with_reducible repeat (first | refine bN ?_ _|refine bW ?_|refine bA ?_ _)); exact BK248.out⟩
              have n3_ : Aside0 (Below w.heap.size w ((((((w28.setCell ⟨gb248, 0, none⟩ (.string ((rd_T60 l0_1 x24_2).f0))).setCell ⟨gb248, 1, none⟩ (.int .i64 ((rd_T60 l0_1 x24_2).f1))).setCell ⟨gb248, 2, none⟩ (.int .i64 ((rd_T60 l0_1 x24_2).f2))).setCell ⟨gb248, 3, none⟩ (.int .i64 ((rd_T60 l0_1 x24_2).f3))).setCell ⟨gb248, 4, none⟩ (.int .i64 ((rd_T60 l0_1 x24_2).f4))).setCell ⟨gb248, 5, none⟩ (.int .i64 ((rd_T60 l0_1 x24_2).f5)))) := ⟨by repeat (first | (with_reducible first | exact HB.out|apply wA|apply wN|apply wD |refine wS ?_ GE242.out |refine wS ?_ GE248.out) | exact HB.out)⟩
              (try clear HO_7)
              (try clear BK242)
              (try clear BK248)
              (try clear HB)
              generalize ((((((w28.setCell ⟨gb248, 0, none⟩ (.string ((rd_T60 l0_1 x24_2).f0))).setCell ⟨gb248, 1, none⟩ (.int .i64 ((rd_T60 l0_1 x24_2).f1))).setCell ⟨gb248, 2, none⟩ (.int .i64 ((rd_T60 l0_1 x24_2).f2))).setCell ⟨gb248, 3, none⟩ (.int .i64 ((rd_T60 l0_1 x24_2).f3))).setCell ⟨gb248, 4, none⟩ (.int .i64 ((rd_T60 l0_1 x24_2).f4))).setCell ⟨gb248, 5, none⟩ (.int .i64 ((rd_T60 l0_1 x24_2).f5))) = w31 at n0_ n1_ n2_ n3_ ⊢
              have HO_7 := n0_
              have BK242 := n1_
              have BK248 := n2_
              have HB := n3_
              clear n0_ n1_ n2_ n3_
              have n0_ := Aside0.mk (Kd.R_drew HO_7.out)
              have n1_ := Aside0.mk (blk_drew BK242.out)
              have n2_ := Aside0.mk (blk_drew BK248.out)
              have n3_ := Aside0.mk (below_drew1 HB.out)
              clear HO_7
              clear BK242
              clear BK248
              clear HB
              have HO_7 := n0_
              have BK242 := n1_
              have BK248 := n2_
              have HB := n3_
              clear n0_ n1_ n2_ n3_
              obtain ⟨Ao33, co33, eo33⟩ := Kd.R_slice HO_7.out
              (first | subst eo33 | (injection eo33 with f1_ f2_ f3_; have f4_ := f1_.symm; have f5_ := f3_.symm; clear f1_ f2_ f3_; subst f4_; subst f5_))
              have p249 : 0 ≤ (x8_1 : Int) := of_decide_eq_true (by first | (with_reducible assumption) | assumption)
              have q249 : x8_1 < (x7_2.length : Int) := of_decide_eq_true (by first | (with_reducible assumption) | assumption)
              obtain ⟨ad249, e249, hx249_0⟩ := Kd.at_int (Kd.R_reads' HO_7.out).2.2 x8_1 p249 q249
              cases e249
              replace p249 := eq_true p249
              replace q249 := eq_true q249
              refine start_ (n := 11) (S := fun w' => w'.cell? ⟨gb248, 0, none⟩ = some (.string ((rd_T60 l0_1 x24_2).f0)) ∧ w'.cell? ⟨gb248, 1, none⟩ = some (.int .i64 ((rd_T60 l0_1 x24_2).f1)) ∧ w'.cell? ⟨gb248, 2, none⟩ = some (.int .i64 ((rd_T60 l0_1 x24_2).f2)) ∧ w'.cell? ⟨gb248, 3, none⟩ = some (.int .i64 ((rd_T60 l0_1 x24_2).f3)) ∧ w'.cell? ⟨gb248, 4, none⟩ = some (.int .i64 ((rd_T60 l0_1 x24_2).f4)) ∧ w'.cell? ⟨gb248, 5, none⟩ = some (.int .i64 ((rd_T60 l0_1 x24_2).f5)) ∧ w'.cell? (ad249.add (x8_1).toNat) = some (.int .i64 (rd x7_2 x8_1))) (ds := []) #[J,J,J,J,J,J,J,J,J,J,J] (by kernel_rfl) rfl rfl ⟨(blk_cell BK248.out 0).trans rfl, (blk_cell BK248.out 1).trans rfl, (blk_cell BK248.out 2).trans rfl, (blk_cell BK248.out 3).trans rfl, (blk_cell BK248.out 4).trans rfl, (blk_cell BK248.out 5).trans rfl, hx249_0⟩ (fun hHeld => ?_); refine with_tabW impl_Network_reached.tab8 impl_Network_reached.bits8 (fun HT_ HW_ => ?_)
              generalize w31.drew = w32 at HO_7 BK242 BK248 HB hx249_0 hHeld ⊢
              refine pure_ (i := 1) (N := some 31) (v := ?_) (a' := ?_) #[J,Y,J,J,J,J,J,J,J,J,J] rfl rfl (any_of HT_.out (by kernel_rfl)) (fun _ _ _ h => h) (Or.inl ⟨by rfl, ?_⟩) ?_ ?_; rotate_left
              ·intro w'; go_simp; with_reducible rfl
              rotate_left
              ·simp only [pU,pN,sB,sZ,sS,i64_w,i32_w]; rfl
              refine pure_ (i := 2) (N := some 32) (v := ?_) (a' := ?_) #[J,Y,Y,J,J,J,J,J,J,J,J] rfl rfl (any_of HT_.out (by kernel_rfl)) (fun _ _ _ h => h) (Or.inl ⟨by rfl, ?_⟩) ?_ ?_; rotate_left
              ·intro w'; go_simp; with_reducible rfl
              rotate_left
              ·simp only [pU,pN,sB,sZ,sS,i64_w,i32_w]; rfl
              refine pure_ (i := 3) (N := some 33) (v := ?_) (a' := ?_) #[J,Y,Y,Y,J,J,J,J,J,J,J] rfl rfl (any_of HT_.out (by kernel_rfl)) (fun _ _ _ h => h) (Or.inl ⟨by rfl, ?_⟩) ?_ ?_; rotate_left
              ·intro w'; go_simp; with_reducible rfl
              rotate_left
              ·simp only [pU,pN,sB,sZ,sS,i64_w,i32_w]; rfl
              refine take_ (i := 0) (N := some 30) (v := ?_) (a' := ?_) #[Y,Y,Y,Y,J,J,J,J,J,J,J] rfl rfl (take_ofW HT_.out HW_.out (by kernel_rfl)) (fun _ _ _ h => h) (Or.inl ⟨by rfl, ?_⟩) hHeld ?_ ?_; rotate_left
              ·rintro w' ⟨s0, s1, s2, s3, s4, s5, s6⟩; go_simp; with_reducible rfl
              rotate_left
              ·simp only [pU,pN,sB,sZ,sS,i64_w,i32_w]; rfl
              refine take_ (i := 4) (N := some 34) (v := ?_) (a' := ?_) #[Y,Y,Y,Y,Y,J,J,J,J,J,J] rfl rfl (take_ofW HT_.out HW_.out (by kernel_rfl)) (fun _ _ _ h => h) (Or.inl ⟨by rfl, ?_⟩) hHeld ?_ ?_; rotate_left
              ·rintro w' ⟨s0, s1, s2, s3, s4, s5, s6⟩; go_simp; with_reducible rfl
              rotate_left
              ·simp only [pU,pN,sB,sZ,sS,i64_w,i32_w]; rfl
              refine one_ (i := 5) (N := some 35) #[Y,Y,Y,Y,Y,Y,J,J,J,J,J] rfl rfl (one_of HT_.out (by kernel_rfl)) (by decide) (fun K hK => ?_)
              refine goes_ Try.func53 (by kernel_rfl) rfl #[.agg #[.string ((rd_T60 l0_1 x24_2).f0), .int .i64 ((rd_T60 l0_1 x24_2).f1), .int .i64 ((rd_T60 l0_1 x24_2).f2), .int .i64 ((rd_T60 l0_1 x24_2).f3), .int .i64 ((rd_T60 l0_1 x24_2).f4), .int .i64 ((rd_T60 l0_1 x24_2).f5)], .int .i64 (rd x7_2 x8_1)] (by rfl) rfl rfl (by (try simp only [List.map_toArray, List.map_cons, List.map_nil]); first | done | rfl | (simp only [List.length_drop, List.length_take]; rfl)) ?_
              with_reducible refine (impl_Pipe_other.calls ((rd_T60 l0_1 x24_2).f0) ((rd_T60 l0_1 x24_2).f1) ((rd_T60 l0_1 x24_2).f2) ((rd_T60 l0_1 x24_2).f3) ((rd_T60 l0_1 x24_2).f4) ((rd_T60 l0_1 x24_2).f5) (rd x7_2 x8_1) t250 true _ A15.out).mono ?_
              rintro e w34 ⟨rfl, hb⟩
              have HS6_ := (hb.cell (World.block_lt_of_cell? _ _ (hHeld.2.2.2.2.2.2))).trans (hHeld.2.2.2.2.2.2)
              refine ⟨_, rfl, ?_⟩
              have n0_ := Aside0.mk (Kd.R_below (by (with_reducible repeat (first | apply rA|apply rN|apply rW)); exact HO_7.out) hb)
              have n1_ := Aside0.mk (blk_below (g := gb242) (o := .cells #[.slice A0_0 l0_0.length c0_0, .slice (some ad247) l0_1.length c0_1] 31 (0, 0)) (by (with_reducible repeat (first | refine bN ?_ _|refine bW ?_|refine bA ?_ _)); exact BK242.out) hb)
              have n2_ := Aside0.mk (blk_below (g := gb248) (o := .cells #[.string ((rd_T60 l0_1 x24_2).f0), .int .i64 ((rd_T60 l0_1 x24_2).f1), .int .i64 ((rd_T60 l0_1 x24_2).f2), .int .i64 ((rd_T60 l0_1 x24_2).f3), .int .i64 ((rd_T60 l0_1 x24_2).f4), .int .i64 ((rd_T60 l0_1 x24_2).f5)] 60 (0, 0)) (by (with_reducible repeat (first | refine bN ?_ _|refine bW ?_|refine bA ?_ _)); exact BK248.out) hb)
              have n3_ := Aside0.mk (below_step (by repeat (first | (with_reducible first | exact HB.out|apply wA|apply wN|apply wD |refine wS ?_ GE242.out |refine wS ?_ GE248.out) | exact HB.out)) hb)
              clear HO_7
              clear BK242
              clear BK248
              clear HB
              have HO_7 := n0_
              have BK242 := n1_
              have BK248 := n2_
              have HB := n3_
              clear n0_ n1_ n2_ n3_
              (try clear hb)
              (try clear hb2)
              (try clear hk)
              (try clear hi)
              refine hK.out _ _ ⟨(blk_cell BK248.out 0).trans rfl, (blk_cell BK248.out 1).trans rfl, (blk_cell BK248.out 2).trans rfl, (blk_cell BK248.out 3).trans rfl, (blk_cell BK248.out 4).trans rfl, (blk_cell BK248.out 5).trans rfl, HS6_⟩ (fun hHeld => ?_)
              clear hK K
              refine norm_ (a' := ?_) ?_ ?_
              rotate_left
              ·show Act.put _ (some 35) _ = _
               simp only [pU,pN,sB,sZ,sS,i64_w,i32_w]
               rfl
              refine pure_ (i := 6) (N := some 29) (v := ?_) (a' := ?_) #[Y,Y,Y,Y,Y,Y,Y,J,J,J,J] rfl rfl (any_of HT_.out (by kernel_rfl)) (fun _ _ _ h => h) (Or.inl ⟨by rfl, ?_⟩) ?_ ?_; rotate_left
              ·intro w'; go_simp; with_reducible rfl
              rotate_left
              ·simp only [pU,pN,sB,sZ,sS,i64_w,i32_w]; rfl
              refine pure_ (i := 7) (N := some 36) (v := ?_) (a' := ?_) #[Y,Y,Y,Y,Y,Y,Y,Y,J,J,J] rfl rfl (any_of HT_.out (by kernel_rfl)) (fun _ _ _ h => h) (Or.inl ⟨by rfl, ?_⟩) ?_ ?_; rotate_left
              ·intro w'; go_simp; with_reducible rfl
              rotate_left
              ·simp only [pU,pN,sB,sZ,sS,i64_w,i32_w]; rfl
              refine pure_ (i := 8) (N := some 37) (v := ?_) (a' := ?_) #[Y,Y,Y,Y,Y,Y,Y,Y,Y,J,J] rfl rfl (any_of HT_.out (by kernel_rfl)) (fun _ _ _ h => h) (Or.inl ⟨by rfl, ?_⟩) ?_ ?_; rotate_left
              ·intro w'; go_simp; with_reducible rfl
              rotate_left
              ·simp only [pU,pN,sB,sZ,sS,i64_w,i32_w]; rfl
              refine pure_ (i := 9) (N := some 11) (v := ?_) (a' := ?_) #[Y,Y,Y,Y,Y,Y,Y,Y,Y,Y,J] rfl rfl (any_of HT_.out (by kernel_rfl)) (fun _ _ _ h => h) (Or.inl ⟨by rfl, ?_⟩) ?_ ?_; rotate_left
              ·intro w'; go_simp; with_reducible rfl
              rotate_left
              ·simp only [pU,pN,sB,sZ,sS,i64_w,i32_w]; rfl
              refine pure_ (i := 10) (N := some 12) (v := ?_) (a' := ?_) #[Y,Y,Y,Y,Y,Y,Y,Y,Y,Y,Y] rfl rfl (any_of HT_.out (by kernel_rfl)) (fun _ _ _ h => h) (Or.inl ⟨by rfl, ?_⟩) ?_ ?_; rotate_left
              ·intro w'; go_simp; with_reducible rfl
              rotate_left
              ·simp only [pU,pN,sB,sZ,sS,i64_w,i32_w]; rfl
              refine done_ (done_of HT_.out (by kernel_rfl)) ?_
              try go_wp2_with (first | (go_at_call 97; (with_reducible refine (slices_Contains_int64_int64.calls k2 _ _ l2 x24_2 false _ ?side1 ?side2 A17.out).mono ?_); (case side1 => repeat (first | exact (Kd.C_below HR2.out HB.out) | (with_reducible first|refine Kd.C_alloc ?_ _|refine Kd.C_drewN ?_ _|refine Kd.C_drew ?_))); (case side2 => exact HC2.out); rintro e w' ⟨rfl, ⟨nd, rfl⟩⟩) | (go_at_call 97; (with_reducible refine (slices_Contains_int64_int64.calls k2 _ _ x7_2 t250 true _ ?side1 ?side2 A26.out).mono ?_); (case side1 => repeat (first | exact (Kd.R_reads' HO_7.out).2.2 | (with_reducible first|refine Kd.C_alloc ?_ _|refine Kd.C_drewN ?_ _|refine Kd.C_drew ?_))); (case side2 => exact (Kd.R_reads' HO_7.out).2.1); rintro e w' ⟨rfl, ⟨nd, rfl⟩⟩))
              go_roundg k2
              case measure => have := HK1.out; have := HK2.out; omega
              case rel => exact ⟨(x7_2), (wrap64 (x24_2 + 1)), (by first | rfl | (simp; done) | (simp [*]; done)), H', ⟨by have := HK1.out; have := HK2.out; omega⟩, ⟨by (with_reducible repeat (first | apply rA|apply rN|apply rW)); exact HO_7.out⟩, ⟨by (with_reducible repeat (first | refine bN ?_ _|refine bW ?_|refine bA ?_ _)); exact BK242.out⟩, ⟨by repeat (first | (with_reducible first | exact HB.out|apply wA|apply wN|apply wD |refine wS ?_ GE242.out |refine wS ?_ GE248.out) | exact HB.out)⟩⟩
             ·replace c27 := Bool.eq_false_iff.mpr c27
              subst c27
              have H1 : (if x7_2.length < 17592186044416 then (impl_Network_reached.l1 k2 l2 (x7_2 ++ [t250]) x8_1 l0_1 (l0_1.length : Int) (wrap64 (x24_2 + 1)) l0_0 l0_1) else (none)) = some r := by rw [if_neg (show ¬ (false = true) by decide)] at H; exact H
              clear H
              have H := H1
              clear H1
              by_cases c35 : x7_2.length < 17592186044416
              ·rw [if_pos c35] at H
               have LMc35 := Aside0.mk c35
               clear c35
               obtain ⟨y254, hy254⟩ : ∃ y_ : List Int, y_ = (x7_2 ++ [t250]) := ⟨_, rfl⟩
               replace H : (impl_Network_reached.l1 k2 l2 y254 x8_1 l0_1 (l0_1.length : Int) (wrap64 (x24_2 + 1)) l0_0 l0_1) = some r := by first | (rw [hy254]; with_reducible exact H) | (have H2_ := (Option.bind_some _ _).symm.trans H; rw [hy254]; with_reducible exact H2_) | (have H2_ := (Option.bind_some _ _).symm.trans H; with_reducible exact H2_) | with_reducible exact H | (rw [hy254]; exact H) | exact H
               have Ny254 := Aside0.mk hy254
               clear hy254
               have H' := Aside0.mk H
               clear H
               have p247 : 0 ≤ (x24_2 : Int) := of_decide_eq_true (by first | (with_reducible assumption) | assumption)
               have q247 : x24_2 < (l0_1.length : Int) := of_decide_eq_true (by first | (with_reducible assumption) | assumption)
               obtain ⟨ad247, e247, hx247_0, hx247_1, hx247_2, hx247_3, hx247_4, hx247_5⟩ := at_T60 HR0_1.out x24_2 p247 q247
               cases e247
               replace hx247_0 := (HB.out.cell (World.block_lt_of_cell? w _ hx247_0)).trans hx247_0
               replace hx247_1 := (HB.out.cell (World.block_lt_of_cell? w _ hx247_1)).trans hx247_1
               replace hx247_2 := (HB.out.cell (World.block_lt_of_cell? w _ hx247_2)).trans hx247_2
               replace hx247_3 := (HB.out.cell (World.block_lt_of_cell? w _ hx247_3)).trans hx247_3
               replace hx247_4 := (HB.out.cell (World.block_lt_of_cell? w _ hx247_4)).trans hx247_4
               replace hx247_5 := (HB.out.cell (World.block_lt_of_cell? w _ hx247_5)).trans hx247_5
               replace p247 := eq_true p247
               replace q247 := eq_true q247
               try go_wp2_with (first | ((with_reducible refine gate_dst (N := 10) rfl ?_); refine box_event ?hg (N := 10) ?hd (cs := #[.string (⟨#[]⟩ : ByteArray), .int .i64 0, .int .i64 0, .int .i64 0, .int .i64 0, .int .i64 0]) (t := 60) ?hr ?_; (case hd => rfl); (case hg => rfl); (case hr => first | (go_simp; done) | (go_simp; rfl)); intro gb248 hg w36 hbox hb; have n0_ := Aside0.mk (Kd.R_below (by (with_reducible repeat (first | apply rA|apply rN|apply rW)); exact HO_7.out) hb); have n1_ := Aside0.mk (blk_below (g := gb242) (o := .cells #[.slice A0_0 l0_0.length c0_0, .slice (some ad247) l0_1.length c0_1] 31 (0, 0)) (by (with_reducible repeat (first | refine bN ?_ _|refine bW ?_|refine bA ?_ _)); exact BK242.out) hb); have n2_ := Aside0.mk (below_step (by repeat (first | (with_reducible first | exact HB.out|apply wA|apply wN|apply wD |refine wS ?_ GE242.out) | exact HB.out)) hb); have n3_ := Aside0.mk (hbox); have n4_ := Aside0.mk ((by rw [hg]; exact (below_size (by repeat (first | (with_reducible first | exact HB.out|apply wA|apply wN|apply wD |refine wS ?_ GE242.out) | exact HB.out))) : w.heap.size ≤ gb248)); have n5_ := Aside0.mk ((by rw [hg]; exact (below_size (by repeat (first | (with_reducible first | exact HB.out|apply wA|apply wN|apply wD |refine wS ?_ GE242.out) | exact HB.out))) : w.heap.size ≤ gb248)); have n6_ := Aside0.mk ((by rw [hg]; exact Nat.ne_of_lt (blk_lt (g := gb242) (o := .cells #[.slice A0_0 l0_0.length c0_0, .slice (some ad247) l0_1.length c0_1] 31 (0, 0)) (by (with_reducible repeat (first | refine bN ?_ _|refine bW ?_|refine bA ?_ _)); exact BK242.out)) : gb242 ≠ gb248)); have n7_ := Aside0.mk ((by rw [hg]; exact Nat.ne_of_gt (blk_lt (g := gb242) (o := .cells #[.slice A0_0 l0_0.length c0_0, .slice (some ad247) l0_1.length c0_1] 31 (0, 0)) (by (with_reducible repeat (first | refine bN ?_ _|refine bW ?_|refine bA ?_ _)); exact BK242.out)) : gb248 ≠ gb242)); clear HO_7; clear BK242; clear HB; have HO_7 := n0_; have BK242 := n1_; have HB := n2_; have BK248 := n3_; have GW248 := n4_; have GE248 := n5_; have NB242_248 := n6_; have NB248_242 := n7_; clear n0_ n1_ n2_ n3_ n4_ n5_ n6_ n7_; clear hb hbox hg; have hnb37 := NB248_242.out; have hnc37 := NB242_248.out; have hcz38_0 : w36.cell? ⟨gb248, 0, none⟩ = some (.string (⟨#[]⟩ : ByteArray)) := (blk_cell BK248.out 0).trans rfl; have hcz38_1 : w36.cell? ⟨gb248, 1, none⟩ = some (.int .i64 0) := (blk_cell BK248.out 1).trans rfl; have hcz38_2 : w36.cell? ⟨gb248, 2, none⟩ = some (.int .i64 0) := (blk_cell BK248.out 2).trans rfl; have hcz38_3 : w36.cell? ⟨gb248, 3, none⟩ = some (.int .i64 0) := (blk_cell BK248.out 3).trans rfl; have hcz38_4 : w36.cell? ⟨gb248, 4, none⟩ = some (.int .i64 0) := (blk_cell BK248.out 4).trans rfl; have hcz38_5 : w36.cell? ⟨gb248, 5, none⟩ = some (.int .i64 0) := (blk_cell BK248.out 5).trans rfl; have hfz38_0 := blk_frozen BK248.out 0; have hfz38_1 := blk_frozen BK248.out 1; have hfz38_2 := blk_frozen BK248.out 2; have hfz38_3 := blk_frozen BK248.out 3; have hfz38_4 := blk_frozen BK248.out 4; have hfz38_5 := blk_frozen BK248.out 5))
               have n0_ : Aside0 (Kd.R (Kd.int .i64) 2 ((((((w36.setCell ⟨gb248, 0, none⟩ (.string ((rd_T60 l0_1 x24_2).f0))).setCell ⟨gb248, 1, none⟩ (.int .i64 ((rd_T60 l0_1 x24_2).f1))).setCell ⟨gb248, 2, none⟩ (.int .i64 ((rd_T60 l0_1 x24_2).f2))).setCell ⟨gb248, 3, none⟩ (.int .i64 ((rd_T60 l0_1 x24_2).f3))).setCell ⟨gb248, 4, none⟩ (.int .i64 ((rd_T60 l0_1 x24_2).f4))).setCell ⟨gb248, 5, none⟩ (.int .i64 ((rd_T60 l0_1 x24_2).f5))) w.heap.size (fun _ => True) u7 x7_2) := ⟨by (with_reducible repeat (first | apply rA|apply rN|apply rW)); exact Kd.R_mono (Kd.R_far (p := ⟨gb248, 5, none⟩) (Kd.R_far (p := ⟨gb248, 4, none⟩) (Kd.R_far (p := ⟨gb248, 3, none⟩) (Kd.R_far (p := ⟨gb248, 2, none⟩) (Kd.R_far (p := ⟨gb248, 1, none⟩) (Kd.R_far (p := ⟨gb248, 0, none⟩) (Kd.R_types HO_7.out BK248.out (by decide)) (fun _ hk => hk.2) (.string ((rd_T60 l0_1 x24_2).f0))) (fun _ hk => hk.2) (.int .i64 ((rd_T60 l0_1 x24_2).f1))) (fun _ hk => hk.2) (.int .i64 ((rd_T60 l0_1 x24_2).f2))) (fun _ hk => hk.2) (.int .i64 ((rd_T60 l0_1 x24_2).f3))) (fun _ hk => hk.2) (.int .i64 ((rd_T60 l0_1 x24_2).f4))) (fun _ hk => hk.2) (.int .i64 ((rd_T60 l0_1 x24_2).f5))) (fun _ hk => trivial)⟩
               have n1_ : Aside0 (((((((w36.setCell ⟨gb248, 0, none⟩ (.string ((rd_T60 l0_1 x24_2).f0))).setCell ⟨gb248, 1, none⟩ (.int .i64 ((rd_T60 l0_1 x24_2).f1))).setCell ⟨gb248, 2, none⟩ (.int .i64 ((rd_T60 l0_1 x24_2).f2))).setCell ⟨gb248, 3, none⟩ (.int .i64 ((rd_T60 l0_1 x24_2).f3))).setCell ⟨gb248, 4, none⟩ (.int .i64 ((rd_T60 l0_1 x24_2).f4))).setCell ⟨gb248, 5, none⟩ (.int .i64 ((rd_T60 l0_1 x24_2).f5))).heap[gb242]? = some (.cells #[.slice A0_0 l0_0.length c0_0, .slice (some ad247) l0_1.length c0_1] 31 (0, 0))) := ⟨by (with_reducible repeat (first | refine bN ?_ _|refine bW ?_|refine bA ?_ _)); refine blk_far ?_ NB242_248.out _; (with_reducible repeat (first | refine bN ?_ _|refine bW ?_|refine bA ?_ _)); refine blk_far ?_ NB242_248.out _; (with_reducible repeat (first | refine bN ?_ _|refine bW ?_|refine bA ?_ _)); refine blk_far ?_ NB242_248.out _; (with_reducible repeat (first | refine bN ?_ _|refine bW ?_|refine bA ?_ _)); refine blk_far ?_ NB242_248.out _; (with_reducible repeat (first | refine bN ?_ _|refine bW ?_|refine bA ?_ _)); refine blk_far ?_ NB242_248.out _; (with_reducible repeat (first | refine bN ?_ _|refine bW ?_|refine bA ?_ _)); refine blk_far ?_ NB242_248.out _; (with_reducible repeat (first | refine bN ?_ _|refine bW ?_|refine bA ?_ _)); exact BK242.out⟩
               have n2_ : Aside0 (((((((w36.setCell ⟨gb248, 0, none⟩ (.string ((rd_T60 l0_1 x24_2).f0))).setCell ⟨gb248, 1, none⟩ (.int .i64 ((rd_T60 l0_1 x24_2).f1))).setCell ⟨gb248, 2, none⟩ (.int .i64 ((rd_T60 l0_1 x24_2).f2))).setCell ⟨gb248, 3, none⟩ (.int .i64 ((rd_T60 l0_1 x24_2).f3))).setCell ⟨gb248, 4, none⟩ (.int .i64 ((rd_T60 l0_1 x24_2).f4))).setCell ⟨gb248, 5, none⟩ (.int .i64 ((rd_T60 l0_1 x24_2).f5))).heap[gb248]? = some (.cells #[.string ((rd_T60 l0_1 x24_2).f0), .int .i64 ((rd_T60 l0_1 x24_2).f1), .int .i64 ((rd_T60 l0_1 x24_2).f2), .int .i64 ((rd_T60 l0_1 x24_2).f3), .int .i64 ((rd_T60 l0_1 x24_2).f4), .int .i64 ((rd_T60 l0_1 x24_2).f5)] 60 (0, 0))) := ⟨by (with_reducible repeat (first | refine bN ?_ _|refine bW ?_|refine bA ?_ _)); refine blk_put (cs := #[.string ((rd_T60 l0_1 x24_2).f0), .int .i64 ((rd_T60 l0_1 x24_2).f1), .int .i64 ((rd_T60 l0_1 x24_2).f2), .int .i64 ((rd_T60 l0_1 x24_2).f3), .int .i64 ((rd_T60 l0_1 x24_2).f4), .int .i64 0]) ?_ 5 _ rfl; (with_reducible repeat (first | refine bN ?_ _|refine bW ?_|refine bA ?_ _)); refine blk_put (cs := #[.string ((rd_T60 l0_1 x24_2).f0), .int .i64 ((rd_T60 l0_1 x24_2).f1), .int .i64 ((rd_T60 l0_1 x24_2).f2), .int .i64 ((rd_T60 l0_1 x24_2).f3), .int .i64 0, .int .i64 0]) ?_ 4 _ rfl; (with_reducible repeat (first | refine bN ?_ _|refine bW ?_|refine bA ?_ _)); refine blk_put (cs := #[.string ((rd_T60 l0_1 x24_2).f0), .int .i64 ((rd_T60 l0_1 x24_2).f1), .int .i64 ((rd_T60 l0_1 x24_2).f2), .int .i64 0, .int .i64 0, .int .i64 0]) ?_ 3 _ rfl; (with_reducible repeat (first | refine bN ?_ _|refine bW ?_|refine bA ?_ _)); refine blk_put (cs := #[.string ((rd_T60 l0_1 x24_2).f0), .int .i64 ((rd_T60 l0_1 x24_2).f1), .int .i64 0, .int .i64 0, .int .i64 0, .int .i64 0]) ?_ 2 _ rfl; (with_reducible repeat (first | refine bN ?_ _|refine bW ?_|refine bA ?_ _)); refine blk_put (cs := #[.string ((rd_T60 l0_1 x24_2).f0), .int .i64 0, .int .i64 0, .int .i64 0, .int .i64 0, .int .i64 0]) ?_ 1 _ rfl; (with_reducible repeat (first | refine bN ?_ _|refine bW ?_|refine bA ?_ _)); refine blk_put (cs := #[.string (⟨#[]⟩ : ByteArray), .int .i64 0, .int .i64 0, .int .i64 0, .int .i64 0, .int .i64 0]) ?_ 0 _ rfl; (with_reducible repeat (first | refine bN ?_ _|refine bW ?_|refine bA ?_ _)); exact BK248.out⟩
               have n3_ : Aside0 (Below w.heap.size w ((((((w36.setCell ⟨gb248, 0, none⟩ (.string ((rd_T60 l0_1 x24_2).f0))).setCell ⟨gb248, 1, none⟩ (.int .i64 ((rd_T60 l0_1 x24_2).f1))).setCell ⟨gb248, 2, none⟩ (.int .i64 ((rd_T60 l0_1 x24_2).f2))).setCell ⟨gb248, 3, none⟩ (.int .i64 ((rd_T60 l0_1 x24_2).f3))).setCell ⟨gb248, 4, none⟩ (.int .i64 ((rd_T60 l0_1 x24_2).f4))).setCell ⟨gb248, 5, none⟩ (.int .i64 ((rd_T60 l0_1 x24_2).f5)))) := ⟨by repeat (first | (with_reducible first | exact HB.out|apply wA|apply wN|apply wD |refine wS ?_ GE242.out |refine wS ?_ GE248.out) | exact HB.out)⟩
               (try clear HO_7)
               (try clear BK242)
               (try clear BK248)
               (try clear HB)
               generalize ((((((w36.setCell ⟨gb248, 0, none⟩ (.string ((rd_T60 l0_1 x24_2).f0))).setCell ⟨gb248, 1, none⟩ (.int .i64 ((rd_T60 l0_1 x24_2).f1))).setCell ⟨gb248, 2, none⟩ (.int .i64 ((rd_T60 l0_1 x24_2).f2))).setCell ⟨gb248, 3, none⟩ (.int .i64 ((rd_T60 l0_1 x24_2).f3))).setCell ⟨gb248, 4, none⟩ (.int .i64 ((rd_T60 l0_1 x24_2).f4))).setCell ⟨gb248, 5, none⟩ (.int .i64 ((rd_T60 l0_1 x24_2).f5))) = w39 at n0_ n1_ n2_ n3_ ⊢
               have HO_7 := n0_
               have BK242 := n1_
               have BK248 := n2_
               have HB := n3_
               clear n0_ n1_ n2_ n3_
               have n0_ := Aside0.mk (Kd.R_drew HO_7.out)
               have n1_ := Aside0.mk (blk_drew BK242.out)
               have n2_ := Aside0.mk (blk_drew BK248.out)
               have n3_ := Aside0.mk (below_drew1 HB.out)
               clear HO_7
               clear BK242
               clear BK248
               clear HB
               have HO_7 := n0_
               have BK242 := n1_
               have BK248 := n2_
               have HB := n3_
               clear n0_ n1_ n2_ n3_
               obtain ⟨Ao41, co41, eo41⟩ := Kd.R_slice HO_7.out
               (first | subst eo41 | (injection eo41 with f1_ f2_ f3_; have f4_ := f1_.symm; have f5_ := f3_.symm; clear f1_ f2_ f3_; subst f4_; subst f5_))
               have p249 : 0 ≤ (x8_1 : Int) := of_decide_eq_true (by first | (with_reducible assumption) | assumption)
               have q249 : x8_1 < (x7_2.length : Int) := of_decide_eq_true (by first | (with_reducible assumption) | assumption)
               obtain ⟨ad249, e249, hx249_0⟩ := Kd.at_int (Kd.R_reads' HO_7.out).2.2 x8_1 p249 q249
               cases e249
               replace p249 := eq_true p249
               replace q249 := eq_true q249
               refine start_ (n := 11) (S := fun w' => w'.cell? ⟨gb248, 0, none⟩ = some (.string ((rd_T60 l0_1 x24_2).f0)) ∧ w'.cell? ⟨gb248, 1, none⟩ = some (.int .i64 ((rd_T60 l0_1 x24_2).f1)) ∧ w'.cell? ⟨gb248, 2, none⟩ = some (.int .i64 ((rd_T60 l0_1 x24_2).f2)) ∧ w'.cell? ⟨gb248, 3, none⟩ = some (.int .i64 ((rd_T60 l0_1 x24_2).f3)) ∧ w'.cell? ⟨gb248, 4, none⟩ = some (.int .i64 ((rd_T60 l0_1 x24_2).f4)) ∧ w'.cell? ⟨gb248, 5, none⟩ = some (.int .i64 ((rd_T60 l0_1 x24_2).f5)) ∧ w'.cell? (ad249.add (x8_1).toNat) = some (.int .i64 (rd x7_2 x8_1))) (ds := []) #[J,J,J,J,J,J,J,J,J,J,J] (by kernel_rfl) rfl rfl ⟨(blk_cell BK248.out 0).trans rfl, (blk_cell BK248.out 1).trans rfl, (blk_cell BK248.out 2).trans rfl, (blk_cell BK248.out 3).trans rfl, (blk_cell BK248.out 4).trans rfl, (blk_cell BK248.out 5).trans rfl, hx249_0⟩ (fun hHeld => ?_); refine with_tabW impl_Network_reached.tab8 impl_Network_reached.bits8 (fun HT_ HW_ => ?_)
               generalize w39.drew = w40 at HO_7 BK242 BK248 HB hx249_0 hHeld ⊢
               refine pure_ (i := 1) (N := some 31) (v := ?_) (a' := ?_) #[J,Y,J,J,J,J,J,J,J,J,J] rfl rfl (any_of HT_.out (by kernel_rfl)) (fun _ _ _ h => h) (Or.inl ⟨by rfl, ?_⟩) ?_ ?_; rotate_left
               ·intro w'; go_simp; with_reducible rfl
               rotate_left
               ·simp only [pU,pN,sB,sZ,sS,i64_w,i32_w]; rfl
               refine pure_ (i := 2) (N := some 32) (v := ?_) (a' := ?_) #[J,Y,Y,J,J,J,J,J,J,J,J] rfl rfl (any_of HT_.out (by kernel_rfl)) (fun _ _ _ h => h) (Or.inl ⟨by rfl, ?_⟩) ?_ ?_; rotate_left
               ·intro w'; go_simp; with_reducible rfl
               rotate_left
               ·simp only [pU,pN,sB,sZ,sS,i64_w,i32_w]; rfl
               refine pure_ (i := 3) (N := some 33) (v := ?_) (a' := ?_) #[J,Y,Y,Y,J,J,J,J,J,J,J] rfl rfl (any_of HT_.out (by kernel_rfl)) (fun _ _ _ h => h) (Or.inl ⟨by rfl, ?_⟩) ?_ ?_; rotate_left
               ·intro w'; go_simp; with_reducible rfl
               rotate_left
               ·simp only [pU,pN,sB,sZ,sS,i64_w,i32_w]; rfl
               refine take_ (i := 0) (N := some 30) (v := ?_) (a' := ?_) #[Y,Y,Y,Y,J,J,J,J,J,J,J] rfl rfl (take_ofW HT_.out HW_.out (by kernel_rfl)) (fun _ _ _ h => h) (Or.inl ⟨by rfl, ?_⟩) hHeld ?_ ?_; rotate_left
               ·rintro w' ⟨s0, s1, s2, s3, s4, s5, s6⟩; go_simp; with_reducible rfl
               rotate_left
               ·simp only [pU,pN,sB,sZ,sS,i64_w,i32_w]; rfl
               refine take_ (i := 4) (N := some 34) (v := ?_) (a' := ?_) #[Y,Y,Y,Y,Y,J,J,J,J,J,J] rfl rfl (take_ofW HT_.out HW_.out (by kernel_rfl)) (fun _ _ _ h => h) (Or.inl ⟨by rfl, ?_⟩) hHeld ?_ ?_; rotate_left
               ·rintro w' ⟨s0, s1, s2, s3, s4, s5, s6⟩; go_simp; with_reducible rfl
               rotate_left
               ·simp only [pU,pN,sB,sZ,sS,i64_w,i32_w]; rfl
               refine one_ (i := 5) (N := some 35) #[Y,Y,Y,Y,Y,Y,J,J,J,J,J] rfl rfl (one_of HT_.out (by kernel_rfl)) (by decide) (fun K hK => ?_)
               refine goes_ Try.func53 (by kernel_rfl) rfl #[.agg #[.string ((rd_T60 l0_1 x24_2).f0), .int .i64 ((rd_T60 l0_1 x24_2).f1), .int .i64 ((rd_T60 l0_1 x24_2).f2), .int .i64 ((rd_T60 l0_1 x24_2).f3), .int .i64 ((rd_T60 l0_1 x24_2).f4), .int .i64 ((rd_T60 l0_1 x24_2).f5)], .int .i64 (rd x7_2 x8_1)] (by rfl) rfl rfl (by (try simp only [List.map_toArray, List.map_cons, List.map_nil]); first | done | rfl | (simp only [List.length_drop, List.length_take]; rfl)) ?_
               with_reducible refine (impl_Pipe_other.calls ((rd_T60 l0_1 x24_2).f0) ((rd_T60 l0_1 x24_2).f1) ((rd_T60 l0_1 x24_2).f2) ((rd_T60 l0_1 x24_2).f3) ((rd_T60 l0_1 x24_2).f4) ((rd_T60 l0_1 x24_2).f5) (rd x7_2 x8_1) t250 true _ A15.out).mono ?_
               rintro e w42 ⟨rfl, hb⟩
               have HS6_ := (hb.cell (World.block_lt_of_cell? _ _ (hHeld.2.2.2.2.2.2))).trans (hHeld.2.2.2.2.2.2)
               refine ⟨_, rfl, ?_⟩
               have n0_ := Aside0.mk (Kd.R_below (by (with_reducible repeat (first | apply rA|apply rN|apply rW)); exact HO_7.out) hb)
               have n1_ := Aside0.mk (blk_below (g := gb242) (o := .cells #[.slice A0_0 l0_0.length c0_0, .slice (some ad247) l0_1.length c0_1] 31 (0, 0)) (by (with_reducible repeat (first | refine bN ?_ _|refine bW ?_|refine bA ?_ _)); exact BK242.out) hb)
               have n2_ := Aside0.mk (blk_below (g := gb248) (o := .cells #[.string ((rd_T60 l0_1 x24_2).f0), .int .i64 ((rd_T60 l0_1 x24_2).f1), .int .i64 ((rd_T60 l0_1 x24_2).f2), .int .i64 ((rd_T60 l0_1 x24_2).f3), .int .i64 ((rd_T60 l0_1 x24_2).f4), .int .i64 ((rd_T60 l0_1 x24_2).f5)] 60 (0, 0)) (by (with_reducible repeat (first | refine bN ?_ _|refine bW ?_|refine bA ?_ _)); exact BK248.out) hb)
               have n3_ := Aside0.mk (below_step (by repeat (first | (with_reducible first | exact HB.out|apply wA|apply wN|apply wD |refine wS ?_ GE242.out |refine wS ?_ GE248.out) | exact HB.out)) hb)
               clear HO_7
               clear BK242
               clear BK248
               clear HB
               have HO_7 := n0_
               have BK242 := n1_
               have BK248 := n2_
               have HB := n3_
               clear n0_ n1_ n2_ n3_
               (try clear hb)
               (try clear hb2)
               (try clear hk)
               (try clear hi)
               refine hK.out _ _ ⟨(blk_cell BK248.out 0).trans rfl, (blk_cell BK248.out 1).trans rfl, (blk_cell BK248.out 2).trans rfl, (blk_cell BK248.out 3).trans rfl, (blk_cell BK248.out 4).trans rfl, (blk_cell BK248.out 5).trans rfl, HS6_⟩ (fun hHeld => ?_)
               clear hK K
               refine norm_ (a' := ?_) ?_ ?_
               rotate_left
               ·show Act.put _ (some 35) _ = _
                simp only [pU,pN,sB,sZ,sS,i64_w,i32_w]
                rfl
               refine pure_ (i := 6) (N := some 29) (v := ?_) (a' := ?_) #[Y,Y,Y,Y,Y,Y,Y,J,J,J,J] rfl rfl (any_of HT_.out (by kernel_rfl)) (fun _ _ _ h => h) (Or.inl ⟨by rfl, ?_⟩) ?_ ?_; rotate_left
               ·intro w'; go_simp; with_reducible rfl
               rotate_left
               ·simp only [pU,pN,sB,sZ,sS,i64_w,i32_w]; rfl
               refine pure_ (i := 7) (N := some 36) (v := ?_) (a' := ?_) #[Y,Y,Y,Y,Y,Y,Y,Y,J,J,J] rfl rfl (any_of HT_.out (by kernel_rfl)) (fun _ _ _ h => h) (Or.inl ⟨by rfl, ?_⟩) ?_ ?_; rotate_left
               ·intro w'; go_simp; with_reducible rfl
               rotate_left
               ·simp only [pU,pN,sB,sZ,sS,i64_w,i32_w]; rfl
               refine pure_ (i := 8) (N := some 37) (v := ?_) (a' := ?_) #[Y,Y,Y,Y,Y,Y,Y,Y,Y,J,J] rfl rfl (any_of HT_.out (by kernel_rfl)) (fun _ _ _ h => h) (Or.inl ⟨by rfl, ?_⟩) ?_ ?_; rotate_left
               ·intro w'; go_simp; with_reducible rfl
               rotate_left
               ·simp only [pU,pN,sB,sZ,sS,i64_w,i32_w]; rfl
               refine pure_ (i := 9) (N := some 11) (v := ?_) (a' := ?_) #[Y,Y,Y,Y,Y,Y,Y,Y,Y,Y,J] rfl rfl (any_of HT_.out (by kernel_rfl)) (fun _ _ _ h => h) (Or.inl ⟨by rfl, ?_⟩) ?_ ?_; rotate_left
               ·intro w'; go_simp; with_reducible rfl
               rotate_left
               ·simp only [pU,pN,sB,sZ,sS,i64_w,i32_w]; rfl
               refine pure_ (i := 10) (N := some 12) (v := ?_) (a' := ?_) #[Y,Y,Y,Y,Y,Y,Y,Y,Y,Y,Y] rfl rfl (any_of HT_.out (by kernel_rfl)) (fun _ _ _ h => h) (Or.inl ⟨by rfl, ?_⟩) ?_ ?_; rotate_left
               ·intro w'; go_simp; with_reducible rfl
               rotate_left
               ·simp only [pU,pN,sB,sZ,sS,i64_w,i32_w]; rfl
               refine done_ (done_of HT_.out (by kernel_rfl)) ?_
               try go_wp2_with (first | (go_at_call 97; (with_reducible refine (slices_Contains_int64_int64.calls k2 _ _ l2 x24_2 false _ ?side1 ?side2 A17.out).mono ?_); (case side1 => repeat (first | exact (Kd.C_below HR2.out HB.out) | (with_reducible first|refine Kd.C_alloc ?_ _|refine Kd.C_drewN ?_ _|refine Kd.C_drew ?_))); (case side2 => exact HC2.out); rintro e w' ⟨rfl, ⟨nd, rfl⟩⟩) | (go_at_call 97; (with_reducible refine (slices_Contains_int64_int64.calls k2 _ _ x7_2 t250 false _ ?side1 ?side2 A26.out).mono ?_); (case side1 => repeat (first | exact (Kd.R_reads' HO_7.out).2.2 | (with_reducible first|refine Kd.C_alloc ?_ _|refine Kd.C_drewN ?_ _|refine Kd.C_drew ?_))); (case side2 => exact (Kd.R_reads' HO_7.out).2.1); rintro e w' ⟨rfl, ⟨nd, rfl⟩⟩) | ((with_reducible refine gate_builtin (b := .append) (xs := #[.tmp 51, .tmp 53]) rfl ?_); at_builtin; refine Kd.R_append (Kd.int .i64) (w0 := w) w.heap.size rfl (.tmp 51) (.tmp 53) 22 2 (.int .i64 0) 8 rfl Try.underlying22 info2 rfl (by decide) (by omega) (.slice (some ad249) x7_2.length co41) x7_2 t250 [.int .i64 t250] (fun _ => True) (fun _ => False) rfl rfl ?aP (fun _ hk => hk.elim) ?aF ?aO ?aB ?aS ?aL ?_; (case aP => exact rfl); (case aB => exact (by repeat (first | (with_reducible first | exact HB.out|apply wA|apply wN|apply wD |refine wS ?_ GE242.out |refine wS ?_ GE248.out) | exact HB.out))); (case aF => exact (fun _ _ => trivial)); (case aO => exact (by (with_reducible repeat (first | apply rA|apply rN|apply rW)); exact HO_7.out)); (case aS => exact (below_size (by repeat (first | (with_reducible first | exact HB.out|apply wA|apply wN|apply wD |refine wS ?_ GE242.out |refine wS ?_ GE248.out) | exact HB.out)))); (case aL => have := LMc35.out; omega); intro v255 w43 ho hb hg hat; rw [← Ny254.out] at ho; have n0_ := Aside0.mk (blk_grown (g := gb242) (o := .cells #[.slice A0_0 l0_0.length c0_0, .slice (some ad247) l0_1.length c0_1] 31 (0, 0)) (by (with_reducible repeat (first | refine bN ?_ _|refine bW ?_|refine bA ?_ _)); exact BK242.out) hg (Kd.R_ne HO_7.out BK242.out (by decide))); have n1_ := Aside0.mk (blk_grown (g := gb248) (o := .cells #[.string ((rd_T60 l0_1 x24_2).f0), .int .i64 ((rd_T60 l0_1 x24_2).f1), .int .i64 ((rd_T60 l0_1 x24_2).f2), .int .i64 ((rd_T60 l0_1 x24_2).f3), .int .i64 ((rd_T60 l0_1 x24_2).f4), .int .i64 ((rd_T60 l0_1 x24_2).f5)] 60 (0, 0)) (by (with_reducible repeat (first | refine bN ?_ _|refine bW ?_|refine bA ?_ _)); exact BK248.out) hg (Kd.R_ne HO_7.out BK248.out (by decide))); have n2_ := Aside0.mk (hb); have n3_ := Aside0.mk (ho); clear BK242; clear BK248; clear HB; clear HO_7; have BK242 := n0_; have BK248 := n1_; have HB := n2_; have HO256 := n3_; clear n0_ n1_ n2_ n3_; clear ho hb hg hat))
               go_roundg k2
               case measure => have := HK1.out; have := HK2.out; omega
               case rel => exact ⟨(y254), (wrap64 (x24_2 + 1)), (by first | rfl | (simp; done) | (simp [*]; done)), H', ⟨by have := HK1.out; have := HK2.out; omega⟩, ⟨by (with_reducible repeat (first | apply rA|apply rN|apply rW)); exact HO256.out⟩, ⟨by (with_reducible repeat (first | refine bN ?_ _|refine bW ?_|refine bA ?_ _)); exact BK242.out⟩, ⟨by repeat (first | (with_reducible first | exact HB.out|apply wA|apply wN|apply wD |refine wS ?_ GE242.out |refine wS ?_ GE248.out) | exact HB.out)⟩⟩
              ·rw [if_neg c35] at H
               exact absurd H (by simp)
           ·replace c16 := Bool.eq_false_iff.mpr c16
            subst c16
            have H1 : (impl_Network_reached.l1 k2 l2 x7_2 x8_1 l0_1 (l0_1.length : Int) (wrap64 (x24_2 + 1)) l0_0 l0_1) = some r := by rw [if_neg (show ¬ (false = true) by decide)] at H; exact H
            clear H
            have H := H1
            clear H1
            have H' := Aside0.mk H
            clear H
            have p247 : 0 ≤ (x24_2 : Int) := of_decide_eq_true (by first | (with_reducible assumption) | assumption)
            have q247 : x24_2 < (l0_1.length : Int) := of_decide_eq_true (by first | (with_reducible assumption) | assumption)
            obtain ⟨ad247, e247, hx247_0, hx247_1, hx247_2, hx247_3, hx247_4, hx247_5⟩ := at_T60 HR0_1.out x24_2 p247 q247
            cases e247
            replace hx247_0 := (HB.out.cell (World.block_lt_of_cell? w _ hx247_0)).trans hx247_0
            replace hx247_1 := (HB.out.cell (World.block_lt_of_cell? w _ hx247_1)).trans hx247_1
            replace hx247_2 := (HB.out.cell (World.block_lt_of_cell? w _ hx247_2)).trans hx247_2
            replace hx247_3 := (HB.out.cell (World.block_lt_of_cell? w _ hx247_3)).trans hx247_3
            replace hx247_4 := (HB.out.cell (World.block_lt_of_cell? w _ hx247_4)).trans hx247_4
            replace hx247_5 := (HB.out.cell (World.block_lt_of_cell? w _ hx247_5)).trans hx247_5
            replace p247 := eq_true p247
            replace q247 := eq_true q247
            try go_wp2_with (first | ((with_reducible refine gate_dst (N := 10) rfl ?_); refine box_event ?hg (N := 10) ?hd (cs := #[.string (⟨#[]⟩ : ByteArray), .int .i64 0, .int .i64 0, .int .i64 0, .int .i64 0, .int .i64 0]) (t := 60) ?hr ?_; (case hd => rfl); (case hg => rfl); (case hr => first | (go_simp; done) | (go_simp; rfl)); intro gb248 hg w44 hbox hb; have n0_ := Aside0.mk (Kd.R_below (by (with_reducible repeat (first | apply rA|apply rN|apply rW)); exact HO_7.out) hb); have n1_ := Aside0.mk (blk_below (g := gb242) (o := .cells #[.slice A0_0 l0_0.length c0_0, .slice (some ad247) l0_1.length c0_1] 31 (0, 0)) (by (with_reducible repeat (first | refine bN ?_ _|refine bW ?_|refine bA ?_ _)); exact BK242.out) hb); have n2_ := Aside0.mk (below_step (by repeat (first | (with_reducible first | exact HB.out|apply wA|apply wN|apply wD |refine wS ?_ GE242.out) | exact HB.out)) hb); have n3_ := Aside0.mk (hbox); have n4_ := Aside0.mk ((by rw [hg]; exact (below_size (by repeat (first | (with_reducible first | exact HB.out|apply wA|apply wN|apply wD |refine wS ?_ GE242.out) | exact HB.out))) : w.heap.size ≤ gb248)); have n5_ := Aside0.mk ((by rw [hg]; exact (below_size (by repeat (first | (with_reducible first | exact HB.out|apply wA|apply wN|apply wD |refine wS ?_ GE242.out) | exact HB.out))) : w.heap.size ≤ gb248)); have n6_ := Aside0.mk ((by rw [hg]; exact Nat.ne_of_lt (blk_lt (g := gb242) (o := .cells #[.slice A0_0 l0_0.length c0_0, .slice (some ad247) l0_1.length c0_1] 31 (0, 0)) (by (with_reducible repeat (first | refine bN ?_ _|refine bW ?_|refine bA ?_ _)); exact BK242.out)) : gb242 ≠ gb248)); have n7_ := Aside0.mk ((by rw [hg]; exact Nat.ne_of_gt (blk_lt (g := gb242) (o := .cells #[.slice A0_0 l0_0.length c0_0, .slice (some ad247) l0_1.length c0_1] 31 (0, 0)) (by (with_reducible repeat (first | refine bN ?_ _|refine bW ?_|refine bA ?_ _)); exact BK242.out)) : gb248 ≠ gb242)); clear HO_7; clear BK242; clear HB; have HO_7 := n0_; have BK242 := n1_; have HB := n2_; have BK248 := n3_; have GW248 := n4_; have GE248 := n5_; have NB242_248 := n6_; have NB248_242 := n7_; clear n0_ n1_ n2_ n3_ n4_ n5_ n6_ n7_; clear hb hbox hg; have hnb45 := NB248_242.out; have hnc45 := NB242_248.out; have hcz46_0 : w44.cell? ⟨gb248, 0, none⟩ = some (.string (⟨#[]⟩ : ByteArray)) := (blk_cell BK248.out 0).trans rfl; have hcz46_1 : w44.cell? ⟨gb248, 1, none⟩ = some (.int .i64 0) := (blk_cell BK248.out 1).trans rfl; have hcz46_2 : w44.cell? ⟨gb248, 2, none⟩ = some (.int .i64 0) := (blk_cell BK248.out 2).trans rfl; have hcz46_3 : w44.cell? ⟨gb248, 3, none⟩ = some (.int .i64 0) := (blk_cell BK248.out 3).trans rfl; have hcz46_4 : w44.cell? ⟨gb248, 4, none⟩ = some (.int .i64 0) := (blk_cell BK248.out 4).trans rfl; have hcz46_5 : w44.cell? ⟨gb248, 5, none⟩ = some (.int .i64 0) := (blk_cell BK248.out 5).trans rfl; have hfz46_0 := blk_frozen BK248.out 0; have hfz46_1 := blk_frozen BK248.out 1; have hfz46_2 := blk_frozen BK248.out 2; have hfz46_3 := blk_frozen BK248.out 3; have hfz46_4 := blk_frozen BK248.out 4; have hfz46_5 := blk_frozen BK248.out 5))
            have n0_ : Aside0 (Kd.R (Kd.int .i64) 2 ((((((w44.setCell ⟨gb248, 0, none⟩ (.string ((rd_T60 l0_1 x24_2).f0))).setCell ⟨gb248, 1, none⟩ (.int .i64 ((rd_T60 l0_1 x24_2).f1))).setCell ⟨gb248, 2, none⟩ (.int .i64 ((rd_T60 l0_1 x24_2).f2))).setCell ⟨gb248, 3, none⟩ (.int .i64 ((rd_T60 l0_1 x24_2).f3))).setCell ⟨gb248, 4, none⟩ (.int .i64 ((rd_T60 l0_1 x24_2).f4))).setCell ⟨gb248, 5, none⟩ (.int .i64 ((rd_T60 l0_1 x24_2).f5))) w.heap.size (fun _ => True) u7 x7_2) := ⟨by (with_reducible repeat (first | apply rA|apply rN|apply rW)); exact Kd.R_mono (Kd.R_far (p := ⟨gb248, 5, none⟩) (Kd.R_far (p := ⟨gb248, 4, none⟩) (Kd.R_far (p := ⟨gb248, 3, none⟩) (Kd.R_far (p := ⟨gb248, 2, none⟩) (Kd.R_far (p := ⟨gb248, 1, none⟩) (Kd.R_far (p := ⟨gb248, 0, none⟩) (Kd.R_types HO_7.out BK248.out (by decide)) (fun _ hk => hk.2) (.string ((rd_T60 l0_1 x24_2).f0))) (fun _ hk => hk.2) (.int .i64 ((rd_T60 l0_1 x24_2).f1))) (fun _ hk => hk.2) (.int .i64 ((rd_T60 l0_1 x24_2).f2))) (fun _ hk => hk.2) (.int .i64 ((rd_T60 l0_1 x24_2).f3))) (fun _ hk => hk.2) (.int .i64 ((rd_T60 l0_1 x24_2).f4))) (fun _ hk => hk.2) (.int .i64 ((rd_T60 l0_1 x24_2).f5))) (fun _ hk => trivial)⟩
            have n1_ : Aside0 (((((((w44.setCell ⟨gb248, 0, none⟩ (.string ((rd_T60 l0_1 x24_2).f0))).setCell ⟨gb248, 1, none⟩ (.int .i64 ((rd_T60 l0_1 x24_2).f1))).setCell ⟨gb248, 2, none⟩ (.int .i64 ((rd_T60 l0_1 x24_2).f2))).setCell ⟨gb248, 3, none⟩ (.int .i64 ((rd_T60 l0_1 x24_2).f3))).setCell ⟨gb248, 4, none⟩ (.int .i64 ((rd_T60 l0_1 x24_2).f4))).setCell ⟨gb248, 5, none⟩ (.int .i64 ((rd_T60 l0_1 x24_2).f5))).heap[gb242]? = some (.cells #[.slice A0_0 l0_0.length c0_0, .slice (some ad247) l0_1.length c0_1] 31 (0, 0))) := ⟨by (with_reducible repeat (first | refine bN ?_ _|refine bW ?_|refine bA ?_ _)); refine blk_far ?_ NB242_248.out _; (with_reducible repeat (first | refine bN ?_ _|refine bW ?_|refine bA ?_ _)); refine blk_far ?_ NB242_248.out _; (with_reducible repeat (first | refine bN ?_ _|refine bW ?_|refine bA ?_ _)); refine blk_far ?_ NB242_248.out _; (with_reducible repeat (first | refine bN ?_ _|refine bW ?_|refine bA ?_ _)); refine blk_far ?_ NB242_248.out _; (with_reducible repeat (first | refine bN ?_ _|refine bW ?_|refine bA ?_ _)); refine blk_far ?_ NB242_248.out _; (with_reducible repeat (first | refine bN ?_ _|refine bW ?_|refine bA ?_ _)); refine blk_far ?_ NB242_248.out _; (with_reducible repeat (first | refine bN ?_ _|refine bW ?_|refine bA ?_ _)); exact BK242.out⟩
            have n2_ : Aside0 (((((((w44.setCell ⟨gb248, 0, none⟩ (.string ((rd_T60 l0_1 x24_2).f0))).setCell ⟨gb248, 1, none⟩ (.int .i64 ((rd_T60 l0_1 x24_2).f1))).setCell ⟨gb248, 2, none⟩ (.int .i64 ((rd_T60 l0_1 x24_2).f2))).setCell ⟨gb248, 3, none⟩ (.int .i64 ((rd_T60 l0_1 x24_2).f3))).setCell ⟨gb248, 4, none⟩ (.int .i64 ((rd_T60 l0_1 x24_2).f4))).setCell ⟨gb248, 5, none⟩ (.int .i64 ((rd_T60 l0_1 x24_2).f5))).heap[gb248]? = some (.cells #[.string ((rd_T60 l0_1 x24_2).f0), .int .i64 ((rd_T60 l0_1 x24_2).f1), .int .i64 ((rd_T60 l0_1 x24_2).f2), .int .i64 ((rd_T60 l0_1 x24_2).f3), .int .i64 ((rd_T60 l0_1 x24_2).f4), .int .i64 ((rd_T60 l0_1 x24_2).f5)] 60 (0, 0))) := ⟨by (with_reducible repeat (first | refine bN ?_ _|refine bW ?_|refine bA ?_ _)); refine blk_put (cs := #[.string ((rd_T60 l0_1 x24_2).f0), .int .i64 ((rd_T60 l0_1 x24_2).f1), .int .i64 ((rd_T60 l0_1 x24_2).f2), .int .i64 ((rd_T60 l0_1 x24_2).f3), .int .i64 ((rd_T60 l0_1 x24_2).f4), .int .i64 0]) ?_ 5 _ rfl; (with_reducible repeat (first | refine bN ?_ _|refine bW ?_|refine bA ?_ _)); refine blk_put (cs := #[.string ((rd_T60 l0_1 x24_2).f0), .int .i64 ((rd_T60 l0_1 x24_2).f1), .int .i64 ((rd_T60 l0_1 x24_2).f2), .int .i64 ((rd_T60 l0_1 x24_2).f3), .int .i64 0, .int .i64 0]) ?_ 4 _ rfl; (with_reducible repeat (first | refine bN ?_ _|refine bW ?_|refine bA ?_ _)); refine blk_put (cs := #[.string ((rd_T60 l0_1 x24_2).f0), .int .i64 ((rd_T60 l0_1 x24_2).f1), .int .i64 ((rd_T60 l0_1 x24_2).f2), .int .i64 0, .int .i64 0, .int .i64 0]) ?_ 3 _ rfl; (with_reducible repeat (first | refine bN ?_ _|refine bW ?_|refine bA ?_ _)); refine blk_put (cs := #[.string ((rd_T60 l0_1 x24_2).f0), .int .i64 ((rd_T60 l0_1 x24_2).f1), .int .i64 0, .int .i64 0, .int .i64 0, .int .i64 0]) ?_ 2 _ rfl; (with_reducible repeat (first | refine bN ?_ _|refine bW ?_|refine bA ?_ _)); refine blk_put (cs := #[.string ((rd_T60 l0_1 x24_2).f0), .int .i64 0, .int .i64 0, .int .i64 0, .int .i64 0, .int .i64 0]) ?_ 1 _ rfl; (with_reducible repeat (first | refine bN ?_ _|refine bW ?_|refine bA ?_ _)); refine blk_put (cs := #[.string (⟨#[]⟩ : ByteArray), .int .i64 0, .int .i64 0, .int .i64 0, .int .i64 0, .int .i64 0]) ?_ 0 _ rfl; (with_reducible repeat (first | refine bN ?_ _|refine bW ?_|refine bA ?_ _)); exact BK248.out⟩
            have n3_ : Aside0 (Below w.heap.size w ((((((w44.setCell ⟨gb248, 0, none⟩ (.string ((rd_T60 l0_1 x24_2).f0))).setCell ⟨gb248, 1, none⟩ (.int .i64 ((rd_T60 l0_1 x24_2).f1))).setCell ⟨gb248, 2, none⟩ (.int .i64 ((rd_T60 l0_1 x24_2).f2))).setCell ⟨gb248, 3, none⟩ (.int .i64 ((rd_T60 l0_1 x24_2).f3))).setCell ⟨gb248, 4, none⟩ (.int .i64 ((rd_T60 l0_1 x24_2).f4))).setCell ⟨gb248, 5, none⟩ (.int .i64 ((rd_T60 l0_1 x24_2).f5)))) := ⟨by repeat (first | (with_reducible first | exact HB.out|apply wA|apply wN|apply wD |refine wS ?_ GE242.out |refine wS ?_ GE248.out) | exact HB.out)⟩
            (try clear HO_7)
            (try clear BK242)
            (try clear BK248)
            (try clear HB)
            generalize ((((((w44.setCell ⟨gb248, 0, none⟩ (.string ((rd_T60 l0_1 x24_2).f0))).setCell ⟨gb248, 1, none⟩ (.int .i64 ((rd_T60 l0_1 x24_2).f1))).setCell ⟨gb248, 2, none⟩ (.int .i64 ((rd_T60 l0_1 x24_2).f2))).setCell ⟨gb248, 3, none⟩ (.int .i64 ((rd_T60 l0_1 x24_2).f3))).setCell ⟨gb248, 4, none⟩ (.int .i64 ((rd_T60 l0_1 x24_2).f4))).setCell ⟨gb248, 5, none⟩ (.int .i64 ((rd_T60 l0_1 x24_2).f5))) = w47 at n0_ n1_ n2_ n3_ ⊢
            have HO_7 := n0_
            have BK242 := n1_
            have BK248 := n2_
            have HB := n3_
            clear n0_ n1_ n2_ n3_
            have n0_ := Aside0.mk (Kd.R_drew HO_7.out)
            have n1_ := Aside0.mk (blk_drew BK242.out)
            have n2_ := Aside0.mk (blk_drew BK248.out)
            have n3_ := Aside0.mk (below_drew1 HB.out)
            clear HO_7
            clear BK242
            clear BK248
            clear HB
            have HO_7 := n0_
            have BK242 := n1_
            have BK248 := n2_
            have HB := n3_
            clear n0_ n1_ n2_ n3_
            obtain ⟨Ao49, co49, eo49⟩ := Kd.R_slice HO_7.out
            (first | subst eo49 | (injection eo49 with f1_ f2_ f3_; have f4_ := f1_.symm; have f5_ := f3_.symm; clear f1_ f2_ f3_; subst f4_; subst f5_))
            have p249 : 0 ≤ (x8_1 : Int) := of_decide_eq_true (by first | (with_reducible assumption) | assumption)
            have q249 : x8_1 < (x7_2.length : Int) := of_decide_eq_true (by first | (with_reducible assumption) | assumption)
            obtain ⟨ad249, e249, hx249_0⟩ := Kd.at_int (Kd.R_reads' HO_7.out).2.2 x8_1 p249 q249
            cases e249
            replace p249 := eq_true p249
            replace q249 := eq_true q249
            refine start_ (n := 11) (S := fun w' => w'.cell? ⟨gb248, 0, none⟩ = some (.string ((rd_T60 l0_1 x24_2).f0)) ∧ w'.cell? ⟨gb248, 1, none⟩ = some (.int .i64 ((rd_T60 l0_1 x24_2).f1)) ∧ w'.cell? ⟨gb248, 2, none⟩ = some (.int .i64 ((rd_T60 l0_1 x24_2).f2)) ∧ w'.cell? ⟨gb248, 3, none⟩ = some (.int .i64 ((rd_T60 l0_1 x24_2).f3)) ∧ w'.cell? ⟨gb248, 4, none⟩ = some (.int .i64 ((rd_T60 l0_1 x24_2).f4)) ∧ w'.cell? ⟨gb248, 5, none⟩ = some (.int .i64 ((rd_T60 l0_1 x24_2).f5)) ∧ w'.cell? (ad249.add (x8_1).toNat) = some (.int .i64 (rd x7_2 x8_1))) (ds := []) #[J,J,J,J,J,J,J,J,J,J,J] (by kernel_rfl) rfl rfl ⟨(blk_cell BK248.out 0).trans rfl, (blk_cell BK248.out 1).trans rfl, (blk_cell BK248.out 2).trans rfl, (blk_cell BK248.out 3).trans rfl, (blk_cell BK248.out 4).trans rfl, (blk_cell BK248.out 5).trans rfl, hx249_0⟩ (fun hHeld => ?_); refine with_tabW impl_Network_reached.tab8 impl_Network_reached.bits8 (fun HT_ HW_ => ?_)
            generalize w47.drew = w48 at HO_7 BK242 BK248 HB hx249_0 hHeld ⊢
            refine pure_ (i := 1) (N := some 31) (v := ?_) (a' := ?_) #[J,Y,J,J,J,J,J,J,J,J,J] rfl rfl (any_of HT_.out (by kernel_rfl)) (fun _ _ _ h => h) (Or.inl ⟨by rfl, ?_⟩) ?_ ?_; rotate_left
            ·intro w'; go_simp; with_reducible rfl
            rotate_left
            ·simp only [pU,pN,sB,sZ,sS,i64_w,i32_w]; rfl
            refine pure_ (i := 2) (N := some 32) (v := ?_) (a' := ?_) #[J,Y,Y,J,J,J,J,J,J,J,J] rfl rfl (any_of HT_.out (by kernel_rfl)) (fun _ _ _ h => h) (Or.inl ⟨by rfl, ?_⟩) ?_ ?_; rotate_left
            ·intro w'; go_simp; with_reducible rfl
            rotate_left
            ·simp only [pU,pN,sB,sZ,sS,i64_w,i32_w]; rfl
            refine pure_ (i := 3) (N := some 33) (v := ?_) (a' := ?_) #[J,Y,Y,Y,J,J,J,J,J,J,J] rfl rfl (any_of HT_.out (by kernel_rfl)) (fun _ _ _ h => h) (Or.inl ⟨by rfl, ?_⟩) ?_ ?_; rotate_left
            ·intro w'; go_simp; with_reducible rfl
            rotate_left
            ·simp only [pU,pN,sB,sZ,sS,i64_w,i32_w]; rfl
            refine take_ (i := 0) (N := some 30) (v := ?_) (a' := ?_) #[Y,Y,Y,Y,J,J,J,J,J,J,J] rfl rfl (take_ofW HT_.out HW_.out (by kernel_rfl)) (fun _ _ _ h => h) (Or.inl ⟨by rfl, ?_⟩) hHeld ?_ ?_; rotate_left
            ·rintro w' ⟨s0, s1, s2, s3, s4, s5, s6⟩; go_simp; with_reducible rfl
            rotate_left
            ·simp only [pU,pN,sB,sZ,sS,i64_w,i32_w]; rfl
            refine take_ (i := 4) (N := some 34) (v := ?_) (a' := ?_) #[Y,Y,Y,Y,Y,J,J,J,J,J,J] rfl rfl (take_ofW HT_.out HW_.out (by kernel_rfl)) (fun _ _ _ h => h) (Or.inl ⟨by rfl, ?_⟩) hHeld ?_ ?_; rotate_left
            ·rintro w' ⟨s0, s1, s2, s3, s4, s5, s6⟩; go_simp; with_reducible rfl
            rotate_left
            ·simp only [pU,pN,sB,sZ,sS,i64_w,i32_w]; rfl
            refine one_ (i := 5) (N := some 35) #[Y,Y,Y,Y,Y,Y,J,J,J,J,J] rfl rfl (one_of HT_.out (by kernel_rfl)) (by decide) (fun K hK => ?_)
            refine goes_ Try.func53 (by kernel_rfl) rfl #[.agg #[.string ((rd_T60 l0_1 x24_2).f0), .int .i64 ((rd_T60 l0_1 x24_2).f1), .int .i64 ((rd_T60 l0_1 x24_2).f2), .int .i64 ((rd_T60 l0_1 x24_2).f3), .int .i64 ((rd_T60 l0_1 x24_2).f4), .int .i64 ((rd_T60 l0_1 x24_2).f5)], .int .i64 (rd x7_2 x8_1)] (by rfl) rfl rfl (by (try simp only [List.map_toArray, List.map_cons, List.map_nil]); first | done | rfl | (simp only [List.length_drop, List.length_take]; rfl)) ?_
            with_reducible refine (impl_Pipe_other.calls ((rd_T60 l0_1 x24_2).f0) ((rd_T60 l0_1 x24_2).f1) ((rd_T60 l0_1 x24_2).f2) ((rd_T60 l0_1 x24_2).f3) ((rd_T60 l0_1 x24_2).f4) ((rd_T60 l0_1 x24_2).f5) (rd x7_2 x8_1) t250 false _ A15.out).mono ?_
            rintro e w50 ⟨rfl, hb⟩
            have HS6_ := (hb.cell (World.block_lt_of_cell? _ _ (hHeld.2.2.2.2.2.2))).trans (hHeld.2.2.2.2.2.2)
            refine ⟨_, rfl, ?_⟩
            have n0_ := Aside0.mk (Kd.R_below (by (with_reducible repeat (first | apply rA|apply rN|apply rW)); exact HO_7.out) hb)
            have n1_ := Aside0.mk (blk_below (g := gb242) (o := .cells #[.slice A0_0 l0_0.length c0_0, .slice (some ad247) l0_1.length c0_1] 31 (0, 0)) (by (with_reducible repeat (first | refine bN ?_ _|refine bW ?_|refine bA ?_ _)); exact BK242.out) hb)
            have n2_ := Aside0.mk (blk_below (g := gb248) (o := .cells #[.string ((rd_T60 l0_1 x24_2).f0), .int .i64 ((rd_T60 l0_1 x24_2).f1), .int .i64 ((rd_T60 l0_1 x24_2).f2), .int .i64 ((rd_T60 l0_1 x24_2).f3), .int .i64 ((rd_T60 l0_1 x24_2).f4), .int .i64 ((rd_T60 l0_1 x24_2).f5)] 60 (0, 0)) (by (with_reducible repeat (first | refine bN ?_ _|refine bW ?_|refine bA ?_ _)); exact BK248.out) hb)
            have n3_ := Aside0.mk (below_step (by repeat (first | (with_reducible first | exact HB.out|apply wA|apply wN|apply wD |refine wS ?_ GE242.out |refine wS ?_ GE248.out) | exact HB.out)) hb)
            clear HO_7
            clear BK242
            clear BK248
            clear HB
            have HO_7 := n0_
            have BK242 := n1_
            have BK248 := n2_
            have HB := n3_
            clear n0_ n1_ n2_ n3_
            (try clear hb)
            (try clear hb2)
            (try clear hk)
            (try clear hi)
            refine hK.out _ _ ⟨(blk_cell BK248.out 0).trans rfl, (blk_cell BK248.out 1).trans rfl, (blk_cell BK248.out 2).trans rfl, (blk_cell BK248.out 3).trans rfl, (blk_cell BK248.out 4).trans rfl, (blk_cell BK248.out 5).trans rfl, HS6_⟩ (fun hHeld => ?_)
            clear hK K
            refine norm_ (a' := ?_) ?_ ?_
            rotate_left
            ·show Act.put _ (some 35) _ = _
             simp only [pU,pN,sB,sZ,sS,i64_w,i32_w]
             rfl
            refine pure_ (i := 6) (N := some 29) (v := ?_) (a' := ?_) #[Y,Y,Y,Y,Y,Y,Y,J,J,J,J] rfl rfl (any_of HT_.out (by kernel_rfl)) (fun _ _ _ h => h) (Or.inl ⟨by rfl, ?_⟩) ?_ ?_; rotate_left
            ·intro w'; go_simp; with_reducible rfl
            rotate_left
            ·simp only [pU,pN,sB,sZ,sS,i64_w,i32_w]; rfl
            refine pure_ (i := 7) (N := some 36) (v := ?_) (a' := ?_) #[Y,Y,Y,Y,Y,Y,Y,Y,J,J,J] rfl rfl (any_of HT_.out (by kernel_rfl)) (fun _ _ _ h => h) (Or.inl ⟨by rfl, ?_⟩) ?_ ?_; rotate_left
            ·intro w'; go_simp; with_reducible rfl
            rotate_left
            ·simp only [pU,pN,sB,sZ,sS,i64_w,i32_w]; rfl
            refine pure_ (i := 8) (N := some 37) (v := ?_) (a' := ?_) #[Y,Y,Y,Y,Y,Y,Y,Y,Y,J,J] rfl rfl (any_of HT_.out (by kernel_rfl)) (fun _ _ _ h => h) (Or.inl ⟨by rfl, ?_⟩) ?_ ?_; rotate_left
            ·intro w'; go_simp; with_reducible rfl
            rotate_left
            ·simp only [pU,pN,sB,sZ,sS,i64_w,i32_w]; rfl
            refine pure_ (i := 9) (N := some 11) (v := ?_) (a' := ?_) #[Y,Y,Y,Y,Y,Y,Y,Y,Y,Y,J] rfl rfl (any_of HT_.out (by kernel_rfl)) (fun _ _ _ h => h) (Or.inl ⟨by rfl, ?_⟩) ?_ ?_; rotate_left
            ·intro w'; go_simp; with_reducible rfl
            rotate_left
            ·simp only [pU,pN,sB,sZ,sS,i64_w,i32_w]; rfl
            refine pure_ (i := 10) (N := some 12) (v := ?_) (a' := ?_) #[Y,Y,Y,Y,Y,Y,Y,Y,Y,Y,Y] rfl rfl (any_of HT_.out (by kernel_rfl)) (fun _ _ _ h => h) (Or.inl ⟨by rfl, ?_⟩) ?_ ?_; rotate_left
            ·intro w'; go_simp; with_reducible rfl
            rotate_left
            ·simp only [pU,pN,sB,sZ,sS,i64_w,i32_w]; rfl
            refine done_ (done_of HT_.out (by kernel_rfl)) ?_
            try go_wp2
            go_roundg k2
            case measure => have := HK1.out; have := HK2.out; omega
            case rel => exact ⟨(x7_2), (wrap64 (x24_2 + 1)), (by first | rfl | (simp; done) | (simp [*]; done)), H', ⟨by have := HK1.out; have := HK2.out; omega⟩, ⟨by (with_reducible repeat (first | apply rA|apply rN|apply rW)); exact HO_7.out⟩, ⟨by (with_reducible repeat (first | refine bN ?_ _|refine bW ?_|refine bA ?_ _)); exact BK242.out⟩, ⟨by repeat (first | (with_reducible first | exact HB.out|apply wA|apply wN|apply wD |refine wS ?_ GE242.out |refine wS ?_ GE248.out) | exact HB.out)⟩⟩
          ·rw [if_neg c14] at H
           exact absurd H (by simp)
         ·rw [if_neg c13] at H
          exact absurd H (by simp)
        ·rw [if_neg c12] at H
         exact absurd H (by simp)
       ·rw [if_neg c11] at H
        exact absurd H (by simp)
      ·rw [if_neg c10] at H
       have c10b0 : decide (x24_2 < (l0_1.length : Int)) = false := decide_eq_false c10
       clear c10
       have H' := Aside0.mk H
       clear H
       go_wp2
       go_roundg k2
       case measure => have := HK1.out; have := HK2.out; omega
       case rel => exact ⟨(x7_2), (wrap64 (x8_1 + 1)), (by first | rfl | (simp; done) | (simp [*]; done)), H', ⟨by have := HK1.out; have := HK2.out; omega⟩, ⟨by (with_reducible repeat (first | apply rA|apply rN|apply rW)); exact HO_7.out⟩, ⟨by (with_reducible repeat (first | refine bN ?_ _|refine bW ?_|refine bA ?_ _)); exact BK242.out⟩, ⟨by repeat (first | (with_reducible first | exact HB.out|apply wA|apply wN|apply wD |refine wS ?_ GE242.out) | exact HB.out)⟩⟩
   ·rw [if_neg c7] at H
    have c7b0 : decide (x8_1 < (x7_1.length : Int)) = false := decide_eq_false c7
    clear c7
    replace H := Option.bind_eq_some_iff.mp H
    obtain ⟨t246, A510, H⟩ := H
    replace H : (some t246) = some r := H
    have A51 := Aside0.mk A510
    clear A510
    obtain rfl := Option.some.inj H
    obtain ⟨Ao52, co52, eo52⟩ := Kd.R_slice HO_7.out
    subst eo52
    go_wp2_with (first | ((with_reducible refine gate_callee (f := 98) rfl ?_); refine goesL_ (some 57) rfl rfl Try.func98 (by kernel_rfl) rfl #[.slice Ao52 x7_1.length co52] rfl (by (try simp only [List.map_toArray, List.map_cons, List.map_nil]); first | done | rfl | (simp only [List.length_drop, List.length_take]; rfl)) ?_; (with_reducible refine (slices_Sort_int64_int64.calls (fun k_ => some k_ = (.slice Ao52 x7_1.length co52 : Value).ownBlock) (.slice Ao52 x7_1.length co52) x7_1 t246 w _ ?side1 ?side2 A51.out).mono ?_); (case side1 => repeat (first | (with_reducible first | exact HB.out|apply wA|apply wN|apply wD |refine wS ?_ GE242.out) | exact HB.out)); (case side2 => exact Kd.R_tight rfl HO_7.out); rintro e w53 ⟨rfl, hy0, hb, hkp⟩; refine ⟨_, rfl, ?_⟩; have n0_ := Aside0.mk (Kd.R_reok rfl hy0 (fun k_ e_ => HO_7.out.1 k_ e_)); have n1_ := Aside0.mk (blk_kept (by (with_reducible repeat (first | refine bN ?_ _|refine bW ?_|refine bA ?_ _)); exact BK242.out) hkp (fun hs_ => (fun e_ => (Kd.R_ne HO_7.out BK242.out (by decide)) e_) hs_)); have n2_ := Aside0.mk (hb); clear HO_7; clear BK242; clear HB; have HO_7 := n0_; have BK242 := n1_; have HB := n2_; clear n0_ n1_ n2_; (try clear hb); (try clear hkp); (try clear hy0)))
    go_ret
    exact ⟨_, by first | rfl | (simp [errW_none, errW_some] <;> rfl) | (simp [*, errW_none, errW_some] <;> rfl), by (with_reducible repeat (first | apply rA|apply rN|apply rW)); exact HO_7.out, by repeat (first | (with_reducible first | exact HB.out|apply wA|apply wN|apply wD |refine wS ?_ GE242.out) | exact HB.out)⟩

/-! ### impl_ReachedWithout: function 33 -/
def impl_ReachedWithout.f (k : Nat) (l0_0 : List Int) (l0_1 : List (S60)) (a1 : Int) (l2 : List Int) : Option (List Int × Int) := (impl_ValidNetwork_.f l0_0 l0_1).bind fun t258 => (if t258 = true then ((impl_Network_hasNode_.f l0_0 l0_1 a1).bind fun t259 => (if t259 = true then ((impl_Network_hasPipes.f k l0_0 l0_1 l2).bind fun t260 => (if t260 = true then ((impl_Network_reached.f k l0_0 l0_1 a1 l2).bind fun t261 => (some (t261, 0))) else (some (([] : List Int), 2)))) else (some (([] : List Int), 2)))) else (some (([] : List Int), 1)))
theorem impl_ReachedWithout.mono : ∀ a0 a1 a2 a3 k, LeO (impl_ReachedWithout.f k a0 a1 a2 a3) (impl_ReachedWithout.f (k + 1) a0 a1 a2 a3) := by
 intro a0 a1 a2 a3 k
 unfold impl_ReachedWithout.f
 repeat' first
   | (with_reducible exact impl_Network_hasPipes.mono _ _ _ _)
   | (with_reducible exact impl_Network_reached.mono _ _ _ _ _)
   | (with_reducible exact LeO.refl _)
   | (with_reducible exact LeO.none _)
   | (with_reducible refine LeO.ite ?_ ?_)
   | (with_reducible refine LeO.bind ?_ (fun _ => ?_))
   | exact impl_Network_hasPipes.mono _ _ _ _
   | exact impl_Network_reached.mono _ _ _ _ _
   | exact LeO.none _
   | refine LeO.ite ?_ ?_
   | refine LeO.bind ?_ (fun _ => ?_)
set_option maxHeartbeats 8000000 in
set_option maxRecDepth 100000 in
theorem impl_ReachedWithout.calls (k : Nat) (A0_0 : Option Addr) (c0_0 : Nat) (l0_0 : List Int) (A0_1 : Option Addr) (c0_1 : Nat) (l0_1 : List (S60)) (a1 : Int) (A2 : Option Addr) (c2 : Nat) (l2 : List Int) (r1 : List Int) (r2 : Int) (w : World) (hr0_0 : Kd.C (Kd.int .i64) w A0_0 l0_0.length l0_0) (hc0_0 : l0_0.length ≤ c0_0) (hr0_1 : Kd.C k60 w A0_1 l0_1.length l0_1) (hc0_1 : l0_1.length ≤ c0_1) (hr2 : Kd.C (Kd.int .i64) w A2 l2.length l2) (hc2 : l2.length ≤ c2) (h : impl_ReachedWithout.f k l0_0 l0_1 a1 l2 = some (r1, r2)) :
  Calls Try.prog 33 #[.agg #[.slice A0_0 l0_0.length c0_0, .slice A0_1 l0_1.length c0_1], .int .i64 a1, .slice A2 l2.length c2] w fun e w' => ∃ v0_ : Value, e = .returned (.tuple #[v0_, .int .i64 r2]) ∧ Kd.R (Kd.int .i64) 2 w' w.heap.size (fun _ => True) v0_ r1 ∧ Below w.heap.size w w' := by
 have hu31 := Try.underlying31
 have HR0_0 := Aside0.mk hr0_0
 have HC0_0 := Aside0.mk hc0_0
 clear hr0_0 hc0_0
 have HR0_1 := Aside0.mk hr0_1
 have HC0_1 := Aside0.mk hc0_1
 clear hr0_1 hc0_1
 have HR2 := Aside0.mk hr2
 have HC2 := Aside0.mk hc2
 clear hr2 hc2
 have HB := Aside0.mk (Below.refl w.heap.size w)
 have H : ((impl_ValidNetwork_.f l0_0 l0_1).bind fun t258 => (if t258 = true then ((impl_Network_hasNode_.f l0_0 l0_1 a1).bind fun t259 => (if t259 = true then ((impl_Network_hasPipes.f k l0_0 l0_1 l2).bind fun t260 => (if t260 = true then ((impl_Network_reached.f k l0_0 l0_1 a1 l2).bind fun t261 => (some (t261, 0))) else (some (([] : List Int), 2)))) else (some (([] : List Int), 2)))) else (some (([] : List Int), 1)))) = some (r1, r2) := h
 clear h
 replace H := Option.bind_eq_some_iff.mp H
 obtain ⟨t258, A40, H⟩ := H
 replace H : (if t258 = true then ((impl_Network_hasNode_.f l0_0 l0_1 a1).bind fun t259 => (if t259 = true then ((impl_Network_hasPipes.f k l0_0 l0_1 l2).bind fun t260 => (if t260 = true then ((impl_Network_reached.f k l0_0 l0_1 a1 l2).bind fun t261 => (some (t261, 0))) else (some (([] : List Int), 2)))) else (some (([] : List Int), 2)))) else (some (([] : List Int), 1))) = some (r1, r2) := H
 have A4 := Aside0.mk A40
 clear A40
 by_cases c5 : t258 = true
 ·subst c5
  have H1 : ((impl_Network_hasNode_.f l0_0 l0_1 a1).bind fun t259 => (if t259 = true then ((impl_Network_hasPipes.f k l0_0 l0_1 l2).bind fun t260 => (if t260 = true then ((impl_Network_reached.f k l0_0 l0_1 a1 l2).bind fun t261 => (some (t261, 0))) else (some (([] : List Int), 2)))) else (some (([] : List Int), 2)))) = some (r1, r2) := by rw [if_pos rfl] at H; exact H
  clear H
  have H := H1
  clear H1
  replace H := Option.bind_eq_some_iff.mp H
  obtain ⟨t259, A60, H⟩ := H
  replace H : (if t259 = true then ((impl_Network_hasPipes.f k l0_0 l0_1 l2).bind fun t260 => (if t260 = true then ((impl_Network_reached.f k l0_0 l0_1 a1 l2).bind fun t261 => (some (t261, 0))) else (some (([] : List Int), 2)))) else (some (([] : List Int), 2))) = some (r1, r2) := H
  have A6 := Aside0.mk A60
  clear A60
  by_cases c7 : t259 = true
  ·subst c7
   have H1 : ((impl_Network_hasPipes.f k l0_0 l0_1 l2).bind fun t260 => (if t260 = true then ((impl_Network_reached.f k l0_0 l0_1 a1 l2).bind fun t261 => (some (t261, 0))) else (some (([] : List Int), 2)))) = some (r1, r2) := by rw [if_pos rfl] at H; exact H
   clear H
   have H := H1
   clear H1
   replace H := Option.bind_eq_some_iff.mp H
   obtain ⟨t260, A80, H⟩ := H
   replace H : (if t260 = true then ((impl_Network_reached.f k l0_0 l0_1 a1 l2).bind fun t261 => (some (t261, 0))) else (some (([] : List Int), 2))) = some (r1, r2) := H
   have A8 := Aside0.mk A80
   clear A80
   by_cases c9 : t260 = true
   ·subst c9
    have H1 : ((impl_Network_reached.f k l0_0 l0_1 a1 l2).bind fun t261 => (some (t261, 0))) = some (r1, r2) := by rw [if_pos rfl] at H; exact H
    clear H
    have H := H1
    clear H1
    replace H := Option.bind_eq_some_iff.mp H
    obtain ⟨t261, A100, H⟩ := H
    replace H : (some (t261, 0)) = some (r1, r2) := H
    have A10 := Aside0.mk A100
    clear A100
    simp only [Option.some.injEq, Prod.mk.injEq] at H
    obtain ⟨rfl, rfl⟩ := H
    go_enter Try.func33, Try.ntmps33
    go_wp2_with (first | ((with_reducible refine gate_dst (N := 3) rfl ?_); refine box_event ?hg (N := 3) ?hd (cs := #[.slice A0_0 l0_0.length c0_0, .slice A0_1 l0_1.length c0_1]) (t := 31) ?hr ?_; (case hd => rfl); (case hg => rfl); (case hr => first | (go_simp; done) | (go_simp; rfl)); intro gb257 hg w11 hbox hb; have n0_ := Aside0.mk (below_step (by repeat (first | (with_reducible first | exact HB.out|apply wA|apply wN|apply wD) | exact HB.out)) hb); have n1_ := Aside0.mk (hbox); have n2_ := Aside0.mk ((by rw [hg]; exact (below_size (by repeat (first | (with_reducible first | exact HB.out|apply wA|apply wN|apply wD) | exact HB.out))) : w.heap.size ≤ gb257)); have n3_ := Aside0.mk ((by rw [hg]; exact (below_size (by repeat (first | (with_reducible first | exact HB.out|apply wA|apply wN|apply wD) | exact HB.out))) : w.heap.size ≤ gb257)); clear HB; have HB := n0_; have BK257 := n1_; have GW257 := n2_; have GE257 := n3_; clear n0_ n1_ n2_ n3_; clear hb hbox hg; have hcz12_0 : w11.cell? ⟨gb257, 0, none⟩ = some (.slice A0_0 l0_0.length c0_0) := (blk_cell BK257.out 0).trans rfl; have hcz12_1 : w11.cell? ⟨gb257, 1, none⟩ = some (.slice A0_1 l0_1.length c0_1) := (blk_cell BK257.out 1).trans rfl; have hfz12_0 := blk_frozen BK257.out 0; have hfz12_1 := blk_frozen BK257.out 1) | ((with_reducible refine gate_callee (f := 50) rfl ?_); refine goesL_ (some 10) rfl rfl Try.func50 (by kernel_rfl) rfl #[.agg #[.slice A0_0 l0_0.length c0_0, .slice A0_1 l0_1.length c0_1]] rfl (by (try simp only [List.map_toArray, List.map_cons, List.map_nil]); first | done | rfl | (simp only [List.length_drop, List.length_take]; rfl)) ?_; (with_reducible refine (impl_ValidNetwork_.calls _ _ l0_0 _ _ l0_1 true _ ?side1 ?side2 ?side3 ?side4 A4.out).mono ?_); (case side1 => repeat (first | exact (Kd.C_below HR0_0.out HB.out) | (with_reducible first|refine Kd.C_alloc ?_ _|refine Kd.C_drewN ?_ _|refine Kd.C_drew ?_))); (case side2 => exact HC0_0.out); (case side3 => repeat (first | exact (Kd.C_below HR0_1.out HB.out) | (with_reducible first|refine Kd.C_alloc ?_ _|refine Kd.C_drewN ?_ _|refine Kd.C_drew ?_))); (case side4 => exact HC0_1.out); rintro e w13 ⟨rfl, hb⟩; refine ⟨_, rfl, ?_⟩; have n0_ := Aside0.mk (blk_below (g := gb257) (o := .cells #[.slice A0_0 l0_0.length c0_0, .slice A0_1 l0_1.length c0_1] 31 (0, 0)) (by (with_reducible repeat (first | refine bN ?_ _|refine bW ?_|refine bA ?_ _)); exact BK257.out) hb); have n1_ := Aside0.mk (below_step (by repeat (first | (with_reducible first | exact HB.out|apply wA|apply wN|apply wD |refine wS ?_ GE257.out) | exact HB.out)) hb); clear BK257; clear HB; have BK257 := n0_; have HB := n1_; clear n0_ n1_; (try clear hb); (try clear hb2); (try clear hk); (try clear hi); have hcz14_0 : w13.cell? ⟨gb257, 0, none⟩ = some (.slice A0_0 l0_0.length c0_0) := (blk_cell BK257.out 0).trans rfl; have hcz14_1 : w13.cell? ⟨gb257, 1, none⟩ = some (.slice A0_1 l0_1.length c0_1) := (blk_cell BK257.out 1).trans rfl; have hfz14_0 := blk_frozen BK257.out 0; have hfz14_1 := blk_frozen BK257.out 1) | ((with_reducible refine gate_callee (f := 51) rfl ?_); refine goesL_ (some 15) rfl rfl Try.func51 (by kernel_rfl) rfl #[.agg #[.slice A0_0 l0_0.length c0_0, .slice A0_1 l0_1.length c0_1], .int .i64 a1] rfl (by (try simp only [List.map_toArray, List.map_cons, List.map_nil]); first | done | rfl | (simp only [List.length_drop, List.length_take]; rfl)) ?_; (with_reducible refine (impl_Network_hasNode_.calls _ _ l0_0 _ _ l0_1 a1 true _ ?side1 ?side2 ?side3 ?side4 A6.out).mono ?_); (case side1 => repeat (first | exact (Kd.C_below HR0_0.out HB.out) | (with_reducible first|refine Kd.C_alloc ?_ _|refine Kd.C_drewN ?_ _|refine Kd.C_drew ?_))); (case side2 => exact HC0_0.out); (case side3 => repeat (first | exact (Kd.C_below HR0_1.out HB.out) | (with_reducible first|refine Kd.C_alloc ?_ _|refine Kd.C_drewN ?_ _|refine Kd.C_drew ?_))); (case side4 => exact HC0_1.out); rintro e w15 ⟨rfl, hb⟩; refine ⟨_, rfl, ?_⟩; have n0_ := Aside0.mk (blk_below (g := gb257) (o := .cells #[.slice A0_0 l0_0.length c0_0, .slice A0_1 l0_1.length c0_1] 31 (0, 0)) (by (with_reducible repeat (first | refine bN ?_ _|refine bW ?_|refine bA ?_ _)); exact BK257.out) hb); have n1_ := Aside0.mk (below_step (by repeat (first | (with_reducible first | exact HB.out|apply wA|apply wN|apply wD |refine wS ?_ GE257.out) | exact HB.out)) hb); clear BK257; clear HB; have BK257 := n0_; have HB := n1_; clear n0_ n1_; (try clear hb); (try clear hb2); (try clear hk); (try clear hi); have hcz16_0 : w15.cell? ⟨gb257, 0, none⟩ = some (.slice A0_0 l0_0.length c0_0) := (blk_cell BK257.out 0).trans rfl; have hcz16_1 : w15.cell? ⟨gb257, 1, none⟩ = some (.slice A0_1 l0_1.length c0_1) := (blk_cell BK257.out 1).trans rfl; have hfz16_0 := blk_frozen BK257.out 0; have hfz16_1 := blk_frozen BK257.out 1) | (go_at_call 64; (with_reducible refine (impl_Network_hasPipes.calls k _ _ l0_0 _ _ l0_1 _ _ l2 true _ ?side1 ?side2 ?side3 ?side4 ?side5 ?side6 A8.out).mono ?_); (case side1 => repeat (first | exact (Kd.C_below HR0_0.out HB.out) | (with_reducible first|refine Kd.C_alloc ?_ _|refine Kd.C_drewN ?_ _|refine Kd.C_drew ?_))); (case side2 => exact HC0_0.out); (case side3 => repeat (first | exact (Kd.C_below HR0_1.out HB.out) | (with_reducible first|refine Kd.C_alloc ?_ _|refine Kd.C_drewN ?_ _|refine Kd.C_drew ?_))); (case side4 => exact HC0_1.out); (case side5 => repeat (first | exact (Kd.C_below HR2.out HB.out) | (with_reducible first|refine Kd.C_alloc ?_ _|refine Kd.C_drewN ?_ _|refine Kd.C_drew ?_))); (case side6 => exact HC2.out); rintro e w17 ⟨rfl, hb⟩; have n0_ := Aside0.mk (blk_below (g := gb257) (o := .cells #[.slice A0_0 l0_0.length c0_0, .slice A0_1 l0_1.length c0_1] 31 (0, 0)) (by (with_reducible repeat (first | refine bN ?_ _|refine bW ?_|refine bA ?_ _)); exact BK257.out) hb); have n1_ := Aside0.mk (below_step (by repeat (first | (with_reducible first | exact HB.out|apply wA|apply wN|apply wD |refine wS ?_ GE257.out) | exact HB.out)) hb); clear BK257; clear HB; have BK257 := n0_; have HB := n1_; clear n0_ n1_; (try clear hb); (try clear hb2); (try clear hk); (try clear hi); have hcz18_0 : w17.cell? ⟨gb257, 0, none⟩ = some (.slice A0_0 l0_0.length c0_0) := (blk_cell BK257.out 0).trans rfl; have hcz18_1 : w17.cell? ⟨gb257, 1, none⟩ = some (.slice A0_1 l0_1.length c0_1) := (blk_cell BK257.out 1).trans rfl; have hfz18_0 := blk_frozen BK257.out 0; have hfz18_1 := blk_frozen BK257.out 1) | ((with_reducible refine gate_callee (f := 65) rfl ?_); refine goesL_ (some 26) rfl rfl Try.func65 (by kernel_rfl) rfl #[.agg #[.slice A0_0 l0_0.length c0_0, .slice A0_1 l0_1.length c0_1], .int .i64 a1, .slice A2 l2.length c2] rfl (by (try simp only [List.map_toArray, List.map_cons, List.map_nil]); first | done | rfl | (simp only [List.length_drop, List.length_take]; rfl)) ?_; (with_reducible refine (impl_Network_reached.calls k _ _ l0_0 _ _ l0_1 a1 _ _ l2 t261 _ ?side1 ?side2 ?side3 ?side4 ?side5 ?side6 A10.out).mono ?_); (case side1 => repeat (first | exact (Kd.C_below HR0_0.out HB.out) | (with_reducible first|refine Kd.C_alloc ?_ _|refine Kd.C_drewN ?_ _|refine Kd.C_drew ?_))); (case side2 => exact HC0_0.out); (case side3 => repeat (first | exact (Kd.C_below HR0_1.out HB.out) | (with_reducible first|refine Kd.C_alloc ?_ _|refine Kd.C_drewN ?_ _|refine Kd.C_drew ?_))); (case side4 => exact HC0_1.out); (case side5 => repeat (first | exact (Kd.C_below HR2.out HB.out) | (with_reducible first|refine Kd.C_alloc ?_ _|refine Kd.C_drewN ?_ _|refine Kd.C_drew ?_))); (case side6 => exact HC2.out); rintro e w19 ⟨v262, rfl, ho0, hb⟩; refine ⟨_, rfl, ?_⟩; have n0_ := Aside0.mk (Kd.R_lower ho0 (below_size (by repeat (first | (with_reducible first | exact HB.out|apply wA|apply wN|apply wD |refine wS ?_ GE257.out) | exact HB.out)))); have n1_ := Aside0.mk (blk_below (g := gb257) (o := .cells #[.slice A0_0 l0_0.length c0_0, .slice A0_1 l0_1.length c0_1] 31 (0, 0)) (by (with_reducible repeat (first | refine bN ?_ _|refine bW ?_|refine bA ?_ _)); exact BK257.out) hb); have n2_ := Aside0.mk (below_step (by repeat (first | (with_reducible first | exact HB.out|apply wA|apply wN|apply wD |refine wS ?_ GE257.out) | exact HB.out)) hb); clear BK257; clear HB; have HO263 := n0_; have BK257 := n1_; have HB := n2_; clear n0_ n1_ n2_; (try clear hb); (try clear hb2); (try clear hk); (try clear hi); (try clear ho0)))
    go_ret2
    exact ⟨_, by first | rfl | (simp [errW_none, errW_some] <;> rfl) | (simp [*, errW_none, errW_some] <;> rfl), by (with_reducible repeat (first | apply rA|apply rN|apply rW)); exact HO263.out, by repeat (first | (with_reducible first | exact HB.out|apply wA|apply wN|apply wD |refine wS ?_ GE257.out) | exact HB.out)⟩
   ·replace c9 := Bool.eq_false_iff.mpr c9
    subst c9
    have H1 : (some (([] : List Int), 2)) = some (r1, r2) := by rw [if_neg (show ¬ (false = true) by decide)] at H; exact H
    clear H
    have H := H1
    clear H1
    simp only [Option.some.injEq, Prod.mk.injEq] at H
    obtain ⟨rfl, rfl⟩ := H
    go_enter Try.func33, Try.ntmps33
    go_wp2_with (first | ((with_reducible refine gate_dst (N := 3) rfl ?_); refine box_event ?hg (N := 3) ?hd (cs := #[.slice A0_0 l0_0.length c0_0, .slice A0_1 l0_1.length c0_1]) (t := 31) ?hr ?_; (case hd => rfl); (case hg => rfl); (case hr => first | (go_simp; done) | (go_simp; rfl)); intro gb257 hg w20 hbox hb; have n0_ := Aside0.mk (below_step (by repeat (first | (with_reducible first | exact HB.out|apply wA|apply wN|apply wD) | exact HB.out)) hb); have n1_ := Aside0.mk (hbox); have n2_ := Aside0.mk ((by rw [hg]; exact (below_size (by repeat (first | (with_reducible first | exact HB.out|apply wA|apply wN|apply wD) | exact HB.out))) : w.heap.size ≤ gb257)); have n3_ := Aside0.mk ((by rw [hg]; exact (below_size (by repeat (first | (with_reducible first | exact HB.out|apply wA|apply wN|apply wD) | exact HB.out))) : w.heap.size ≤ gb257)); clear HB; have HB := n0_; have BK257 := n1_; have GW257 := n2_; have GE257 := n3_; clear n0_ n1_ n2_ n3_; clear hb hbox hg; have hcz21_0 : w20.cell? ⟨gb257, 0, none⟩ = some (.slice A0_0 l0_0.length c0_0) := (blk_cell BK257.out 0).trans rfl; have hcz21_1 : w20.cell? ⟨gb257, 1, none⟩ = some (.slice A0_1 l0_1.length c0_1) := (blk_cell BK257.out 1).trans rfl; have hfz21_0 := blk_frozen BK257.out 0; have hfz21_1 := blk_frozen BK257.out 1) | ((with_reducible refine gate_callee (f := 50) rfl ?_); refine goesL_ (some 10) rfl rfl Try.func50 (by kernel_rfl) rfl #[.agg #[.slice A0_0 l0_0.length c0_0, .slice A0_1 l0_1.length c0_1]] rfl (by (try simp only [List.map_toArray, List.map_cons, List.map_nil]); first | done | rfl | (simp only [List.length_drop, List.length_take]; rfl)) ?_; (with_reducible refine (impl_ValidNetwork_.calls _ _ l0_0 _ _ l0_1 true _ ?side1 ?side2 ?side3 ?side4 A4.out).mono ?_); (case side1 => repeat (first | exact (Kd.C_below HR0_0.out HB.out) | (with_reducible first|refine Kd.C_alloc ?_ _|refine Kd.C_drewN ?_ _|refine Kd.C_drew ?_))); (case side2 => exact HC0_0.out); (case side3 => repeat (first | exact (Kd.C_below HR0_1.out HB.out) | (with_reducible first|refine Kd.C_alloc ?_ _|refine Kd.C_drewN ?_ _|refine Kd.C_drew ?_))); (case side4 => exact HC0_1.out); rintro e w22 ⟨rfl, hb⟩; refine ⟨_, rfl, ?_⟩; have n0_ := Aside0.mk (blk_below (g := gb257) (o := .cells #[.slice A0_0 l0_0.length c0_0, .slice A0_1 l0_1.length c0_1] 31 (0, 0)) (by (with_reducible repeat (first | refine bN ?_ _|refine bW ?_|refine bA ?_ _)); exact BK257.out) hb); have n1_ := Aside0.mk (below_step (by repeat (first | (with_reducible first | exact HB.out|apply wA|apply wN|apply wD |refine wS ?_ GE257.out) | exact HB.out)) hb); clear BK257; clear HB; have BK257 := n0_; have HB := n1_; clear n0_ n1_; (try clear hb); (try clear hb2); (try clear hk); (try clear hi); have hcz23_0 : w22.cell? ⟨gb257, 0, none⟩ = some (.slice A0_0 l0_0.length c0_0) := (blk_cell BK257.out 0).trans rfl; have hcz23_1 : w22.cell? ⟨gb257, 1, none⟩ = some (.slice A0_1 l0_1.length c0_1) := (blk_cell BK257.out 1).trans rfl; have hfz23_0 := blk_frozen BK257.out 0; have hfz23_1 := blk_frozen BK257.out 1) | ((with_reducible refine gate_callee (f := 51) rfl ?_); refine goesL_ (some 15) rfl rfl Try.func51 (by kernel_rfl) rfl #[.agg #[.slice A0_0 l0_0.length c0_0, .slice A0_1 l0_1.length c0_1], .int .i64 a1] rfl (by (try simp only [List.map_toArray, List.map_cons, List.map_nil]); first | done | rfl | (simp only [List.length_drop, List.length_take]; rfl)) ?_; (with_reducible refine (impl_Network_hasNode_.calls _ _ l0_0 _ _ l0_1 a1 true _ ?side1 ?side2 ?side3 ?side4 A6.out).mono ?_); (case side1 => repeat (first | exact (Kd.C_below HR0_0.out HB.out) | (with_reducible first|refine Kd.C_alloc ?_ _|refine Kd.C_drewN ?_ _|refine Kd.C_drew ?_))); (case side2 => exact HC0_0.out); (case side3 => repeat (first | exact (Kd.C_below HR0_1.out HB.out) | (with_reducible first|refine Kd.C_alloc ?_ _|refine Kd.C_drewN ?_ _|refine Kd.C_drew ?_))); (case side4 => exact HC0_1.out); rintro e w24 ⟨rfl, hb⟩; refine ⟨_, rfl, ?_⟩; have n0_ := Aside0.mk (blk_below (g := gb257) (o := .cells #[.slice A0_0 l0_0.length c0_0, .slice A0_1 l0_1.length c0_1] 31 (0, 0)) (by (with_reducible repeat (first | refine bN ?_ _|refine bW ?_|refine bA ?_ _)); exact BK257.out) hb); have n1_ := Aside0.mk (below_step (by repeat (first | (with_reducible first | exact HB.out|apply wA|apply wN|apply wD |refine wS ?_ GE257.out) | exact HB.out)) hb); clear BK257; clear HB; have BK257 := n0_; have HB := n1_; clear n0_ n1_; (try clear hb); (try clear hb2); (try clear hk); (try clear hi); have hcz25_0 : w24.cell? ⟨gb257, 0, none⟩ = some (.slice A0_0 l0_0.length c0_0) := (blk_cell BK257.out 0).trans rfl; have hcz25_1 : w24.cell? ⟨gb257, 1, none⟩ = some (.slice A0_1 l0_1.length c0_1) := (blk_cell BK257.out 1).trans rfl; have hfz25_0 := blk_frozen BK257.out 0; have hfz25_1 := blk_frozen BK257.out 1) | (go_at_call 64; (with_reducible refine (impl_Network_hasPipes.calls k _ _ l0_0 _ _ l0_1 _ _ l2 false _ ?side1 ?side2 ?side3 ?side4 ?side5 ?side6 A8.out).mono ?_); (case side1 => repeat (first | exact (Kd.C_below HR0_0.out HB.out) | (with_reducible first|refine Kd.C_alloc ?_ _|refine Kd.C_drewN ?_ _|refine Kd.C_drew ?_))); (case side2 => exact HC0_0.out); (case side3 => repeat (first | exact (Kd.C_below HR0_1.out HB.out) | (with_reducible first|refine Kd.C_alloc ?_ _|refine Kd.C_drewN ?_ _|refine Kd.C_drew ?_))); (case side4 => exact HC0_1.out); (case side5 => repeat (first | exact (Kd.C_below HR2.out HB.out) | (with_reducible first|refine Kd.C_alloc ?_ _|refine Kd.C_drewN ?_ _|refine Kd.C_drew ?_))); (case side6 => exact HC2.out); rintro e w26 ⟨rfl, hb⟩; have n0_ := Aside0.mk (blk_below (g := gb257) (o := .cells #[.slice A0_0 l0_0.length c0_0, .slice A0_1 l0_1.length c0_1] 31 (0, 0)) (by (with_reducible repeat (first | refine bN ?_ _|refine bW ?_|refine bA ?_ _)); exact BK257.out) hb); have n1_ := Aside0.mk (below_step (by repeat (first | (with_reducible first | exact HB.out|apply wA|apply wN|apply wD |refine wS ?_ GE257.out) | exact HB.out)) hb); clear BK257; clear HB; have BK257 := n0_; have HB := n1_; clear n0_ n1_; (try clear hb); (try clear hb2); (try clear hk); (try clear hi)))
    go_ret2
    exact ⟨_, by first | rfl | (simp [errW_none, errW_some] <;> rfl) | (simp [*, errW_none, errW_some] <;> rfl), by first | exact Kd.R_nil _ _ _ _ _ | exact Kd.N_nil _ _ _ _ _ | exact Kd.V_nil _ _ _ _ _ | exact Kd.Q_nil _ _ _ _ _ | exact Kd.S_nil _ _ _ _ _, by repeat (first | (with_reducible first | exact HB.out|apply wA|apply wN|apply wD |refine wS ?_ GE257.out) | exact HB.out)⟩
  ·replace c7 := Bool.eq_false_iff.mpr c7
   subst c7
   have H1 : (some (([] : List Int), 2)) = some (r1, r2) := by rw [if_neg (show ¬ (false = true) by decide)] at H; exact H
   clear H
   have H := H1
   clear H1
   simp only [Option.some.injEq, Prod.mk.injEq] at H
   obtain ⟨rfl, rfl⟩ := H
   go_enter Try.func33, Try.ntmps33
   go_wp2_with (first | ((with_reducible refine gate_dst (N := 3) rfl ?_); refine box_event ?hg (N := 3) ?hd (cs := #[.slice A0_0 l0_0.length c0_0, .slice A0_1 l0_1.length c0_1]) (t := 31) ?hr ?_; (case hd => rfl); (case hg => rfl); (case hr => first | (go_simp; done) | (go_simp; rfl)); intro gb257 hg w27 hbox hb; have n0_ := Aside0.mk (below_step (by repeat (first | (with_reducible first | exact HB.out|apply wA|apply wN|apply wD) | exact HB.out)) hb); have n1_ := Aside0.mk (hbox); have n2_ := Aside0.mk ((by rw [hg]; exact (below_size (by repeat (first | (with_reducible first | exact HB.out|apply wA|apply wN|apply wD) | exact HB.out))) : w.heap.size ≤ gb257)); have n3_ := Aside0.mk ((by rw [hg]; exact (below_size (by repeat (first | (with_reducible first | exact HB.out|apply wA|apply wN|apply wD) | exact HB.out))) : w.heap.size ≤ gb257)); clear HB; have HB := n0_; have BK257 := n1_; have GW257 := n2_; have GE257 := n3_; clear n0_ n1_ n2_ n3_; clear hb hbox hg; have hcz28_0 : w27.cell? ⟨gb257, 0, none⟩ = some (.slice A0_0 l0_0.length c0_0) := (blk_cell BK257.out 0).trans rfl; have hcz28_1 : w27.cell? ⟨gb257, 1, none⟩ = some (.slice A0_1 l0_1.length c0_1) := (blk_cell BK257.out 1).trans rfl; have hfz28_0 := blk_frozen BK257.out 0; have hfz28_1 := blk_frozen BK257.out 1) | ((with_reducible refine gate_callee (f := 50) rfl ?_); refine goesL_ (some 10) rfl rfl Try.func50 (by kernel_rfl) rfl #[.agg #[.slice A0_0 l0_0.length c0_0, .slice A0_1 l0_1.length c0_1]] rfl (by (try simp only [List.map_toArray, List.map_cons, List.map_nil]); first | done | rfl | (simp only [List.length_drop, List.length_take]; rfl)) ?_; (with_reducible refine (impl_ValidNetwork_.calls _ _ l0_0 _ _ l0_1 true _ ?side1 ?side2 ?side3 ?side4 A4.out).mono ?_); (case side1 => repeat (first | exact (Kd.C_below HR0_0.out HB.out) | (with_reducible first|refine Kd.C_alloc ?_ _|refine Kd.C_drewN ?_ _|refine Kd.C_drew ?_))); (case side2 => exact HC0_0.out); (case side3 => repeat (first | exact (Kd.C_below HR0_1.out HB.out) | (with_reducible first|refine Kd.C_alloc ?_ _|refine Kd.C_drewN ?_ _|refine Kd.C_drew ?_))); (case side4 => exact HC0_1.out); rintro e w29 ⟨rfl, hb⟩; refine ⟨_, rfl, ?_⟩; have n0_ := Aside0.mk (blk_below (g := gb257) (o := .cells #[.slice A0_0 l0_0.length c0_0, .slice A0_1 l0_1.length c0_1] 31 (0, 0)) (by (with_reducible repeat (first | refine bN ?_ _|refine bW ?_|refine bA ?_ _)); exact BK257.out) hb); have n1_ := Aside0.mk (below_step (by repeat (first | (with_reducible first | exact HB.out|apply wA|apply wN|apply wD |refine wS ?_ GE257.out) | exact HB.out)) hb); clear BK257; clear HB; have BK257 := n0_; have HB := n1_; clear n0_ n1_; (try clear hb); (try clear hb2); (try clear hk); (try clear hi); have hcz30_0 : w29.cell? ⟨gb257, 0, none⟩ = some (.slice A0_0 l0_0.length c0_0) := (blk_cell BK257.out 0).trans rfl; have hcz30_1 : w29.cell? ⟨gb257, 1, none⟩ = some (.slice A0_1 l0_1.length c0_1) := (blk_cell BK257.out 1).trans rfl; have hfz30_0 := blk_frozen BK257.out 0; have hfz30_1 := blk_frozen BK257.out 1) | ((with_reducible refine gate_callee (f := 51) rfl ?_); refine goesL_ (some 15) rfl rfl Try.func51 (by kernel_rfl) rfl #[.agg #[.slice A0_0 l0_0.length c0_0, .slice A0_1 l0_1.length c0_1], .int .i64 a1] rfl (by (try simp only [List.map_toArray, List.map_cons, List.map_nil]); first | done | rfl | (simp only [List.length_drop, List.length_take]; rfl)) ?_; (with_reducible refine (impl_Network_hasNode_.calls _ _ l0_0 _ _ l0_1 a1 false _ ?side1 ?side2 ?side3 ?side4 A6.out).mono ?_); (case side1 => repeat (first | exact (Kd.C_below HR0_0.out HB.out) | (with_reducible first|refine Kd.C_alloc ?_ _|refine Kd.C_drewN ?_ _|refine Kd.C_drew ?_))); (case side2 => exact HC0_0.out); (case side3 => repeat (first | exact (Kd.C_below HR0_1.out HB.out) | (with_reducible first|refine Kd.C_alloc ?_ _|refine Kd.C_drewN ?_ _|refine Kd.C_drew ?_))); (case side4 => exact HC0_1.out); rintro e w31 ⟨rfl, hb⟩; refine ⟨_, rfl, ?_⟩; have n0_ := Aside0.mk (blk_below (g := gb257) (o := .cells #[.slice A0_0 l0_0.length c0_0, .slice A0_1 l0_1.length c0_1] 31 (0, 0)) (by (with_reducible repeat (first | refine bN ?_ _|refine bW ?_|refine bA ?_ _)); exact BK257.out) hb); have n1_ := Aside0.mk (below_step (by repeat (first | (with_reducible first | exact HB.out|apply wA|apply wN|apply wD |refine wS ?_ GE257.out) | exact HB.out)) hb); clear BK257; clear HB; have BK257 := n0_; have HB := n1_; clear n0_ n1_; (try clear hb); (try clear hb2); (try clear hk); (try clear hi)))
   go_ret2
   exact ⟨_, by first | rfl | (simp [errW_none, errW_some] <;> rfl) | (simp [*, errW_none, errW_some] <;> rfl), by first | exact Kd.R_nil _ _ _ _ _ | exact Kd.N_nil _ _ _ _ _ | exact Kd.V_nil _ _ _ _ _ | exact Kd.Q_nil _ _ _ _ _ | exact Kd.S_nil _ _ _ _ _, by repeat (first | (with_reducible first | exact HB.out|apply wA|apply wN|apply wD |refine wS ?_ GE257.out) | exact HB.out)⟩
 ·replace c5 := Bool.eq_false_iff.mpr c5
  subst c5
  have H1 : (some (([] : List Int), 1)) = some (r1, r2) := by rw [if_neg (show ¬ (false = true) by decide)] at H; exact H
  clear H
  have H := H1
  clear H1
  simp only [Option.some.injEq, Prod.mk.injEq] at H
  obtain ⟨rfl, rfl⟩ := H
  go_enter Try.func33, Try.ntmps33
  go_wp2_with (first | ((with_reducible refine gate_dst (N := 3) rfl ?_); refine box_event ?hg (N := 3) ?hd (cs := #[.slice A0_0 l0_0.length c0_0, .slice A0_1 l0_1.length c0_1]) (t := 31) ?hr ?_; (case hd => rfl); (case hg => rfl); (case hr => first | (go_simp; done) | (go_simp; rfl)); intro gb257 hg w32 hbox hb; have n0_ := Aside0.mk (below_step (by repeat (first | (with_reducible first | exact HB.out|apply wA|apply wN|apply wD) | exact HB.out)) hb); have n1_ := Aside0.mk (hbox); have n2_ := Aside0.mk ((by rw [hg]; exact (below_size (by repeat (first | (with_reducible first | exact HB.out|apply wA|apply wN|apply wD) | exact HB.out))) : w.heap.size ≤ gb257)); have n3_ := Aside0.mk ((by rw [hg]; exact (below_size (by repeat (first | (with_reducible first | exact HB.out|apply wA|apply wN|apply wD) | exact HB.out))) : w.heap.size ≤ gb257)); clear HB; have HB := n0_; have BK257 := n1_; have GW257 := n2_; have GE257 := n3_; clear n0_ n1_ n2_ n3_; clear hb hbox hg; have hcz33_0 : w32.cell? ⟨gb257, 0, none⟩ = some (.slice A0_0 l0_0.length c0_0) := (blk_cell BK257.out 0).trans rfl; have hcz33_1 : w32.cell? ⟨gb257, 1, none⟩ = some (.slice A0_1 l0_1.length c0_1) := (blk_cell BK257.out 1).trans rfl; have hfz33_0 := blk_frozen BK257.out 0; have hfz33_1 := blk_frozen BK257.out 1) | ((with_reducible refine gate_callee (f := 50) rfl ?_); refine goesL_ (some 10) rfl rfl Try.func50 (by kernel_rfl) rfl #[.agg #[.slice A0_0 l0_0.length c0_0, .slice A0_1 l0_1.length c0_1]] rfl (by (try simp only [List.map_toArray, List.map_cons, List.map_nil]); first | done | rfl | (simp only [List.length_drop, List.length_take]; rfl)) ?_; (with_reducible refine (impl_ValidNetwork_.calls _ _ l0_0 _ _ l0_1 false _ ?side1 ?side2 ?side3 ?side4 A4.out).mono ?_); (case side1 => repeat (first | exact (Kd.C_below HR0_0.out HB.out) | (with_reducible first|refine Kd.C_alloc ?_ _|refine Kd.C_drewN ?_ _|refine Kd.C_drew ?_))); (case side2 => exact HC0_0.out); (case side3 => repeat (first | exact (Kd.C_below HR0_1.out HB.out) | (with_reducible first|refine Kd.C_alloc ?_ _|refine Kd.C_drewN ?_ _|refine Kd.C_drew ?_))); (case side4 => exact HC0_1.out); rintro e w34 ⟨rfl, hb⟩; refine ⟨_, rfl, ?_⟩; have n0_ := Aside0.mk (blk_below (g := gb257) (o := .cells #[.slice A0_0 l0_0.length c0_0, .slice A0_1 l0_1.length c0_1] 31 (0, 0)) (by (with_reducible repeat (first | refine bN ?_ _|refine bW ?_|refine bA ?_ _)); exact BK257.out) hb); have n1_ := Aside0.mk (below_step (by repeat (first | (with_reducible first | exact HB.out|apply wA|apply wN|apply wD |refine wS ?_ GE257.out) | exact HB.out)) hb); clear BK257; clear HB; have BK257 := n0_; have HB := n1_; clear n0_ n1_; (try clear hb); (try clear hb2); (try clear hk); (try clear hi)))
  go_ret2
  exact ⟨_, by first | rfl | (simp [errW_none, errW_some] <;> rfl) | (simp [*, errW_none, errW_some] <;> rfl), by first | exact Kd.R_nil _ _ _ _ _ | exact Kd.N_nil _ _ _ _ _ | exact Kd.V_nil _ _ _ _ _ | exact Kd.Q_nil _ _ _ _ _ | exact Kd.S_nil _ _ _ _ _, by repeat (first | (with_reducible first | exact HB.out|apply wA|apply wN|apply wD |refine wS ?_ GE257.out) | exact HB.out)⟩

end Go.Proofs.Ytcgbagdpedpdpaa.PFnExactReachedWithout
