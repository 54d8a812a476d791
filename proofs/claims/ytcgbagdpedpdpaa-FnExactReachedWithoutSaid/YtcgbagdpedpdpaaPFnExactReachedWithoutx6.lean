-- Printed by a program of this session (wip/hprint.sh: the kit's print with hand-proved contracts put in); not by print.sh itself.
import Derived.Test.YtcgbagdpedpdpaaPFnExactReachedWithoutx0
import Derived.Test.YtcgbagdpedpdpaaPFnExactReachedWithoutx4
import Derived.Test.YtcgbagdpedpdpaaPFnExactReachedWithoutx5
namespace Go.Proofs.Ytcgbagdpedpdpaa.PFnExactReachedWithout
open Go.RowKit Go.Proofs.YtcgbagdpedpdpaaW.PrintWords Go.Proofs.YtcgbagdpedpdpaaW.PrintLast Go.Proofs.YtcgbagdpedpdpaaW.PrintMore Go.Proofs.YtcgbagdpedpdpaaM
attribute [local go_sem] max2_int min2_int max_two min_two max_three min_three max_four min_four   -- for this text's walks alone
set_option linter.unusedVariables false
set_option linter.unusedSimpArgs false

/-! ### spec_ReachedWithout: function 31 -/
mutual
def spec_ReachedWithout.j0 : Nat → Int → List Int → Bool → List Int → List (S60) → Option (List Int × Int)
 | 0, _, _, _, _, _ => none
 | k + 1, x1, x2, x20, x197000, x197001 => if x20 = true then (some (([] : List Int), 2)) else ((spec_l04Parts.f k x197000 x197001 x2).bind fun t200 => (spec_ReachedWithout.l0 k x1 t200 (([] : List Int)) 0))
def spec_ReachedWithout.l0 : Nat → Int → List Int → List Int → Int → Option (List Int × Int)
 | 0, _, _, _, _ => none
 | k + 1, x1, x8, x9, x10 => if x10 < (x8.length : Int) then (if 0 ≤ x10 then (if 0 ≤ x1 then (if x1 < (x8.length : Int) then (if (rd x8 x10) = (rd x8 x1) then (if x9.length < 17592186044416 then (spec_ReachedWithout.l0 k x1 x8 (x9 ++ [x10]) (wrap64 (x10 + 1))) else (none)) else (spec_ReachedWithout.l0 k x1 x8 x9 (wrap64 (x10 + 1)))) else (none)) else (none)) else (none)) else (some (x9, 0))
end
def spec_ReachedWithout.f (k : Nat) (l0_0 : List Int) (l0_1 : List (S60)) (a1 : Int) (l2 : List Int) : Option (List Int × Int) := (spec_l04Ok_.f l0_0 l0_1).bind fun t197 => (if t197 = true then ((spec_l04Node_.f l0_0 l0_1 a1).bind fun t198 => (if t198 = true then ((spec_l04Closed.f k l0_0 l0_1 l2).bind fun t199 => (spec_ReachedWithout.j0 k a1 l2 (!t199) l0_0 l0_1)) else (spec_ReachedWithout.j0 k a1 l2 true l0_0 l0_1))) else (some (([] : List Int), 1)))
theorem spec_ReachedWithout.mono_l : ∀ k, (∀ y0 y1 y2 y3 y4, LeO (spec_ReachedWithout.j0 k y0 y1 y2 y3 y4) (spec_ReachedWithout.j0 (k + 1) y0 y1 y2 y3 y4)) ∧ (∀ y0 y1 y2 y3, LeO (spec_ReachedWithout.l0 k y0 y1 y2 y3) (spec_ReachedWithout.l0 (k + 1) y0 y1 y2 y3))
 | 0 => ⟨fun _ _ _ _ _ r h => by simp [spec_ReachedWithout.j0] at h, fun _ _ _ _ r h => by simp [spec_ReachedWithout.l0] at h⟩
 | k + 1 => by
  obtain ⟨ih0, ih1⟩ := spec_ReachedWithout.mono_l k
  refine ⟨?_, ?_⟩
  ·intro y0 y1 y2 y3 y4
   unfold spec_ReachedWithout.j0
   repeat' first
   | (with_reducible exact ih0 _ _ _ _ _)
   | (with_reducible exact ih1 _ _ _ _)
   | (with_reducible exact spec_l04Closed.mono _ _ _ _)
   | (with_reducible exact spec_l04Parts.mono _ _ _ _)
   | (with_reducible exact LeO.refl _)
   | (with_reducible exact LeO.none _)
   | (with_reducible refine LeO.ite ?_ ?_)
   | (with_reducible refine LeO.bind ?_ (fun _ => ?_))
   | exact ih0 _ _ _ _ _
   | exact ih1 _ _ _ _
   | exact spec_l04Closed.mono _ _ _ _
   | exact spec_l04Parts.mono _ _ _ _
   | exact LeO.none _
   | refine LeO.ite ?_ ?_
   | refine LeO.bind ?_ (fun _ => ?_)
  ·intro y0 y1 y2 y3
   unfold spec_ReachedWithout.l0
   repeat' first
   | (with_reducible exact ih0 _ _ _ _ _)
   | (with_reducible exact ih1 _ _ _ _)
   | (with_reducible exact spec_l04Closed.mono _ _ _ _)
   | (with_reducible exact spec_l04Parts.mono _ _ _ _)
   | (with_reducible exact LeO.refl _)
   | (with_reducible exact LeO.none _)
   | (with_reducible refine LeO.ite ?_ ?_)
   | (with_reducible refine LeO.bind ?_ (fun _ => ?_))
   | exact ih0 _ _ _ _ _
   | exact ih1 _ _ _ _
   | exact spec_l04Closed.mono _ _ _ _
   | exact spec_l04Parts.mono _ _ _ _
   | exact LeO.none _
   | refine LeO.ite ?_ ?_
   | refine LeO.bind ?_ (fun _ => ?_)
theorem spec_ReachedWithout.mono : ∀ a0 a1 a2 a3 k, LeO (spec_ReachedWithout.f k a0 a1 a2 a3) (spec_ReachedWithout.f (k + 1) a0 a1 a2 a3) := by
 intro a0 a1 a2 a3 k
 obtain ⟨ih0, ih1⟩ := spec_ReachedWithout.mono_l k
 unfold spec_ReachedWithout.f
 repeat' first
   | (with_reducible exact ih0 _ _ _ _ _)
   | (with_reducible exact ih1 _ _ _ _)
   | (with_reducible exact spec_l04Closed.mono _ _ _ _)
   | (with_reducible exact spec_l04Parts.mono _ _ _ _)
   | (with_reducible exact LeO.refl _)
   | (with_reducible exact LeO.none _)
   | (with_reducible refine LeO.ite ?_ ?_)
   | (with_reducible refine LeO.bind ?_ (fun _ => ?_))
   | exact ih0 _ _ _ _ _
   | exact ih1 _ _ _ _
   | exact spec_l04Closed.mono _ _ _ _
   | exact spec_l04Parts.mono _ _ _ _
   | exact LeO.none _
   | refine LeO.ite ?_ ?_
   | refine LeO.bind ?_ (fun _ => ?_)
set_option maxHeartbeats 8000000 in
set_option maxRecDepth 100000 in
theorem spec_ReachedWithout.calls (k : Nat) (A0_0 : Option Addr) (c0_0 : Nat) (l0_0 : List Int) (A0_1 : Option Addr) (c0_1 : Nat) (l0_1 : List (S60)) (a1 : Int) (A2 : Option Addr) (c2 : Nat) (l2 : List Int) (r1 : List Int) (r2 : Int) (w : World) (hr0_0 : Kd.C (Kd.int .i64) w A0_0 l0_0.length l0_0) (hc0_0 : l0_0.length ≤ c0_0) (hr0_1 : Kd.C k60 w A0_1 l0_1.length l0_1) (hc0_1 : l0_1.length ≤ c0_1) (hr2 : Kd.C (Kd.int .i64) w A2 l2.length l2) (hc2 : l2.length ≤ c2) (h : spec_ReachedWithout.f k l0_0 l0_1 a1 l2 = some (r1, r2)) :
  Calls Try.prog 31 #[.agg #[.slice A0_0 l0_0.length c0_0, .slice A0_1 l0_1.length c0_1], .int .i64 a1, .slice A2 l2.length c2] w fun e w' => ∃ v0_ : Value, e = .returned (.tuple #[v0_, .int .i64 r2]) ∧ Kd.R (Kd.int .i64) 2 w' w.heap.size (fun _ => True) v0_ r1 ∧ Below w.heap.size w w' := by
 have hu31 := Try.underlying31
 have HR0_0 := Aside0.mk hr0_0
 have HC0_0 := Aside0.mk hc0_0
 clear hr0_0 hc0_0
 have HR0_1 := Aside0.mk hr0_1
 have HC0_1 := Aside0.mk hc0_1
 clear hr0_1 hc0_1
 have HR2 := Aside0.mk hr2
 have HC2 := Aside0.mk hc2
 clear hr2 hc2
 have HB := Aside0.mk (Below.refl w.heap.size w)
 have H : ((spec_l04Ok_.f l0_0 l0_1).bind fun t197 => (if t197 = true then ((spec_l04Node_.f l0_0 l0_1 a1).bind fun t198 => (if t198 = true then ((spec_l04Closed.f k l0_0 l0_1 l2).bind fun t199 => (spec_ReachedWithout.j0 k a1 l2 (!t199) l0_0 l0_1)) else (spec_ReachedWithout.j0 k a1 l2 true l0_0 l0_1))) else (some (([] : List Int), 1)))) = some (r1, r2) := h
 clear h
 replace H := Option.bind_eq_some_iff.mp H
 obtain ⟨t197, A40, H⟩ := H
 replace H : (if t197 = true then ((spec_l04Node_.f l0_0 l0_1 a1).bind fun t198 => (if t198 = true then ((spec_l04Closed.f k l0_0 l0_1 l2).bind fun t199 => (spec_ReachedWithout.j0 k a1 l2 (!t199) l0_0 l0_1)) else (spec_ReachedWithout.j0 k a1 l2 true l0_0 l0_1))) else (some (([] : List Int), 1))) = some (r1, r2) := H
 have A4 := Aside0.mk A40
 clear A40
 by_cases c5 : t197 = true
 ·subst c5
  have H1 : ((spec_l04Node_.f l0_0 l0_1 a1).bind fun t198 => (if t198 = true then ((spec_l04Closed.f k l0_0 l0_1 l2).bind fun t199 => (spec_ReachedWithout.j0 k a1 l2 (!t199) l0_0 l0_1)) else (spec_ReachedWithout.j0 k a1 l2 true l0_0 l0_1))) = some (r1, r2) := by rw [if_pos rfl] at H; exact H
  clear H
  have H := H1
  clear H1
  have HC6 := Aside0.mk H
  clear H
  go_enter Try.func31, Try.ntmps31
  iterate 2 ((try go_quiet (first | (go_at_call 46; (with_reducible refine (spec_l04Ok_.calls gb196 A0_0 c0_0 l0_0 A0_1 c0_1 l0_1 true _ ?side1 ?side2 ?side3 ?side4 ?side5 A4.out).mono ?_); (case side1 => exact (by (with_reducible repeat (first | refine bN ?_ _|refine bW ?_|refine bA ?_ _)); exact BK196.out)); (case side2 => repeat (first | exact (Kd.C_below HR0_0.out HB.out) | (with_reducible first|refine Kd.C_alloc ?_ _|refine Kd.C_drewN ?_ _|refine Kd.C_drew ?_))); (case side3 => exact HC0_0.out); (case side4 => repeat (first | exact (Kd.C_below HR0_1.out HB.out) | (with_reducible first|refine Kd.C_alloc ?_ _|refine Kd.C_drewN ?_ _|refine Kd.C_drew ?_))); (case side5 => exact HC0_1.out); rintro e w' ⟨rfl, ⟨nd, rfl⟩⟩; (try first | exact ⟨rfl, _, World.drewN_drewN _ _ _⟩ | exact ⟨rfl, _, Eq.trans (World.drewN_drewN _ _ _) (congrArg (World.drewN _) (Nat.add_assoc _ _ _))⟩)))); (try go_upto_region 3 with (first | ((with_reducible refine gate_dst (N := 3) rfl ?_); refine box_event ?hg (N := 3) ?hd (cs := #[.slice A0_0 l0_0.length c0_0, .slice A0_1 l0_1.length c0_1]) (t := 31) ?hr ?_; (case hd => rfl); (case hg => rfl); (case hr => first | (go_simp; done) | (go_simp; rfl)); intro gb196 hg w7 hbox hb; have n0_ := Aside0.mk (below_step (by repeat (first | (with_reducible first | exact HB.out|apply wA|apply wN|apply wD) | exact HB.out)) hb); have n1_ := Aside0.mk (hbox); have n2_ := Aside0.mk ((by rw [hg]; exact (below_size (by repeat (first | (with_reducible first | exact HB.out|apply wA|apply wN|apply wD) | exact HB.out))) : w.heap.size ≤ gb196)); have n3_ := Aside0.mk ((by rw [hg]; exact (below_size (by repeat (first | (with_reducible first | exact HB.out|apply wA|apply wN|apply wD) | exact HB.out))) : w.heap.size ≤ gb196)); clear HB; have HB := n0_; have BK196 := n1_; have GW196 := n2_; have GE196 := n3_; clear n0_ n1_ n2_ n3_; clear hb hbox hg) | (go_at_call 46; (with_reducible refine (spec_l04Ok_.calls gb196 A0_0 c0_0 l0_0 A0_1 c0_1 l0_1 true _ ?side1 ?side2 ?side3 ?side4 ?side5 A4.out).mono ?_); (case side1 => exact (by (with_reducible repeat (first | refine bN ?_ _|refine bW ?_|refine bA ?_ _)); exact BK196.out)); (case side2 => repeat (first | exact (Kd.C_below HR0_0.out HB.out) | (with_reducible first|refine Kd.C_alloc ?_ _|refine Kd.C_drewN ?_ _|refine Kd.C_drew ?_))); (case side3 => exact HC0_0.out); (case side4 => repeat (first | exact (Kd.C_below HR0_1.out HB.out) | (with_reducible first|refine Kd.C_alloc ?_ _|refine Kd.C_drewN ?_ _|refine Kd.C_drew ?_))); (case side5 => exact HC0_1.out); rintro e w' ⟨rfl, ⟨nd, rfl⟩⟩; (try first | exact ⟨rfl, _, World.drewN_drewN _ _ _⟩ | exact ⟨rfl, _, Eq.trans (World.drewN_drewN _ _ _) (congrArg (World.drewN _) (Nat.add_assoc _ _ _))⟩)))))
  (try simp only [Act.put, List.setIfInBounds_toArray, List.set_cons_zero, List.set_cons_succ])
  go_cut [20] (fun v20 wc => ∃ (kq : Nat) (x20_5 : Bool), v20 = .bool x20_5 ∧ Aside0 (spec_ReachedWithout.j0 kq a1 l2 x20_5 l0_0 l0_1 = some (r1, r2)) ∧ Aside0 (kq ≤ k) ∧ Aside0 (wc.heap[gb196]? = some (.cells #[(.slice A0_0 l0_0.length c0_0), (.slice A0_1 l0_1.length c0_1)] 31 (0, 0))) ∧ Aside0 (Below w.heap.size w wc))
  case first =>
   have H := HC6.out
   clear HC6
   replace H := Option.bind_eq_some_iff.mp H
   obtain ⟨t198, A80, H⟩ := H
   replace H : (if t198 = true then ((spec_l04Closed.f k l0_0 l0_1 l2).bind fun t199 => (spec_ReachedWithout.j0 k a1 l2 (!t199) l0_0 l0_1)) else (spec_ReachedWithout.j0 k a1 l2 true l0_0 l0_1)) = some (r1, r2) := H
   have A8 := Aside0.mk A80
   clear A80
   by_cases c9 : t198 = true
   ·subst c9
    have H1 : ((spec_l04Closed.f k l0_0 l0_1 l2).bind fun t199 => (spec_ReachedWithout.j0 k a1 l2 (!t199) l0_0 l0_1)) = some (r1, r2) := by rw [if_pos rfl] at H; exact H
    clear H
    have H := H1
    clear H1
    replace H := Option.bind_eq_some_iff.mp H
    obtain ⟨t199, A100, H⟩ := H
    replace H : (spec_ReachedWithout.j0 k a1 l2 (!t199) l0_0 l0_1) = some (r1, r2) := H
    have A10 := Aside0.mk A100
    clear A100
    have H' := Aside0.mk H
    clear H
    iterate 2 ((try go_quiet (first | (go_at_call 47; (with_reducible refine (spec_l04Node_.calls gb196 A0_0 c0_0 l0_0 A0_1 c0_1 l0_1 a1 true _ ?side1 ?side2 ?side3 ?side4 ?side5 A8.out).mono ?_); (case side1 => exact (by (with_reducible repeat (first | refine bN ?_ _|refine bW ?_|refine bA ?_ _)); exact BK196.out)); (case side2 => repeat (first | exact (Kd.C_below HR0_0.out HB.out) | (with_reducible first|refine Kd.C_alloc ?_ _|refine Kd.C_drewN ?_ _|refine Kd.C_drew ?_))); (case side3 => exact HC0_0.out); (case side4 => repeat (first | exact (Kd.C_below HR0_1.out HB.out) | (with_reducible first|refine Kd.C_alloc ?_ _|refine Kd.C_drewN ?_ _|refine Kd.C_drew ?_))); (case side5 => exact HC0_1.out); rintro e w' ⟨rfl, ⟨nd, rfl⟩⟩; (try first | exact ⟨rfl, _, World.drewN_drewN _ _ _⟩ | exact ⟨rfl, _, Eq.trans (World.drewN_drewN _ _ _) (congrArg (World.drewN _) (Nat.add_assoc _ _ _))⟩)) | (go_at_call 63; (with_reducible refine (spec_l04Closed.calls k gb196 A0_0 c0_0 l0_0 A0_1 c0_1 l0_1 _ _ l2 t199 _ ?side1 ?side2 ?side3 ?side4 ?side5 ?side6 ?side7 A10.out).mono ?_); (case side1 => exact (by (with_reducible repeat (first | refine bN ?_ _|refine bW ?_|refine bA ?_ _)); exact BK196.out)); (case side2 => repeat (first | exact (Kd.C_below HR0_0.out (by repeat (first | (with_reducible first | exact HB.out|apply wA|apply wN|apply wD |refine wS ?_ GE196.out) | exact HB.out))) | (with_reducible first|refine Kd.C_alloc ?_ _|refine Kd.C_drewN ?_ _|refine Kd.C_drew ?_))); (case side3 => exact HC0_0.out); (case side4 => repeat (first | exact (Kd.C_below HR0_1.out (by repeat (first | (with_reducible first | exact HB.out|apply wA|apply wN|apply wD |refine wS ?_ GE196.out) | exact HB.out))) | (with_reducible first|refine Kd.C_alloc ?_ _|refine Kd.C_drewN ?_ _|refine Kd.C_drew ?_))); (case side5 => exact HC0_1.out); (case side6 => repeat (first | exact (Kd.C_below HR2.out (by repeat (first | (with_reducible first | exact HB.out|apply wA|apply wN|apply wD |refine wS ?_ GE196.out) | exact HB.out))) | (with_reducible first|refine Kd.C_alloc ?_ _|refine Kd.C_drewN ?_ _|refine Kd.C_drew ?_))); (case side7 => exact HC2.out); rintro e w' ⟨rfl, ⟨nd, rfl⟩⟩; (try first | exact ⟨rfl, _, World.drewN_drewN _ _ _⟩ | exact ⟨rfl, _, Eq.trans (World.drewN_drewN _ _ _) (congrArg (World.drewN _) (Nat.add_assoc _ _ _))⟩)))); (try go_wp2_with (first | (go_at_call 47; (with_reducible refine (spec_l04Node_.calls gb196 A0_0 c0_0 l0_0 A0_1 c0_1 l0_1 a1 true _ ?side1 ?side2 ?side3 ?side4 ?side5 A8.out).mono ?_); (case side1 => exact (by (with_reducible repeat (first | refine bN ?_ _|refine bW ?_|refine bA ?_ _)); exact BK196.out)); (case side2 => repeat (first | exact (Kd.C_below HR0_0.out HB.out) | (with_reducible first|refine Kd.C_alloc ?_ _|refine Kd.C_drewN ?_ _|refine Kd.C_drew ?_))); (case side3 => exact HC0_0.out); (case side4 => repeat (first | exact (Kd.C_below HR0_1.out HB.out) | (with_reducible first|refine Kd.C_alloc ?_ _|refine Kd.C_drewN ?_ _|refine Kd.C_drew ?_))); (case side5 => exact HC0_1.out); rintro e w' ⟨rfl, ⟨nd, rfl⟩⟩; (try first | exact ⟨rfl, _, World.drewN_drewN _ _ _⟩ | exact ⟨rfl, _, Eq.trans (World.drewN_drewN _ _ _) (congrArg (World.drewN _) (Nat.add_assoc _ _ _))⟩)) | (go_at_call 63; (with_reducible refine (spec_l04Closed.calls k gb196 A0_0 c0_0 l0_0 A0_1 c0_1 l0_1 _ _ l2 t199 _ ?side1 ?side2 ?side3 ?side4 ?side5 ?side6 ?side7 A10.out).mono ?_); (case side1 => exact (by (with_reducible repeat (first | refine bN ?_ _|refine bW ?_|refine bA ?_ _)); exact BK196.out)); (case side2 => repeat (first | exact (Kd.C_below HR0_0.out (by repeat (first | (with_reducible first | exact HB.out|apply wA|apply wN|apply wD |refine wS ?_ GE196.out) | exact HB.out))) | (with_reducible first|refine Kd.C_alloc ?_ _|refine Kd.C_drewN ?_ _|refine Kd.C_drew ?_))); (case side3 => exact HC0_0.out); (case side4 => repeat (first | exact (Kd.C_below HR0_1.out (by repeat (first | (with_reducible first | exact HB.out|apply wA|apply wN|apply wD |refine wS ?_ GE196.out) | exact HB.out))) | (with_reducible first|refine Kd.C_alloc ?_ _|refine Kd.C_drewN ?_ _|refine Kd.C_drew ?_))); (case side5 => exact HC0_1.out); (case side6 => repeat (first | exact (Kd.C_below HR2.out (by repeat (first | (with_reducible first | exact HB.out|apply wA|apply wN|apply wD |refine wS ?_ GE196.out) | exact HB.out))) | (with_reducible first|refine Kd.C_alloc ?_ _|refine Kd.C_drewN ?_ _|refine Kd.C_drew ?_))); (case side7 => exact HC2.out); rintro e w' ⟨rfl, ⟨nd, rfl⟩⟩; (try first | exact ⟨rfl, _, World.drewN_drewN _ _ _⟩ | exact ⟨rfl, _, Eq.trans (World.drewN_drewN _ _ _) (congrArg (World.drewN _) (Nat.add_assoc _ _ _))⟩)))))
    go_meet
    case rel => exact ⟨_, (!t199), (by first | rfl | (simp; done) | (simp [*]; done)), H', ⟨by first | omega | exact Nat.le_refl _⟩, ⟨by (with_reducible repeat (first | refine bN ?_ _|refine bW ?_|refine bA ?_ _)); exact BK196.out⟩, ⟨by repeat (first | (with_reducible first | exact HB.out|apply wA|apply wN|apply wD |refine wS ?_ GE196.out) | exact HB.out)⟩⟩
   ·replace c9 := Bool.eq_false_iff.mpr c9
    subst c9
    have H1 : (spec_ReachedWithout.j0 k a1 l2 true l0_0 l0_1) = some (r1, r2) := by rw [if_neg (show ¬ (false = true) by decide)] at H; exact H
    clear H
    have H := H1
    clear H1
    have H' := Aside0.mk H
    clear H
    iterate 2 ((try go_quiet (first | (go_at_call 47; (with_reducible refine (spec_l04Node_.calls gb196 A0_0 c0_0 l0_0 A0_1 c0_1 l0_1 a1 false _ ?side1 ?side2 ?side3 ?side4 ?side5 A8.out).mono ?_); (case side1 => exact (by (with_reducible repeat (first | refine bN ?_ _|refine bW ?_|refine bA ?_ _)); exact BK196.out)); (case side2 => repeat (first | exact (Kd.C_below HR0_0.out HB.out) | (with_reducible first|refine Kd.C_alloc ?_ _|refine Kd.C_drewN ?_ _|refine Kd.C_drew ?_))); (case side3 => exact HC0_0.out); (case side4 => repeat (first | exact (Kd.C_below HR0_1.out HB.out) | (with_reducible first|refine Kd.C_alloc ?_ _|refine Kd.C_drewN ?_ _|refine Kd.C_drew ?_))); (case side5 => exact HC0_1.out); rintro e w' ⟨rfl, ⟨nd, rfl⟩⟩; (try first | exact ⟨rfl, _, World.drewN_drewN _ _ _⟩ | exact ⟨rfl, _, Eq.trans (World.drewN_drewN _ _ _) (congrArg (World.drewN _) (Nat.add_assoc _ _ _))⟩)))); (try go_wp2_with (first | (go_at_call 47; (with_reducible refine (spec_l04Node_.calls gb196 A0_0 c0_0 l0_0 A0_1 c0_1 l0_1 a1 false _ ?side1 ?side2 ?side3 ?side4 ?side5 A8.out).mono ?_); (case side1 => exact (by (with_reducible repeat (first | refine bN ?_ _|refine bW ?_|refine bA ?_ _)); exact BK196.out)); (case side2 => repeat (first | exact (Kd.C_below HR0_0.out HB.out) | (with_reducible first|refine Kd.C_alloc ?_ _|refine Kd.C_drewN ?_ _|refine Kd.C_drew ?_))); (case side3 => exact HC0_0.out); (case side4 => repeat (first | exact (Kd.C_below HR0_1.out HB.out) | (with_reducible first|refine Kd.C_alloc ?_ _|refine Kd.C_drewN ?_ _|refine Kd.C_drew ?_))); (case side5 => exact HC0_1.out); rintro e w' ⟨rfl, ⟨nd, rfl⟩⟩; (try first | exact ⟨rfl, _, World.drewN_drewN _ _ _⟩ | exact ⟨rfl, _, Eq.trans (World.drewN_drewN _ _ _) (congrArg (World.drewN _) (Nat.add_assoc _ _ _))⟩)))))
    go_meet
    case rel => exact ⟨_, (true), (by first | rfl | (simp; done) | (simp [*]; done)), H', ⟨by first | omega | exact Nat.le_refl _⟩, ⟨by (with_reducible repeat (first | refine bN ?_ _|refine bW ?_|refine bA ?_ _)); exact BK196.out⟩, ⟨by repeat (first | (with_reducible first | exact HB.out|apply wA|apply wN|apply wD |refine wS ?_ GE196.out) | exact HB.out)⟩⟩
  case rest =>
   clear HC6
   try clear c2
   try clear p2
   try clear c3
   try clear c5
   try clear c9
   obtain ⟨kq, x20_5, rfl, HA, HJ5, BK196, HB⟩ := hcut
   cases kq with
   | zero => exact absurd HA.out (by simp [spec_ReachedWithout.j0])
   | succ kj5 =>
    have H := HA.out
    clear HA
    simp only [spec_ReachedWithout.j0] at H
    by_cases c11 : x20_5 = true
    ·subst c11
     have H1 : (some (([] : List Int), 2)) = some (r1, r2) := by rw [if_pos rfl] at H; exact H
     clear H
     have H := H1
     clear H1
     simp only [Option.some.injEq, Prod.mk.injEq] at H
     obtain ⟨rfl, rfl⟩ := H
     go_wp2
     repeat (go_quiet (fail); try go_wp2)
     go_ret2
     exact ⟨_, by first | rfl | (simp [errW_none, errW_some] <;> rfl) | (simp [*, errW_none, errW_some] <;> rfl), by first | exact Kd.R_nil _ _ _ _ _ | exact Kd.N_nil _ _ _ _ _ | exact Kd.V_nil _ _ _ _ _ | exact Kd.Q_nil _ _ _ _ _ | exact Kd.S_nil _ _ _ _ _, by repeat (first | (with_reducible first | exact HB.out|apply wA|apply wN|apply wD |refine wS ?_ GE196.out) | exact HB.out)⟩
    ·replace c11 := Bool.eq_false_iff.mpr c11
     subst c11
     have H1 : ((spec_l04Parts.f kj5 l0_0 l0_1 l2).bind fun t200 => (spec_ReachedWithout.l0 kj5 a1 t200 (([] : List Int)) 0)) = some (r1, r2) := by rw [if_neg (show ¬ (false = true) by decide)] at H; exact H
     clear H
     have H := H1
     clear H1
     replace H := Option.bind_eq_some_iff.mp H
     obtain ⟨t200, A120, H⟩ := H
     replace H : (spec_ReachedWithout.l0 kj5 a1 t200 (([] : List Int)) 0) = some (r1, r2) := H
     have A12 := Aside0.mk A120
     clear A120
     obtain ⟨y203, hy203⟩ : ∃ y_ : List Int, y_ = (([] : List Int)) := ⟨_, rfl⟩
     replace H : (spec_ReachedWithout.l0 kj5 a1 t200 y203 0) = some (r1, r2) := by first | (rw [hy203]; with_reducible exact H) | (have H2_ := (Option.bind_some _ _).symm.trans H; rw [hy203]; with_reducible exact H2_) | (have H2_ := (Option.bind_some _ _).symm.trans H; with_reducible exact H2_) | with_reducible exact H | (rw [hy203]; exact H) | exact H
     have Ny203 := Aside0.mk hy203
     clear hy203
     have H' := Aside0.mk H
     clear H
     iterate 2 ((try go_quiet (fail)); (try go_wp2_with (first | (go_at_call 60; (with_reducible refine (spec_l04Parts.calls kj5 gb196 A0_0 c0_0 l0_0 A0_1 c0_1 l0_1 _ _ l2 t200 _ ?side1 ?side2 ?side3 ?side4 ?side5 ?side6 ?side7 A12.out).mono ?_); (case side1 => exact (by (with_reducible repeat (first | refine bN ?_ _|refine bW ?_|refine bA ?_ _)); exact BK196.out)); (case side2 => repeat (first | exact (Kd.C_below HR0_0.out HB.out) | (with_reducible first|refine Kd.C_alloc ?_ _|refine Kd.C_drewN ?_ _|refine Kd.C_drew ?_))); (case side3 => exact HC0_0.out); (case side4 => repeat (first | exact (Kd.C_below HR0_1.out HB.out) | (with_reducible first|refine Kd.C_alloc ?_ _|refine Kd.C_drewN ?_ _|refine Kd.C_drew ?_))); (case side5 => exact HC0_1.out); (case side6 => repeat (first | exact (Kd.C_below HR2.out HB.out) | (with_reducible first|refine Kd.C_alloc ?_ _|refine Kd.C_drewN ?_ _|refine Kd.C_drew ?_))); (case side7 => exact HC2.out); rintro e w13 ⟨v201, rfl, ho0, hb⟩; have n0_ := Aside0.mk (Kd.R_lower ho0 (below_size (by repeat (first | (with_reducible first | exact HB.out|apply wA|apply wN|apply wD |refine wS ?_ GE196.out) | exact HB.out)))); have n1_ := Aside0.mk (blk_below (g := gb196) (o := .cells #[.slice A0_0 l0_0.length c0_0, .slice A0_1 l0_1.length c0_1] 31 (0, 0)) (by (with_reducible repeat (first | refine bN ?_ _|refine bW ?_|refine bA ?_ _)); exact BK196.out) hb); have n2_ := Aside0.mk (below_step (by repeat (first | (with_reducible first | exact HB.out|apply wA|apply wN|apply wD |refine wS ?_ GE196.out) | exact HB.out)) hb); clear BK196; clear HB; have HO202 := n0_; have BK196 := n1_; have HB := n2_; clear n0_ n1_ n2_; (try clear hb); (try clear hb2); (try clear hk); (try clear hi); (try clear ho0)) | ((with_reducible refine gate_dst (N := 23) rfl ?_); refine Kd.R_lit (Kd.int .i64) _ 2 ?hg (N := 23) ?hd (xs := ([] : List Int)) (inner := []) (ok := fun _ => True) (okp := fun _ => True) ?hr ?hp (fun _ hk => hk) trivial (Below.refl _ _) (Nat.le_refl _) (by simp) ?_; (case hd => rfl); (case hg => rfl); (case hr => first | (go_simp; done) | (go_simp; rfl)); (case hp => exact (Reps.none _ _)); intro v204 w14 ho15 hb hg_ hnew_; clear hg_ hnew_; (first | rw [← Ny203.out] at ho15 | (simp only [Int.reduceToNat] at ho15; rw [← Ny203.out] at ho15)); have n0_ := Aside0.mk (Kd.R_elder' (by (with_reducible repeat (first | apply rA|apply rN|apply rW)); exact HO202.out) (Kd.R_base ho15) hb); have n1_ := Aside0.mk (Kd.R_lower (Kd.R_new' ho15 (Kd.R_lt (by (with_reducible repeat (first | apply rA|apply rN|apply rW)); exact HO202.out))) (below_size (by repeat (first | (with_reducible first | exact HB.out|apply wA|apply wN|apply wD |refine wS ?_ GE196.out) | exact HB.out)))); have n2_ := Aside0.mk (blk_below (g := gb196) (o := .cells #[.slice A0_0 l0_0.length c0_0, .slice A0_1 l0_1.length c0_1] 31 (0, 0)) (by (with_reducible repeat (first | refine bN ?_ _|refine bW ?_|refine bA ?_ _)); exact BK196.out) hb); have n3_ := Aside0.mk (below_step (by repeat (first | (with_reducible first | exact HB.out|apply wA|apply wN|apply wD |refine wS ?_ GE196.out) | exact HB.out)) hb); clear HO202; clear BK196; clear HB; have HO202 := n0_; have HO205 := n1_; have BK196 := n2_; have HB := n3_; clear n0_ n1_ n2_ n3_; clear hb ho15))))
     go_loopg [9, 10] kj5 (fun kq v9 v10 w' => ∃ (x9_2 : List Int) (x10_2 : Int), v10 = .int .i64 x10_2 ∧ Aside0 (spec_ReachedWithout.l0 kq a1 t200 x9_2 x10_2 = some (r1, r2)) ∧ Aside0 (kq ≤ kj5) ∧ Aside0 (Kd.R (Kd.int .i64) 2 w' w.heap.size (fun k_ => some k_ ≠ (v9 : Value).ownBlock) v201 t200) ∧ Aside0 (Kd.R (Kd.int .i64) 2 w' w.heap.size (fun k_ => some k_ ≠ (v201 : Value).ownBlock) v9 x9_2) ∧ Aside0 (w'.heap[gb196]? = some (.cells #[(.slice A0_0 l0_0.length c0_0), (.slice A0_1 l0_1.length c0_1)] 31 (0, 0))) ∧ Aside0 (Below w.heap.size w w'))
     case atStart => exact ⟨(y203), (0), (by first | rfl | (simp; done) | (simp [*]; done)), H', ⟨Nat.le_refl _⟩, ⟨by (with_reducible repeat (first | apply rA|apply rN|apply rW)); exact Kd.R_mono HO202.out (fun _ hk => hk.2)⟩, ⟨by (with_reducible repeat (first | apply rA|apply rN|apply rW)); exact Kd.R_mono HO205.out (fun _ hk => hk.2)⟩, ⟨by (with_reducible repeat (first | refine bN ?_ _|refine bW ?_|refine bA ?_ _)); exact BK196.out⟩, ⟨by repeat (first | (with_reducible first | exact HB.out|apply wA|apply wN|apply wD |refine wS ?_ GE196.out) | exact HB.out)⟩⟩
     case round =>
      clear H'
      try clear c1
      try clear c2
      try clear p2
      try clear c3
      try clear c5
      try clear c9
      try clear c11
      try clear p2
      obtain ⟨x9_2, x10_2, rfl, HA, HK2, HO_8, HO_9, BK196, HB⟩ := hrel
      cases gk with
      | zero => exact absurd HA.out (by simp [spec_ReachedWithout.l0])
      | succ k2 =>
       have H := HA.out
       clear HA
       simp only [spec_ReachedWithout.l0] at H
       by_cases c16 : x10_2 < (t200.length : Int)
       ·rw [if_pos c16] at H
        have c16b0 : decide (x10_2 < (t200.length : Int)) = true := decide_eq_true c16
        clear c16
        by_cases c17 : 0 ≤ x10_2
        ·rw [if_pos c17] at H
         have c17b0 : decide (0 ≤ x10_2) = true := decide_eq_true c17
         clear c17
         by_cases c18 : 0 ≤ a1
         ·rw [if_pos c18] at H
          have c18b0 : decide (0 ≤ a1) = true := decide_eq_true c18
          clear c18
          by_cases c19 : a1 < (t200.length : Int)
          ·rw [if_pos c19] at H
           have c19b0 : decide (a1 < (t200.length : Int)) = true := decide_eq_true c19
           clear c19
           by_cases c20 : (rd t200 x10_2) = (rd t200 a1)
           ·rw [if_pos c20] at H
            have c20b0 : ((rd t200 x10_2) == (rd t200 a1)) = true := beq_iff_eq.mpr c20
            have c20b1 : ((rd t200 x10_2) != (rd t200 a1)) = false := bne_eq_false_iff_eq.mpr c20
            clear c20
            by_cases c21 : x9_2.length < 17592186044416
            ·rw [if_pos c21] at H
             have LMc21 := Aside0.mk c21
             clear c21
             obtain ⟨y208, hy208⟩ : ∃ y_ : List Int, y_ = (x9_2 ++ [x10_2]) := ⟨_, rfl⟩
             replace H : (spec_ReachedWithout.l0 k2 a1 t200 y208 (wrap64 (x10_2 + 1))) = some (r1, r2) := by first | (rw [hy208]; with_reducible exact H) | (have H2_ := (Option.bind_some _ _).symm.trans H; rw [hy208]; with_reducible exact H2_) | (have H2_ := (Option.bind_some _ _).symm.trans H; with_reducible exact H2_) | with_reducible exact H | (rw [hy208]; exact H) | exact H
             have Ny208 := Aside0.mk hy208
             clear hy208
             have H' := Aside0.mk H
             clear H
             obtain ⟨Ao22, co22, eo22⟩ := Kd.R_slice HO_8.out
             subst eo22
             have p206 : 0 ≤ (x10_2 : Int) := of_decide_eq_true (by first | (with_reducible assumption) | assumption)
             have q206 : x10_2 < (t200.length : Int) := of_decide_eq_true (by first | (with_reducible assumption) | assumption)
             obtain ⟨ad206, e206, hx206_0⟩ := Kd.at_int (Kd.R_reads' HO_8.out).2.2 x10_2 p206 q206
             cases e206
             replace p206 := eq_true p206
             replace q206 := eq_true q206
             have p207 : 0 ≤ (a1 : Int) := of_decide_eq_true (by first | (with_reducible assumption) | assumption)
             have q207 : a1 < (t200.length : Int) := of_decide_eq_true (by first | (with_reducible assumption) | assumption)
             obtain ⟨ad207, e207, hx207_0⟩ := Kd.at_int (Kd.R_reads' HO_8.out).2.2 a1 p207 q207
             obtain rfl : ad206 = ad207 := (by injection e207)
             replace p207 := eq_true p207
             replace q207 := eq_true q207
             iterate 2 ((try go_quiet (fail)); (try go_wp2_with (first | ((with_reducible refine gate_builtin (b := .append) (xs := #[.tmp 39, .tmp 41]) rfl ?_); at_builtin; refine Kd.R_append (Kd.int .i64) (w0 := w) w.heap.size rfl (.tmp 39) (.tmp 41) 22 2 (.int .i64 0) 8 rfl Try.underlying22 info2 rfl (by decide) (by omega) u9 x9_2 x10_2 [.int .i64 x10_2] (fun k_ => some k_ ≠ (.slice (some ad206) t200.length co22 : Value).ownBlock) (fun _ => False) rfl rfl ?aP (fun _ hk => hk.elim) ?aF ?aO ?aB ?aS ?aL ?_; (case aP => exact rfl); (case aB => exact (by repeat (first | (with_reducible first | exact HB.out|apply wA|apply wN|apply wD |refine wS ?_ GE196.out) | exact HB.out))); (case aF => exact (fun k_ hk => Kd.fresh' (Kd.R_lt (by (with_reducible repeat (first | apply rA|apply rN|apply rW)); exact HO_8.out)) k_ hk)); (case aO => exact (by (with_reducible repeat (first | apply rA|apply rN|apply rW)); exact HO_9.out)); (case aS => exact (below_size (by repeat (first | (with_reducible first | exact HB.out|apply wA|apply wN|apply wD |refine wS ?_ GE196.out) | exact HB.out)))); (case aL => have := LMc21.out; omega); intro v209 w23 ho hb hg hat; rw [← Ny208.out] at ho; have n0_ := Aside0.mk (Kd.R_after (ok := (fun _ => True)) (by (with_reducible repeat (first | apply rA|apply rN|apply rW)); exact Kd.R_mono HO_8.out (fun _ hk => ⟨trivial, hk⟩)) hg hat); have n1_ := Aside0.mk (blk_grown (g := gb196) (o := .cells #[.slice A0_0 l0_0.length c0_0, .slice A0_1 l0_1.length c0_1] 31 (0, 0)) (by (with_reducible repeat (first | refine bN ?_ _|refine bW ?_|refine bA ?_ _)); exact BK196.out) hg (Kd.R_ne HO_9.out BK196.out (by decide))); have n2_ := Aside0.mk (hb); have n3_ := Aside0.mk (ho); clear HO_8; clear BK196; clear HB; clear HO_9; have HO_8 := n0_; have BK196 := n1_; have HB := n2_; have HO210 := n3_; clear n0_ n1_ n2_ n3_; clear ho hb hg hat))))
             go_roundg k2
             case measure => have := HJ5.out; have := HK2.out; omega
             case rel => exact ⟨(y208), (wrap64 (x10_2 + 1)), (by first | rfl | (simp; done) | (simp [*]; done)), H', ⟨by have := HJ5.out; have := HK2.out; omega⟩, ⟨by (with_reducible repeat (first | apply rA|apply rN|apply rW)); exact Kd.R_mono HO_8.out (fun _ hk => hk.2)⟩, ⟨by (with_reducible repeat (first | apply rA|apply rN|apply rW)); exact HO210.out⟩, ⟨by (with_reducible repeat (first | refine bN ?_ _|refine bW ?_|refine bA ?_ _)); exact BK196.out⟩, ⟨by repeat (first | (with_reducible first | exact HB.out|apply wA|apply wN|apply wD |refine wS ?_ GE196.out) | exact HB.out)⟩⟩
            ·rw [if_neg c21] at H
             exact absurd H (by simp)
           ·rw [if_neg c20] at H
            have c20b0 : ((rd t200 x10_2) == (rd t200 a1)) = false := beq_eq_false_iff_ne.mpr c20
            have c20b1 : ((rd t200 x10_2) != (rd t200 a1)) = true := bne_iff_ne.mpr c20
            have H' := Aside0.mk H
            clear H
            obtain ⟨Ao24, co24, eo24⟩ := Kd.R_slice HO_8.out
            subst eo24
            have p206 : 0 ≤ (x10_2 : Int) := of_decide_eq_true (by first | (with_reducible assumption) | assumption)
            have q206 : x10_2 < (t200.length : Int) := of_decide_eq_true (by first | (with_reducible assumption) | assumption)
            obtain ⟨ad206, e206, hx206_0⟩ := Kd.at_int (Kd.R_reads' HO_8.out).2.2 x10_2 p206 q206
            cases e206
            replace p206 := eq_true p206
            replace q206 := eq_true q206
            have p207 : 0 ≤ (a1 : Int) := of_decide_eq_true (by first | (with_reducible assumption) | assumption)
            have q207 : a1 < (t200.length : Int) := of_decide_eq_true (by first | (with_reducible assumption) | assumption)
            obtain ⟨ad207, e207, hx207_0⟩ := Kd.at_int (Kd.R_reads' HO_8.out).2.2 a1 p207 q207
            obtain rfl : ad206 = ad207 := (by injection e207)
            replace p207 := eq_true p207
            replace q207 := eq_true q207
            go_wp2
            repeat (go_quiet (fail); try go_wp2)
            go_roundg k2
            case measure => have := HJ5.out; have := HK2.out; omega
            case rel => exact ⟨(x9_2), (wrap64 (x10_2 + 1)), (by first | rfl | (simp; done) | (simp [*]; done)), H', ⟨by have := HJ5.out; have := HK2.out; omega⟩, ⟨by (with_reducible repeat (first | apply rA|apply rN|apply rW)); exact HO_8.out⟩, ⟨by (with_reducible repeat (first | apply rA|apply rN|apply rW)); exact HO_9.out⟩, ⟨by (with_reducible repeat (first | refine bN ?_ _|refine bW ?_|refine bA ?_ _)); exact BK196.out⟩, ⟨by repeat (first | (with_reducible first | exact HB.out|apply wA|apply wN|apply wD |refine wS ?_ GE196.out) | exact HB.out)⟩⟩
          ·rw [if_neg c19] at H
           exact absurd H (by simp)
         ·rw [if_neg c18] at H
          exact absurd H (by simp)
        ·rw [if_neg c17] at H
         exact absurd H (by simp)
       ·rw [if_neg c16] at H
        have c16b0 : decide (x10_2 < (t200.length : Int)) = false := decide_eq_false c16
        clear c16
        simp only [Option.some.injEq, Prod.mk.injEq] at H
        obtain ⟨rfl, rfl⟩ := H
        obtain ⟨Ao25, co25, eo25⟩ := Kd.R_slice HO_8.out
        subst eo25
        go_wp2
        repeat (go_quiet (fail); try go_wp2)
        go_ret2
        exact ⟨_, by first | rfl | (simp [errW_none, errW_some] <;> rfl) | (simp [*, errW_none, errW_some] <;> rfl), by (with_reducible repeat (first | apply rA|apply rN|apply rW)); exact Kd.R_mono HO_9.out (fun _ hk => trivial), by repeat (first | (with_reducible first | exact HB.out|apply wA|apply wN|apply wD |refine wS ?_ GE196.out) | exact HB.out)⟩
 ·replace c5 := Bool.eq_false_iff.mpr c5
  subst c5
  have H1 : (some (([] : List Int), 1)) = some (r1, r2) := by rw [if_neg (show ¬ (false = true) by decide)] at H; exact H
  clear H
  have H := H1
  clear H1
  simp only [Option.some.injEq, Prod.mk.injEq] at H
  obtain ⟨rfl, rfl⟩ := H
  go_enter Try.func31, Try.ntmps31
  iterate 2 ((try go_quiet (first | (go_at_call 46; (with_reducible refine (spec_l04Ok_.calls gb196 A0_0 c0_0 l0_0 A0_1 c0_1 l0_1 false _ ?side1 ?side2 ?side3 ?side4 ?side5 A4.out).mono ?_); (case side1 => exact (by (with_reducible repeat (first | refine bN ?_ _|refine bW ?_|refine bA ?_ _)); exact BK196.out)); (case side2 => repeat (first | exact (Kd.C_below HR0_0.out HB.out) | (with_reducible first|refine Kd.C_alloc ?_ _|refine Kd.C_drewN ?_ _|refine Kd.C_drew ?_))); (case side3 => exact HC0_0.out); (case side4 => repeat (first | exact (Kd.C_below HR0_1.out HB.out) | (with_reducible first|refine Kd.C_alloc ?_ _|refine Kd.C_drewN ?_ _|refine Kd.C_drew ?_))); (case side5 => exact HC0_1.out); rintro e w' ⟨rfl, ⟨nd, rfl⟩⟩; (try first | exact ⟨rfl, _, World.drewN_drewN _ _ _⟩ | exact ⟨rfl, _, Eq.trans (World.drewN_drewN _ _ _) (congrArg (World.drewN _) (Nat.add_assoc _ _ _))⟩)))); (try go_wp2_with (first | ((with_reducible refine gate_dst (N := 3) rfl ?_); refine box_event ?hg (N := 3) ?hd (cs := #[.slice A0_0 l0_0.length c0_0, .slice A0_1 l0_1.length c0_1]) (t := 31) ?hr ?_; (case hd => rfl); (case hg => rfl); (case hr => first | (go_simp; done) | (go_simp; rfl)); intro gb196 hg w26 hbox hb; have n0_ := Aside0.mk (below_step (by repeat (first | (with_reducible first | exact HB.out|apply wA|apply wN|apply wD) | exact HB.out)) hb); have n1_ := Aside0.mk (hbox); have n2_ := Aside0.mk ((by rw [hg]; exact (below_size (by repeat (first | (with_reducible first | exact HB.out|apply wA|apply wN|apply wD) | exact HB.out))) : w.heap.size ≤ gb196)); have n3_ := Aside0.mk ((by rw [hg]; exact (below_size (by repeat (first | (with_reducible first | exact HB.out|apply wA|apply wN|apply wD) | exact HB.out))) : w.heap.size ≤ gb196)); clear HB; have HB := n0_; have BK196 := n1_; have GW196 := n2_; have GE196 := n3_; clear n0_ n1_ n2_ n3_; clear hb hbox hg) | (go_at_call 46; (with_reducible refine (spec_l04Ok_.calls gb196 A0_0 c0_0 l0_0 A0_1 c0_1 l0_1 false _ ?side1 ?side2 ?side3 ?side4 ?side5 A4.out).mono ?_); (case side1 => exact (by (with_reducible repeat (first | refine bN ?_ _|refine bW ?_|refine bA ?_ _)); exact BK196.out)); (case side2 => repeat (first | exact (Kd.C_below HR0_0.out HB.out) | (with_reducible first|refine Kd.C_alloc ?_ _|refine Kd.C_drewN ?_ _|refine Kd.C_drew ?_))); (case side3 => exact HC0_0.out); (case side4 => repeat (first | exact (Kd.C_below HR0_1.out HB.out) | (with_reducible first|refine Kd.C_alloc ?_ _|refine Kd.C_drewN ?_ _|refine Kd.C_drew ?_))); (case side5 => exact HC0_1.out); rintro e w' ⟨rfl, ⟨nd, rfl⟩⟩; (try first | exact ⟨rfl, _, World.drewN_drewN _ _ _⟩ | exact ⟨rfl, _, Eq.trans (World.drewN_drewN _ _ _) (congrArg (World.drewN _) (Nat.add_assoc _ _ _))⟩)))))
  go_ret2
  exact ⟨_, by first | rfl | (simp [errW_none, errW_some] <;> rfl) | (simp [*, errW_none, errW_some] <;> rfl), by first | exact Kd.R_nil _ _ _ _ _ | exact Kd.N_nil _ _ _ _ _ | exact Kd.V_nil _ _ _ _ _ | exact Kd.Q_nil _ _ _ _ _ | exact Kd.S_nil _ _ _ _ _, by repeat (first | (with_reducible first | exact HB.out|apply wA|apply wN|apply wD |refine wS ?_ GE196.out) | exact HB.out)⟩

/-! ### impl_within: function 90 -/
def impl_within.f (a0 : Int) (a1 : Int) (a2 : Int) : Option (Bool) := if a0 ≥ a1 then (some (decide (a0 ≤ a2))) else (some false)
set_option maxHeartbeats 8000000 in
set_option maxRecDepth 100000 in
theorem impl_within.calls (a0 : Int) (a1 : Int) (a2 : Int) (r : Bool) (w : World) (h : impl_within.f a0 a1 a2 = some r) :
  Calls Try.prog 90 #[.int .i64 a0, .int .i64 a1, .int .i64 a2] w fun e w' => e = .returned (.bool r) ∧ Drawn0 w w' := by
 have H : (if a0 ≥ a1 then (some (decide (a0 ≤ a2))) else (some false)) = some r := h
 clear h
 by_cases c4 : a0 ≥ a1
 ·rw [if_pos c4] at H
  have c4b0 : decide (a1 ≤ a0) = true := decide_eq_true c4
  clear c4
  obtain rfl := Option.some.inj H
  go_enter Try.func90, Try.ntmps90
  go_wp2
  go_ret
  exact ⟨by first | rfl | (simp; done) | (simp [*]; done), by repeat (first | exact Drawn0.refl _ | apply Drawn0.step)⟩
 ·rw [if_neg c4] at H
  have c4b0 : decide (a1 ≤ a0) = false := decide_eq_false c4
  clear c4
  obtain rfl := Option.some.inj H
  go_enter Try.func90, Try.ntmps90
  go_wp2
  go_ret
  exact ⟨by first | rfl | (simp; done) | (simp [*]; done), by repeat (first | exact Drawn0.refl _ | apply Drawn0.step)⟩

open Go.Proofs.YtcgbagdpedpdpaaM
def impl_within_.f (a0 a1 a2 : Int) : Option Bool := some (decide (a1 ≤ a0 ∧ a0 ≤ a2))
theorem impl_within_.calls (a0 a1 a2 : Int) (r : Bool) (w : World) (h : impl_within_.f a0 a1 a2 = some r) :
    Calls Try.prog 90 #[.int .i64 a0, .int .i64 a1, .int .i64 a2] w fun e w' => e = .returned (.bool r) ∧ Drawn0 w w' :=
  impl_within.calls a0 a1 a2 r w ((in_both a0 a1 a2).trans h)


/-! ### slices_IndexFunc_int64_int64: function 126 -/
open Go.Proofs.YtcgbagdpedpdpaaM
/-- Where the first element with a property lies; -1. -/
def firstIdx (p : Int → Bool) (l : List Int) : Int := if l.any p = true then (l.findIdx p : Nat) else -1
theorem firstIdx_at (p : Int → Bool) (l : List Int) (k : Nat) (hk : k < l.length) (h0 : ∀ j, j < k → p (l.getD j 0) = false) (h1 : p (l.getD k 0) = true) : firstIdx p l = k := by
  have e : ∀ j (h : j < l.length), l.getD j 0 = l[j] := fun j h => by simp [List.getD_eq_getElem?_getD, List.getElem?_eq_getElem h]
  unfold firstIdx
  rw [if_pos (List.any_eq_true.2 ⟨l[k], List.getElem_mem hk, by rw [← e k hk]; exact h1⟩)]
  congr 1
  refine (List.findIdx_eq hk).2 ⟨by rw [← e k hk]; exact h1, fun j hj => ?_⟩
  have := h0 j hj
  rw [e j (by omega)] at this
  simpa using this
theorem firstIdx_none (p : Int → Bool) (l : List Int) (h0 : ∀ j, j < l.length → p (l.getD j 0) = false) : firstIdx p l = -1 := by
  unfold firstIdx
  rw [if_neg]
  intro h
  obtain ⟨x, hx, hp⟩ := List.any_eq_true.1 h
  obtain ⟨j, hj, rfl⟩ := List.getElem_of_mem hx
  have := h0 j hj
  rw [List.getD_eq_getElem?_getD, List.getElem?_eq_getElem hj] at this
  simp only [Option.getD_some] at this
  rw [this] at hp
  cases hp
set_option maxHeartbeats 4000000 in
set_option maxRecDepth 100000 in
theorem indexFunc_any (g : Nat) (cb : Array Value) (A : Option Addr) (c : Nat) (l : List Int) (p : Int → Bool) (w : World) (eg : Enters Try.prog g) (hr : Kd.C (Kd.int .i64) w A l.length l) (hl : l.length ≤ 4611686018427387904)
    (hf : ∀ (W : World) (j : Nat), Below w.heap.size w W → j < l.length → Calls Try.prog g (#[.int .i64 (l.getD j 0)] ++ cb) W fun e w' => e = .returned (.bool (p (l.getD j 0))) ∧ Below W.heap.size W w') :
    Calls Try.prog 126 #[.slice A l.length c, .func (.func g) #[] cb] w fun e w' => e = .returned (.int .i64 (firstIdx p l)) ∧ Below w.heap.size w w' := by
  have HR := Aside0.mk hr
  have HF := Aside0.mk hf
  clear hr hf
  have eg' : ∀ args w, (callFunc g args).run Try.prog w = .ok (.enter g args) w := eg
  clear eg
  obtain ⟨r, hr0⟩ : ∃ r, firstIdx p l = r := ⟨_, rfl⟩
  rw [hr0]
  have R := Aside0.mk hr0
  clear hr0
  go_enter Try.func126, Try.ntmps126
  go_wp2
  go_loopw [8, 5] (fun v _ wr => ∃ k : Nat, k ≤ l.length ∧ v = .int .i64 k ∧ Aside0 (Below w.heap.size w wr) ∧ Aside0 (∀ j, j < k → p (l.getD j 0) = false)) (fun v _ _ => l.length - (intOf v).toNat)
  case atStart => exact ⟨0, by omega, rfl, ⟨Below.refl _ _⟩, ⟨fun j hj => by omega⟩⟩
  case round =>
    obtain ⟨k, hk, rfl, HB, I⟩ := hrel
    by_cases hlt : k < l.length
    · have hc := HF.out wr k HB.out hlt
      have i0 : (0 : Int) ≤ (k : Int) := by omega
      have i1 : (k : Int) < (l.length : Int) := by omega
      obtain ⟨ad, ead, hx⟩ := Kd.at_int (Kd.C_below HR.out HB.out) (k : Int) i0 i1
      cases ead
      have ex : rd l (k : Int) = l.getD k 0 := by unfold rd; rw [Int.toNat_natCast]
      rw [ex, Int.toNat_natCast] at hx
      clear ex
      cases hp : p (l.getD k 0) <;> rw [hp] at hc
      · have P0 := Aside0.mk hp
        clear hp
        generalize l.getD k 0 = x at hc hx
        go_wp2_with (go_at_fn g; refine hc.mono ?_; rintro e w' ⟨rfl, hb⟩)
        go_roundw
        case rel => exact ⟨k + 1, by omega, by go_num, ⟨below_then HB.out HB.out.size hb⟩, ⟨fun j hj => by
          by_cases e : j = k
          · subst e; exact P0.out
          · exact I.out j (by omega)⟩⟩
        case measure => simp [intOf]; omega
      · have P0 := Aside0.mk hp
        clear hp
        have E := Aside0.mk (firstIdx_at p l k hlt I.out P0.out)
        generalize l.getD k 0 = x at hc hx
        go_wp2_with (go_at_fn g; refine hc.mono ?_; rintro e w' ⟨rfl, hb⟩)
        go_ret
        exact ⟨by rw [← R.out, E.out]; rfl, below_then HB.out HB.out.size hb⟩
    · have E := Aside0.mk (firstIdx_none p l (fun j hj => I.out j (by omega)))
      go_wp2
      go_ret
      exact ⟨by rw [← R.out, E.out]; rfl, HB.out⟩


/-! ### slices_ContainsFunc_int64_int64: function 108 -/
theorem firstIdx_any (p : Int → Bool) (l : List Int) : decide (0 ≤ firstIdx p l) = l.any p := by
  unfold firstIdx
  cases h : l.any p
  · simp
  · simp
set_option maxHeartbeats 1000000 in
set_option maxRecDepth 100000 in
theorem containsFunc_any (g : Nat) (cb : Array Value) (A : Option Addr) (c : Nat) (l : List Int) (p : Int → Bool) (w : World) (eg : Enters Try.prog g) (hr : Kd.C (Kd.int .i64) w A l.length l) (hl : l.length ≤ 4611686018427387904)
    (hf : ∀ (W : World) (j : Nat), Below w.heap.size w W → j < l.length → Calls Try.prog g (#[.int .i64 (l.getD j 0)] ++ cb) W fun e w' => e = .returned (.bool (p (l.getD j 0))) ∧ Below W.heap.size W w') :
    Calls Try.prog 108 #[.slice A l.length c, .func (.func g) #[] cb] w fun e w' => e = .returned (.bool (l.any p)) ∧ Below w.heap.size w w' := by
  have hS := indexFunc_any g cb A c l p w eg hr hl hf
  have hd := firstIdx_any p l
  generalize firstIdx p l = k at hS hd
  have HS := Aside0.mk hS
  have HD := Aside0.mk hd
  clear hS hd hr hf eg
  rw [← HD.out]
  go_enter Try.func108, Try.ntmps108
  go_wp2_with (go_at_call 126; refine HS.out.mono ?_; rintro e w' ⟨rfl, hb⟩)
  go_ret
  exact ⟨rfl, hb⟩


/-! ### impl_allWithin: function 70 -/
open Go.Proofs.YtcgbagdpedpdpaaM
def allIn (lo hi : Int) (l : List Int) : Bool := l.all fun x => decide (lo ≤ x ∧ x ≤ hi)
def impl_allWithin.f (l0 : List Int) (a1 a2 : Int) : Option Bool := if l0.length ≤ 4611686018427387904 then some (allIn a1 a2 l0) else none
set_option maxHeartbeats 1000000 in
set_option maxRecDepth 100000 in
theorem allWithin_closure (B0 B1 : Nat) (lo hi x : Int) (W : World) (c0 : W.cell? ⟨B0, 0, none⟩ = some (.int .i64 lo)) (c1 : W.cell? ⟨B1, 0, none⟩ = some (.int .i64 hi)) :
    Calls Try.prog 109 (#[.int .i64 x] ++ #[.pointer (some ⟨B0, 0, none⟩), .pointer (some ⟨B1, 0, none⟩)]) W fun e w' => e = .returned (.bool (!decide (lo ≤ x ∧ x ≤ hi))) ∧ Below W.heap.size W w' := by
  have E : Aside0 (impl_within_.f x lo hi = some (decide (lo ≤ x ∧ x ≤ hi))) := ⟨rfl⟩
  generalize decide (lo ≤ x ∧ x ≤ hi) = b at E
  go_enter Try.func109, Try.ntmps109
  go_wp2_with (go_at_call 90; (with_reducible refine (impl_within_.calls x lo hi b _ E.out).mono ?_); rintro e w' ⟨rfl, ⟨nd, rfl⟩⟩)
  go_ret
  exact ⟨rfl, by repeat (first | exact Below.refl _ _ | apply pw_below_drewN | apply below_drew1)⟩
theorem all_not_any (lo hi : Int) (l : List Int) : (!(l.any fun x => !decide (lo ≤ x ∧ x ≤ hi))) = allIn lo hi l := by
  unfold allIn
  induction l with
  | nil => rfl
  | cons a l ih => simp only [List.any_cons, List.all_cons, Bool.not_or, Bool.not_not, ih]
set_option maxHeartbeats 1000000 in
set_option maxRecDepth 100000 in
theorem impl_allWithin.calls (A0 : Option Addr) (c0 : Nat) (l0 : List Int) (a1 a2 : Int) (r : Bool) (w : World) (hr0 : Kd.C (Kd.int .i64) w A0 l0.length l0) (hc0 : l0.length ≤ c0) (h : impl_allWithin.f l0 a1 a2 = some r) :
    Calls Try.prog 70 #[.slice A0 l0.length c0, .int .i64 a1, .int .i64 a2] w fun e w' => e = .returned (.bool r) ∧ Below w.heap.size w w' := by
  unfold impl_allWithin.f at h
  split at h
  · rename_i hl
    have hb1 := below_alloc (Below.refl w.heap.size w) (.cells #[.int .i64 a1] 2)
    have hb2 := below_alloc hb1 (.cells #[.int .i64 a2] 2)
    have d0 : ((w.alloc (.cells #[.int .i64 a1] 2)).alloc (.cells #[.int .i64 a2] 2)).cell? ⟨w.heap.size, 0, none⟩ = some (.int .i64 a1) := cell_kept _ (cell_new1 w _ _)
    have d1 : ((w.alloc (.cells #[.int .i64 a1] 2)).alloc (.cells #[.int .i64 a2] 2)).cell? ⟨w.heap.size + 1, 0, none⟩ = some (.int .i64 a2) := by have := cell_new1 (w.alloc (.cells #[.int .i64 a1] 2)) (.int .i64 a2) 2; rwa [World.size_alloc] at this
    have hs : ((w.alloc (.cells #[.int .i64 a1] 2)).alloc (.cells #[.int .i64 a2] 2)).heap.size = w.heap.size + 1 + 1 := by simp
    have hS := containsFunc_any 109 #[.pointer (some ⟨w.heap.size, 0, none⟩), .pointer (some ⟨w.heap.size + 1, 0, none⟩)] A0 c0 l0 (fun x => !decide (a1 ≤ x ∧ x ≤ a2)) _ (enters_of Try.func109 (by kernel_rfl) rfl) (Kd.C_below hr0 hb2) hl
      (fun W j hb hj => allWithin_closure w.heap.size (w.heap.size + 1) a1 a2 _ W ((hb.cell (p := ⟨w.heap.size, 0, none⟩) (by rw [hs]; show w.heap.size < _; omega)).trans d0) ((hb.cell (p := ⟨w.heap.size + 1, 0, none⟩) (by rw [hs]; show w.heap.size + 1 < _; omega)).trans d1))
    have ha : (!(l0.any fun x => !decide (a1 ≤ x ∧ x ≤ a2))) = r := by rw [all_not_any]; exact Option.some.inj h
    generalize (l0.any fun x => !decide (a1 ≤ x ∧ x ≤ a2)) = b at hS ha
    subst ha
    have HS := Aside0.mk hS
    have HB := Aside0.mk hb2
    clear hS hb1 hb2 d0 d1 hs h hl hr0 hc0
    go_enter Try.func70, Try.ntmps70
    go_wp2_with (go_at_call 108; refine HS.out.mono ?_; rintro e w' ⟨rfl, hb⟩)
    go_ret
    exact ⟨rfl, below_then HB.out HB.out.size hb⟩
  · exact absurd h (by simp)

/-! ### impl_onlyNameBytes: function 132 -/
def impl_onlyNameBytes.l0 : Nat → ByteArray → Int → Int → Option (Bool)
 | 0, _, _, _ => none
 | k + 1, x0, x6, x7 => if x7 < x6 then (if 0 ≤ x7 then (if x7 < (x0.size : Int) then (if (bt x0 x7) < 97 then (if (bt x0 x7) < 48 then (some false) else (if (bt x0 x7) > 57 then (some false) else (impl_onlyNameBytes.l0 k x0 x6 (wrap64 (x7 + 1))))) else (if (bt x0 x7) > 122 then (if (bt x0 x7) < 48 then (some false) else (if (bt x0 x7) > 57 then (some false) else (impl_onlyNameBytes.l0 k x0 x6 (wrap64 (x7 + 1))))) else (impl_onlyNameBytes.l0 k x0 x6 (wrap64 (x7 + 1))))) else (none)) else (none)) else (some true)
def impl_onlyNameBytes.f (k : Nat) (a0 : ByteArray) : Option (Bool) := impl_onlyNameBytes.l0 k a0 (a0.size : Int) 0
theorem impl_onlyNameBytes.mono_l : ∀ k, (∀ y0 y1 y2, LeO (impl_onlyNameBytes.l0 k y0 y1 y2) (impl_onlyNameBytes.l0 (k + 1) y0 y1 y2))
 | 0 => fun _ _ _ r h => by simp [impl_onlyNameBytes.l0] at h
 | k + 1 => by
  have ih0 := impl_onlyNameBytes.mono_l k
  ·intro y0 y1 y2
   unfold impl_onlyNameBytes.l0
   repeat' first
   | (with_reducible exact ih0 _ _ _)
   | (with_reducible exact LeO.refl _)
   | (with_reducible exact LeO.none _)
   | (with_reducible refine LeO.ite ?_ ?_)
   | (with_reducible refine LeO.bind ?_ (fun _ => ?_))
   | exact ih0 _ _ _
   | exact LeO.none _
   | refine LeO.ite ?_ ?_
   | refine LeO.bind ?_ (fun _ => ?_)
theorem impl_onlyNameBytes.mono : ∀ a0 k, LeO (impl_onlyNameBytes.f k a0) (impl_onlyNameBytes.f (k + 1) a0) := by
 intro a0 k
 have ih0 := impl_onlyNameBytes.mono_l k
 unfold impl_onlyNameBytes.f
 repeat' first
   | (with_reducible exact ih0 _ _ _)
   | (with_reducible exact LeO.refl _)
   | (with_reducible exact LeO.none _)
   | (with_reducible refine LeO.ite ?_ ?_)
   | (with_reducible refine LeO.bind ?_ (fun _ => ?_))
   | exact ih0 _ _ _
   | exact LeO.none _
   | refine LeO.ite ?_ ?_
   | refine LeO.bind ?_ (fun _ => ?_)
set_option maxHeartbeats 8000000 in
set_option maxRecDepth 100000 in
theorem impl_onlyNameBytes.calls (k : Nat) (a0 : ByteArray) (r : Bool) (w : World) (h : impl_onlyNameBytes.f k a0 = some r) :
  Calls Try.prog 132 #[.string a0] w fun e w' => e = .returned (.bool r) ∧ Drawn0 w w' := by
 have H : (impl_onlyNameBytes.l0 k a0 (a0.size : Int) 0) = some r := h
 clear h
 have H' := Aside0.mk H
 clear H
 go_enter Try.func132, Try.ntmps132
 go_wp2
 go_loopg [7] k (fun kq v7 w' => ∃ (x7_1 : Int), v7 = .int .i64 x7_1 ∧ Aside0 (impl_onlyNameBytes.l0 kq a0 (a0.size : Int) x7_1 = some r) ∧ Aside0 (kq ≤ k) ∧ Drawn0 w w')
 case atStart => exact ⟨(0), (by first | rfl | (simp; done) | (simp [*]; done)), H', ⟨Nat.le_refl _⟩, by repeat (first | exact Drawn0.refl _ | apply Drawn0.step)⟩
 case round =>
  clear H'
  try clear c1
  obtain ⟨x7_1, rfl, HA, HK1, ⟨m1, rfl⟩⟩ := hrel
  cases gk with
  | zero => exact absurd HA.out (by simp [impl_onlyNameBytes.l0])
  | succ k1 =>
   have H := HA.out
   clear HA
   simp only [impl_onlyNameBytes.l0] at H
   by_cases c2 : x7_1 < (a0.size : Int)
   ·rw [if_pos c2] at H
    have c2b0 : decide (x7_1 < (a0.size : Int)) = true := decide_eq_true c2
    clear c2
    by_cases c3 : 0 ≤ x7_1
    ·rw [if_pos c3] at H
     have c3b0 : decide (0 ≤ x7_1) = true := decide_eq_true c3
     clear c3
     by_cases c4 : x7_1 < (a0.size : Int)
     ·rw [if_pos c4] at H
      have c4b0 : decide (x7_1 < (a0.size : Int)) = true := decide_eq_true c4
      clear c4
      by_cases c6 : (bt a0 x7_1) < 97
      ·rw [if_pos c6] at H
       have c6b0 : decide ((bt a0 x7_1) < 97) = true := decide_eq_true c6
       clear c6
       by_cases c7 : (bt a0 x7_1) < 48
       ·rw [if_pos c7] at H
        have c7b0 : decide ((bt a0 x7_1) < 48) = true := decide_eq_true c7
        clear c7
        obtain rfl := Option.some.inj H
        have p5 : 0 ≤ (x7_1 : Int) := of_decide_eq_true (by first | (with_reducible assumption) | assumption)
        have q5 : x7_1 < (a0.size : Int) := of_decide_eq_true (by first | (with_reducible assumption) | assumption)
        have hx5 := bt_at a0 x7_1
        replace p5 := eq_true p5
        replace q5 := eq_true q5
        go_wp2
        go_ret
        exact ⟨by first | rfl | (simp; done) | (simp [*]; done), by repeat (first | exact Drawn0.refl _ | apply Drawn0.step)⟩
       ·rw [if_neg c7] at H
        have c7b0 : decide ((bt a0 x7_1) < 48) = false := decide_eq_false c7
        clear c7
        by_cases c8 : (bt a0 x7_1) > 57
        ·rw [if_pos c8] at H
         have c8b0 : decide (57 < (bt a0 x7_1)) = true := decide_eq_true c8
         clear c8
         obtain rfl := Option.some.inj H
         have p5 : 0 ≤ (x7_1 : Int) := of_decide_eq_true (by first | (with_reducible assumption) | assumption)
         have q5 : x7_1 < (a0.size : Int) := of_decide_eq_true (by first | (with_reducible assumption) | assumption)
         have hx5 := bt_at a0 x7_1
         replace p5 := eq_true p5
         replace q5 := eq_true q5
         go_wp2
         go_ret
         exact ⟨by first | rfl | (simp; done) | (simp [*]; done), by repeat (first | exact Drawn0.refl _ | apply Drawn0.step)⟩
        ·rw [if_neg c8] at H
         have c8b0 : decide (57 < (bt a0 x7_1)) = false := decide_eq_false c8
         clear c8
         have H' := Aside0.mk H
         clear H
         have p5 : 0 ≤ (x7_1 : Int) := of_decide_eq_true (by first | (with_reducible assumption) | assumption)
         have q5 : x7_1 < (a0.size : Int) := of_decide_eq_true (by first | (with_reducible assumption) | assumption)
         have hx5 := bt_at a0 x7_1
         replace p5 := eq_true p5
         replace q5 := eq_true q5
         go_wp2
         go_roundg k1
         case measure => have := HK1.out; omega
         case rel => exact ⟨(wrap64 (x7_1 + 1)), (by first | rfl | (simp; done) | (simp [*]; done)), H', ⟨by have := HK1.out; omega⟩, by repeat (first | exact Drawn0.refl _ | apply Drawn0.step)⟩
      ·rw [if_neg c6] at H
       have c6b0 : decide ((bt a0 x7_1) < 97) = false := decide_eq_false c6
       clear c6
       by_cases c9 : (bt a0 x7_1) > 122
       ·rw [if_pos c9] at H
        have c9b0 : decide (122 < (bt a0 x7_1)) = true := decide_eq_true c9
        clear c9
        by_cases c10 : (bt a0 x7_1) < 48
        ·rw [if_pos c10] at H
         have c10b0 : decide ((bt a0 x7_1) < 48) = true := decide_eq_true c10
         clear c10
         obtain rfl := Option.some.inj H
         have p5 : 0 ≤ (x7_1 : Int) := of_decide_eq_true (by first | (with_reducible assumption) | assumption)
         have q5 : x7_1 < (a0.size : Int) := of_decide_eq_true (by first | (with_reducible assumption) | assumption)
         have hx5 := bt_at a0 x7_1
         replace p5 := eq_true p5
         replace q5 := eq_true q5
         go_wp2
         go_ret
         exact ⟨by first | rfl | (simp; done) | (simp [*]; done), by repeat (first | exact Drawn0.refl _ | apply Drawn0.step)⟩
        ·rw [if_neg c10] at H
         have c10b0 : decide ((bt a0 x7_1) < 48) = false := decide_eq_false c10
         clear c10
         by_cases c11 : (bt a0 x7_1) > 57
         ·rw [if_pos c11] at H
          have c11b0 : decide (57 < (bt a0 x7_1)) = true := decide_eq_true c11
          clear c11
          obtain rfl := Option.some.inj H
          have p5 : 0 ≤ (x7_1 : Int) := of_decide_eq_true (by first | (with_reducible assumption) | assumption)
          have q5 : x7_1 < (a0.size : Int) := of_decide_eq_true (by first | (with_reducible assumption) | assumption)
          have hx5 := bt_at a0 x7_1
          replace p5 := eq_true p5
          replace q5 := eq_true q5
          go_wp2
          go_ret
          exact ⟨by first | rfl | (simp; done) | (simp [*]; done), by repeat (first | exact Drawn0.refl _ | apply Drawn0.step)⟩
         ·rw [if_neg c11] at H
          have c11b0 : decide (57 < (bt a0 x7_1)) = false := decide_eq_false c11
          clear c11
          have H' := Aside0.mk H
          clear H
          have p5 : 0 ≤ (x7_1 : Int) := of_decide_eq_true (by first | (with_reducible assumption) | assumption)
          have q5 : x7_1 < (a0.size : Int) := of_decide_eq_true (by first | (with_reducible assumption) | assumption)
          have hx5 := bt_at a0 x7_1
          replace p5 := eq_true p5
          replace q5 := eq_true q5
          go_wp2
          go_roundg k1
          case measure => have := HK1.out; omega
          case rel => exact ⟨(wrap64 (x7_1 + 1)), (by first | rfl | (simp; done) | (simp [*]; done)), H', ⟨by have := HK1.out; omega⟩, by repeat (first | exact Drawn0.refl _ | apply Drawn0.step)⟩
       ·rw [if_neg c9] at H
        have c9b0 : decide (122 < (bt a0 x7_1)) = false := decide_eq_false c9
        clear c9
        have H' := Aside0.mk H
        clear H
        have p5 : 0 ≤ (x7_1 : Int) := of_decide_eq_true (by first | (with_reducible assumption) | assumption)
        have q5 : x7_1 < (a0.size : Int) := of_decide_eq_true (by first | (with_reducible assumption) | assumption)
        have hx5 := bt_at a0 x7_1
        replace p5 := eq_true p5
        replace q5 := eq_true q5
        go_wp2
        go_roundg k1
        case measure => have := HK1.out; omega
        case rel => exact ⟨(wrap64 (x7_1 + 1)), (by first | rfl | (simp; done) | (simp [*]; done)), H', ⟨by have := HK1.out; omega⟩, by repeat (first | exact Drawn0.refl _ | apply Drawn0.step)⟩
     ·rw [if_neg c4] at H
      exact absurd H (by simp)
    ·rw [if_neg c3] at H
     exact absurd H (by simp)
   ·rw [if_neg c2] at H
    have c2b0 : decide (x7_1 < (a0.size : Int)) = false := decide_eq_false c2
    clear c2
    obtain rfl := Option.some.inj H
    go_wp2
    go_ret
    exact ⟨by first | rfl | (simp; done) | (simp [*]; done), by repeat (first | exact Drawn0.refl _ | apply Drawn0.step)⟩

/-! ### impl_IsName: function 120 -/
def impl_IsName.f (k : Nat) (a0 : ByteArray) : Option (Bool) := if (a0.size : Int) < 1 then (some false) else (if (a0.size : Int) > 10 then (some false) else (if 0 < (a0.size : Int) then (if (bt a0 0) < 97 then (some false) else (if (bt a0 0) > 122 then (some false) else ((impl_onlyNameBytes.f k a0).bind fun t211 => (some t211)))) else (none)))
theorem impl_IsName.mono : ∀ a0 k, LeO (impl_IsName.f k a0) (impl_IsName.f (k + 1) a0) := by
 intro a0 k
 unfold impl_IsName.f
 repeat' first
   | (with_reducible exact impl_onlyNameBytes.mono _ _)
   | (with_reducible exact LeO.refl _)
   | (with_reducible exact LeO.none _)
   | (with_reducible refine LeO.ite ?_ ?_)
   | (with_reducible refine LeO.bind ?_ (fun _ => ?_))
   | exact impl_onlyNameBytes.mono _ _
   | exact LeO.none _
   | refine LeO.ite ?_ ?_
   | refine LeO.bind ?_ (fun _ => ?_)
set_option maxHeartbeats 8000000 in
set_option maxRecDepth 100000 in
theorem impl_IsName.calls (k : Nat) (a0 : ByteArray) (r : Bool) (w : World) (h : impl_IsName.f k a0 = some r) :
  Calls Try.prog 120 #[.string a0] w fun e w' => e = .returned (.bool r) ∧ Drawn0 w w' := by
 have H : (if (a0.size : Int) < 1 then (some false) else (if (a0.size : Int) > 10 then (some false) else (if 0 < (a0.size : Int) then (if (bt a0 0) < 97 then (some false) else (if (bt a0 0) > 122 then (some false) else ((impl_onlyNameBytes.f k a0).bind fun t211 => (some t211)))) else (none)))) = some r := h
 clear h
 by_cases c2 : (a0.size : Int) < 1
 ·rw [if_pos c2] at H
  have c2b0 : decide ((a0.size : Int) < 1) = true := decide_eq_true c2
  have c2b1 : decide (a0.size < 1) = true := decide_eq_true (by omega)
  clear c2
  obtain rfl := Option.some.inj H
  go_enter Try.func120, Try.ntmps120
  go_wp2
  go_ret
  exact ⟨by first | rfl | (simp; done) | (simp [*]; done), by repeat (first | exact Drawn0.refl _ | apply Drawn0.step)⟩
 ·rw [if_neg c2] at H
  have c2b0 : decide ((a0.size : Int) < 1) = false := decide_eq_false c2
  have c2b1 : decide (a0.size < 1) = false := decide_eq_false (by omega)
  clear c2
  by_cases c3 : (a0.size : Int) > 10
  ·rw [if_pos c3] at H
   have c3b0 : decide (10 < (a0.size : Int)) = true := decide_eq_true c3
   have c3b1 : decide (10 < a0.size) = true := decide_eq_true (by omega)
   clear c3
   obtain rfl := Option.some.inj H
   go_enter Try.func120, Try.ntmps120
   go_wp2
   go_ret
   exact ⟨by first | rfl | (simp; done) | (simp [*]; done), by repeat (first | exact Drawn0.refl _ | apply Drawn0.step)⟩
  ·rw [if_neg c3] at H
   have c3b0 : decide (10 < (a0.size : Int)) = false := decide_eq_false c3
   have c3b1 : decide (10 < a0.size) = false := decide_eq_false (by omega)
   clear c3
   by_cases c4 : 0 < (a0.size : Int)
   ·rw [if_pos c4] at H
    have c4b0 : decide (0 < (a0.size : Int)) = true := decide_eq_true c4
    have c4b1 : decide (0 < a0.size) = true := decide_eq_true (by omega)
    clear c4
    by_cases c6 : (bt a0 0) < 97
    ·rw [if_pos c6] at H
     have c6b0 : decide ((bt a0 0) < 97) = true := decide_eq_true c6
     clear c6
     obtain rfl := Option.some.inj H
     have p5 : 0 ≤ (0 : Int) := (by omega)
     have q5 : 0 < a0.size := (by have : (0 : Int) < (a0.size : Int) := of_decide_eq_true (by first | (with_reducible assumption) | assumption); omega)
     have hx5 : ∀ h : 0 < a0.size, ((a0[0]'h).toNat : Int) = bt a0 0 := bt_at a0 0
     clear p5
     have qi5 : (0 < (a0.size : Int)) = True := eq_true (of_decide_eq_true (by first | (with_reducible assumption) | assumption))
     replace q5 := eq_true q5
     go_enter Try.func120, Try.ntmps120
     go_wp2
     go_ret
     exact ⟨by first | rfl | (simp; done) | (simp [*]; done), by repeat (first | exact Drawn0.refl _ | apply Drawn0.step)⟩
    ·rw [if_neg c6] at H
     have c6b0 : decide ((bt a0 0) < 97) = false := decide_eq_false c6
     clear c6
     by_cases c8 : (bt a0 0) > 122
     ·rw [if_pos c8] at H
      have c8b0 : decide (122 < (bt a0 0)) = true := decide_eq_true c8
      clear c8
      obtain rfl := Option.some.inj H
      have p5 : 0 ≤ (0 : Int) := (by omega)
      have q5 : 0 < a0.size := (by have : (0 : Int) < (a0.size : Int) := of_decide_eq_true (by first | (with_reducible assumption) | assumption); omega)
      have hx5 : ∀ h : 0 < a0.size, ((a0[0]'h).toNat : Int) = bt a0 0 := bt_at a0 0
      clear p5
      have qi5 : (0 < (a0.size : Int)) = True := eq_true (of_decide_eq_true (by first | (with_reducible assumption) | assumption))
      replace q5 := eq_true q5
      have p7 : 0 ≤ (0 : Int) := (by omega)
      have q7 : 0 < a0.size := (by have : (0 : Int) < (a0.size : Int) := of_decide_eq_true (by first | (with_reducible assumption) | assumption); omega)
      have hx7 : ∀ h : 0 < a0.size, ((a0[0]'h).toNat : Int) = bt a0 0 := bt_at a0 0
      clear p7
      have qi7 : (0 < (a0.size : Int)) = True := eq_true (of_decide_eq_true (by first | (with_reducible assumption) | assumption))
      replace q7 := eq_true q7
      go_enter Try.func120, Try.ntmps120
      go_wp2
      go_ret
      exact ⟨by first | rfl | (simp; done) | (simp [*]; done), by repeat (first | exact Drawn0.refl _ | apply Drawn0.step)⟩
     ·rw [if_neg c8] at H
      have c8b0 : decide (122 < (bt a0 0)) = false := decide_eq_false c8
      clear c8
      replace H := Option.bind_eq_some_iff.mp H
      obtain ⟨t211, A90, H⟩ := H
      replace H : (some t211) = some r := H
      have A9 := Aside0.mk A90
      clear A90
      obtain rfl := Option.some.inj H
      have p5 : 0 ≤ (0 : Int) := (by omega)
      have q5 : 0 < a0.size := (by have : (0 : Int) < (a0.size : Int) := of_decide_eq_true (by first | (with_reducible assumption) | assumption); omega)
      have hx5 : ∀ h : 0 < a0.size, ((a0[0]'h).toNat : Int) = bt a0 0 := bt_at a0 0
      clear p5
      have qi5 : (0 < (a0.size : Int)) = True := eq_true (of_decide_eq_true (by first | (with_reducible assumption) | assumption))
      replace q5 := eq_true q5
      have p7 : 0 ≤ (0 : Int) := (by omega)
      have q7 : 0 < a0.size := (by have : (0 : Int) < (a0.size : Int) := of_decide_eq_true (by first | (with_reducible assumption) | assumption); omega)
      have hx7 : ∀ h : 0 < a0.size, ((a0[0]'h).toNat : Int) = bt a0 0 := bt_at a0 0
      clear p7
      have qi7 : (0 < (a0.size : Int)) = True := eq_true (of_decide_eq_true (by first | (with_reducible assumption) | assumption))
      replace q7 := eq_true q7
      go_enter Try.func120, Try.ntmps120
      go_wp2_with (first | ((with_reducible refine gate_callee (f := 132) rfl ?_); refine goesL_ (some 22) rfl rfl Try.func132 (by kernel_rfl) rfl #[.string a0] rfl (by (try simp only [List.map_toArray, List.map_cons, List.map_nil]); first | done | rfl | (simp only [List.length_drop, List.length_take]; rfl)) ?_; (with_reducible refine (impl_onlyNameBytes.calls k a0 t211 _ A9.out).mono ?_); rintro e w' ⟨rfl, ⟨nd, rfl⟩⟩; refine ⟨_, rfl, ?_⟩))
      go_ret
      exact ⟨by first | rfl | (simp; done) | (simp [*]; done), by repeat (first | exact Drawn0.refl _ | apply Drawn0.step)⟩
   ·rw [if_neg c4] at H
    exact absurd H (by simp)

open Go.Proofs.YtcgbagdpedpdpaaM
def impl_IsName_.f (a0 : ByteArray) : Option Bool := if a0.size ≤ 9000000000000000000 then some (nameOk a0) else none
theorem impl_names (s : ByteArray) (hs : s.size ≤ 9000000000000000000) : ∀ (d k : Nat) (i : Int), 0 ≤ i → (s.size : Int) - i = d → d < k → impl_onlyNameBytes.l0 k s (s.size : Int) i = some (namesFrom s d i) := by
  intro d
  induction d with
  | zero =>
    intro k i h0 hd hk
    obtain ⟨k, rfl⟩ : ∃ m, k = m + 1 := ⟨k - 1, by omega⟩
    simp only [impl_onlyNameBytes.l0]; rw [if_neg (by omega)]; rfl
  | succ d ih =>
    intro k i h0 hd hk
    obtain ⟨k, rfl⟩ : ∃ m, k = m + 1 := ⟨k - 1, by omega⟩
    have := ih k (i + 1) (by omega) (by omega) (by omega)
    simp only [impl_onlyNameBytes.l0]
    rw [if_pos (by omega), if_pos h0, if_pos (by omega), w64 (x := i + 1) (by omega) (by omega), this]
    simp only [namesFrom]
    generalize bt s i = c
    have e : nameByte c = decide (97 ≤ c ∧ c ≤ 122 ∨ 48 ≤ c ∧ c ≤ 57) := by simp [nameByte]
    rw [e]
    by_cases h1 : c < 97 <;> by_cases h2 : c < 48 <;> by_cases h3 : c > 57 <;> by_cases h4 : c > 122 <;> simp only [h1, h2, h3, h4, if_true, if_false] <;> first | omega | (rw [decide_eq_true (by omega)]; simp) | (rw [decide_eq_false (by omega)]; simp)
theorem impl_IsName_.same (s : ByteArray) (hs : s.size ≤ 9000000000000000000) : impl_IsName.f (s.size + 2) s = some (nameOk s) := by
  unfold impl_IsName.f impl_onlyNameBytes.f nameOk
  by_cases h0 : s.size = 0
  · rw [if_pos (by omega)]; simp [h0]
  · rw [if_neg (by omega)]
    by_cases h1 : (s.size : Int) > 10
    · rw [if_pos h1]
      have : ¬ s.size ≤ 10 := by omega
      simp [this]
    · rw [if_neg h1, if_pos (by omega), impl_names s hs s.size (s.size + 2) 0 (by omega) (by omega) (by omega)]
      have e1 : 1 ≤ s.size := by omega
      have e2 : s.size ≤ 10 := by omega
      simp only [e1, e2, decide_true, Bool.true_and, Option.bind_some]
      by_cases h2 : bt s 0 < 97
      · rw [if_pos h2]
        have : ¬ 97 ≤ bt s 0 := by omega
        simp [this]
      · rw [if_neg h2]
        have h2' : 97 ≤ bt s 0 := by omega
        by_cases h3 : bt s 0 > 122
        · rw [if_pos h3]
          have : ¬ bt s 0 ≤ 122 := by omega
          simp [this]
        · rw [if_neg h3]
          have h3' : bt s 0 ≤ 122 := by omega
          simp [h2', h3']
theorem impl_IsName_.calls (a0 : ByteArray) (r : Bool) (w : World) (h : impl_IsName_.f a0 = some r) :
    Calls Try.prog 120 #[.string a0] w fun e w' => e = .returned (.bool r) ∧ Drawn0 w w' := by
  unfold impl_IsName_.f at h
  split at h
  · rename_i hs
    exact impl_IsName.calls (a0.size + 2) a0 r w (by rw [← h]; exact impl_IsName_.same a0 hs)
  · exact absurd h (by simp)

/-! ### impl_nodeOk: function 121 -/
def impl_nodeOk.f (a0 : Int) : Option (Bool) := (impl_within_.f a0 0 15).bind fun t212 => (some t212)
set_option maxHeartbeats 8000000 in
set_option maxRecDepth 100000 in
theorem impl_nodeOk.calls (a0 : Int) (r : Bool) (w : World) (h : impl_nodeOk.f a0 = some r) :
  Calls Try.prog 121 #[.int .i64 a0] w fun e w' => e = .returned (.bool r) ∧ Drawn0 w w' := by
 have H : ((impl_within_.f a0 0 15).bind fun t212 => (some t212)) = some r := h
 clear h
 replace H := Option.bind_eq_some_iff.mp H
 obtain ⟨t212, A20, H⟩ := H
 replace H : (some t212) = some r := H
 have A2 := Aside0.mk A20
 clear A20
 obtain rfl := Option.some.inj H
 go_enter Try.func121, Try.ntmps121
 go_wp2_with (first | ((with_reducible refine gate_callee (f := 90) rfl ?_); refine goesL_ (some 4) rfl rfl Try.func90 (by kernel_rfl) rfl #[.int .i64 a0, .int .i64 0, .int .i64 15] rfl (by (try simp only [List.map_toArray, List.map_cons, List.map_nil]); first | done | rfl | (simp only [List.length_drop, List.length_take]; rfl)) ?_; (with_reducible refine (impl_within_.calls a0 0 15 t212 _ A2.out).mono ?_); rintro e w' ⟨rfl, ⟨nd, rfl⟩⟩; refine ⟨_, rfl, ?_⟩))
 go_ret
 exact ⟨by first | rfl | (simp; done) | (simp [*]; done), by repeat (first | exact Drawn0.refl _ | apply Drawn0.step)⟩

end Go.Proofs.Ytcgbagdpedpdpaa.PFnExactReachedWithout
