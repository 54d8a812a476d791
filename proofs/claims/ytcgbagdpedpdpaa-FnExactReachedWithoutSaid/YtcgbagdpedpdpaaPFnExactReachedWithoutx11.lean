-- Printed by a program of this session (wip/hprint.sh: the kit's print with hand-proved contracts put in); not by print.sh itself.
import Derived.Test.YtcgbagdpedpdpaaPFnExactReachedWithoutx0
import Derived.Test.YtcgbagdpedpdpaaPFnExactReachedWithoutx1
import Derived.Test.YtcgbagdpedpdpaaPFnExactReachedWithoutx2
import Derived.Test.YtcgbagdpedpdpaaPFnExactReachedWithoutx3
import Derived.Test.YtcgbagdpedpdpaaPFnExactReachedWithoutx6
import Derived.Test.YtcgbagdpedpdpaaPFnExactReachedWithoutx10
namespace Go.Proofs.Ytcgbagdpedpdpaa.PFnExactReachedWithout
open Go.RowKit Go.Proofs.YtcgbagdpedpdpaaW.PrintWords Go.Proofs.YtcgbagdpedpdpaaW.PrintLast Go.Proofs.YtcgbagdpedpdpaaW.PrintMore Go.Proofs.YtcgbagdpedpdpaaM
attribute [local go_sem] max2_int min2_int max_two min_two max_three min_three max_four min_four   -- for this text's walks alone
set_option linter.unusedVariables false
set_option linter.unusedSimpArgs false

/-! ### laws_FnExactReachedWithout: function 8 -/
mutual
def laws_FnExactReachedWithout.j0 : Nat → Int → List Int → List Int → List (S85) → Option (Bool)
 | 0, _, _, _, _ => none
 | k + 1, x1, x2, x265000, x265001 => (laws_szNetwork.f x265000 x265001 1048576).bind fun t265 => (if t265 < 0 then (some true) else (laws_FnExactReachedWithout.j1 k x1 x2 x265000 x265001))
def laws_FnExactReachedWithout.j1 : Nat → Int → List Int → List Int → List (S85) → Option (Bool)
 | 0, _, _, _, _ => none
 | k + 1, x1, x2, x265000, x265001 => (laws_toNetwork.f x265000 x265001).bind fun bt266 => ((laws_toInt64S_.f x2).bind fun t272 => ((spec_ReachedWithout.f k bt266.1 bt266.2 x1 t272).bind fun bt275 => ((laws_toNetwork.f x265000 x265001).bind fun bt279 => ((laws_toInt64S_.f x2).bind fun t286 => ((impl_ReachedWithout.f k bt279.1 bt279.2 x1 t286).bind fun bt289 => ((laws_eqInt64S_.f bt289.1 bt275.1).bind fun t293 => (if t293 = true then (laws_FnExactReachedWithout.j2 k x1 x2 bt275.1 bt275.2 t286 bt289.1 bt289.2 (bt289.2 != bt275.2) x265000 x265001 bt279.1 bt279.2) else (laws_FnExactReachedWithout.j2 k x1 x2 bt275.1 bt275.2 t286 bt289.1 bt289.2 true x265000 x265001 bt279.1 bt279.2))))))))
def laws_FnExactReachedWithout.j2 : Nat → Int → List Int → List Int → Int → List Int → List Int → Int → Bool → List Int → List (S85) → List Int → List (S60) → Option (Bool)
 | 0, _, _, _, _, _, _, _, _, _, _, _, _ => none
 | k + 1, x1, x2, x8, x9, x11, x12, x13, x55, x265000, x265001, x286000, x286001 => if x55 = true then (some false) else (laws_FnExactReachedWithout.j3 k x1 x2 x8 x9 x11 x12 x13 x265000 x265001 x286000 x286001)
def laws_FnExactReachedWithout.j3 : Nat → Int → List Int → List Int → Int → List Int → List Int → Int → List Int → List (S85) → List Int → List (S60) → Option (Bool)
 | 0, _, _, _, _, _, _, _, _, _, _, _ => none
 | k + 1, x1, x2, x8, x9, x11, x12, x13, x265000, x265001, x286000, x286001 => (laws_toNetwork.f x265000 x265001).bind fun bt294 => ((laws_eqNetwork.f x286000 x286001 bt294.1 bt294.2).bind fun t300 => (if t300 = true then (laws_FnExactReachedWithout.j4 k x1 x2 x8 x9 x11 x12 x13 x265000 x265001 x286000 x286001) else (some false)))
def laws_FnExactReachedWithout.j4 : Nat → Int → List Int → List Int → Int → List Int → List Int → Int → List Int → List (S85) → List Int → List (S60) → Option (Bool)
 | 0, _, _, _, _, _, _, _, _, _, _, _ => none
 | k + 1, x1, x2, x8, x9, x11, x12, x13, x265000, x265001, x286000, x286001 => (laws_toInt64S_.f x2).bind fun t301 => ((laws_eqInt64S_.f x11 t301).bind fun t304 => (if t304 = true then (laws_FnExactReachedWithout.j5 k x1 x2 x8 x9 x11 x12 x13 x265000 x265001 x286000 x286001) else (some false)))
def laws_FnExactReachedWithout.j5 : Nat → Int → List Int → List Int → Int → List Int → List Int → Int → List Int → List (S85) → List Int → List (S60) → Option (Bool)
 | 0, _, _, _, _, _, _, _, _, _, _, _ => none
 | k + 1, x1, x2, x8, x9, x11, x12, x13, x265000, x265001, x286000, x286001 => (laws_markNetwork.f x286000 x286001 1).bind fun bt305 => ((laws_markInt64S_.f x11 bt305.1).bind fun bt308 => (if bt308.1 < 0 then (laws_FnExactReachedWithout.j6 k x1 x2 x8 x9 x12 true x265000 x265001) else ((laws_eqInt64S_.f x12 x8).bind fun t310 => (if t310 = true then (laws_FnExactReachedWithout.j6 k x1 x2 x8 x9 x12 (x13 != x9) x265000 x265001) else (laws_FnExactReachedWithout.j6 k x1 x2 x8 x9 x12 true x265000 x265001)))))
def laws_FnExactReachedWithout.j6 : Nat → Int → List Int → List Int → Int → List Int → Bool → List Int → List (S85) → Option (Bool)
 | 0, _, _, _, _, _, _, _, _ => none
 | k + 1, x1, x2, x8, x9, x12, x84, x265000, x265001 => if x84 = true then (some false) else (laws_FnExactReachedWithout.j7 k x1 x2 x8 x9 x12 x265000 x265001)
def laws_FnExactReachedWithout.j7 : Nat → Int → List Int → List Int → Int → List Int → List Int → List (S85) → Option (Bool)
 | 0, _, _, _, _, _, _, _ => none
 | k + 1, x1, x2, x8, x9, x12, x265000, x265001 => (laws_markInt64S_.f x12 1).bind fun bt311 => ((laws_heldInt64S_.f bt311.2 1).bind fun t313 => (if t313 < 0 then (some false) else (laws_FnExactReachedWithout.j8 k x1 x2 x8 x9 bt311.2 bt311.1 t313 x265000 x265001)))
def laws_FnExactReachedWithout.j8 : Nat → Int → List Int → List Int → Int → List Int → Int → Int → List Int → List (S85) → Option (Bool)
 | 0, _, _, _, _, _, _, _, _, _ => none
 | k + 1, x1, x2, x8, x9, x12, x15, x16, x265000, x265001 => if x16 = x15 then (laws_FnExactReachedWithout.j9 k x1 x2 x8 x9 x12 x15 x265000 x265001) else (some false)
def laws_FnExactReachedWithout.j9 : Nat → Int → List Int → List Int → Int → List Int → Int → List Int → List (S85) → Option (Bool)
 | 0, _, _, _, _, _, _, _, _ => none
 | k + 1, x1, x2, x8, x9, x12, x15, x265000, x265001 => (laws_toNetwork.f x265000 x265001).bind fun bt314 => ((laws_toInt64S_.f x2).bind fun t320 => ((impl_ReachedWithout.f k bt314.1 bt314.2 x1 t320).bind fun bt323 => ((laws_eqInt64S_.f bt323.1 x8).bind fun t327 => (if t327 = true then (laws_FnExactReachedWithout.j10 k x12 x15 (bt323.2 != x9)) else (laws_FnExactReachedWithout.j10 k x12 x15 true)))))
def laws_FnExactReachedWithout.j10 : Nat → List Int → Int → Bool → Option (Bool)
 | 0, _, _, _ => none
 | k + 1, x12, x15, x113 => if x113 = true then (some false) else (laws_FnExactReachedWithout.j11 k x12 x15)
def laws_FnExactReachedWithout.j11 : Nat → List Int → Int → Option (Bool)
 | 0, _, _ => none
 | k + 1, x12, x15 => (laws_heldInt64S_.f x12 1).bind fun t328 => (if t328 < 0 then (some false) else (if t328 = x15 then (some true) else (some false)))
end
def laws_FnExactReachedWithout.f (k : Nat) (l0_0 : List Int) (l0_1 : List (S85)) (a1 : Int) (l2 : List Int) : Option (Bool) := if (l2.length : Int) > 1048576 then (some true) else (laws_FnExactReachedWithout.j0 k a1 l2 l0_0 l0_1)
theorem laws_FnExactReachedWithout.mono_l : ∀ k, (∀ y0 y1 y2 y3, LeO (laws_FnExactReachedWithout.j0 k y0 y1 y2 y3) (laws_FnExactReachedWithout.j0 (k + 1) y0 y1 y2 y3)) ∧ (∀ y0 y1 y2 y3, LeO (laws_FnExactReachedWithout.j1 k y0 y1 y2 y3) (laws_FnExactReachedWithout.j1 (k + 1) y0 y1 y2 y3)) ∧ (∀ y0 y1 y2 y3 y4 y5 y6 y7 y8 y9 y10 y11, LeO (laws_FnExactReachedWithout.j2 k y0 y1 y2 y3 y4 y5 y6 y7 y8 y9 y10 y11) (laws_FnExactReachedWithout.j2 (k + 1) y0 y1 y2 y3 y4 y5 y6 y7 y8 y9 y10 y11)) ∧ (∀ y0 y1 y2 y3 y4 y5 y6 y7 y8 y9 y10, LeO (laws_FnExactReachedWithout.j3 k y0 y1 y2 y3 y4 y5 y6 y7 y8 y9 y10) (laws_FnExactReachedWithout.j3 (k + 1) y0 y1 y2 y3 y4 y5 y6 y7 y8 y9 y10)) ∧ (∀ y0 y1 y2 y3 y4 y5 y6 y7 y8 y9 y10, LeO (laws_FnExactReachedWithout.j4 k y0 y1 y2 y3 y4 y5 y6 y7 y8 y9 y10) (laws_FnExactReachedWithout.j4 (k + 1) y0 y1 y2 y3 y4 y5 y6 y7 y8 y9 y10)) ∧ (∀ y0 y1 y2 y3 y4 y5 y6 y7 y8 y9 y10, LeO (laws_FnExactReachedWithout.j5 k y0 y1 y2 y3 y4 y5 y6 y7 y8 y9 y10) (laws_FnExactReachedWithout.j5 (k + 1) y0 y1 y2 y3 y4 y5 y6 y7 y8 y9 y10)) ∧ (∀ y0 y1 y2 y3 y4 y5 y6 y7, LeO (laws_FnExactReachedWithout.j6 k y0 y1 y2 y3 y4 y5 y6 y7) (laws_FnExactReachedWithout.j6 (k + 1) y0 y1 y2 y3 y4 y5 y6 y7)) ∧ (∀ y0 y1 y2 y3 y4 y5 y6, LeO (laws_FnExactReachedWithout.j7 k y0 y1 y2 y3 y4 y5 y6) (laws_FnExactReachedWithout.j7 (k + 1) y0 y1 y2 y3 y4 y5 y6)) ∧ (∀ y0 y1 y2 y3 y4 y5 y6 y7 y8, LeO (laws_FnExactReachedWithout.j8 k y0 y1 y2 y3 y4 y5 y6 y7 y8) (laws_FnExactReachedWithout.j8 (k + 1) y0 y1 y2 y3 y4 y5 y6 y7 y8)) ∧ (∀ y0 y1 y2 y3 y4 y5 y6 y7, LeO (laws_FnExactReachedWithout.j9 k y0 y1 y2 y3 y4 y5 y6 y7) (laws_FnExactReachedWithout.j9 (k + 1) y0 y1 y2 y3 y4 y5 y6 y7)) ∧ (∀ y0 y1 y2, LeO (laws_FnExactReachedWithout.j10 k y0 y1 y2) (laws_FnExactReachedWithout.j10 (k + 1) y0 y1 y2)) ∧ (∀ y0 y1, LeO (laws_FnExactReachedWithout.j11 k y0 y1) (laws_FnExactReachedWithout.j11 (k + 1) y0 y1))
 | 0 => ⟨fun _ _ _ _ r h => by simp [laws_FnExactReachedWithout.j0] at h, fun _ _ _ _ r h => by simp [laws_FnExactReachedWithout.j1] at h, fun _ _ _ _ _ _ _ _ _ _ _ _ r h => by simp [laws_FnExactReachedWithout.j2] at h, fun _ _ _ _ _ _ _ _ _ _ _ r h => by simp [laws_FnExactReachedWithout.j3] at h, fun _ _ _ _ _ _ _ _ _ _ _ r h => by simp [laws_FnExactReachedWithout.j4] at h, fun _ _ _ _ _ _ _ _ _ _ _ r h => by simp [laws_FnExactReachedWithout.j5] at h, fun _ _ _ _ _ _ _ _ r h => by simp [laws_FnExactReachedWithout.j6] at h, fun _ _ _ _ _ _ _ r h => by simp [laws_FnExactReachedWithout.j7] at h, fun _ _ _ _ _ _ _ _ _ r h => by simp [laws_FnExactReachedWithout.j8] at h, fun _ _ _ _ _ _ _ _ r h => by simp [laws_FnExactReachedWithout.j9] at h, fun _ _ _ r h => by simp [laws_FnExactReachedWithout.j10] at h, fun _ _ r h => by simp [laws_FnExactReachedWithout.j11] at h⟩
 | k + 1 => by
  obtain ⟨ih0, ih1, ih2, ih3, ih4, ih5, ih6, ih7, ih8, ih9, ih10, ih11⟩ := laws_FnExactReachedWithout.mono_l k
  refine ⟨?_, ?_, ?_, ?_, ?_, ?_, ?_, ?_, ?_, ?_, ?_, ?_⟩
  ·intro y0 y1 y2 y3
   unfold laws_FnExactReachedWithout.j0
   repeat' first
   | (with_reducible exact ih0 _ _ _ _)
   | (with_reducible exact ih1 _ _ _ _)
   | (with_reducible exact ih2 _ _ _ _ _ _ _ _ _ _ _ _)
   | (with_reducible exact ih3 _ _ _ _ _ _ _ _ _ _ _)
   | (with_reducible exact ih4 _ _ _ _ _ _ _ _ _ _ _)
   | (with_reducible exact ih5 _ _ _ _ _ _ _ _ _ _ _)
   | (with_reducible exact ih6 _ _ _ _ _ _ _ _)
   | (with_reducible exact ih7 _ _ _ _ _ _ _)
   | (with_reducible exact ih8 _ _ _ _ _ _ _ _ _)
   | (with_reducible exact ih9 _ _ _ _ _ _ _ _)
   | (with_reducible exact ih10 _ _ _)
   | (with_reducible exact ih11 _ _)
   | (with_reducible exact impl_ReachedWithout.mono _ _ _ _ _)
   | (with_reducible exact spec_ReachedWithout.mono _ _ _ _ _)
   | (with_reducible exact LeO.refl _)
   | (with_reducible exact LeO.none _)
   | (with_reducible refine LeO.ite ?_ ?_)
   | (with_reducible refine LeO.bind ?_ (fun _ => ?_))
   | exact ih0 _ _ _ _
   | exact ih1 _ _ _ _
   | exact ih2 _ _ _ _ _ _ _ _ _ _ _ _
   | exact ih3 _ _ _ _ _ _ _ _ _ _ _
   | exact ih4 _ _ _ _ _ _ _ _ _ _ _
   | exact ih5 _ _ _ _ _ _ _ _ _ _ _
   | exact ih6 _ _ _ _ _ _ _ _
   | exact ih7 _ _ _ _ _ _ _
   | exact ih8 _ _ _ _ _ _ _ _ _
   | exact ih9 _ _ _ _ _ _ _ _
   | exact ih10 _ _ _
   | exact ih11 _ _
   | exact impl_ReachedWithout.mono _ _ _ _ _
   | exact spec_ReachedWithout.mono _ _ _ _ _
   | exact LeO.none _
   | refine LeO.ite ?_ ?_
   | refine LeO.bind ?_ (fun _ => ?_)
  ·intro y0 y1 y2 y3
   unfold laws_FnExactReachedWithout.j1
   repeat' first
   | (with_reducible exact ih0 _ _ _ _)
   | (with_reducible exact ih1 _ _ _ _)
   | (with_reducible exact ih2 _ _ _ _ _ _ _ _ _ _ _ _)
   | (with_reducible exact ih3 _ _ _ _ _ _ _ _ _ _ _)
   | (with_reducible exact ih4 _ _ _ _ _ _ _ _ _ _ _)
   | (with_reducible exact ih5 _ _ _ _ _ _ _ _ _ _ _)
   | (with_reducible exact ih6 _ _ _ _ _ _ _ _)
   | (with_reducible exact ih7 _ _ _ _ _ _ _)
   | (with_reducible exact ih8 _ _ _ _ _ _ _ _ _)
   | (with_reducible exact ih9 _ _ _ _ _ _ _ _)
   | (with_reducible exact ih10 _ _ _)
   | (with_reducible exact ih11 _ _)
   | (with_reducible exact impl_ReachedWithout.mono _ _ _ _ _)
   | (with_reducible exact spec_ReachedWithout.mono _ _ _ _ _)
   | (with_reducible exact LeO.refl _)
   | (with_reducible exact LeO.none _)
   | (with_reducible refine LeO.ite ?_ ?_)
   | (with_reducible refine LeO.bind ?_ (fun _ => ?_))
   | exact ih0 _ _ _ _
   | exact ih1 _ _ _ _
   | exact ih2 _ _ _ _ _ _ _ _ _ _ _ _
   | exact ih3 _ _ _ _ _ _ _ _ _ _ _
   | exact ih4 _ _ _ _ _ _ _ _ _ _ _
   | exact ih5 _ _ _ _ _ _ _ _ _ _ _
   | exact ih6 _ _ _ _ _ _ _ _
   | exact ih7 _ _ _ _ _ _ _
   | exact ih8 _ _ _ _ _ _ _ _ _
   | exact ih9 _ _ _ _ _ _ _ _
   | exact ih10 _ _ _
   | exact ih11 _ _
   | exact impl_ReachedWithout.mono _ _ _ _ _
   | exact spec_ReachedWithout.mono _ _ _ _ _
   | exact LeO.none _
   | refine LeO.ite ?_ ?_
   | refine LeO.bind ?_ (fun _ => ?_)
  ·intro y0 y1 y2 y3 y4 y5 y6 y7 y8 y9 y10 y11
   unfold laws_FnExactReachedWithout.j2
   repeat' first
   | (with_reducible exact ih0 _ _ _ _)
   | (with_reducible exact ih1 _ _ _ _)
   | (with_reducible exact ih2 _ _ _ _ _ _ _ _ _ _ _ _)
   | (with_reducible exact ih3 _ _ _ _ _ _ _ _ _ _ _)
   | (with_reducible exact ih4 _ _ _ _ _ _ _ _ _ _ _)
   | (with_reducible exact ih5 _ _ _ _ _ _ _ _ _ _ _)
   | (with_reducible exact ih6 _ _ _ _ _ _ _ _)
   | (with_reducible exact ih7 _ _ _ _ _ _ _)
   | (with_reducible exact ih8 _ _ _ _ _ _ _ _ _)
   | (with_reducible exact ih9 _ _ _ _ _ _ _ _)
   | (with_reducible exact ih10 _ _ _)
   | (with_reducible exact ih11 _ _)
   | (with_reducible exact impl_ReachedWithout.mono _ _ _ _ _)
   | (with_reducible exact spec_ReachedWithout.mono _ _ _ _ _)
   | (with_reducible exact LeO.refl _)
   | (with_reducible exact LeO.none _)
   | (with_reducible refine LeO.ite ?_ ?_)
   | (with_reducible refine LeO.bind ?_ (fun _ => ?_))
   | exact ih0 _ _ _ _
   | exact ih1 _ _ _ _
   | exact ih2 _ _ _ _ _ _ _ _ _ _ _ _
   | exact ih3 _ _ _ _ _ _ _ _ _ _ _
   | exact ih4 _ _ _ _ _ _ _ _ _ _ _
   | exact ih5 _ _ _ _ _ _ _ _ _ _ _
   | exact ih6 _ _ _ _ _ _ _ _
   | exact ih7 _ _ _ _ _ _ _
   | exact ih8 _ _ _ _ _ _ _ _ _
   | exact ih9 _ _ _ _ _ _ _ _
   | exact ih10 _ _ _
   | exact ih11 _ _
   | exact impl_ReachedWithout.mono _ _ _ _ _
   | exact spec_ReachedWithout.mono _ _ _ _ _
   | exact LeO.none _
   | refine LeO.ite ?_ ?_
   | refine LeO.bind ?_ (fun _ => ?_)
  ·intro y0 y1 y2 y3 y4 y5 y6 y7 y8 y9 y10
   unfold laws_FnExactReachedWithout.j3
   repeat' first
   | (with_reducible exact ih0 _ _ _ _)
   | (with_reducible exact ih1 _ _ _ _)
   | (with_reducible exact ih2 _ _ _ _ _ _ _ _ _ _ _ _)
   | (with_reducible exact ih3 _ _ _ _ _ _ _ _ _ _ _)
   | (with_reducible exact ih4 _ _ _ _ _ _ _ _ _ _ _)
   | (with_reducible exact ih5 _ _ _ _ _ _ _ _ _ _ _)
   | (with_reducible exact ih6 _ _ _ _ _ _ _ _)
   | (with_reducible exact ih7 _ _ _ _ _ _ _)
   | (with_reducible exact ih8 _ _ _ _ _ _ _ _ _)
   | (with_reducible exact ih9 _ _ _ _ _ _ _ _)
   | (with_reducible exact ih10 _ _ _)
   | (with_reducible exact ih11 _ _)
   | (with_reducible exact impl_ReachedWithout.mono _ _ _ _ _)
   | (with_reducible exact spec_ReachedWithout.mono _ _ _ _ _)
   | (with_reducible exact LeO.refl _)
   | (with_reducible exact LeO.none _)
   | (with_reducible refine LeO.ite ?_ ?_)
   | (with_reducible refine LeO.bind ?_ (fun _ => ?_))
   | exact ih0 _ _ _ _
   | exact ih1 _ _ _ _
   | exact ih2 _ _ _ _ _ _ _ _ _ _ _ _
   | exact ih3 _ _ _ _ _ _ _ _ _ _ _
   | exact ih4 _ _ _ _ _ _ _ _ _ _ _
   | exact ih5 _ _ _ _ _ _ _ _ _ _ _
   | exact ih6 _ _ _ _ _ _ _ _
   | exact ih7 _ _ _ _ _ _ _
   | exact ih8 _ _ _ _ _ _ _ _ _
   | exact ih9 _ _ _ _ _ _ _ _
   | exact ih10 _ _ _
   | exact ih11 _ _
   | exact impl_ReachedWithout.mono _ _ _ _ _
   | exact spec_ReachedWithout.mono _ _ _ _ _
   | exact LeO.none _
   | refine LeO.ite ?_ ?_
   | refine LeO.bind ?_ (fun _ => ?_)
  ·intro y0 y1 y2 y3 y4 y5 y6 y7 y8 y9 y10
   unfold laws_FnExactReachedWithout.j4
   repeat' first
   | (with_reducible exact ih0 _ _ _ _)
   | (with_reducible exact ih1 _ _ _ _)
   | (with_reducible exact ih2 _ _ _ _ _ _ _ _ _ _ _ _)
   | (with_reducible exact ih3 _ _ _ _ _ _ _ _ _ _ _)
   | (with_reducible exact ih4 _ _ _ _ _ _ _ _ _ _ _)
   | (with_reducible exact ih5 _ _ _ _ _ _ _ _ _ _ _)
   | (with_reducible exact ih6 _ _ _ _ _ _ _ _)
   | (with_reducible exact ih7 _ _ _ _ _ _ _)
   | (with_reducible exact ih8 _ _ _ _ _ _ _ _ _)
   | (with_reducible exact ih9 _ _ _ _ _ _ _ _)
   | (with_reducible exact ih10 _ _ _)
   | (with_reducible exact ih11 _ _)
   | (with_reducible exact impl_ReachedWithout.mono _ _ _ _ _)
   | (with_reducible exact spec_ReachedWithout.mono _ _ _ _ _)
   | (with_reducible exact LeO.refl _)
   | (with_reducible exact LeO.none _)
   | (with_reducible refine LeO.ite ?_ ?_)
   | (with_reducible refine LeO.bind ?_ (fun _ => ?_))
   | exact ih0 _ _ _ _
   | exact ih1 _ _ _ _
   | exact ih2 _ _ _ _ _ _ _ _ _ _ _ _
   | exact ih3 _ _ _ _ _ _ _ _ _ _ _
   | exact ih4 _ _ _ _ _ _ _ _ _ _ _
   | exact ih5 _ _ _ _ _ _ _ _ _ _ _
   | exact ih6 _ _ _ _ _ _ _ _
   | exact ih7 _ _ _ _ _ _ _
   | exact ih8 _ _ _ _ _ _ _ _ _
   | exact ih9 _ _ _ _ _ _ _ _
   | exact ih10 _ _ _
   | exact ih11 _ _
   | exact impl_ReachedWithout.mono _ _ _ _ _
   | exact spec_ReachedWithout.mono _ _ _ _ _
   | exact LeO.none _
   | refine LeO.ite ?_ ?_
   | refine LeO.bind ?_ (fun _ => ?_)
  ·intro y0 y1 y2 y3 y4 y5 y6 y7 y8 y9 y10
   unfold laws_FnExactReachedWithout.j5
   repeat' first
   | (with_reducible exact ih0 _ _ _ _)
   | (with_reducible exact ih1 _ _ _ _)
   | (with_reducible exact ih2 _ _ _ _ _ _ _ _ _ _ _ _)
   | (with_reducible exact ih3 _ _ _ _ _ _ _ _ _ _ _)
   | (with_reducible exact ih4 _ _ _ _ _ _ _ _ _ _ _)
   | (with_reducible exact ih5 _ _ _ _ _ _ _ _ _ _ _)
   | (with_reducible exact ih6 _ _ _ _ _ _ _ _)
   | (with_reducible exact ih7 _ _ _ _ _ _ _)
   | (with_reducible exact ih8 _ _ _ _ _ _ _ _ _)
   | (with_reducible exact ih9 _ _ _ _ _ _ _ _)
   | (with_reducible exact ih10 _ _ _)
   | (with_reducible exact ih11 _ _)
   | (with_reducible exact impl_ReachedWithout.mono _ _ _ _ _)
   | (with_reducible exact spec_ReachedWithout.mono _ _ _ _ _)
   | (with_reducible exact LeO.refl _)
   | (with_reducible exact LeO.none _)
   | (with_reducible refine LeO.ite ?_ ?_)
   | (with_reducible refine LeO.bind ?_ (fun _ => ?_))
   | exact ih0 _ _ _ _
   | exact ih1 _ _ _ _
   | exact ih2 _ _ _ _ _ _ _ _ _ _ _ _
   | exact ih3 _ _ _ _ _ _ _ _ _ _ _
   | exact ih4 _ _ _ _ _ _ _ _ _ _ _
   | exact ih5 _ _ _ _ _ _ _ _ _ _ _
   | exact ih6 _ _ _ _ _ _ _ _
   | exact ih7 _ _ _ _ _ _ _
   | exact ih8 _ _ _ _ _ _ _ _ _
   | exact ih9 _ _ _ _ _ _ _ _
   | exact ih10 _ _ _
   | exact ih11 _ _
   | exact impl_ReachedWithout.mono _ _ _ _ _
   | exact spec_ReachedWithout.mono _ _ _ _ _
   | exact LeO.none _
   | refine LeO.ite ?_ ?_
   | refine LeO.bind ?_ (fun _ => ?_)
  ·intro y0 y1 y2 y3 y4 y5 y6 y7
   unfold laws_FnExactReachedWithout.j6
   repeat' first
   | (with_reducible exact ih0 _ _ _ _)
   | (with_reducible exact ih1 _ _ _ _)
   | (with_reducible exact ih2 _ _ _ _ _ _ _ _ _ _ _ _)
   | (with_reducible exact ih3 _ _ _ _ _ _ _ _ _ _ _)
   | (with_reducible exact ih4 _ _ _ _ _ _ _ _ _ _ _)
   | (with_reducible exact ih5 _ _ _ _ _ _ _ _ _ _ _)
   | (with_reducible exact ih6 _ _ _ _ _ _ _ _)
   | (with_reducible exact ih7 _ _ _ _ _ _ _)
   | (with_reducible exact ih8 _ _ _ _ _ _ _ _ _)
   | (with_reducible exact ih9 _ _ _ _ _ _ _ _)
   | (with_reducible exact ih10 _ _ _)
   | (with_reducible exact ih11 _ _)
   | (with_reducible exact impl_ReachedWithout.mono _ _ _ _ _)
   | (with_reducible exact spec_ReachedWithout.mono _ _ _ _ _)
   | (with_reducible exact LeO.refl _)
   | (with_reducible exact LeO.none _)
   | (with_reducible refine LeO.ite ?_ ?_)
   | (with_reducible refine LeO.bind ?_ (fun _ => ?_))
   | exact ih0 _ _ _ _
   | exact ih1 _ _ _ _
   | exact ih2 _ _ _ _ _ _ _ _ _ _ _ _
   | exact ih3 _ _ _ _ _ _ _ _ _ _ _
   | exact ih4 _ _ _ _ _ _ _ _ _ _ _
   | exact ih5 _ _ _ _ _ _ _ _ _ _ _
   | exact ih6 _ _ _ _ _ _ _ _
   | exact ih7 _ _ _ _ _ _ _
   | exact ih8 _ _ _ _ _ _ _ _ _
   | exact ih9 _ _ _ _ _ _ _ _
   | exact ih10 _ _ _
   | exact ih11 _ _
   | exact impl_ReachedWithout.mono _ _ _ _ _
   | exact spec_ReachedWithout.mono _ _ _ _ _
   | exact LeO.none _
   | refine LeO.ite ?_ ?_
   | refine LeO.bind ?_ (fun _ => ?_)
  ·intro y0 y1 y2 y3 y4 y5 y6
   unfold laws_FnExactReachedWithout.j7
   repeat' first
   | (with_reducible exact ih0 _ _ _ _)
   | (with_reducible exact ih1 _ _ _ _)
   | (with_reducible exact ih2 _ _ _ _ _ _ _ _ _ _ _ _)
   | (with_reducible exact ih3 _ _ _ _ _ _ _ _ _ _ _)
   | (with_reducible exact ih4 _ _ _ _ _ _ _ _ _ _ _)
   | (with_reducible exact ih5 _ _ _ _ _ _ _ _ _ _ _)
   | (with_reducible exact ih6 _ _ _ _ _ _ _ _)
   | (with_reducible exact ih7 _ _ _ _ _ _ _)
   | (with_reducible exact ih8 _ _ _ _ _ _ _ _ _)
   | (with_reducible exact ih9 _ _ _ _ _ _ _ _)
   | (with_reducible exact ih10 _ _ _)
   | (with_reducible exact ih11 _ _)
   | (with_reducible exact impl_ReachedWithout.mono _ _ _ _ _)
   | (with_reducible exact spec_ReachedWithout.mono _ _ _ _ _)
   | (with_reducible exact LeO.refl _)
   | (with_reducible exact LeO.none _)
   | (with_reducible refine LeO.ite ?_ ?_)
   | (with_reducible refine LeO.bind ?_ (fun _ => ?_))
   | exact ih0 _ _ _ _
   | exact ih1 _ _ _ _
   | exact ih2 _ _ _ _ _ _ _ _ _ _ _ _
   | exact ih3 _ _ _ _ _ _ _ _ _ _ _
   | exact ih4 _ _ _ _ _ _ _ _ _ _ _
   | exact ih5 _ _ _ _ _ _ _ _ _ _ _
   | exact ih6 _ _ _ _ _ _ _ _
   | exact ih7 _ _ _ _ _ _ _
   | exact ih8 _ _ _ _ _ _ _ _ _
   | exact ih9 _ _ _ _ _ _ _ _
   | exact ih10 _ _ _
   | exact ih11 _ _
   | exact impl_ReachedWithout.mono _ _ _ _ _
   | exact spec_ReachedWithout.mono _ _ _ _ _
   | exact LeO.none _
   | refine LeO.ite ?_ ?_
   | refine LeO.bind ?_ (fun _ => ?_)
  ·intro y0 y1 y2 y3 y4 y5 y6 y7 y8
   unfold laws_FnExactReachedWithout.j8
   repeat' first
   | (with_reducible exact ih0 _ _ _ _)
   | (with_reducible exact ih1 _ _ _ _)
   | (with_reducible exact ih2 _ _ _ _ _ _ _ _ _ _ _ _)
   | (with_reducible exact ih3 _ _ _ _ _ _ _ _ _ _ _)
   | (with_reducible exact ih4 _ _ _ _ _ _ _ _ _ _ _)
   | (with_reducible exact ih5 _ _ _ _ _ _ _ _ _ _ _)
   | (with_reducible exact ih6 _ _ _ _ _ _ _ _)
   | (with_reducible exact ih7 _ _ _ _ _ _ _)
   | (with_reducible exact ih8 _ _ _ _ _ _ _ _ _)
   | (with_reducible exact ih9 _ _ _ _ _ _ _ _)
   | (with_reducible exact ih10 _ _ _)
   | (with_reducible exact ih11 _ _)
   | (with_reducible exact impl_ReachedWithout.mono _ _ _ _ _)
   | (with_reducible exact spec_ReachedWithout.mono _ _ _ _ _)
   | (with_reducible exact LeO.refl _)
   | (with_reducible exact LeO.none _)
   | (with_reducible refine LeO.ite ?_ ?_)
   | (with_reducible refine LeO.bind ?_ (fun _ => ?_))
   | exact ih0 _ _ _ _
   | exact ih1 _ _ _ _
   | exact ih2 _ _ _ _ _ _ _ _ _ _ _ _
   | exact ih3 _ _ _ _ _ _ _ _ _ _ _
   | exact ih4 _ _ _ _ _ _ _ _ _ _ _
   | exact ih5 _ _ _ _ _ _ _ _ _ _ _
   | exact ih6 _ _ _ _ _ _ _ _
   | exact ih7 _ _ _ _ _ _ _
   | exact ih8 _ _ _ _ _ _ _ _ _
   | exact ih9 _ _ _ _ _ _ _ _
   | exact ih10 _ _ _
   | exact ih11 _ _
   | exact impl_ReachedWithout.mono _ _ _ _ _
   | exact spec_ReachedWithout.mono _ _ _ _ _
   | exact LeO.none _
   | refine LeO.ite ?_ ?_
   | refine LeO.bind ?_ (fun _ => ?_)
  ·intro y0 y1 y2 y3 y4 y5 y6 y7
   unfold laws_FnExactReachedWithout.j9
   repeat' first
   | (with_reducible exact ih0 _ _ _ _)
   | (with_reducible exact ih1 _ _ _ _)
   | (with_reducible exact ih2 _ _ _ _ _ _ _ _ _ _ _ _)
   | (with_reducible exact ih3 _ _ _ _ _ _ _ _ _ _ _)
   | (with_reducible exact ih4 _ _ _ _ _ _ _ _ _ _ _)
   | (with_reducible exact ih5 _ _ _ _ _ _ _ _ _ _ _)
   | (with_reducible exact ih6 _ _ _ _ _ _ _ _)
   | (with_reducible exact ih7 _ _ _ _ _ _ _)
   | (with_reducible exact ih8 _ _ _ _ _ _ _ _ _)
   | (with_reducible exact ih9 _ _ _ _ _ _ _ _)
   | (with_reducible exact ih10 _ _ _)
   | (with_reducible exact ih11 _ _)
   | (with_reducible exact impl_ReachedWithout.mono _ _ _ _ _)
   | (with_reducible exact spec_ReachedWithout.mono _ _ _ _ _)
   | (with_reducible exact LeO.refl _)
   | (with_reducible exact LeO.none _)
   | (with_reducible refine LeO.ite ?_ ?_)
   | (with_reducible refine LeO.bind ?_ (fun _ => ?_))
   | exact ih0 _ _ _ _
   | exact ih1 _ _ _ _
   | exact ih2 _ _ _ _ _ _ _ _ _ _ _ _
   | exact ih3 _ _ _ _ _ _ _ _ _ _ _
   | exact ih4 _ _ _ _ _ _ _ _ _ _ _
   | exact ih5 _ _ _ _ _ _ _ _ _ _ _
   | exact ih6 _ _ _ _ _ _ _ _
   | exact ih7 _ _ _ _ _ _ _
   | exact ih8 _ _ _ _ _ _ _ _ _
   | exact ih9 _ _ _ _ _ _ _ _
   | exact ih10 _ _ _
   | exact ih11 _ _
   | exact impl_ReachedWithout.mono _ _ _ _ _
   | exact spec_ReachedWithout.mono _ _ _ _ _
   | exact LeO.none _
   | refine LeO.ite ?_ ?_
   | refine LeO.bind ?_ (fun _ => ?_)
  ·intro y0 y1 y2
   unfold laws_FnExactReachedWithout.j10
   repeat' first
   | (with_reducible exact ih0 _ _ _ _)
   | (with_reducible exact ih1 _ _ _ _)
   | (with_reducible exact ih2 _ _ _ _ _ _ _ _ _ _ _ _)
   | (with_reducible exact ih3 _ _ _ _ _ _ _ _ _ _ _)
   | (with_reducible exact ih4 _ _ _ _ _ _ _ _ _ _ _)
   | (with_reducible exact ih5 _ _ _ _ _ _ _ _ _ _ _)
   | (with_reducible exact ih6 _ _ _ _ _ _ _ _)
   | (with_reducible exact ih7 _ _ _ _ _ _ _)
   | (with_reducible exact ih8 _ _ _ _ _ _ _ _ _)
   | (with_reducible exact ih9 _ _ _ _ _ _ _ _)
   | (with_reducible exact ih10 _ _ _)
   | (with_reducible exact ih11 _ _)
   | (with_reducible exact impl_ReachedWithout.mono _ _ _ _ _)
   | (with_reducible exact spec_ReachedWithout.mono _ _ _ _ _)
   | (with_reducible exact LeO.refl _)
   | (with_reducible exact LeO.none _)
   | (with_reducible refine LeO.ite ?_ ?_)
   | (with_reducible refine LeO.bind ?_ (fun _ => ?_))
   | exact ih0 _ _ _ _
   | exact ih1 _ _ _ _
   | exact ih2 _ _ _ _ _ _ _ _ _ _ _ _
   | exact ih3 _ _ _ _ _ _ _ _ _ _ _
   | exact ih4 _ _ _ _ _ _ _ _ _ _ _
   | exact ih5 _ _ _ _ _ _ _ _ _ _ _
   | exact ih6 _ _ _ _ _ _ _ _
   | exact ih7 _ _ _ _ _ _ _
   | exact ih8 _ _ _ _ _ _ _ _ _
   | exact ih9 _ _ _ _ _ _ _ _
   | exact ih10 _ _ _
   | exact ih11 _ _
   | exact impl_ReachedWithout.mono _ _ _ _ _
   | exact spec_ReachedWithout.mono _ _ _ _ _
   | exact LeO.none _
   | refine LeO.ite ?_ ?_
   | refine LeO.bind ?_ (fun _ => ?_)
  ·intro y0 y1
   unfold laws_FnExactReachedWithout.j11
   repeat' first
   | (with_reducible exact ih0 _ _ _ _)
   | (with_reducible exact ih1 _ _ _ _)
   | (with_reducible exact ih2 _ _ _ _ _ _ _ _ _ _ _ _)
   | (with_reducible exact ih3 _ _ _ _ _ _ _ _ _ _ _)
   | (with_reducible exact ih4 _ _ _ _ _ _ _ _ _ _ _)
   | (with_reducible exact ih5 _ _ _ _ _ _ _ _ _ _ _)
   | (with_reducible exact ih6 _ _ _ _ _ _ _ _)
   | (with_reducible exact ih7 _ _ _ _ _ _ _)
   | (with_reducible exact ih8 _ _ _ _ _ _ _ _ _)
   | (with_reducible exact ih9 _ _ _ _ _ _ _ _)
   | (with_reducible exact ih10 _ _ _)
   | (with_reducible exact ih11 _ _)
   | (with_reducible exact impl_ReachedWithout.mono _ _ _ _ _)
   | (with_reducible exact spec_ReachedWithout.mono _ _ _ _ _)
   | (with_reducible exact LeO.refl _)
   | (with_reducible exact LeO.none _)
   | (with_reducible refine LeO.ite ?_ ?_)
   | (with_reducible refine LeO.bind ?_ (fun _ => ?_))
   | exact ih0 _ _ _ _
   | exact ih1 _ _ _ _
   | exact ih2 _ _ _ _ _ _ _ _ _ _ _ _
   | exact ih3 _ _ _ _ _ _ _ _ _ _ _
   | exact ih4 _ _ _ _ _ _ _ _ _ _ _
   | exact ih5 _ _ _ _ _ _ _ _ _ _ _
   | exact ih6 _ _ _ _ _ _ _ _
   | exact ih7 _ _ _ _ _ _ _
   | exact ih8 _ _ _ _ _ _ _ _ _
   | exact ih9 _ _ _ _ _ _ _ _
   | exact ih10 _ _ _
   | exact ih11 _ _
   | exact impl_ReachedWithout.mono _ _ _ _ _
   | exact spec_ReachedWithout.mono _ _ _ _ _
   | exact LeO.none _
   | refine LeO.ite ?_ ?_
   | refine LeO.bind ?_ (fun _ => ?_)
theorem laws_FnExactReachedWithout.mono : ∀ a0 a1 a2 a3 k, LeO (laws_FnExactReachedWithout.f k a0 a1 a2 a3) (laws_FnExactReachedWithout.f (k + 1) a0 a1 a2 a3) := by
 intro a0 a1 a2 a3 k
 obtain ⟨ih0, ih1, ih2, ih3, ih4, ih5, ih6, ih7, ih8, ih9, ih10, ih11⟩ := laws_FnExactReachedWithout.mono_l k
 unfold laws_FnExactReachedWithout.f
 repeat' first
   | (with_reducible exact ih0 _ _ _ _)
   | (with_reducible exact ih1 _ _ _ _)
   | (with_reducible exact ih2 _ _ _ _ _ _ _ _ _ _ _ _)
   | (with_reducible exact ih3 _ _ _ _ _ _ _ _ _ _ _)
   | (with_reducible exact ih4 _ _ _ _ _ _ _ _ _ _ _)
   | (with_reducible exact ih5 _ _ _ _ _ _ _ _ _ _ _)
   | (with_reducible exact ih6 _ _ _ _ _ _ _ _)
   | (with_reducible exact ih7 _ _ _ _ _ _ _)
   | (with_reducible exact ih8 _ _ _ _ _ _ _ _ _)
   | (with_reducible exact ih9 _ _ _ _ _ _ _ _)
   | (with_reducible exact ih10 _ _ _)
   | (with_reducible exact ih11 _ _)
   | (with_reducible exact impl_ReachedWithout.mono _ _ _ _ _)
   | (with_reducible exact spec_ReachedWithout.mono _ _ _ _ _)
   | (with_reducible exact LeO.refl _)
   | (with_reducible exact LeO.none _)
   | (with_reducible refine LeO.ite ?_ ?_)
   | (with_reducible refine LeO.bind ?_ (fun _ => ?_))
   | exact ih0 _ _ _ _
   | exact ih1 _ _ _ _
   | exact ih2 _ _ _ _ _ _ _ _ _ _ _ _
   | exact ih3 _ _ _ _ _ _ _ _ _ _ _
   | exact ih4 _ _ _ _ _ _ _ _ _ _ _
   | exact ih5 _ _ _ _ _ _ _ _ _ _ _
   | exact ih6 _ _ _ _ _ _ _ _
   | exact ih7 _ _ _ _ _ _ _
   | exact ih8 _ _ _ _ _ _ _ _ _
   | exact ih9 _ _ _ _ _ _ _ _
   | exact ih10 _ _ _
   | exact ih11 _ _
   | exact impl_ReachedWithout.mono _ _ _ _ _
   | exact spec_ReachedWithout.mono _ _ _ _ _
   | exact LeO.none _
   | refine LeO.ite ?_ ?_
   | refine LeO.bind ?_ (fun _ => ?_)
set_option maxHeartbeats 8000000 in
set_option maxRecDepth 100000 in
theorem laws_FnExactReachedWithout.calls (k : Nat) (A0_0 : Option Addr) (c0_0 : Nat) (l0_0 : List Int) (A0_1 : Option Addr) (c0_1 : Nat) (l0_1 : List (S85)) (a1 : Int) (A2 : Option Addr) (c2 : Nat) (l2 : List Int) (r : Bool) (w : World) (hr0_0 : Kd.C (Kd.int .i64) w A0_0 l0_0.length l0_0) (hc0_0 : l0_0.length ≤ c0_0) (hr0_1 : Kd.C k85 w A0_1 l0_1.length l0_1) (hc0_1 : l0_1.length ≤ c0_1) (hr2 : Kd.C (Kd.int .i64) w A2 l2.length l2) (hc2 : l2.length ≤ c2) (h : laws_FnExactReachedWithout.f k l0_0 l0_1 a1 l2 = some r) :
  Calls Try.prog 8 #[.agg #[.slice A0_0 l0_0.length c0_0, .slice A0_1 l0_1.length c0_1], .int .i64 a1, .slice A2 l2.length c2] w fun e w' => e = .returned (.bool r) ∧ Below w.heap.size w w' := by
 have hu25 := Try.underlying25
 have hu31 := Try.underlying31
 have HR0_0 := Aside0.mk hr0_0
 have HC0_0 := Aside0.mk hc0_0
 clear hr0_0 hc0_0
 have HR0_1 := Aside0.mk hr0_1
 have HC0_1 := Aside0.mk hc0_1
 clear hr0_1 hc0_1
 have HR2 := Aside0.mk hr2
 have HC2 := Aside0.mk hc2
 clear hr2 hc2
 have HB := Aside0.mk (Below.refl w.heap.size w)
 have H : (if (l2.length : Int) > 1048576 then (some true) else (laws_FnExactReachedWithout.j0 k a1 l2 l0_0 l0_1)) = some r := h
 clear h
 have HC4 := Aside0.mk H
 clear H
 go_enter Try.func8, Try.ntmps8
 go_upto_if 21 with (first | ((with_reducible refine gate_dst (N := 3) rfl ?_); refine box_event ?hg (N := 3) ?hd (cs := #[.slice A0_0 l0_0.length c0_0, .slice A0_1 l0_1.length c0_1]) (t := 25) ?hr ?_; (case hd => rfl); (case hg => rfl); (case hr => first | (go_simp; done) | (go_simp; rfl)); intro gb264 hg w5 hbox hb; have n0_ := Aside0.mk (below_step (by repeat (first | (with_reducible first | exact HB.out|apply wA|apply wN|apply wD) | exact HB.out)) hb); have n1_ := Aside0.mk (hbox); have n2_ := Aside0.mk ((by rw [hg]; exact (below_size (by repeat (first | (with_reducible first | exact HB.out|apply wA|apply wN|apply wD) | exact HB.out))) : w.heap.size ≤ gb264)); have n3_ := Aside0.mk ((by rw [hg]; exact (below_size (by repeat (first | (with_reducible first | exact HB.out|apply wA|apply wN|apply wD) | exact HB.out))) : w.heap.size ≤ gb264)); clear HB; have HB := n0_; have BK264 := n1_; have GW264 := n2_; have GE264 := n3_; clear n0_ n1_ n2_ n3_; clear hb hbox hg))
 (try simp only [Act.put, List.setIfInBounds_toArray, List.set_cons_zero, List.set_cons_succ])
 go_cut [] (fun wc => ∃ (kq : Nat), Aside0 (laws_FnExactReachedWithout.j0 kq a1 l2 l0_0 l0_1 = some r) ∧ Aside0 (kq ≤ k) ∧ Aside0 (wc.heap[gb264]? = some (.cells #[(.slice A0_0 l0_0.length c0_0), (.slice A0_1 l0_1.length c0_1)] 25 (0, 0))) ∧ Aside0 (Below w.heap.size w wc))
 case first =>
  have H := HC4.out
  clear HC4
  by_cases c6 : (l2.length : Int) > 1048576
  ·rw [if_pos c6] at H
   have c6b0 : decide (1048576 < (l2.length : Int)) = true := decide_eq_true c6
   have c6b1 : decide (1048576 < l2.length) = true := decide_eq_true (by omega)
   clear c6
   (first | rw [c6b0] | (simp only [i64_w, i32_w]; rw [c6b0]) | rw [c6b2] | skip)
   obtain rfl := Option.some.inj H
   go_wp2
   go_ret
   exact ⟨by first | rfl | (simp [errW_none, errW_some] <;> rfl) | (simp [*, errW_none, errW_some] <;> rfl), by repeat (first | (with_reducible first | exact HB.out|apply wA|apply wN|apply wD |refine wS ?_ GE264.out) | exact HB.out)⟩
  ·rw [if_neg c6] at H
   have c6b0 : decide (1048576 < (l2.length : Int)) = false := decide_eq_false c6
   have c6b1 : decide (1048576 < l2.length) = false := decide_eq_false (by omega)
   clear c6
   (first | rw [c6b0] | (simp only [i64_w, i32_w]; rw [c6b0]) | rw [c6b2] | skip)
   have H' := Aside0.mk H
   clear H
   go_wp2
   go_meet
   case rel => exact ⟨_, H', ⟨by first | omega | exact Nat.le_refl _⟩, ⟨by (with_reducible repeat (first | refine bN ?_ _|refine bW ?_|refine bA ?_ _)); exact BK264.out⟩, ⟨by repeat (first | (with_reducible first | exact HB.out|apply wA|apply wN|apply wD |refine wS ?_ GE264.out) | exact HB.out)⟩⟩
 case rest =>
  clear HC4
  try clear c2
  try clear p2
  try clear c6
  try clear c6b0
  try clear c6b1
  try clear c6b2
  obtain ⟨kq, HA, HJ3, BK264, HB⟩ := hcut
  cases kq with
  | zero => exact absurd HA.out (by simp [laws_FnExactReachedWithout.j0])
  | succ kj3 =>
   have H := HA.out
   clear HA
   simp only [laws_FnExactReachedWithout.j0] at H
   replace H := Option.bind_eq_some_iff.mp H
   obtain ⟨t265, A70, H⟩ := H
   replace H : (if t265 < 0 then (some true) else (laws_FnExactReachedWithout.j1 kj3 a1 l2 l0_0 l0_1)) = some r := H
   have A7 := Aside0.mk A70
   clear A70
   have HC8 := Aside0.mk H
   clear H
   have hcz9_0 : wc.cell? ⟨gb264, 0, none⟩ = some (.slice A0_0 l0_0.length c0_0) := (blk_cell BK264.out 0).trans rfl
   have hcz9_1 : wc.cell? ⟨gb264, 1, none⟩ = some (.slice A0_1 l0_1.length c0_1) := (blk_cell BK264.out 1).trans rfl
   have hfz9_0 := blk_frozen BK264.out 0
   have hfz9_1 := blk_frozen BK264.out 1
   go_upto_if 26 with (first | ((with_reducible refine gate_callee (f := 14) rfl ?_); refine goesL_ (some 24) rfl rfl Try.func14 (by kernel_rfl) rfl #[.agg #[.slice A0_0 l0_0.length c0_0, .slice A0_1 l0_1.length c0_1], .int .i64 1048576] rfl (by (try simp only [List.map_toArray, List.map_cons, List.map_nil]); first | done | rfl | (simp only [List.length_drop, List.length_take]; rfl)) ?_; (with_reducible refine (laws_szNetwork.calls _ _ l0_0 _ _ l0_1 1048576 t265 _ ?side1 ?side2 ?side3 ?side4 A7.out).mono ?_); (case side1 => repeat (first | exact (Kd.C_below HR0_0.out HB.out) | (with_reducible first|refine Kd.C_alloc ?_ _|refine Kd.C_drewN ?_ _|refine Kd.C_drew ?_))); (case side2 => exact HC0_0.out); (case side3 => repeat (first | exact (Kd.C_below HR0_1.out HB.out) | (with_reducible first|refine Kd.C_alloc ?_ _|refine Kd.C_drewN ?_ _|refine Kd.C_drew ?_))); (case side4 => exact HC0_1.out); rintro e w10 ⟨rfl, hb⟩; refine ⟨_, rfl, ?_⟩; have n0_ := Aside0.mk (blk_below (g := gb264) (o := .cells #[.slice A0_0 l0_0.length c0_0, .slice A0_1 l0_1.length c0_1] 25 (0, 0)) (by (with_reducible repeat (first | refine bN ?_ _|refine bW ?_|refine bA ?_ _)); exact BK264.out) hb); have n1_ := Aside0.mk (below_step (by repeat (first | (with_reducible first | exact HB.out|apply wA|apply wN|apply wD |refine wS ?_ GE264.out) | exact HB.out)) hb); clear BK264; clear HB; have BK264 := n0_; have HB := n1_; clear n0_ n1_; (try clear hb); (try clear hb2); (try clear hk); (try clear hi)))
   (try simp only [Act.put, List.setIfInBounds_toArray, List.set_cons_zero, List.set_cons_succ])
   go_cut [] (fun wc => ∃ (kq : Nat), Aside0 (laws_FnExactReachedWithout.j1 kq a1 l2 l0_0 l0_1 = some r) ∧ Aside0 (kq ≤ kj3) ∧ Aside0 (wc.heap[gb264]? = some (.cells #[(.slice A0_0 l0_0.length c0_0), (.slice A0_1 l0_1.length c0_1)] 25 (0, 0))) ∧ Aside0 (Below w.heap.size w wc))
   case first =>
    have H := HC8.out
    clear HC8
    by_cases c11 : t265 < 0
    ·rw [if_pos c11] at H
     have c11b0 : decide (t265 < 0) = true := decide_eq_true c11
     clear c11
     (first | rw [c11b0] | (simp only [i64_w, i32_w]; rw [c11b0]) | rw [c11b2] | skip)
     obtain rfl := Option.some.inj H
     go_wp2
     go_ret
     exact ⟨by first | rfl | (simp [errW_none, errW_some] <;> rfl) | (simp [*, errW_none, errW_some] <;> rfl), by repeat (first | (with_reducible first | exact HB.out|apply wA|apply wN|apply wD |refine wS ?_ GE264.out) | exact HB.out)⟩
    ·rw [if_neg c11] at H
     have c11b0 : decide (t265 < 0) = false := decide_eq_false c11
     clear c11
     (first | rw [c11b0] | (simp only [i64_w, i32_w]; rw [c11b0]) | rw [c11b2] | skip)
     have H' := Aside0.mk H
     clear H
     go_wp2
     go_meet
     case rel => exact ⟨_, H', ⟨by have := HJ3.out; first | omega | exact Nat.le_refl _⟩, ⟨by (with_reducible repeat (first | refine bN ?_ _|refine bW ?_|refine bA ?_ _)); exact BK264.out⟩, ⟨by repeat (first | (with_reducible first | exact HB.out|apply wA|apply wN|apply wD |refine wS ?_ GE264.out) | exact HB.out)⟩⟩
   case rest =>
    clear HC8
    try clear c1
    try clear c2
    try clear p2
    try clear c6
    try clear c6b0
    try clear c6b1
    try clear c6b2
    try clear c8
    try clear c11
    try clear c11b0
    try clear c11b2
    try clear hcz9_0
    try clear hcz9_1
    try clear hfz9_0
    try clear hfz9_1
    try clear p2
    obtain ⟨kq, HA, HJ7, BK264, HB⟩ := hcut
    cases kq with
    | zero => exact absurd HA.out (by simp [laws_FnExactReachedWithout.j1])
    | succ kj7 =>
     have H := HA.out
     clear HA
     simp only [laws_FnExactReachedWithout.j1] at H
     replace H := Option.bind_eq_some_iff.mp H
     obtain ⟨⟨t266, t269⟩, A120, H⟩ := H
     replace H : ((laws_toInt64S_.f l2).bind fun t272 => ((spec_ReachedWithout.f kj7 t266 t269 a1 t272).bind fun bt275 => ((laws_toNetwork.f l0_0 l0_1).bind fun bt279 => ((laws_toInt64S_.f l2).bind fun t286 => ((impl_ReachedWithout.f kj7 bt279.1 bt279.2 a1 t286).bind fun bt289 => ((laws_eqInt64S_.f bt289.1 bt275.1).bind fun t293 => (if t293 = true then (laws_FnExactReachedWithout.j2 kj7 a1 l2 bt275.1 bt275.2 t286 bt289.1 bt289.2 (bt289.2 != bt275.2) l0_0 l0_1 bt279.1 bt279.2) else (laws_FnExactReachedWithout.j2 kj7 a1 l2 bt275.1 bt275.2 t286 bt289.1 bt289.2 true l0_0 l0_1 bt279.1 bt279.2)))))))) = some r := H
     have A12 := Aside0.mk A120
     clear A120
     replace H := Option.bind_eq_some_iff.mp H
     obtain ⟨t272, A130, H⟩ := H
     replace H : ((spec_ReachedWithout.f kj7 t266 t269 a1 t272).bind fun bt275 => ((laws_toNetwork.f l0_0 l0_1).bind fun bt279 => ((laws_toInt64S_.f l2).bind fun t286 => ((impl_ReachedWithout.f kj7 bt279.1 bt279.2 a1 t286).bind fun bt289 => ((laws_eqInt64S_.f bt289.1 bt275.1).bind fun t293 => (if t293 = true then (laws_FnExactReachedWithout.j2 kj7 a1 l2 bt275.1 bt275.2 t286 bt289.1 bt289.2 (bt289.2 != bt275.2) l0_0 l0_1 bt279.1 bt279.2) else (laws_FnExactReachedWithout.j2 kj7 a1 l2 bt275.1 bt275.2 t286 bt289.1 bt289.2 true l0_0 l0_1 bt279.1 bt279.2))))))) = some r := H
     have A13 := Aside0.mk A130
     clear A130
     replace H := Option.bind_eq_some_iff.mp H
     obtain ⟨⟨t275, t278⟩, A140, H⟩ := H
     replace H : ((laws_toNetwork.f l0_0 l0_1).bind fun bt279 => ((laws_toInt64S_.f l2).bind fun t286 => ((impl_ReachedWithout.f kj7 bt279.1 bt279.2 a1 t286).bind fun bt289 => ((laws_eqInt64S_.f bt289.1 t275).bind fun t293 => (if t293 = true then (laws_FnExactReachedWithout.j2 kj7 a1 l2 t275 t278 t286 bt289.1 bt289.2 (bt289.2 != t278) l0_0 l0_1 bt279.1 bt279.2) else (laws_FnExactReachedWithout.j2 kj7 a1 l2 t275 t278 t286 bt289.1 bt289.2 true l0_0 l0_1 bt279.1 bt279.2)))))) = some r := H
     have A14 := Aside0.mk A140
     clear A140
     replace H := Option.bind_eq_some_iff.mp H
     obtain ⟨⟨t279, t282⟩, A150, H⟩ := H
     replace H : ((laws_toInt64S_.f l2).bind fun t286 => ((impl_ReachedWithout.f kj7 t279 t282 a1 t286).bind fun bt289 => ((laws_eqInt64S_.f bt289.1 t275).bind fun t293 => (if t293 = true then (laws_FnExactReachedWithout.j2 kj7 a1 l2 t275 t278 t286 bt289.1 bt289.2 (bt289.2 != t278) l0_0 l0_1 t279 t282) else (laws_FnExactReachedWithout.j2 kj7 a1 l2 t275 t278 t286 bt289.1 bt289.2 true l0_0 l0_1 t279 t282))))) = some r := H
     have A15 := Aside0.mk A150
     clear A150
     replace H := Option.bind_eq_some_iff.mp H
     obtain ⟨t286, A160, H⟩ := H
     replace H : ((impl_ReachedWithout.f kj7 t279 t282 a1 t286).bind fun bt289 => ((laws_eqInt64S_.f bt289.1 t275).bind fun t293 => (if t293 = true then (laws_FnExactReachedWithout.j2 kj7 a1 l2 t275 t278 t286 bt289.1 bt289.2 (bt289.2 != t278) l0_0 l0_1 t279 t282) else (laws_FnExactReachedWithout.j2 kj7 a1 l2 t275 t278 t286 bt289.1 bt289.2 true l0_0 l0_1 t279 t282)))) = some r := H
     have A16 := Aside0.mk A160
     clear A160
     replace H := Option.bind_eq_some_iff.mp H
     obtain ⟨⟨t289, t292⟩, A170, H⟩ := H
     replace H : ((laws_eqInt64S_.f t289 t275).bind fun t293 => (if t293 = true then (laws_FnExactReachedWithout.j2 kj7 a1 l2 t275 t278 t286 t289 t292 (t292 != t278) l0_0 l0_1 t279 t282) else (laws_FnExactReachedWithout.j2 kj7 a1 l2 t275 t278 t286 t289 t292 true l0_0 l0_1 t279 t282))) = some r := H
     have A17 := Aside0.mk A170
     clear A170
     have HC18 := Aside0.mk H
     clear H
     have hcz19_0 : wc.cell? ⟨gb264, 0, none⟩ = some (.slice A0_0 l0_0.length c0_0) := (blk_cell BK264.out 0).trans rfl
     have hcz19_1 : wc.cell? ⟨gb264, 1, none⟩ = some (.slice A0_1 l0_1.length c0_1) := (blk_cell BK264.out 1).trans rfl
     have hfz19_0 := blk_frozen BK264.out 0
     have hfz19_1 := blk_frozen BK264.out 1
     go_upto_region 11 with (first | ((with_reducible refine gate_callee (f := 16) rfl ?_); refine goesL_ (some 29) rfl rfl Try.func16 (by kernel_rfl) rfl #[.agg #[.slice A0_0 l0_0.length c0_0, .slice A0_1 l0_1.length c0_1]] rfl (by (try simp only [List.map_toArray, List.map_cons, List.map_nil]); first | done | rfl | (simp only [List.length_drop, List.length_take]; rfl)) ?_; (with_reducible refine (laws_toNetwork.calls _ _ l0_0 _ _ l0_1 t266 t269 _ ?side1 ?side2 ?side3 ?side4 A12.out).mono ?_); (case side1 => repeat (first | exact (Kd.C_below HR0_0.out HB.out) | (with_reducible first|refine Kd.C_alloc ?_ _|refine Kd.C_drewN ?_ _|refine Kd.C_drew ?_))); (case side2 => exact HC0_0.out); (case side3 => repeat (first | exact (Kd.C_below HR0_1.out HB.out) | (with_reducible first|refine Kd.C_alloc ?_ _|refine Kd.C_drewN ?_ _|refine Kd.C_drew ?_))); (case side4 => exact HC0_1.out); rintro e w20 ⟨v267, v270, rfl, ho0, ho1, hb⟩; refine ⟨_, rfl, ?_⟩; have n0_ := Aside0.mk (Kd.R_lower ho0 (below_size (by repeat (first | (with_reducible first | exact HB.out|apply wA|apply wN|apply wD |refine wS ?_ GE264.out) | exact HB.out)))); have n1_ := Aside0.mk (Kd.R_lower ho1 (below_size (by repeat (first | (with_reducible first | exact HB.out|apply wA|apply wN|apply wD |refine wS ?_ GE264.out) | exact HB.out)))); have n2_ := Aside0.mk (blk_below (g := gb264) (o := .cells #[.slice A0_0 l0_0.length c0_0, .slice A0_1 l0_1.length c0_1] 25 (0, 0)) (by (with_reducible repeat (first | refine bN ?_ _|refine bW ?_|refine bA ?_ _)); exact BK264.out) hb); have n3_ := Aside0.mk (below_step (by repeat (first | (with_reducible first | exact HB.out|apply wA|apply wN|apply wD |refine wS ?_ GE264.out) | exact HB.out)) hb); clear BK264; clear HB; have HO268 := n0_; have HO271 := n1_; have BK264 := n2_; have HB := n3_; clear n0_ n1_ n2_ n3_; (try clear hb); (try clear hb2); (try clear hk); (try clear hi); (try clear ho0); (try clear ho1)) | ((with_reducible refine gate_callee (f := 32) rfl ?_); refine goesL_ (some 32) rfl rfl Try.func32 (by kernel_rfl) rfl #[.slice A2 l2.length c2] rfl (by (try simp only [List.map_toArray, List.map_cons, List.map_nil]); first | done | rfl | (simp only [List.length_drop, List.length_take]; rfl)) ?_; (with_reducible refine (laws_toInt64S_.calls _ _ l2 t272 _ ?side1 ?side2 A13.out).mono ?_); (case side1 => repeat (first | exact (Kd.C_below HR2.out HB.out) | (with_reducible first|refine Kd.C_alloc ?_ _|refine Kd.C_drewN ?_ _|refine Kd.C_drew ?_))); (case side2 => exact HC2.out); rintro e w21 ⟨v273, rfl, ho0, hb⟩; refine ⟨_, rfl, ?_⟩; have n0_ := Aside0.mk (Kd.R_elder' (by (with_reducible repeat (first | apply rA|apply rN|apply rW)); exact HO268.out) (Kd.R_base ho0) hb); have n1_ := Aside0.mk (Kd.R_below (by (with_reducible repeat (first | apply rA|apply rN|apply rW)); exact HO271.out) hb); have n2_ := Aside0.mk (Kd.R_lower (Kd.R_new' ho0 (Kd.R_lt (by (with_reducible repeat (first | apply rA|apply rN|apply rW)); exact HO268.out))) (below_size (by repeat (first | (with_reducible first | exact HB.out|apply wA|apply wN|apply wD |refine wS ?_ GE264.out) | exact HB.out)))); have n3_ := Aside0.mk (blk_below (g := gb264) (o := .cells #[.slice A0_0 l0_0.length c0_0, .slice A0_1 l0_1.length c0_1] 25 (0, 0)) (by (with_reducible repeat (first | refine bN ?_ _|refine bW ?_|refine bA ?_ _)); exact BK264.out) hb); have n4_ := Aside0.mk (below_step (by repeat (first | (with_reducible first | exact HB.out|apply wA|apply wN|apply wD |refine wS ?_ GE264.out) | exact HB.out)) hb); clear HO268; clear HO271; clear BK264; clear HB; have HO268 := n0_; have HO271 := n1_; have HO274 := n2_; have BK264 := n3_; have HB := n4_; clear n0_ n1_ n2_ n3_ n4_; (try clear hb); (try clear hb2); (try clear hk); (try clear hi); (try clear ho0); obtain ⟨Ao22, co22, eo22⟩ := Kd.R_slice HO268.out; subst eo22; obtain ⟨Ao23, co23, eo23⟩ := Kd.R_slice HO271.out; subst eo23; obtain ⟨Ao24, co24, eo24⟩ := Kd.R_slice HO274.out; subst eo24) | ((with_reducible refine gate_callee (f := 31) rfl ?_); refine goesL_ (some 33) rfl rfl Try.func31 (by kernel_rfl) rfl #[.agg #[.slice Ao22 t266.length co22, .slice Ao23 t269.length co23], .int .i64 a1, .slice Ao24 t272.length co24] rfl (by (try simp only [List.map_toArray, List.map_cons, List.map_nil]); first | done | rfl | (simp only [List.length_drop, List.length_take]; rfl)) ?_; (with_reducible refine (spec_ReachedWithout.calls kj7 _ _ t266 _ _ t269 a1 _ _ t272 t275 t278 _ ?side1 ?side2 ?side3 ?side4 ?side5 ?side6 A14.out).mono ?_); (case side1 => repeat (first | exact (Kd.R_reads' HO268.out).2.2 | (with_reducible first|refine Kd.C_alloc ?_ _|refine Kd.C_drewN ?_ _|refine Kd.C_drew ?_))); (case side2 => exact (Kd.R_reads' HO268.out).2.1); (case side3 => repeat (first | exact (Kd.R_reads' HO271.out).2.2 | (with_reducible first|refine Kd.C_alloc ?_ _|refine Kd.C_drewN ?_ _|refine Kd.C_drew ?_))); (case side4 => exact (Kd.R_reads' HO271.out).2.1); (case side5 => repeat (first | exact (Kd.R_reads' HO274.out).2.2 | (with_reducible first|refine Kd.C_alloc ?_ _|refine Kd.C_drewN ?_ _|refine Kd.C_drew ?_))); (case side6 => exact (Kd.R_reads' HO274.out).2.1); rintro e w25 ⟨v276, rfl, ho0, hb⟩; refine ⟨_, rfl, ?_⟩; have n0_ := Aside0.mk (Kd.R_elder' (by (with_reducible repeat (first | apply rA|apply rN|apply rW)); exact HO268.out) (Kd.R_base ho0) hb); have n1_ := Aside0.mk (Kd.R_below (by (with_reducible repeat (first | apply rA|apply rN|apply rW)); exact HO271.out) hb); have n2_ := Aside0.mk (Kd.R_elder' (by (with_reducible repeat (first | apply rA|apply rN|apply rW)); exact HO274.out) (Kd.R_base ho0) hb); have n3_ := Aside0.mk (Kd.R_lower (Kd.R_new' (Kd.R_new' ho0 (Kd.R_lt (by (with_reducible repeat (first | apply rA|apply rN|apply rW)); exact HO268.out))) (Kd.R_lt (by (with_reducible repeat (first | apply rA|apply rN|apply rW)); exact HO274.out))) (below_size (by repeat (first | (with_reducible first | exact HB.out|apply wA|apply wN|apply wD |refine wS ?_ GE264.out) | exact HB.out)))); have n4_ := Aside0.mk (blk_below (g := gb264) (o := .cells #[.slice A0_0 l0_0.length c0_0, .slice A0_1 l0_1.length c0_1] 25 (0, 0)) (by (with_reducible repeat (first | refine bN ?_ _|refine bW ?_|refine bA ?_ _)); exact BK264.out) hb); have n5_ := Aside0.mk (below_step (by repeat (first | (with_reducible first | exact HB.out|apply wA|apply wN|apply wD |refine wS ?_ GE264.out) | exact HB.out)) hb); clear HO268; clear HO271; clear HO274; clear BK264; clear HB; have HO268 := n0_; have HO271 := n1_; have HO274 := n2_; have HO277 := n3_; have BK264 := n4_; have HB := n5_; clear n0_ n1_ n2_ n3_ n4_ n5_; (try clear hb); (try clear hb2); (try clear hk); (try clear hi); (try clear ho0); have hcz26_0 : w25.cell? ⟨gb264, 0, none⟩ = some (.slice A0_0 l0_0.length c0_0) := (blk_cell BK264.out 0).trans rfl; have hcz26_1 : w25.cell? ⟨gb264, 1, none⟩ = some (.slice A0_1 l0_1.length c0_1) := (blk_cell BK264.out 1).trans rfl; have hfz26_0 := blk_frozen BK264.out 0; have hfz26_1 := blk_frozen BK264.out 1) | ((with_reducible refine gate_callee (f := 16) rfl ?_); refine goesL_ (some 37) rfl rfl Try.func16 (by kernel_rfl) rfl #[.agg #[.slice A0_0 l0_0.length c0_0, .slice A0_1 l0_1.length c0_1]] rfl (by (try simp only [List.map_toArray, List.map_cons, List.map_nil]); first | done | rfl | (simp only [List.length_drop, List.length_take]; rfl)) ?_; (with_reducible refine (laws_toNetwork.calls _ _ l0_0 _ _ l0_1 t279 t282 _ ?side1 ?side2 ?side3 ?side4 A15.out).mono ?_); (case side1 => repeat (first | exact (Kd.C_below HR0_0.out HB.out) | (with_reducible first|refine Kd.C_alloc ?_ _|refine Kd.C_drewN ?_ _|refine Kd.C_drew ?_))); (case side2 => exact HC0_0.out); (case side3 => repeat (first | exact (Kd.C_below HR0_1.out HB.out) | (with_reducible first|refine Kd.C_alloc ?_ _|refine Kd.C_drewN ?_ _|refine Kd.C_drew ?_))); (case side4 => exact HC0_1.out); rintro e w27 ⟨v280, v283, rfl, ho0, ho1, hb⟩; refine ⟨_, rfl, ?_⟩; have n0_ := Aside0.mk (Kd.R_elder' (by (with_reducible repeat (first | apply rA|apply rN|apply rW)); exact HO268.out) (Kd.R_base ho0) hb); have n1_ := Aside0.mk (Kd.R_elder' (by (with_reducible repeat (first | apply rA|apply rN|apply rW)); exact HO271.out) (Kd.R_base ho1) hb); have n2_ := Aside0.mk (Kd.R_elder' (by (with_reducible repeat (first | apply rA|apply rN|apply rW)); exact HO274.out) (Kd.R_base ho0) hb); have n3_ := Aside0.mk (Kd.R_elder' (by (with_reducible repeat (first | apply rA|apply rN|apply rW)); exact HO277.out) (Kd.R_base ho0) hb); have n4_ := Aside0.mk (Kd.R_lower (Kd.R_new' (Kd.R_new' (Kd.R_new' ho0 (Kd.R_lt (by (with_reducible repeat (first | apply rA|apply rN|apply rW)); exact HO268.out))) (Kd.R_lt (by (with_reducible repeat (first | apply rA|apply rN|apply rW)); exact HO274.out))) (Kd.R_lt (by (with_reducible repeat (first | apply rA|apply rN|apply rW)); exact HO277.out))) (below_size (by repeat (first | (with_reducible first | exact HB.out|apply wA|apply wN|apply wD |refine wS ?_ GE264.out) | exact HB.out)))); have n5_ := Aside0.mk (Kd.R_lower (Kd.R_new' ho1 (Kd.R_lt (by (with_reducible repeat (first | apply rA|apply rN|apply rW)); exact HO271.out))) (below_size (by repeat (first | (with_reducible first | exact HB.out|apply wA|apply wN|apply wD |refine wS ?_ GE264.out) | exact HB.out)))); have n6_ := Aside0.mk (blk_below (g := gb264) (o := .cells #[.slice A0_0 l0_0.length c0_0, .slice A0_1 l0_1.length c0_1] 25 (0, 0)) (by (with_reducible repeat (first | refine bN ?_ _|refine bW ?_|refine bA ?_ _)); exact BK264.out) hb); have n7_ := Aside0.mk (below_step (by repeat (first | (with_reducible first | exact HB.out|apply wA|apply wN|apply wD |refine wS ?_ GE264.out) | exact HB.out)) hb); clear HO268; clear HO271; clear HO274; clear HO277; clear BK264; clear HB; have HO268 := n0_; have HO271 := n1_; have HO274 := n2_; have HO277 := n3_; have HO281 := n4_; have HO284 := n5_; have BK264 := n6_; have HB := n7_; clear n0_ n1_ n2_ n3_ n4_ n5_ n6_ n7_; (try clear hb); (try clear hb2); (try clear hk); (try clear hi); (try clear ho0); (try clear ho1)) | ((with_reducible refine gate_dst (N := 10) rfl ?_); refine box_event ?hg (N := 10) ?hd (cs := #[.slice none 0 0, .slice none 0 0]) (t := 31) ?hr ?_; (case hd => rfl); (case hg => rfl); (case hr => first | (go_simp; done) | (go_simp; rfl)); intro gb285 hg w28 hbox hb; have n0_ := Aside0.mk (Kd.R_below (by (with_reducible repeat (first | apply rA|apply rN|apply rW)); exact HO268.out) hb); have n1_ := Aside0.mk (Kd.R_below (by (with_reducible repeat (first | apply rA|apply rN|apply rW)); exact HO271.out) hb); have n2_ := Aside0.mk (Kd.R_below (by (with_reducible repeat (first | apply rA|apply rN|apply rW)); exact HO274.out) hb); have n3_ := Aside0.mk (Kd.R_below (by (with_reducible repeat (first | apply rA|apply rN|apply rW)); exact HO277.out) hb); have n4_ := Aside0.mk (Kd.R_below (by (with_reducible repeat (first | apply rA|apply rN|apply rW)); exact HO281.out) hb); have n5_ := Aside0.mk (Kd.R_below (by (with_reducible repeat (first | apply rA|apply rN|apply rW)); exact HO284.out) hb); have n6_ := Aside0.mk (blk_below (g := gb264) (o := .cells #[.slice A0_0 l0_0.length c0_0, .slice A0_1 l0_1.length c0_1] 25 (0, 0)) (by (with_reducible repeat (first | refine bN ?_ _|refine bW ?_|refine bA ?_ _)); exact BK264.out) hb); have n7_ := Aside0.mk (below_step (by repeat (first | (with_reducible first | exact HB.out|apply wA|apply wN|apply wD |refine wS ?_ GE264.out) | exact HB.out)) hb); have n8_ := Aside0.mk (hbox); have n9_ := Aside0.mk ((by rw [hg]; exact (below_size (by repeat (first | (with_reducible first | exact HB.out|apply wA|apply wN|apply wD |refine wS ?_ GE264.out) | exact HB.out))) : w.heap.size ≤ gb285)); have n10_ := Aside0.mk ((by rw [hg]; exact (below_size (by repeat (first | (with_reducible first | exact HB.out|apply wA|apply wN|apply wD |refine wS ?_ GE264.out) | exact HB.out))) : w.heap.size ≤ gb285)); have n11_ := Aside0.mk ((by rw [hg]; exact Nat.ne_of_lt (blk_lt (g := gb264) (o := .cells #[.slice A0_0 l0_0.length c0_0, .slice A0_1 l0_1.length c0_1] 25 (0, 0)) (by (with_reducible repeat (first | refine bN ?_ _|refine bW ?_|refine bA ?_ _)); exact BK264.out)) : gb264 ≠ gb285)); have n12_ := Aside0.mk ((by rw [hg]; exact Nat.ne_of_gt (blk_lt (g := gb264) (o := .cells #[.slice A0_0 l0_0.length c0_0, .slice A0_1 l0_1.length c0_1] 25 (0, 0)) (by (with_reducible repeat (first | refine bN ?_ _|refine bW ?_|refine bA ?_ _)); exact BK264.out)) : gb285 ≠ gb264)); clear HO268; clear HO271; clear HO274; clear HO277; clear HO281; clear HO284; clear BK264; clear HB; have HO268 := n0_; have HO271 := n1_; have HO274 := n2_; have HO277 := n3_; have HO281 := n4_; have HO284 := n5_; have BK264 := n6_; have HB := n7_; have BK285 := n8_; have GW285 := n9_; have GE285 := n10_; have NB264_285 := n11_; have NB285_264 := n12_; clear n0_ n1_ n2_ n3_ n4_ n5_ n6_ n7_ n8_ n9_ n10_ n11_ n12_; clear hb hbox hg; obtain ⟨Ao29, co29, eo29⟩ := Kd.R_slice HO281.out; subst eo29; have hnb30 := NB285_264.out; have hnc30 := NB264_285.out; have hcz31_0 : w28.cell? ⟨gb285, 0, none⟩ = some (.slice none 0 0) := (blk_cell BK285.out 0).trans rfl; have hcz31_1 : w28.cell? ⟨gb285, 1, none⟩ = some (.slice none 0 0) := (blk_cell BK285.out 1).trans rfl; have hfz31_0 := blk_frozen BK285.out 0; have hfz31_1 := blk_frozen BK285.out 1; obtain ⟨Ao32, co32, eo32⟩ := Kd.R_slice HO284.out; subst eo32) | ((with_reducible refine gate_callee (f := 32) rfl ?_); refine goesL_ (some 39) rfl rfl Try.func32 (by kernel_rfl) rfl #[.slice A2 l2.length c2] rfl (by (try simp only [List.map_toArray, List.map_cons, List.map_nil]); first | done | rfl | (simp only [List.length_drop, List.length_take]; rfl)) ?_; (with_reducible refine (laws_toInt64S_.calls _ _ l2 t286 _ ?side1 ?side2 A16.out).mono ?_); (case side1 => exact Kd.C_below HR2.out (by repeat (first | (with_reducible first | exact HB.out|apply wA|apply wN|apply wD |refine wS ?_ GE264.out |refine wS ?_ GE285.out) | exact HB.out))); (case side2 => exact HC2.out); rintro e w33 ⟨v287, rfl, ho0, hb⟩; refine ⟨_, rfl, ?_⟩; have n0_ := Aside0.mk (Kd.R_elder' (by (with_reducible repeat (first | apply rA|apply rN|apply rW)); exact (Kd.R_mono (Kd.R_far (p := ⟨gb285, 1, none⟩) (Kd.R_far (p := ⟨gb285, 0, none⟩) (Kd.R_types HO268.out BK285.out (by decide)) (fun _ hk => hk.2) (.slice Ao29 t279.length co29)) (fun _ hk => hk.2) (.slice Ao32 t282.length co32)) (fun _ h_ => h_.1))) (Kd.R_base ho0) hb); have n1_ := Aside0.mk (Kd.R_below (by (with_reducible repeat (first | apply rA|apply rN|apply rW)); exact (Kd.R_mono (Kd.R_far (p := ⟨gb285, 1, none⟩) (Kd.R_far (p := ⟨gb285, 0, none⟩) (Kd.R_types HO271.out BK285.out (by decide)) (fun _ hk => hk.2) (.slice Ao29 t279.length co29)) (fun _ hk => hk.2) (.slice Ao32 t282.length co32)) (fun _ h_ => h_.1))) hb); have n2_ := Aside0.mk (Kd.R_elder' (by (with_reducible repeat (first | apply rA|apply rN|apply rW)); exact (Kd.R_mono (Kd.R_far (p := ⟨gb285, 1, none⟩) (Kd.R_far (p := ⟨gb285, 0, none⟩) (Kd.R_types HO274.out BK285.out (by decide)) (fun _ hk => hk.2) (.slice Ao29 t279.length co29)) (fun _ hk => hk.2) (.slice Ao32 t282.length co32)) (fun _ h_ => h_.1))) (Kd.R_base ho0) hb); have n3_ := Aside0.mk (Kd.R_elder' (by (with_reducible repeat (first | apply rA|apply rN|apply rW)); exact (Kd.R_mono (Kd.R_far (p := ⟨gb285, 1, none⟩) (Kd.R_far (p := ⟨gb285, 0, none⟩) (Kd.R_types HO277.out BK285.out (by decide)) (fun _ hk => hk.2) (.slice Ao29 t279.length co29)) (fun _ hk => hk.2) (.slice Ao32 t282.length co32)) (fun _ h_ => h_.1))) (Kd.R_base ho0) hb); have n4_ := Aside0.mk (Kd.R_elder' (by (with_reducible repeat (first | apply rA|apply rN|apply rW)); exact (Kd.R_mono (Kd.R_far (p := ⟨gb285, 1, none⟩) (Kd.R_far (p := ⟨gb285, 0, none⟩) (Kd.R_types HO281.out BK285.out (by decide)) (fun _ hk => hk.2) (.slice Ao29 t279.length co29)) (fun _ hk => hk.2) (.slice Ao32 t282.length co32)) (fun _ h_ => h_.1))) (Kd.R_base ho0) hb); have n5_ := Aside0.mk (Kd.R_below (by (with_reducible repeat (first | apply rA|apply rN|apply rW)); exact (Kd.R_mono (Kd.R_far (p := ⟨gb285, 1, none⟩) (Kd.R_far (p := ⟨gb285, 0, none⟩) (Kd.R_types HO284.out BK285.out (by decide)) (fun _ hk => hk.2) (.slice Ao29 t279.length co29)) (fun _ hk => hk.2) (.slice Ao32 t282.length co32)) (fun _ h_ => h_.1))) hb); have n6_ := Aside0.mk (Kd.R_lower (Kd.R_new' (Kd.R_new' (Kd.R_new' (Kd.R_new' ho0 (Kd.R_lt (by (with_reducible repeat (first | apply rA|apply rN|apply rW)); exact (Kd.R_mono (Kd.R_far (p := ⟨gb285, 1, none⟩) (Kd.R_far (p := ⟨gb285, 0, none⟩) (Kd.R_types HO268.out BK285.out (by decide)) (fun _ hk => hk.2) (.slice Ao29 t279.length co29)) (fun _ hk => hk.2) (.slice Ao32 t282.length co32)) (fun _ h_ => h_.1))))) (Kd.R_lt (by (with_reducible repeat (first | apply rA|apply rN|apply rW)); exact (Kd.R_mono (Kd.R_far (p := ⟨gb285, 1, none⟩) (Kd.R_far (p := ⟨gb285, 0, none⟩) (Kd.R_types HO274.out BK285.out (by decide)) (fun _ hk => hk.2) (.slice Ao29 t279.length co29)) (fun _ hk => hk.2) (.slice Ao32 t282.length co32)) (fun _ h_ => h_.1))))) (Kd.R_lt (by (with_reducible repeat (first | apply rA|apply rN|apply rW)); exact (Kd.R_mono (Kd.R_far (p := ⟨gb285, 1, none⟩) (Kd.R_far (p := ⟨gb285, 0, none⟩) (Kd.R_types HO277.out BK285.out (by decide)) (fun _ hk => hk.2) (.slice Ao29 t279.length co29)) (fun _ hk => hk.2) (.slice Ao32 t282.length co32)) (fun _ h_ => h_.1))))) (Kd.R_lt (by (with_reducible repeat (first | apply rA|apply rN|apply rW)); exact (Kd.R_mono (Kd.R_far (p := ⟨gb285, 1, none⟩) (Kd.R_far (p := ⟨gb285, 0, none⟩) (Kd.R_types HO281.out BK285.out (by decide)) (fun _ hk => hk.2) (.slice Ao29 t279.length co29)) (fun _ hk => hk.2) (.slice Ao32 t282.length co32)) (fun _ h_ => h_.1))))) (below_size (by repeat (first | (with_reducible first | exact HB.out|apply wA|apply wN|apply wD |refine wS ?_ GE264.out |refine wS ?_ GE285.out) | exact HB.out)))); have n7_ := Aside0.mk (blk_below (g := gb264) (o := .cells #[.slice A0_0 l0_0.length c0_0, .slice A0_1 l0_1.length c0_1] 25 (0, 0)) (by (with_reducible repeat (first | refine bN ?_ _|refine bW ?_|refine bA ?_ _)); refine blk_far ?_ NB264_285.out _; (with_reducible repeat (first | refine bN ?_ _|refine bW ?_|refine bA ?_ _)); refine blk_far ?_ NB264_285.out _; (with_reducible repeat (first | refine bN ?_ _|refine bW ?_|refine bA ?_ _)); exact BK264.out) hb); have n8_ := Aside0.mk (blk_below (g := gb285) (o := .cells #[.slice Ao29 t279.length co29, .slice Ao32 t282.length co32] 31 (0, 0)) (by (with_reducible repeat (first | refine bN ?_ _|refine bW ?_|refine bA ?_ _)); refine blk_put (cs := #[.slice Ao29 t279.length co29, .slice none 0 0]) ?_ 1 _ rfl; (with_reducible repeat (first | refine bN ?_ _|refine bW ?_|refine bA ?_ _)); refine blk_put (cs := #[.slice none 0 0, .slice none 0 0]) ?_ 0 _ rfl; (with_reducible repeat (first | refine bN ?_ _|refine bW ?_|refine bA ?_ _)); exact BK285.out) hb); have n9_ := Aside0.mk (below_step (by repeat (first | (with_reducible first | exact HB.out|apply wA|apply wN|apply wD |refine wS ?_ GE264.out |refine wS ?_ GE285.out) | exact HB.out)) hb); clear HO268; clear HO271; clear HO274; clear HO277; clear HO281; clear HO284; clear BK264; clear BK285; clear HB; have HO268 := n0_; have HO271 := n1_; have HO274 := n2_; have HO277 := n3_; have HO281 := n4_; have HO284 := n5_; have HO288 := n6_; have BK264 := n7_; have BK285 := n8_; have HB := n9_; clear n0_ n1_ n2_ n3_ n4_ n5_ n6_ n7_ n8_ n9_; (try clear hb); (try clear hb2); (try clear hk); (try clear hi); (try clear ho0); have hcz34_0 : w33.cell? ⟨gb285, 0, none⟩ = some (.slice Ao29 t279.length co29) := (blk_cell BK285.out 0).trans rfl; have hcz34_1 : w33.cell? ⟨gb285, 1, none⟩ = some (.slice Ao32 t282.length co32) := (blk_cell BK285.out 1).trans rfl; have hfz34_0 := blk_frozen BK285.out 0; have hfz34_1 := blk_frozen BK285.out 1; obtain ⟨Ao35, co35, eo35⟩ := Kd.R_slice HO288.out; subst eo35) | ((with_reducible refine gate_callee (f := 33) rfl ?_); refine goesL_ (some 44) rfl rfl Try.func33 (by kernel_rfl) rfl #[.agg #[.slice Ao29 t279.length co29, .slice Ao32 t282.length co32], .int .i64 a1, .slice Ao35 t286.length co35] rfl (by (try simp only [List.map_toArray, List.map_cons, List.map_nil]); first | done | rfl | (simp only [List.length_drop, List.length_take]; rfl)) ?_; (with_reducible refine (impl_ReachedWithout.calls kj7 _ _ t279 _ _ t282 a1 _ _ t286 t289 t292 _ ?side1 ?side2 ?side3 ?side4 ?side5 ?side6 A17.out).mono ?_); (case side1 => repeat (first | exact (Kd.R_reads' HO281.out).2.2 | (with_reducible first|refine Kd.C_alloc ?_ _|refine Kd.C_drewN ?_ _|refine Kd.C_drew ?_))); (case side2 => exact (Kd.R_reads' HO281.out).2.1); (case side3 => repeat (first | exact (Kd.R_reads' HO284.out).2.2 | (with_reducible first|refine Kd.C_alloc ?_ _|refine Kd.C_drewN ?_ _|refine Kd.C_drew ?_))); (case side4 => exact (Kd.R_reads' HO284.out).2.1); (case side5 => repeat (first | exact (Kd.R_reads' HO288.out).2.2 | (with_reducible first|refine Kd.C_alloc ?_ _|refine Kd.C_drewN ?_ _|refine Kd.C_drew ?_))); (case side6 => exact (Kd.R_reads' HO288.out).2.1); rintro e w36 ⟨v290, rfl, ho0, hb⟩; refine ⟨_, rfl, ?_⟩; have n0_ := Aside0.mk (Kd.R_elder' (by (with_reducible repeat (first | apply rA|apply rN|apply rW)); exact HO268.out) (Kd.R_base ho0) hb); have n1_ := Aside0.mk (Kd.R_below (by (with_reducible repeat (first | apply rA|apply rN|apply rW)); exact HO271.out) hb); have n2_ := Aside0.mk (Kd.R_elder' (by (with_reducible repeat (first | apply rA|apply rN|apply rW)); exact HO274.out) (Kd.R_base ho0) hb); have n3_ := Aside0.mk (Kd.R_elder' (by (with_reducible repeat (first | apply rA|apply rN|apply rW)); exact HO277.out) (Kd.R_base ho0) hb); have n4_ := Aside0.mk (Kd.R_elder' (by (with_reducible repeat (first | apply rA|apply rN|apply rW)); exact HO281.out) (Kd.R_base ho0) hb); have n5_ := Aside0.mk (Kd.R_below (by (with_reducible repeat (first | apply rA|apply rN|apply rW)); exact HO284.out) hb); have n6_ := Aside0.mk (Kd.R_elder' (by (with_reducible repeat (first | apply rA|apply rN|apply rW)); exact HO288.out) (Kd.R_base ho0) hb); have n7_ := Aside0.mk (Kd.R_lower (Kd.R_new' (Kd.R_new' (Kd.R_new' (Kd.R_new' (Kd.R_new' ho0 (Kd.R_lt (by (with_reducible repeat (first | apply rA|apply rN|apply rW)); exact HO268.out))) (Kd.R_lt (by (with_reducible repeat (first | apply rA|apply rN|apply rW)); exact HO274.out))) (Kd.R_lt (by (with_reducible repeat (first | apply rA|apply rN|apply rW)); exact HO277.out))) (Kd.R_lt (by (with_reducible repeat (first | apply rA|apply rN|apply rW)); exact HO281.out))) (Kd.R_lt (by (with_reducible repeat (first | apply rA|apply rN|apply rW)); exact HO288.out))) (below_size (by repeat (first | (with_reducible first | exact HB.out|apply wA|apply wN|apply wD |refine wS ?_ GE264.out |refine wS ?_ GE285.out) | exact HB.out)))); have n8_ := Aside0.mk (blk_below (g := gb264) (o := .cells #[.slice A0_0 l0_0.length c0_0, .slice A0_1 l0_1.length c0_1] 25 (0, 0)) (by (with_reducible repeat (first | refine bN ?_ _|refine bW ?_|refine bA ?_ _)); exact BK264.out) hb); have n9_ := Aside0.mk (blk_below (g := gb285) (o := .cells #[.slice Ao29 t279.length co29, .slice Ao32 t282.length co32] 31 (0, 0)) (by (with_reducible repeat (first | refine bN ?_ _|refine bW ?_|refine bA ?_ _)); exact BK285.out) hb); have n10_ := Aside0.mk (below_step (by repeat (first | (with_reducible first | exact HB.out|apply wA|apply wN|apply wD |refine wS ?_ GE264.out |refine wS ?_ GE285.out) | exact HB.out)) hb); clear HO268; clear HO271; clear HO274; clear HO277; clear HO281; clear HO284; clear HO288; clear BK264; clear BK285; clear HB; have HO268 := n0_; have HO271 := n1_; have HO274 := n2_; have HO277 := n3_; have HO281 := n4_; have HO284 := n5_; have HO288 := n6_; have HO291 := n7_; have BK264 := n8_; have BK285 := n9_; have HB := n10_; clear n0_ n1_ n2_ n3_ n4_ n5_ n6_ n7_ n8_ n9_ n10_; (try clear hb); (try clear hb2); (try clear hk); (try clear hi); (try clear ho0)))
     (try simp only [Act.put, List.setIfInBounds_toArray, List.set_cons_zero, List.set_cons_succ])
     go_cut [55] (fun v55 wc => ∃ (kq : Nat) (x55_17 : Bool), v55 = .bool x55_17 ∧ Aside0 (laws_FnExactReachedWithout.j2 kq a1 l2 t275 t278 t286 t289 t292 x55_17 l0_0 l0_1 t279 t282 = some r) ∧ Aside0 (kq ≤ kj7) ∧ Aside0 (Kd.R (Kd.int .i64) 2 wc w.heap.size (fun k_ => some k_ ≠ ((.slice Ao35 t286.length co35) : Value).ownBlock ∧ some k_ ≠ (v290 : Value).ownBlock ∧ some k_ ≠ ((.slice Ao29 t279.length co29) : Value).ownBlock) v276 t275) ∧ Aside0 (Kd.R (Kd.int .i64) 2 wc w.heap.size (fun k_ => some k_ ≠ (v276 : Value).ownBlock ∧ some k_ ≠ (v290 : Value).ownBlock ∧ some k_ ≠ ((.slice Ao29 t279.length co29) : Value).ownBlock) (.slice Ao35 t286.length co35) t286) ∧ Aside0 (Kd.R (Kd.int .i64) 2 wc w.heap.size (fun k_ => some k_ ≠ (v276 : Value).ownBlock ∧ some k_ ≠ ((.slice Ao35 t286.length co35) : Value).ownBlock ∧ some k_ ≠ ((.slice Ao29 t279.length co29) : Value).ownBlock) v290 t289) ∧ Aside0 (Kd.R (Kd.int .i64) 2 wc w.heap.size (fun k_ => some k_ ≠ (v276 : Value).ownBlock ∧ some k_ ≠ ((.slice Ao35 t286.length co35) : Value).ownBlock ∧ some k_ ≠ (v290 : Value).ownBlock) (.slice Ao29 t279.length co29) t279) ∧ Aside0 (Kd.R k60 60 wc w.heap.size (fun _ => True) (.slice Ao32 t282.length co32) t282) ∧ Aside0 (wc.heap[gb264]? = some (.cells #[(.slice A0_0 l0_0.length c0_0), (.slice A0_1 l0_1.length c0_1)] 25 (0, 0))) ∧ Aside0 (wc.heap[gb285]? = some (.cells #[(.slice Ao29 t279.length co29), (.slice Ao32 t282.length co32)] 31 (0, 0))) ∧ Aside0 (Below w.heap.size w wc))
     case first =>
      have H := HC18.out
      clear HC18
      replace H := Option.bind_eq_some_iff.mp H
      obtain ⟨t293, A370, H⟩ := H
      replace H : (if t293 = true then (laws_FnExactReachedWithout.j2 kj7 a1 l2 t275 t278 t286 t289 t292 (t292 != t278) l0_0 l0_1 t279 t282) else (laws_FnExactReachedWithout.j2 kj7 a1 l2 t275 t278 t286 t289 t292 true l0_0 l0_1 t279 t282)) = some r := H
      have A37 := Aside0.mk A370
      clear A370
      by_cases c38 : t293 = true
      ·subst c38
       have H1 : (laws_FnExactReachedWithout.j2 kj7 a1 l2 t275 t278 t286 t289 t292 (t292 != t278) l0_0 l0_1 t279 t282) = some r := by rw [if_pos rfl] at H; exact H
       clear H
       have H := H1
       clear H1
       have H' := Aside0.mk H
       clear H
       obtain ⟨Ao39, co39, eo39⟩ := Kd.R_slice HO291.out
       subst eo39
       obtain ⟨Ao40, co40, eo40⟩ := Kd.R_slice HO277.out
       subst eo40
       go_wp2_with (first | ((with_reducible refine gate_callee (f := 18) rfl ?_); refine goesL_ (some 49) rfl rfl Try.func18 (by kernel_rfl) rfl #[.slice Ao39 t289.length co39, .slice Ao40 t275.length co40] rfl (by (try simp only [List.map_toArray, List.map_cons, List.map_nil]); first | done | rfl | (simp only [List.length_drop, List.length_take]; rfl)) ?_; (with_reducible refine (laws_eqInt64S_.calls _ _ t289 _ _ t275 true _ ?side1 ?side2 ?side3 ?side4 A37.out).mono ?_); (case side1 => repeat (first | exact (Kd.R_reads' HO291.out).2.2 | (with_reducible first|refine Kd.C_alloc ?_ _|refine Kd.C_drewN ?_ _|refine Kd.C_drew ?_))); (case side2 => exact (Kd.R_reads' HO291.out).2.1); (case side3 => repeat (first | exact (Kd.R_reads' HO277.out).2.2 | (with_reducible first|refine Kd.C_alloc ?_ _|refine Kd.C_drewN ?_ _|refine Kd.C_drew ?_))); (case side4 => exact (Kd.R_reads' HO277.out).2.1); rintro e w' ⟨rfl, ⟨nd, rfl⟩⟩; refine ⟨_, rfl, ?_⟩))
       go_meet
       case rel => exact ⟨_, ((t292 != t278)), (by first | rfl | (simp; done) | (simp [*]; done)), H', ⟨by have := HJ3.out; have := HJ7.out; first | omega | exact Nat.le_refl _⟩, ⟨by (with_reducible repeat (first | apply rA|apply rN|apply rW)); exact Kd.R_mono HO277.out (fun _ hk => ⟨hk.1.2, ⟨hk.2, hk.1.1.2⟩⟩)⟩, ⟨by (with_reducible repeat (first | apply rA|apply rN|apply rW)); exact Kd.R_mono HO288.out (fun _ hk => ⟨hk.1.1.2, ⟨hk.2, hk.1.2⟩⟩)⟩, ⟨by (with_reducible repeat (first | apply rA|apply rN|apply rW)); exact Kd.R_mono HO291.out (fun _ hk => ⟨hk.1.1.2, ⟨hk.2, hk.1.2⟩⟩)⟩, ⟨by (with_reducible repeat (first | apply rA|apply rN|apply rW)); exact Kd.R_mono HO281.out (fun _ hk => ⟨hk.1.1.2, ⟨hk.1.2, hk.2⟩⟩)⟩, ⟨by (with_reducible repeat (first | apply rA|apply rN|apply rW)); exact Kd.R_mono HO284.out (fun _ hk => trivial)⟩, ⟨by (with_reducible repeat (first | refine bN ?_ _|refine bW ?_|refine bA ?_ _)); exact BK264.out⟩, ⟨by (with_reducible repeat (first | refine bN ?_ _|refine bW ?_|refine bA ?_ _)); exact BK285.out⟩, ⟨by repeat (first | (with_reducible first | exact HB.out|apply wA|apply wN|apply wD |refine wS ?_ GE264.out |refine wS ?_ GE285.out) | exact HB.out)⟩⟩
      ·replace c38 := Bool.eq_false_iff.mpr c38
       subst c38
       have H1 : (laws_FnExactReachedWithout.j2 kj7 a1 l2 t275 t278 t286 t289 t292 true l0_0 l0_1 t279 t282) = some r := by rw [if_neg (show ¬ (false = true) by decide)] at H; exact H
       clear H
       have H := H1
       clear H1
       have H' := Aside0.mk H
       clear H
       obtain ⟨Ao41, co41, eo41⟩ := Kd.R_slice HO291.out
       subst eo41
       obtain ⟨Ao42, co42, eo42⟩ := Kd.R_slice HO277.out
       subst eo42
       go_wp2_with (first | ((with_reducible refine gate_callee (f := 18) rfl ?_); refine goesL_ (some 49) rfl rfl Try.func18 (by kernel_rfl) rfl #[.slice Ao41 t289.length co41, .slice Ao42 t275.length co42] rfl (by (try simp only [List.map_toArray, List.map_cons, List.map_nil]); first | done | rfl | (simp only [List.length_drop, List.length_take]; rfl)) ?_; (with_reducible refine (laws_eqInt64S_.calls _ _ t289 _ _ t275 false _ ?side1 ?side2 ?side3 ?side4 A37.out).mono ?_); (case side1 => repeat (first | exact (Kd.R_reads' HO291.out).2.2 | (with_reducible first|refine Kd.C_alloc ?_ _|refine Kd.C_drewN ?_ _|refine Kd.C_drew ?_))); (case side2 => exact (Kd.R_reads' HO291.out).2.1); (case side3 => repeat (first | exact (Kd.R_reads' HO277.out).2.2 | (with_reducible first|refine Kd.C_alloc ?_ _|refine Kd.C_drewN ?_ _|refine Kd.C_drew ?_))); (case side4 => exact (Kd.R_reads' HO277.out).2.1); rintro e w' ⟨rfl, ⟨nd, rfl⟩⟩; refine ⟨_, rfl, ?_⟩))
       go_meet
       case rel => exact ⟨_, (true), (by first | rfl | (simp; done) | (simp [*]; done)), H', ⟨by have := HJ3.out; have := HJ7.out; first | omega | exact Nat.le_refl _⟩, ⟨by (with_reducible repeat (first | apply rA|apply rN|apply rW)); exact Kd.R_mono HO277.out (fun _ hk => ⟨hk.1.2, ⟨hk.2, hk.1.1.2⟩⟩)⟩, ⟨by (with_reducible repeat (first | apply rA|apply rN|apply rW)); exact Kd.R_mono HO288.out (fun _ hk => ⟨hk.1.1.2, ⟨hk.2, hk.1.2⟩⟩)⟩, ⟨by (with_reducible repeat (first | apply rA|apply rN|apply rW)); exact Kd.R_mono HO291.out (fun _ hk => ⟨hk.1.1.2, ⟨hk.2, hk.1.2⟩⟩)⟩, ⟨by (with_reducible repeat (first | apply rA|apply rN|apply rW)); exact Kd.R_mono HO281.out (fun _ hk => ⟨hk.1.1.2, ⟨hk.1.2, hk.2⟩⟩)⟩, ⟨by (with_reducible repeat (first | apply rA|apply rN|apply rW)); exact Kd.R_mono HO284.out (fun _ hk => trivial)⟩, ⟨by (with_reducible repeat (first | refine bN ?_ _|refine bW ?_|refine bA ?_ _)); exact BK264.out⟩, ⟨by (with_reducible repeat (first | refine bN ?_ _|refine bW ?_|refine bA ?_ _)); exact BK285.out⟩, ⟨by repeat (first | (with_reducible first | exact HB.out|apply wA|apply wN|apply wD |refine wS ?_ GE264.out |refine wS ?_ GE285.out) | exact HB.out)⟩⟩
     case rest =>
      clear HC18
      try clear c1
      try clear c2
      try clear p2
      try clear c3
      try clear c6
      try clear c6b0
      try clear c6b1
      try clear c6b2
      try clear c8
      try clear c11
      try clear c11b0
      try clear c11b2
      try clear c14
      try clear c16
      try clear c18
      try clear c30
      try clear c31
      try clear c32
      try clear c33
      try clear c38
      try clear hcz19_0
      try clear hcz19_1
      try clear hcz26_0
      try clear hcz26_1
      try clear hcz31_0
      try clear hcz31_1
      try clear hcz34_0
      try clear hcz34_1
      try clear hcz9_0
      try clear hcz9_1
      try clear hfz19_0
      try clear hfz19_1
      try clear hfz26_0
      try clear hfz26_1
      try clear hfz31_0
      try clear hfz31_1
      try clear hfz34_0
      try clear hfz34_1
      try clear hfz9_0
      try clear hfz9_1
      try clear p2
      obtain ⟨kq, x55_17, rfl, HA, HJ17, HO_8, HO_11, HO_12, HO_286000, HO_286001, BK264, BK285, HB⟩ := hcut
      cases kq with
      | zero => exact absurd HA.out (by simp [laws_FnExactReachedWithout.j2])
      | succ kj17 =>
       have H := HA.out
       clear HA
       simp only [laws_FnExactReachedWithout.j2] at H
       have HC43 := Aside0.mk H
       clear H
       go_upto_if 55 with (fail)
       go_cut [] (fun wc => ∃ (kq : Nat), Aside0 (laws_FnExactReachedWithout.j3 kq a1 l2 t275 t278 t286 t289 t292 l0_0 l0_1 t279 t282 = some r) ∧ Aside0 (kq ≤ kj17) ∧ Aside0 (Kd.R (Kd.int .i64) 2 wc w.heap.size (fun k_ => some k_ ≠ ((.slice Ao35 t286.length co35) : Value).ownBlock ∧ some k_ ≠ (v290 : Value).ownBlock ∧ some k_ ≠ ((.slice Ao29 t279.length co29) : Value).ownBlock) v276 t275) ∧ Aside0 (Kd.R (Kd.int .i64) 2 wc w.heap.size (fun k_ => some k_ ≠ (v276 : Value).ownBlock ∧ some k_ ≠ (v290 : Value).ownBlock ∧ some k_ ≠ ((.slice Ao29 t279.length co29) : Value).ownBlock) (.slice Ao35 t286.length co35) t286) ∧ Aside0 (Kd.R (Kd.int .i64) 2 wc w.heap.size (fun k_ => some k_ ≠ (v276 : Value).ownBlock ∧ some k_ ≠ ((.slice Ao35 t286.length co35) : Value).ownBlock ∧ some k_ ≠ ((.slice Ao29 t279.length co29) : Value).ownBlock) v290 t289) ∧ Aside0 (Kd.R (Kd.int .i64) 2 wc w.heap.size (fun k_ => some k_ ≠ (v276 : Value).ownBlock ∧ some k_ ≠ ((.slice Ao35 t286.length co35) : Value).ownBlock ∧ some k_ ≠ (v290 : Value).ownBlock) (.slice Ao29 t279.length co29) t279) ∧ Aside0 (Kd.R k60 60 wc w.heap.size (fun _ => True) (.slice Ao32 t282.length co32) t282) ∧ Aside0 (wc.heap[gb264]? = some (.cells #[(.slice A0_0 l0_0.length c0_0), (.slice A0_1 l0_1.length c0_1)] 25 (0, 0))) ∧ Aside0 (wc.heap[gb285]? = some (.cells #[(.slice Ao29 t279.length co29), (.slice Ao32 t282.length co32)] 31 (0, 0))) ∧ Aside0 (Below w.heap.size w wc))
       case first =>
        have H := HC43.out
        clear HC43
        by_cases c44 : x55_17 = true
        ·subst c44
         have H1 : (some false) = some r := by rw [if_pos rfl] at H; exact H
         clear H
         have H := H1
         clear H1
         obtain rfl := Option.some.inj H
         go_wp2
         go_ret
         exact ⟨by first | rfl | (simp [errW_none, errW_some] <;> rfl) | (simp [*, errW_none, errW_some] <;> rfl), by repeat (first | (with_reducible first | exact HB.out|apply wA|apply wN|apply wD |refine wS ?_ GE264.out |refine wS ?_ GE285.out) | exact HB.out)⟩
        ·replace c44 := Bool.eq_false_iff.mpr c44
         subst c44
         have H1 : (laws_FnExactReachedWithout.j3 kj17 a1 l2 t275 t278 t286 t289 t292 l0_0 l0_1 t279 t282) = some r := by rw [if_neg (show ¬ (false = true) by decide)] at H; exact H
         clear H
         have H := H1
         clear H1
         have H' := Aside0.mk H
         clear H
         go_wp2
         go_meet
         case rel => exact ⟨_, H', ⟨by have := HJ3.out; have := HJ7.out; have := HJ17.out; first | omega | exact Nat.le_refl _⟩, ⟨by (with_reducible repeat (first | apply rA|apply rN|apply rW)); exact HO_8.out⟩, ⟨by (with_reducible repeat (first | apply rA|apply rN|apply rW)); exact HO_11.out⟩, ⟨by (with_reducible repeat (first | apply rA|apply rN|apply rW)); exact HO_12.out⟩, ⟨by (with_reducible repeat (first | apply rA|apply rN|apply rW)); exact HO_286000.out⟩, ⟨by (with_reducible repeat (first | apply rA|apply rN|apply rW)); exact HO_286001.out⟩, ⟨by (with_reducible repeat (first | refine bN ?_ _|refine bW ?_|refine bA ?_ _)); exact BK264.out⟩, ⟨by (with_reducible repeat (first | refine bN ?_ _|refine bW ?_|refine bA ?_ _)); exact BK285.out⟩, ⟨by repeat (first | (with_reducible first | exact HB.out|apply wA|apply wN|apply wD |refine wS ?_ GE264.out |refine wS ?_ GE285.out) | exact HB.out)⟩⟩
       case rest =>
        clear HC43
        try clear c1
        try clear c2
        try clear p2
        try clear c3
        try clear c4
        try clear c6
        try clear c6b0
        try clear c6b1
        try clear c6b2
        try clear c8
        try clear c11
        try clear c11b0
        try clear c11b2
        try clear c14
        try clear c16
        try clear c18
        try clear c30
        try clear c31
        try clear c32
        try clear c33
        try clear c38
        try clear c44
        try clear hcz19_0
        try clear hcz19_1
        try clear hcz26_0
        try clear hcz26_1
        try clear hcz31_0
        try clear hcz31_1
        try clear hcz34_0
        try clear hcz34_1
        try clear hcz9_0
        try clear hcz9_1
        try clear hfz19_0
        try clear hfz19_1
        try clear hfz26_0
        try clear hfz26_1
        try clear hfz31_0
        try clear hfz31_1
        try clear hfz34_0
        try clear hfz34_1
        try clear hfz9_0
        try clear hfz9_1
        try clear p2
        obtain ⟨kq, HA, HJ42, HO_8, HO_11, HO_12, HO_286000, HO_286001, BK264, BK285, HB⟩ := hcut
        cases kq with
        | zero => exact absurd HA.out (by simp [laws_FnExactReachedWithout.j3])
        | succ kj42 =>
         have H := HA.out
         clear HA
         simp only [laws_FnExactReachedWithout.j3] at H
         replace H := Option.bind_eq_some_iff.mp H
         obtain ⟨⟨t294, t297⟩, A450, H⟩ := H
         replace H : ((laws_eqNetwork.f t279 t282 t294 t297).bind fun t300 => (if t300 = true then (laws_FnExactReachedWithout.j4 kj42 a1 l2 t275 t278 t286 t289 t292 l0_0 l0_1 t279 t282) else (some false))) = some r := H
         have A45 := Aside0.mk A450
         clear A450
         replace H := Option.bind_eq_some_iff.mp H
         obtain ⟨t300, A460, H⟩ := H
         replace H : (if t300 = true then (laws_FnExactReachedWithout.j4 kj42 a1 l2 t275 t278 t286 t289 t292 l0_0 l0_1 t279 t282) else (some false)) = some r := H
         have A46 := Aside0.mk A460
         clear A460
         have HC47 := Aside0.mk H
         clear H
         try go_wp2
         have n0_ := Aside0.mk (Kd.R_drew HO_8.out)
         have n1_ := Aside0.mk (Kd.R_drew HO_11.out)
         have n2_ := Aside0.mk (Kd.R_drew HO_12.out)
         have n3_ := Aside0.mk (Kd.R_drew HO_286000.out)
         have n4_ := Aside0.mk (Kd.R_drew HO_286001.out)
         have n5_ := Aside0.mk (blk_drew BK264.out)
         have n6_ := Aside0.mk (blk_drew BK285.out)
         have n7_ := Aside0.mk (below_drew1 HB.out)
         clear HO_8
         clear HO_11
         clear HO_12
         clear HO_286000
         clear HO_286001
         clear BK264
         clear BK285
         clear HB
         have HO_8 := n0_
         have HO_11 := n1_
         have HO_12 := n2_
         have HO_286000 := n3_
         have HO_286001 := n4_
         have BK264 := n5_
         have BK285 := n6_
         have HB := n7_
         clear n0_ n1_ n2_ n3_ n4_ n5_ n6_ n7_
         refine start_ (n := 5) (S := fun w' => w'.cell? ⟨gb285, 0, none⟩ = some (.slice Ao29 t279.length co29) ∧ w'.cell? ⟨gb285, 1, none⟩ = some (.slice Ao32 t282.length co32) ∧ w'.cell? ⟨gb264, 0, none⟩ = some (.slice A0_0 l0_0.length c0_0) ∧ w'.cell? ⟨gb264, 1, none⟩ = some (.slice A0_1 l0_1.length c0_1)) (ds := []) #[J,J,J,J,J] (by kernel_rfl) rfl rfl ⟨(blk_cell BK285.out 0).trans rfl, (blk_cell BK285.out 1).trans rfl, (blk_cell BK264.out 0).trans rfl, (blk_cell BK264.out 1).trans rfl⟩ (fun hHeld => ?_)
         generalize wc.drew = w48 at HO_8 HO_11 HO_12 HO_286000 HO_286001 BK264 BK285 HB hHeld ⊢
         refine take_ (i := 0) (N := some 56) (v := ?_) (a' := ?_) #[Y,J,J,J,J] rfl rfl (by kernel_rfl) (fun _ _ _ h => h) (Or.inl ⟨by rfl, ?_⟩) hHeld ?_ ?_; rotate_left
         ·rintro w' ⟨s0, s1, s2, s3⟩; go_simp; with_reducible rfl
         rotate_left
         ·simp only [pU,pN,sB,sZ,sS,i64_w,i32_w]; rfl
         refine take_ (i := 1) (N := some 57) (v := ?_) (a' := ?_) #[Y,Y,J,J,J] rfl rfl (by kernel_rfl) (fun _ _ _ h => h) (Or.inl ⟨by rfl, ?_⟩) hHeld ?_ ?_; rotate_left
         ·rintro w' ⟨s0, s1, s2, s3⟩; go_simp; with_reducible rfl
         rotate_left
         ·simp only [pU,pN,sB,sZ,sS,i64_w,i32_w]; rfl
         refine one_ (i := 2) (N := some 58) #[Y,Y,Y,J,J] rfl rfl (by kernel_rfl) (by decide) (fun K hK => ?_)
         refine goes_ Try.func16 (by kernel_rfl) rfl #[.agg #[.slice A0_0 l0_0.length c0_0, .slice A0_1 l0_1.length c0_1]] (by rfl) rfl rfl (by (try simp only [List.map_toArray, List.map_cons, List.map_nil]); first | done | rfl | (simp only [List.length_drop, List.length_take]; rfl)) ?_
         with_reducible refine (laws_toNetwork.calls _ _ l0_0 _ _ l0_1 t294 t297 _ ?side1 ?side2 ?side3 ?side4 A45.out).mono ?_
         (case side1 => repeat (first | exact (Kd.C_below HR0_0.out HB.out) | (with_reducible first|refine Kd.C_alloc ?_ _|refine Kd.C_drewN ?_ _|refine Kd.C_drew ?_)))
         (case side2 => exact HC0_0.out)
         (case side3 => repeat (first | exact (Kd.C_below HR0_1.out HB.out) | (with_reducible first|refine Kd.C_alloc ?_ _|refine Kd.C_drewN ?_ _|refine Kd.C_drew ?_)))
         (case side4 => exact HC0_1.out)
         rintro e w49 ⟨v295, v298, rfl, ho0, ho1, hb⟩
         refine ⟨_, rfl, ?_⟩
         have n0_ := Aside0.mk (Kd.R_elder' (by (with_reducible repeat (first | apply rA|apply rN|apply rW)); exact HO_8.out) (Kd.R_base ho0) hb)
         have n1_ := Aside0.mk (Kd.R_elder' (by (with_reducible repeat (first | apply rA|apply rN|apply rW)); exact HO_11.out) (Kd.R_base ho0) hb)
         have n2_ := Aside0.mk (Kd.R_elder' (by (with_reducible repeat (first | apply rA|apply rN|apply rW)); exact HO_12.out) (Kd.R_base ho0) hb)
         have n3_ := Aside0.mk (Kd.R_elder' (by (with_reducible repeat (first | apply rA|apply rN|apply rW)); exact HO_286000.out) (Kd.R_base ho0) hb)
         have n4_ := Aside0.mk (Kd.R_elder' (by (with_reducible repeat (first | apply rA|apply rN|apply rW)); exact HO_286001.out) (Kd.R_base ho1) hb)
         have n5_ := Aside0.mk (Kd.R_lower (Kd.R_new' (Kd.R_new' (Kd.R_new' (Kd.R_new' ho0 (Kd.R_lt (by (with_reducible repeat (first | apply rA|apply rN|apply rW)); exact HO_8.out))) (Kd.R_lt (by (with_reducible repeat (first | apply rA|apply rN|apply rW)); exact HO_11.out))) (Kd.R_lt (by (with_reducible repeat (first | apply rA|apply rN|apply rW)); exact HO_12.out))) (Kd.R_lt (by (with_reducible repeat (first | apply rA|apply rN|apply rW)); exact HO_286000.out))) (below_size (by repeat (first | (with_reducible first | exact HB.out|apply wA|apply wN|apply wD |refine wS ?_ GE264.out |refine wS ?_ GE285.out) | exact HB.out))))
         have n6_ := Aside0.mk (Kd.R_lower (Kd.R_new' ho1 (Kd.R_lt (by (with_reducible repeat (first | apply rA|apply rN|apply rW)); exact HO_286001.out))) (below_size (by repeat (first | (with_reducible first | exact HB.out|apply wA|apply wN|apply wD |refine wS ?_ GE264.out |refine wS ?_ GE285.out) | exact HB.out))))
         have n7_ := Aside0.mk (blk_below (g := gb264) (o := .cells #[.slice A0_0 l0_0.length c0_0, .slice A0_1 l0_1.length c0_1] 25 (0, 0)) (by (with_reducible repeat (first | refine bN ?_ _|refine bW ?_|refine bA ?_ _)); exact BK264.out) hb)
         have n8_ := Aside0.mk (blk_below (g := gb285) (o := .cells #[.slice Ao29 t279.length co29, .slice Ao32 t282.length co32] 31 (0, 0)) (by (with_reducible repeat (first | refine bN ?_ _|refine bW ?_|refine bA ?_ _)); exact BK285.out) hb)
         have n9_ := Aside0.mk (below_step (by repeat (first | (with_reducible first | exact HB.out|apply wA|apply wN|apply wD |refine wS ?_ GE264.out |refine wS ?_ GE285.out) | exact HB.out)) hb)
         clear HO_8
         clear HO_11
         clear HO_12
         clear HO_286000
         clear HO_286001
         clear BK264
         clear BK285
         clear HB
         have HO_8 := n0_
         have HO_11 := n1_
         have HO_12 := n2_
         have HO_286000 := n3_
         have HO_286001 := n4_
         have HO296 := n5_
         have HO299 := n6_
         have BK264 := n7_
         have BK285 := n8_
         have HB := n9_
         clear n0_ n1_ n2_ n3_ n4_ n5_ n6_ n7_ n8_ n9_
         (try clear hb)
         (try clear hb2)
         (try clear hk)
         (try clear hi)
         (try clear ho0)
         (try clear ho1)
         obtain ⟨Ao50, co50, eo50⟩ := Kd.R_slice HO296.out
         (first | subst eo50 | (injection eo50 with f1_ f2_ f3_; have f4_ := f1_.symm; have f5_ := f3_.symm; clear f1_ f2_ f3_; subst f4_; subst f5_))
         obtain ⟨Ao51, co51, eo51⟩ := Kd.R_slice HO299.out
         (first | subst eo51 | (injection eo51 with f1_ f2_ f3_; have f4_ := f1_.symm; have f5_ := f3_.symm; clear f1_ f2_ f3_; subst f4_; subst f5_))
         refine hK.out _ _ ⟨(blk_cell BK285.out 0).trans rfl, (blk_cell BK285.out 1).trans rfl, (blk_cell BK264.out 0).trans rfl, (blk_cell BK264.out 1).trans rfl⟩ (fun hHeld => ?_)
         clear hK K
         refine norm_ (a' := ?_) ?_ ?_
         rotate_left
         ·show Act.put _ (some 58) _ = _
          simp only [pU,pN,sB,sZ,sS,i64_w,i32_w]
          rfl
         refine one_ (i := 3) (N := some 59) #[Y,Y,Y,Y,J] rfl rfl (by kernel_rfl) (by decide) (fun K hK => ?_)
         refine goes_ Try.func19 (by kernel_rfl) rfl #[.agg #[.slice Ao29 t279.length co29, .slice Ao32 t282.length co32], .agg #[.slice Ao50 t294.length co50, .slice Ao51 t297.length co51]] (by rfl) rfl rfl (by (try simp only [List.map_toArray, List.map_cons, List.map_nil]); first | done | rfl | (simp only [List.length_drop, List.length_take]; rfl)) ?_
         with_reducible refine (laws_eqNetwork.calls _ _ t279 _ _ t282 _ _ t294 _ _ t297 t300 _ ?side1 ?side2 ?side3 ?side4 ?side5 ?side6 ?side7 ?side8 A46.out).mono ?_
         (case side1 => repeat (first | exact (Kd.R_reads' HO_286000.out).2.2 | (with_reducible first|refine Kd.C_alloc ?_ _|refine Kd.C_drewN ?_ _|refine Kd.C_drew ?_)))
         (case side2 => exact (Kd.R_reads' HO_286000.out).2.1)
         (case side3 => repeat (first | exact (Kd.R_reads' HO_286001.out).2.2 | (with_reducible first|refine Kd.C_alloc ?_ _|refine Kd.C_drewN ?_ _|refine Kd.C_drew ?_)))
         (case side4 => exact (Kd.R_reads' HO_286001.out).2.1)
         (case side5 => repeat (first | exact (Kd.R_reads' HO296.out).2.2 | (with_reducible first|refine Kd.C_alloc ?_ _|refine Kd.C_drewN ?_ _|refine Kd.C_drew ?_)))
         (case side6 => exact (Kd.R_reads' HO296.out).2.1)
         (case side7 => repeat (first | exact (Kd.R_reads' HO299.out).2.2 | (with_reducible first|refine Kd.C_alloc ?_ _|refine Kd.C_drewN ?_ _|refine Kd.C_drew ?_)))
         (case side8 => exact (Kd.R_reads' HO299.out).2.1)
         rintro e w52 ⟨rfl, hb⟩
         refine ⟨_, rfl, ?_⟩
         have n0_ := Aside0.mk (Kd.R_below (by (with_reducible repeat (first | apply rA|apply rN|apply rW)); exact HO_8.out) hb)
         have n1_ := Aside0.mk (Kd.R_below (by (with_reducible repeat (first | apply rA|apply rN|apply rW)); exact HO_11.out) hb)
         have n2_ := Aside0.mk (Kd.R_below (by (with_reducible repeat (first | apply rA|apply rN|apply rW)); exact HO_12.out) hb)
         have n3_ := Aside0.mk (Kd.R_below (by (with_reducible repeat (first | apply rA|apply rN|apply rW)); exact HO_286000.out) hb)
         have n4_ := Aside0.mk (Kd.R_below (by (with_reducible repeat (first | apply rA|apply rN|apply rW)); exact HO_286001.out) hb)
         have n5_ := Aside0.mk (Kd.R_below (by (with_reducible repeat (first | apply rA|apply rN|apply rW)); exact HO296.out) hb)
         have n6_ := Aside0.mk (Kd.R_below (by (with_reducible repeat (first | apply rA|apply rN|apply rW)); exact HO299.out) hb)
         have n7_ := Aside0.mk (blk_below (g := gb264) (o := .cells #[.slice A0_0 l0_0.length c0_0, .slice A0_1 l0_1.length c0_1] 25 (0, 0)) (by (with_reducible repeat (first | refine bN ?_ _|refine bW ?_|refine bA ?_ _)); exact BK264.out) hb)
         have n8_ := Aside0.mk (blk_below (g := gb285) (o := .cells #[.slice Ao29 t279.length co29, .slice Ao32 t282.length co32] 31 (0, 0)) (by (with_reducible repeat (first | refine bN ?_ _|refine bW ?_|refine bA ?_ _)); exact BK285.out) hb)
         have n9_ := Aside0.mk (below_step (by repeat (first | (with_reducible first | exact HB.out|apply wA|apply wN|apply wD |refine wS ?_ GE264.out |refine wS ?_ GE285.out) | exact HB.out)) hb)
         clear HO_8
         clear HO_11
         clear HO_12
         clear HO_286000
         clear HO_286001
         clear HO296
         clear HO299
         clear BK264
         clear BK285
         clear HB
         have HO_8 := n0_
         have HO_11 := n1_
         have HO_12 := n2_
         have HO_286000 := n3_
         have HO_286001 := n4_
         have HO296 := n5_
         have HO299 := n6_
         have BK264 := n7_
         have BK285 := n8_
         have HB := n9_
         clear n0_ n1_ n2_ n3_ n4_ n5_ n6_ n7_ n8_ n9_
         (try clear hb)
         (try clear hb2)
         (try clear hk)
         (try clear hi)
         refine hK.out _ _ ⟨(blk_cell BK285.out 0).trans rfl, (blk_cell BK285.out 1).trans rfl, (blk_cell BK264.out 0).trans rfl, (blk_cell BK264.out 1).trans rfl⟩ (fun hHeld => ?_)
         clear hK K
         refine norm_ (a' := ?_) ?_ ?_
         rotate_left
         ·show Act.put _ (some 59) _ = _
          simp only [pU,pN,sB,sZ,sS,i64_w,i32_w]
          rfl
         refine pure_ (i := 4) (N := some 60) (v := ?_) (a' := ?_) #[Y,Y,Y,Y,Y] rfl rfl (by kernel_rfl) (fun _ _ _ h => h) (Or.inl ⟨by rfl, ?_⟩) ?_ ?_; rotate_left
         ·intro w'; go_simp; with_reducible rfl
         rotate_left
         ·simp only [pU,pN,sB,sZ,sS,i64_w,i32_w]; rfl
         refine done_ (by kernel_rfl) ?_
         go_upto_if 60 with (fail)
         go_cut [] (fun wc => ∃ (kq : Nat), Aside0 (laws_FnExactReachedWithout.j4 kq a1 l2 t275 t278 t286 t289 t292 l0_0 l0_1 t279 t282 = some r) ∧ Aside0 (kq ≤ kj42) ∧ Aside0 (Kd.R (Kd.int .i64) 2 wc w.heap.size (fun k_ => some k_ ≠ ((.slice Ao35 t286.length co35) : Value).ownBlock ∧ some k_ ≠ (v290 : Value).ownBlock ∧ some k_ ≠ ((.slice Ao29 t279.length co29) : Value).ownBlock) v276 t275) ∧ Aside0 (Kd.R (Kd.int .i64) 2 wc w.heap.size (fun k_ => some k_ ≠ (v276 : Value).ownBlock ∧ some k_ ≠ (v290 : Value).ownBlock ∧ some k_ ≠ ((.slice Ao29 t279.length co29) : Value).ownBlock) (.slice Ao35 t286.length co35) t286) ∧ Aside0 (Kd.R (Kd.int .i64) 2 wc w.heap.size (fun k_ => some k_ ≠ (v276 : Value).ownBlock ∧ some k_ ≠ ((.slice Ao35 t286.length co35) : Value).ownBlock ∧ some k_ ≠ ((.slice Ao29 t279.length co29) : Value).ownBlock) v290 t289) ∧ Aside0 (Kd.R (Kd.int .i64) 2 wc w.heap.size (fun k_ => some k_ ≠ (v276 : Value).ownBlock ∧ some k_ ≠ ((.slice Ao35 t286.length co35) : Value).ownBlock ∧ some k_ ≠ (v290 : Value).ownBlock) (.slice Ao29 t279.length co29) t279) ∧ Aside0 (Kd.R k60 60 wc w.heap.size (fun _ => True) (.slice Ao32 t282.length co32) t282) ∧ Aside0 (wc.heap[gb264]? = some (.cells #[(.slice A0_0 l0_0.length c0_0), (.slice A0_1 l0_1.length c0_1)] 25 (0, 0))) ∧ Aside0 (wc.heap[gb285]? = some (.cells #[(.slice Ao29 t279.length co29), (.slice Ao32 t282.length co32)] 31 (0, 0))) ∧ Aside0 (Below w.heap.size w wc))
         case first =>
          have H := HC47.out
          clear HC47
          by_cases c53 : t300 = true
          ·subst c53
           have H1 : (laws_FnExactReachedWithout.j4 kj42 a1 l2 t275 t278 t286 t289 t292 l0_0 l0_1 t279 t282) = some r := by rw [if_pos rfl] at H; exact H
           clear H
           have H := H1
           clear H1
           have H' := Aside0.mk H
           clear H
           go_wp2
           go_meet
           case rel => exact ⟨_, H', ⟨by have := HJ3.out; have := HJ7.out; have := HJ17.out; have := HJ42.out; first | omega | exact Nat.le_refl _⟩, ⟨by (with_reducible repeat (first | apply rA|apply rN|apply rW)); exact Kd.R_mono HO_8.out (fun _ hk => ⟨hk.1.1, ⟨hk.1.2.1, hk.1.2.2⟩⟩)⟩, ⟨by (with_reducible repeat (first | apply rA|apply rN|apply rW)); exact Kd.R_mono HO_11.out (fun _ hk => ⟨hk.1.1, ⟨hk.1.2.1, hk.1.2.2⟩⟩)⟩, ⟨by (with_reducible repeat (first | apply rA|apply rN|apply rW)); exact Kd.R_mono HO_12.out (fun _ hk => ⟨hk.1.1, ⟨hk.1.2.1, hk.1.2.2⟩⟩)⟩, ⟨by (with_reducible repeat (first | apply rA|apply rN|apply rW)); exact Kd.R_mono HO_286000.out (fun _ hk => ⟨hk.1.1, ⟨hk.1.2.1, hk.1.2.2⟩⟩)⟩, ⟨by (with_reducible repeat (first | apply rA|apply rN|apply rW)); exact Kd.R_mono HO_286001.out (fun _ hk => trivial)⟩, ⟨by (with_reducible repeat (first | refine bN ?_ _|refine bW ?_|refine bA ?_ _)); exact BK264.out⟩, ⟨by (with_reducible repeat (first | refine bN ?_ _|refine bW ?_|refine bA ?_ _)); exact BK285.out⟩, ⟨by repeat (first | (with_reducible first | exact HB.out|apply wA|apply wN|apply wD |refine wS ?_ GE264.out |refine wS ?_ GE285.out) | exact HB.out)⟩⟩
          ·replace c53 := Bool.eq_false_iff.mpr c53
           subst c53
           have H1 : (some false) = some r := by rw [if_neg (show ¬ (false = true) by decide)] at H; exact H
           clear H
           have H := H1
           clear H1
           obtain rfl := Option.some.inj H
           go_wp2
           go_ret
           exact ⟨by first | rfl | (simp [errW_none, errW_some] <;> rfl) | (simp [*, errW_none, errW_some] <;> rfl), by repeat (first | (with_reducible first | exact HB.out|apply wA|apply wN|apply wD |refine wS ?_ GE264.out |refine wS ?_ GE285.out) | exact HB.out)⟩
         case rest =>
          clear HC47
          try clear c1
          try clear c2
          try clear p2
          try clear c3
          try clear c4
          try clear c5
          try clear c6
          try clear c6b0
          try clear c6b1
          try clear c6b2
          try clear c8
          try clear c11
          try clear c11b0
          try clear c11b2
          try clear c14
          try clear c16
          try clear c18
          try clear c19
          try clear c30
          try clear c31
          try clear c32
          try clear c33
          try clear c38
          try clear c44
          try clear c53
          try clear hcz19_0
          try clear hcz19_1
          try clear hcz26_0
          try clear hcz26_1
          try clear hcz31_0
          try clear hcz31_1
          try clear hcz34_0
          try clear hcz34_1
          try clear hcz9_0
          try clear hcz9_1
          try clear hfz19_0
          try clear hfz19_1
          try clear hfz26_0
          try clear hfz26_1
          try clear hfz31_0
          try clear hfz31_1
          try clear hfz34_0
          try clear hfz34_1
          try clear hfz9_0
          try clear hfz9_1
          try clear p2
          obtain ⟨kq, HA, HJ46, HO_8, HO_11, HO_12, HO_286000, HO_286001, BK264, BK285, HB⟩ := hcut
          cases kq with
          | zero => exact absurd HA.out (by simp [laws_FnExactReachedWithout.j4])
          | succ kj46 =>
           have H := HA.out
           clear HA
           simp only [laws_FnExactReachedWithout.j4] at H
           replace H := Option.bind_eq_some_iff.mp H
           obtain ⟨t301, A540, H⟩ := H
           replace H : ((laws_eqInt64S_.f t286 t301).bind fun t304 => (if t304 = true then (laws_FnExactReachedWithout.j5 kj46 a1 l2 t275 t278 t286 t289 t292 l0_0 l0_1 t279 t282) else (some false))) = some r := H
           have A54 := Aside0.mk A540
           clear A540
           replace H := Option.bind_eq_some_iff.mp H
           obtain ⟨t304, A550, H⟩ := H
           replace H : (if t304 = true then (laws_FnExactReachedWithout.j5 kj46 a1 l2 t275 t278 t286 t289 t292 l0_0 l0_1 t279 t282) else (some false)) = some r := H
           have A55 := Aside0.mk A550
           clear A550
           have HC56 := Aside0.mk H
           clear H
           go_upto_if 65 with (first | ((with_reducible refine gate_callee (f := 32) rfl ?_); refine goesL_ (some 63) rfl rfl Try.func32 (by kernel_rfl) rfl #[.slice A2 l2.length c2] rfl (by (try simp only [List.map_toArray, List.map_cons, List.map_nil]); first | done | rfl | (simp only [List.length_drop, List.length_take]; rfl)) ?_; (with_reducible refine (laws_toInt64S_.calls _ _ l2 t301 _ ?side1 ?side2 A54.out).mono ?_); (case side1 => repeat (first | exact (Kd.C_below HR2.out HB.out) | (with_reducible first|refine Kd.C_alloc ?_ _|refine Kd.C_drewN ?_ _|refine Kd.C_drew ?_))); (case side2 => exact HC2.out); rintro e w57 ⟨v302, rfl, ho0, hb⟩; refine ⟨_, rfl, ?_⟩; have n0_ := Aside0.mk (Kd.R_elder' (by (with_reducible repeat (first | apply rA|apply rN|apply rW)); exact HO_8.out) (Kd.R_base ho0) hb); have n1_ := Aside0.mk (Kd.R_elder' (by (with_reducible repeat (first | apply rA|apply rN|apply rW)); exact HO_11.out) (Kd.R_base ho0) hb); have n2_ := Aside0.mk (Kd.R_elder' (by (with_reducible repeat (first | apply rA|apply rN|apply rW)); exact HO_12.out) (Kd.R_base ho0) hb); have n3_ := Aside0.mk (Kd.R_elder' (by (with_reducible repeat (first | apply rA|apply rN|apply rW)); exact HO_286000.out) (Kd.R_base ho0) hb); have n4_ := Aside0.mk (Kd.R_below (by (with_reducible repeat (first | apply rA|apply rN|apply rW)); exact HO_286001.out) hb); have n5_ := Aside0.mk (Kd.R_lower (Kd.R_new' (Kd.R_new' (Kd.R_new' (Kd.R_new' ho0 (Kd.R_lt (by (with_reducible repeat (first | apply rA|apply rN|apply rW)); exact HO_8.out))) (Kd.R_lt (by (with_reducible repeat (first | apply rA|apply rN|apply rW)); exact HO_11.out))) (Kd.R_lt (by (with_reducible repeat (first | apply rA|apply rN|apply rW)); exact HO_12.out))) (Kd.R_lt (by (with_reducible repeat (first | apply rA|apply rN|apply rW)); exact HO_286000.out))) (below_size (by repeat (first | (with_reducible first | exact HB.out|apply wA|apply wN|apply wD |refine wS ?_ GE264.out |refine wS ?_ GE285.out) | exact HB.out)))); have n6_ := Aside0.mk (blk_below (g := gb264) (o := .cells #[.slice A0_0 l0_0.length c0_0, .slice A0_1 l0_1.length c0_1] 25 (0, 0)) (by (with_reducible repeat (first | refine bN ?_ _|refine bW ?_|refine bA ?_ _)); exact BK264.out) hb); have n7_ := Aside0.mk (blk_below (g := gb285) (o := .cells #[.slice Ao29 t279.length co29, .slice Ao32 t282.length co32] 31 (0, 0)) (by (with_reducible repeat (first | refine bN ?_ _|refine bW ?_|refine bA ?_ _)); exact BK285.out) hb); have n8_ := Aside0.mk (below_step (by repeat (first | (with_reducible first | exact HB.out|apply wA|apply wN|apply wD |refine wS ?_ GE264.out |refine wS ?_ GE285.out) | exact HB.out)) hb); clear HO_8; clear HO_11; clear HO_12; clear HO_286000; clear HO_286001; clear BK264; clear BK285; clear HB; have HO_8 := n0_; have HO_11 := n1_; have HO_12 := n2_; have HO_286000 := n3_; have HO_286001 := n4_; have HO303 := n5_; have BK264 := n6_; have BK285 := n7_; have HB := n8_; clear n0_ n1_ n2_ n3_ n4_ n5_ n6_ n7_ n8_; (try clear hb); (try clear hb2); (try clear hk); (try clear hi); (try clear ho0); obtain ⟨Ao58, co58, eo58⟩ := Kd.R_slice HO303.out; subst eo58) | ((with_reducible refine gate_callee (f := 18) rfl ?_); refine goesL_ (some 64) rfl rfl Try.func18 (by kernel_rfl) rfl #[.slice Ao35 t286.length co35, .slice Ao58 t301.length co58] rfl (by (try simp only [List.map_toArray, List.map_cons, List.map_nil]); first | done | rfl | (simp only [List.length_drop, List.length_take]; rfl)) ?_; (with_reducible refine (laws_eqInt64S_.calls _ _ t286 _ _ t301 t304 _ ?side1 ?side2 ?side3 ?side4 A55.out).mono ?_); (case side1 => repeat (first | exact (Kd.R_reads' HO_11.out).2.2 | (with_reducible first|refine Kd.C_alloc ?_ _|refine Kd.C_drewN ?_ _|refine Kd.C_drew ?_))); (case side2 => exact (Kd.R_reads' HO_11.out).2.1); (case side3 => repeat (first | exact (Kd.R_reads' HO303.out).2.2 | (with_reducible first|refine Kd.C_alloc ?_ _|refine Kd.C_drewN ?_ _|refine Kd.C_drew ?_))); (case side4 => exact (Kd.R_reads' HO303.out).2.1); rintro e w' ⟨rfl, ⟨nd, rfl⟩⟩; refine ⟨_, rfl, ?_⟩))
           (try simp only [Act.put, List.setIfInBounds_toArray, List.set_cons_zero, List.set_cons_succ])
           go_cut [] (fun wc => ∃ (kq : Nat), Aside0 (laws_FnExactReachedWithout.j5 kq a1 l2 t275 t278 t286 t289 t292 l0_0 l0_1 t279 t282 = some r) ∧ Aside0 (kq ≤ kj46) ∧ Aside0 (Kd.R (Kd.int .i64) 2 wc w.heap.size (fun k_ => some k_ ≠ ((.slice Ao35 t286.length co35) : Value).ownBlock ∧ some k_ ≠ (v290 : Value).ownBlock ∧ some k_ ≠ ((.slice Ao29 t279.length co29) : Value).ownBlock) v276 t275) ∧ Aside0 (Kd.R (Kd.int .i64) 2 wc w.heap.size (fun k_ => some k_ ≠ (v276 : Value).ownBlock ∧ some k_ ≠ (v290 : Value).ownBlock ∧ some k_ ≠ ((.slice Ao29 t279.length co29) : Value).ownBlock) (.slice Ao35 t286.length co35) t286) ∧ Aside0 (Kd.R (Kd.int .i64) 2 wc w.heap.size (fun k_ => some k_ ≠ (v276 : Value).ownBlock ∧ some k_ ≠ ((.slice Ao35 t286.length co35) : Value).ownBlock ∧ some k_ ≠ ((.slice Ao29 t279.length co29) : Value).ownBlock) v290 t289) ∧ Aside0 (Kd.R (Kd.int .i64) 2 wc w.heap.size (fun k_ => some k_ ≠ (v276 : Value).ownBlock ∧ some k_ ≠ ((.slice Ao35 t286.length co35) : Value).ownBlock ∧ some k_ ≠ (v290 : Value).ownBlock) (.slice Ao29 t279.length co29) t279) ∧ Aside0 (Kd.R k60 60 wc w.heap.size (fun _ => True) (.slice Ao32 t282.length co32) t282) ∧ Aside0 (wc.heap[gb264]? = some (.cells #[(.slice A0_0 l0_0.length c0_0), (.slice A0_1 l0_1.length c0_1)] 25 (0, 0))) ∧ Aside0 (wc.heap[gb285]? = some (.cells #[(.slice Ao29 t279.length co29), (.slice Ao32 t282.length co32)] 31 (0, 0))) ∧ Aside0 (Below w.heap.size w wc))
           case first =>
            have H := HC56.out
            clear HC56
            by_cases c59 : t304 = true
            ·subst c59
             have H1 : (laws_FnExactReachedWithout.j5 kj46 a1 l2 t275 t278 t286 t289 t292 l0_0 l0_1 t279 t282) = some r := by rw [if_pos rfl] at H; exact H
             clear H
             have H := H1
             clear H1
             have H' := Aside0.mk H
             clear H
             go_wp2
             go_meet
             case rel => exact ⟨_, H', ⟨by have := HJ3.out; have := HJ7.out; have := HJ17.out; have := HJ42.out; have := HJ46.out; first | omega | exact Nat.le_refl _⟩, ⟨by (with_reducible repeat (first | apply rA|apply rN|apply rW)); exact Kd.R_mono HO_8.out (fun _ hk => ⟨hk.1.1, ⟨hk.1.2.1, hk.1.2.2⟩⟩)⟩, ⟨by (with_reducible repeat (first | apply rA|apply rN|apply rW)); exact Kd.R_mono HO_11.out (fun _ hk => ⟨hk.1.1, ⟨hk.1.2.1, hk.1.2.2⟩⟩)⟩, ⟨by (with_reducible repeat (first | apply rA|apply rN|apply rW)); exact Kd.R_mono HO_12.out (fun _ hk => ⟨hk.1.1, ⟨hk.1.2.1, hk.1.2.2⟩⟩)⟩, ⟨by (with_reducible repeat (first | apply rA|apply rN|apply rW)); exact Kd.R_mono HO_286000.out (fun _ hk => ⟨hk.1.1, ⟨hk.1.2.1, hk.1.2.2⟩⟩)⟩, ⟨by (with_reducible repeat (first | apply rA|apply rN|apply rW)); exact HO_286001.out⟩, ⟨by (with_reducible repeat (first | refine bN ?_ _|refine bW ?_|refine bA ?_ _)); exact BK264.out⟩, ⟨by (with_reducible repeat (first | refine bN ?_ _|refine bW ?_|refine bA ?_ _)); exact BK285.out⟩, ⟨by repeat (first | (with_reducible first | exact HB.out|apply wA|apply wN|apply wD |refine wS ?_ GE264.out |refine wS ?_ GE285.out) | exact HB.out)⟩⟩
            ·replace c59 := Bool.eq_false_iff.mpr c59
             subst c59
             have H1 : (some false) = some r := by rw [if_neg (show ¬ (false = true) by decide)] at H; exact H
             clear H
             have H := H1
             clear H1
             obtain rfl := Option.some.inj H
             go_wp2
             go_ret
             exact ⟨by first | rfl | (simp [errW_none, errW_some] <;> rfl) | (simp [*, errW_none, errW_some] <;> rfl), by repeat (first | (with_reducible first | exact HB.out|apply wA|apply wN|apply wD |refine wS ?_ GE264.out |refine wS ?_ GE285.out) | exact HB.out)⟩
           case rest =>
            clear HC56
            try clear c1
            try clear c2
            try clear p2
            try clear c3
            try clear c4
            try clear c5
            try clear c6
            try clear c6b0
            try clear c6b1
            try clear c6b2
            try clear c8
            try clear c11
            try clear c11b0
            try clear c11b2
            try clear c14
            try clear c16
            try clear c18
            try clear c19
            try clear c30
            try clear c31
            try clear c32
            try clear c33
            try clear c38
            try clear c44
            try clear c53
            try clear c59
            try clear hcz19_0
            try clear hcz19_1
            try clear hcz26_0
            try clear hcz26_1
            try clear hcz31_0
            try clear hcz31_1
            try clear hcz34_0
            try clear hcz34_1
            try clear hcz9_0
            try clear hcz9_1
            try clear hfz19_0
            try clear hfz19_1
            try clear hfz26_0
            try clear hfz26_1
            try clear hfz31_0
            try clear hfz31_1
            try clear hfz34_0
            try clear hfz34_1
            try clear hfz9_0
            try clear hfz9_1
            try clear p2
            obtain ⟨kq, HA, HJ55, HO_8, HO_11, HO_12, HO_286000, HO_286001, BK264, BK285, HB⟩ := hcut
            cases kq with
            | zero => exact absurd HA.out (by simp [laws_FnExactReachedWithout.j5])
            | succ kj55 =>
             have H := HA.out
             clear HA
             simp only [laws_FnExactReachedWithout.j5] at H
             replace H := Option.bind_eq_some_iff.mp H
             obtain ⟨⟨t305, t306, t307⟩, A600, H⟩ := H
             replace H : ((laws_markInt64S_.f t286 t305).bind fun bt308 => (if bt308.1 < 0 then (laws_FnExactReachedWithout.j6 kj55 a1 l2 t275 t278 t289 true l0_0 l0_1) else ((laws_eqInt64S_.f t289 t275).bind fun t310 => (if t310 = true then (laws_FnExactReachedWithout.j6 kj55 a1 l2 t275 t278 t289 (t292 != t278) l0_0 l0_1) else (laws_FnExactReachedWithout.j6 kj55 a1 l2 t275 t278 t289 true l0_0 l0_1))))) = some r := H
             have A60 := Aside0.mk A600
             clear A600
             replace H := Option.bind_eq_some_iff.mp H
             obtain ⟨⟨t308, t309⟩, A610, H⟩ := H
             replace H : (if t308 < 0 then (laws_FnExactReachedWithout.j6 kj55 a1 l2 t275 t278 t289 true l0_0 l0_1) else ((laws_eqInt64S_.f t289 t275).bind fun t310 => (if t310 = true then (laws_FnExactReachedWithout.j6 kj55 a1 l2 t275 t278 t289 (t292 != t278) l0_0 l0_1) else (laws_FnExactReachedWithout.j6 kj55 a1 l2 t275 t278 t289 true l0_0 l0_1)))) = some r := H
             have A61 := Aside0.mk A610
             clear A610
             have HC62 := Aside0.mk H
             clear H
             have hnb63 := NB285_264.out
             have hnc63 := NB264_285.out
             have hcz64_0 : wc.cell? ⟨gb285, 0, none⟩ = some (.slice Ao29 t279.length co29) := (blk_cell BK285.out 0).trans rfl
             have hcz64_1 : wc.cell? ⟨gb285, 1, none⟩ = some (.slice Ao32 t282.length co32) := (blk_cell BK285.out 1).trans rfl
             have hfz64_0 := blk_frozen BK285.out 0
             have hfz64_1 := blk_frozen BK285.out 1
             go_upto_region 20 with (first | ((with_reducible refine gate_callee (f := 20) rfl ?_); refine goesL_ (some 68) rfl rfl Try.func20 (by kernel_rfl) rfl #[.agg #[.slice Ao29 t279.length co29, .slice Ao32 t282.length co32], .int .i64 1] rfl (by (try simp only [List.map_toArray, List.map_cons, List.map_nil]); first | done | rfl | (simp only [List.length_drop, List.length_take]; rfl)) ?_; (with_reducible refine (laws_markNetwork.calls (fun k_ => some k_ = (.slice Ao29 t279.length co29 : Value).ownBlock) (.slice Ao29 t279.length co29) t279 (fun k_ => some k_ = (.slice Ao32 t282.length co32 : Value).ownBlock) (.slice Ao32 t282.length co32) t282 1 t305 t306 t307 w _ ?side1 ?side2 ?side3 A60.out).mono ?_); (case side1 => repeat (first | (with_reducible first | exact HB.out|apply wA|apply wN|apply wD |refine wS ?_ GE264.out |refine wS ?_ GE285.out) | exact HB.out)); (case side2 => exact Kd.R_tight rfl HO_286000.out); (case side3 => exact Kd.R_tight rfl HO_286001.out); rintro e w65 ⟨rfl, hy0, hy1, hb, hkp⟩; refine ⟨_, rfl, ?_⟩; have n0_ := Aside0.mk (Kd.R_mono (ok' := fun k_ => some k_ ≠ (.slice Ao35 t286.length co35 : Value).ownBlock ∧ some k_ ≠ (v290 : Value).ownBlock ∧ some k_ ≠ (.slice Ao29 t279.length co29 : Value).ownBlock) (Kd.R_keptB ((Kd.R_apart' HO_8.out (Kd.R_typed HO_286001.out) (by decide))) hkp (fun k_ hk_ hs_ => Or.elim hs_ (fun e_ => (hk_.1.2.2) e_) (fun e_ => (hk_.2) e_))) (fun k_ hk_ => ⟨hk_.1.1.1, hk_.1.1.2.1, hk_.1.1.2.2⟩)); have n1_ := Aside0.mk (Kd.R_mono (ok' := fun k_ => some k_ ≠ (v276 : Value).ownBlock ∧ some k_ ≠ (v290 : Value).ownBlock ∧ some k_ ≠ (.slice Ao29 t279.length co29 : Value).ownBlock) (Kd.R_keptB ((Kd.R_apart' HO_11.out (Kd.R_typed HO_286001.out) (by decide))) hkp (fun k_ hk_ hs_ => Or.elim hs_ (fun e_ => (hk_.1.2.2) e_) (fun e_ => (hk_.2) e_))) (fun k_ hk_ => ⟨hk_.1.1.1, hk_.1.1.2.1, hk_.1.1.2.2⟩)); have n2_ := Aside0.mk (Kd.R_mono (ok' := fun k_ => some k_ ≠ (v276 : Value).ownBlock ∧ some k_ ≠ (.slice Ao35 t286.length co35 : Value).ownBlock ∧ some k_ ≠ (.slice Ao29 t279.length co29 : Value).ownBlock) (Kd.R_keptB ((Kd.R_apart' HO_12.out (Kd.R_typed HO_286001.out) (by decide))) hkp (fun k_ hk_ hs_ => Or.elim hs_ (fun e_ => (hk_.1.2.2) e_) (fun e_ => (hk_.2) e_))) (fun k_ hk_ => ⟨hk_.1.1.1, hk_.1.1.2.1, hk_.1.1.2.2⟩)); have n3_ := Aside0.mk (Kd.R_reok rfl hy0 (fun k_ e_ => HO_286000.out.1 k_ e_)); have n4_ := Aside0.mk (Kd.R_reok rfl hy1 (fun k_ e_ => HO_286001.out.1 k_ e_)); have n5_ := Aside0.mk (blk_kept (by (with_reducible repeat (first | refine bN ?_ _|refine bW ?_|refine bA ?_ _)); exact BK264.out) hkp (fun hs_ => Or.elim hs_ (fun e_ => (fun e_ => (Kd.R_ne HO_286000.out BK264.out (by decide)) e_) e_) (fun e_ => (fun e_ => (Kd.R_ne HO_286001.out BK264.out (by decide)) e_) e_))); have n6_ := Aside0.mk (blk_kept (by (with_reducible repeat (first | refine bN ?_ _|refine bW ?_|refine bA ?_ _)); exact BK285.out) hkp (fun hs_ => Or.elim hs_ (fun e_ => (fun e_ => (Kd.R_ne HO_286000.out BK285.out (by decide)) e_) e_) (fun e_ => (fun e_ => (Kd.R_ne HO_286001.out BK285.out (by decide)) e_) e_))); have n7_ := Aside0.mk (hb); clear HO_8; clear HO_11; clear HO_12; clear HO_286000; clear HO_286001; clear BK264; clear BK285; clear HB; have HO_8 := n0_; have HO_11 := n1_; have HO_12 := n2_; have HO_286000 := n3_; have HO_286001 := n4_; have BK264 := n5_; have BK285 := n6_; have HB := n7_; clear n0_ n1_ n2_ n3_ n4_ n5_ n6_ n7_; (try clear hb); (try clear hkp); (try clear hy0); (try clear hy1)) | ((with_reducible refine gate_callee (f := 21) rfl ?_); refine goesL_ (some 71) rfl rfl Try.func21 (by kernel_rfl) rfl #[.slice Ao35 t286.length co35, .int .i64 t305] rfl (by (try simp only [List.map_toArray, List.map_cons, List.map_nil]); first | done | rfl | (simp only [List.length_drop, List.length_take]; rfl)) ?_; (with_reducible refine (laws_markInt64S_.calls (fun k_ => some k_ = (.slice Ao35 t286.length co35 : Value).ownBlock) (.slice Ao35 t286.length co35) t286 t305 t308 t309 w _ ?side1 ?side2 A61.out).mono ?_); (case side1 => repeat (first | (with_reducible first | exact HB.out|apply wA|apply wN|apply wD |refine wS ?_ GE264.out |refine wS ?_ GE285.out) | exact HB.out)); (case side2 => exact Kd.R_tight rfl HO_11.out); rintro e w66 ⟨rfl, hy0, hb, hkp⟩; refine ⟨_, rfl, ?_⟩; have n0_ := Aside0.mk (Kd.R_mono (ok' := fun k_ => some k_ ≠ (.slice Ao35 t286.length co35 : Value).ownBlock ∧ some k_ ≠ (v290 : Value).ownBlock ∧ some k_ ≠ (.slice Ao29 t279.length co29 : Value).ownBlock) (Kd.R_keptB (HO_8.out) hkp (fun k_ hk_ hs_ => (hk_.1) hs_)) (fun k_ hk_ => ⟨hk_.1.1, hk_.1.2.1, hk_.1.2.2⟩)); have n1_ := Aside0.mk (Kd.R_reok rfl hy0 (fun k_ e_ => HO_11.out.1 k_ e_)); have n2_ := Aside0.mk (Kd.R_mono (ok' := fun k_ => some k_ ≠ (v276 : Value).ownBlock ∧ some k_ ≠ (.slice Ao35 t286.length co35 : Value).ownBlock ∧ some k_ ≠ (.slice Ao29 t279.length co29 : Value).ownBlock) (Kd.R_keptB (HO_12.out) hkp (fun k_ hk_ hs_ => (hk_.2.1) hs_)) (fun k_ hk_ => ⟨hk_.1.1, hk_.1.2.1, hk_.1.2.2⟩)); have n3_ := Aside0.mk (Kd.R_mono (ok' := fun k_ => some k_ ≠ (v276 : Value).ownBlock ∧ some k_ ≠ (.slice Ao35 t286.length co35 : Value).ownBlock ∧ some k_ ≠ (v290 : Value).ownBlock) (Kd.R_keptB (HO_286000.out) hkp (fun k_ hk_ hs_ => (hk_.2.1) hs_)) (fun k_ hk_ => ⟨hk_.1.1, hk_.1.2.1, hk_.1.2.2⟩)); have n4_ := Aside0.mk (Kd.R_mono (ok' := fun k_ => True) (Kd.R_keptB ((Kd.R_apart' HO_286001.out (Kd.R_typed HO_11.out) (by decide))) hkp (fun k_ hk_ hs_ => (hk_.2) hs_)) (fun k_ hk_ => trivial)); have n5_ := Aside0.mk (blk_kept (by (with_reducible repeat (first | refine bN ?_ _|refine bW ?_|refine bA ?_ _)); exact BK264.out) hkp (fun hs_ => (fun e_ => (Kd.R_ne HO_11.out BK264.out (by decide)) e_) hs_)); have n6_ := Aside0.mk (blk_kept (by (with_reducible repeat (first | refine bN ?_ _|refine bW ?_|refine bA ?_ _)); exact BK285.out) hkp (fun hs_ => (fun e_ => (Kd.R_ne HO_11.out BK285.out (by decide)) e_) hs_)); have n7_ := Aside0.mk (hb); clear HO_8; clear HO_11; clear HO_12; clear HO_286000; clear HO_286001; clear BK264; clear BK285; clear HB; have HO_8 := n0_; have HO_11 := n1_; have HO_12 := n2_; have HO_286000 := n3_; have HO_286001 := n4_; have BK264 := n5_; have BK285 := n6_; have HB := n7_; clear n0_ n1_ n2_ n3_ n4_ n5_ n6_ n7_; (try clear hb); (try clear hkp); (try clear hy0)))
             (try simp only [Act.put, List.setIfInBounds_toArray, List.set_cons_zero, List.set_cons_succ])
             go_cut [84] (fun v84 wc => ∃ (kq : Nat) (x84_61 : Bool), v84 = .bool x84_61 ∧ Aside0 (laws_FnExactReachedWithout.j6 kq a1 l2 t275 t278 t289 x84_61 l0_0 l0_1 = some r) ∧ Aside0 (kq ≤ kj55) ∧ Aside0 (Kd.R (Kd.int .i64) 2 wc w.heap.size (fun k_ => some k_ ≠ (v290 : Value).ownBlock ∧ some k_ ≠ ((.slice Ao29 t279.length co29) : Value).ownBlock) v276 t275) ∧ Aside0 (Kd.R (Kd.int .i64) 2 wc w.heap.size (fun k_ => some k_ ≠ (v276 : Value).ownBlock ∧ some k_ ≠ ((.slice Ao29 t279.length co29) : Value).ownBlock) v290 t289) ∧ Aside0 (Kd.R (Kd.int .i64) 2 wc w.heap.size (fun k_ => some k_ ≠ (v276 : Value).ownBlock ∧ some k_ ≠ (v290 : Value).ownBlock) (.slice Ao29 t279.length co29) t306) ∧ Aside0 (Kd.R k60 60 wc w.heap.size (fun _ => True) (.slice Ao32 t282.length co32) t307) ∧ Aside0 (wc.heap[gb264]? = some (.cells #[(.slice A0_0 l0_0.length c0_0), (.slice A0_1 l0_1.length c0_1)] 25 (0, 0))) ∧ Aside0 (wc.heap[gb285]? = some (.cells #[(.slice Ao29 t279.length co29), (.slice Ao32 t282.length co32)] 31 (0, 0))) ∧ Aside0 (Below w.heap.size w wc))
             case first =>
              have H := HC62.out
              clear HC62
              by_cases c67 : t308 < 0
              ·rw [if_pos c67] at H
               have c67b0 : decide (t308 < 0) = true := decide_eq_true c67
               clear c67
               (first | rw [c67b0] | (simp only [i64_w, i32_w]; rw [c67b0]) | rw [c67b2] | skip)
               have H' := Aside0.mk H
               clear H
               go_wp2
               go_meet
               case rel => exact ⟨_, (true), (by first | rfl | (simp; done) | (simp [*]; done)), H', ⟨by have := HJ3.out; have := HJ7.out; have := HJ17.out; have := HJ42.out; have := HJ46.out; have := HJ55.out; first | omega | exact Nat.le_refl _⟩, ⟨by (with_reducible repeat (first | apply rA|apply rN|apply rW)); exact Kd.R_mono HO_8.out (fun _ hk => ⟨hk.2.1, hk.2.2⟩)⟩, ⟨by (with_reducible repeat (first | apply rA|apply rN|apply rW)); exact Kd.R_mono HO_12.out (fun _ hk => ⟨hk.1, hk.2.2⟩)⟩, ⟨by (with_reducible repeat (first | apply rA|apply rN|apply rW)); exact Kd.R_mono HO_286000.out (fun _ hk => ⟨hk.1, hk.2.2⟩)⟩, ⟨by (with_reducible repeat (first | apply rA|apply rN|apply rW)); exact HO_286001.out⟩, ⟨by (with_reducible repeat (first | refine bN ?_ _|refine bW ?_|refine bA ?_ _)); exact BK264.out⟩, ⟨by (with_reducible repeat (first | refine bN ?_ _|refine bW ?_|refine bA ?_ _)); exact BK285.out⟩, ⟨by repeat (first | (with_reducible first | exact HB.out|apply wA|apply wN|apply wD |refine wS ?_ GE264.out |refine wS ?_ GE285.out) | exact HB.out)⟩⟩
              ·rw [if_neg c67] at H
               have c67b0 : decide (t308 < 0) = false := decide_eq_false c67
               clear c67
               (first | rw [c67b0] | (simp only [i64_w, i32_w]; rw [c67b0]) | rw [c67b2] | skip)
               replace H := Option.bind_eq_some_iff.mp H
               obtain ⟨t310, A680, H⟩ := H
               replace H : (if t310 = true then (laws_FnExactReachedWithout.j6 kj55 a1 l2 t275 t278 t289 (t292 != t278) l0_0 l0_1) else (laws_FnExactReachedWithout.j6 kj55 a1 l2 t275 t278 t289 true l0_0 l0_1)) = some r := H
               have A68 := Aside0.mk A680
               clear A680
               by_cases c69 : t310 = true
               ·subst c69
                have H1 : (laws_FnExactReachedWithout.j6 kj55 a1 l2 t275 t278 t289 (t292 != t278) l0_0 l0_1) = some r := by rw [if_pos rfl] at H; exact H
                clear H
                have H := H1
                clear H1
                have H' := Aside0.mk H
                clear H
                obtain ⟨Ao70, co70, eo70⟩ := Kd.R_slice HO_12.out
                subst eo70
                obtain ⟨Ao71, co71, eo71⟩ := Kd.R_slice HO_8.out
                subst eo71
                go_wp2_with (first | (go_at_call 18; (with_reducible refine (laws_eqInt64S_.calls _ _ t289 _ _ t275 true _ ?side1 ?side2 ?side3 ?side4 A68.out).mono ?_); (case side1 => repeat (first | exact (Kd.R_reads' HO_12.out).2.2 | (with_reducible first|refine Kd.C_alloc ?_ _|refine Kd.C_drewN ?_ _|refine Kd.C_drew ?_))); (case side2 => exact (Kd.R_reads' HO_12.out).2.1); (case side3 => repeat (first | exact (Kd.R_reads' HO_8.out).2.2 | (with_reducible first|refine Kd.C_alloc ?_ _|refine Kd.C_drewN ?_ _|refine Kd.C_drew ?_))); (case side4 => exact (Kd.R_reads' HO_8.out).2.1); rintro e w' ⟨rfl, ⟨nd, rfl⟩⟩))
                go_meet
                case rel => exact ⟨_, ((t292 != t278)), (by first | rfl | (simp; done) | (simp [*]; done)), H', ⟨by have := HJ3.out; have := HJ7.out; have := HJ17.out; have := HJ42.out; have := HJ46.out; have := HJ55.out; first | omega | exact Nat.le_refl _⟩, ⟨by (with_reducible repeat (first | apply rA|apply rN|apply rW)); exact Kd.R_mono HO_8.out (fun _ hk => ⟨hk.2.1, hk.2.2⟩)⟩, ⟨by (with_reducible repeat (first | apply rA|apply rN|apply rW)); exact Kd.R_mono HO_12.out (fun _ hk => ⟨hk.1, hk.2.2⟩)⟩, ⟨by (with_reducible repeat (first | apply rA|apply rN|apply rW)); exact Kd.R_mono HO_286000.out (fun _ hk => ⟨hk.1, hk.2.2⟩)⟩, ⟨by (with_reducible repeat (first | apply rA|apply rN|apply rW)); exact HO_286001.out⟩, ⟨by (with_reducible repeat (first | refine bN ?_ _|refine bW ?_|refine bA ?_ _)); exact BK264.out⟩, ⟨by (with_reducible repeat (first | refine bN ?_ _|refine bW ?_|refine bA ?_ _)); exact BK285.out⟩, ⟨by repeat (first | (with_reducible first | exact HB.out|apply wA|apply wN|apply wD |refine wS ?_ GE264.out |refine wS ?_ GE285.out) | exact HB.out)⟩⟩
               ·replace c69 := Bool.eq_false_iff.mpr c69
                subst c69
                have H1 : (laws_FnExactReachedWithout.j6 kj55 a1 l2 t275 t278 t289 true l0_0 l0_1) = some r := by rw [if_neg (show ¬ (false = true) by decide)] at H; exact H
                clear H
                have H := H1
                clear H1
                have H' := Aside0.mk H
                clear H
                obtain ⟨Ao72, co72, eo72⟩ := Kd.R_slice HO_12.out
                subst eo72
                obtain ⟨Ao73, co73, eo73⟩ := Kd.R_slice HO_8.out
                subst eo73
                go_wp2_with (first | (go_at_call 18; (with_reducible refine (laws_eqInt64S_.calls _ _ t289 _ _ t275 false _ ?side1 ?side2 ?side3 ?side4 A68.out).mono ?_); (case side1 => repeat (first | exact (Kd.R_reads' HO_12.out).2.2 | (with_reducible first|refine Kd.C_alloc ?_ _|refine Kd.C_drewN ?_ _|refine Kd.C_drew ?_))); (case side2 => exact (Kd.R_reads' HO_12.out).2.1); (case side3 => repeat (first | exact (Kd.R_reads' HO_8.out).2.2 | (with_reducible first|refine Kd.C_alloc ?_ _|refine Kd.C_drewN ?_ _|refine Kd.C_drew ?_))); (case side4 => exact (Kd.R_reads' HO_8.out).2.1); rintro e w' ⟨rfl, ⟨nd, rfl⟩⟩))
                go_meet
                case rel => exact ⟨_, (true), (by first | rfl | (simp; done) | (simp [*]; done)), H', ⟨by have := HJ3.out; have := HJ7.out; have := HJ17.out; have := HJ42.out; have := HJ46.out; have := HJ55.out; first | omega | exact Nat.le_refl _⟩, ⟨by (with_reducible repeat (first | apply rA|apply rN|apply rW)); exact Kd.R_mono HO_8.out (fun _ hk => ⟨hk.2.1, hk.2.2⟩)⟩, ⟨by (with_reducible repeat (first | apply rA|apply rN|apply rW)); exact Kd.R_mono HO_12.out (fun _ hk => ⟨hk.1, hk.2.2⟩)⟩, ⟨by (with_reducible repeat (first | apply rA|apply rN|apply rW)); exact Kd.R_mono HO_286000.out (fun _ hk => ⟨hk.1, hk.2.2⟩)⟩, ⟨by (with_reducible repeat (first | apply rA|apply rN|apply rW)); exact HO_286001.out⟩, ⟨by (with_reducible repeat (first | refine bN ?_ _|refine bW ?_|refine bA ?_ _)); exact BK264.out⟩, ⟨by (with_reducible repeat (first | refine bN ?_ _|refine bW ?_|refine bA ?_ _)); exact BK285.out⟩, ⟨by repeat (first | (with_reducible first | exact HB.out|apply wA|apply wN|apply wD |refine wS ?_ GE264.out |refine wS ?_ GE285.out) | exact HB.out)⟩⟩
             case rest =>
              clear HC62
              try clear c1
              try clear c2
              try clear p2
              try clear c3
              try clear c4
              try clear c5
              try clear c6
              try clear c6b0
              try clear c6b1
              try clear c6b2
              try clear c8
              try clear c11
              try clear c11b0
              try clear c11b2
              try clear c14
              try clear c16
              try clear c18
              try clear c19
              try clear c20
              try clear c21
              try clear c30
              try clear c31
              try clear c32
              try clear c33
              try clear c38
              try clear c44
              try clear c53
              try clear c59
              try clear c63
              try clear c67
              try clear c67b0
              try clear c67b2
              try clear c69
              try clear hcz19_0
              try clear hcz19_1
              try clear hcz26_0
              try clear hcz26_1
              try clear hcz31_0
              try clear hcz31_1
              try clear hcz34_0
              try clear hcz34_1
              try clear hcz64_0
              try clear hcz64_1
              try clear hcz9_0
              try clear hcz9_1
              try clear hfz19_0
              try clear hfz19_1
              try clear hfz26_0
              try clear hfz26_1
              try clear hfz31_0
              try clear hfz31_1
              try clear hfz34_0
              try clear hfz34_1
              try clear hfz64_0
              try clear hfz64_1
              try clear hfz9_0
              try clear hfz9_1
              try clear p2
              obtain ⟨kq, x84_61, rfl, HA, HJ61, HO_8, HO_12, HO_286000, HO_286001, BK264, BK285, HB⟩ := hcut
              have hl286000_61 := (Kd.R_reads' HO_286000.out).1
              rw [hl286000_61] at HO_286000
              (try simp only [hl286000_61])
              (try simp only [hl286000_61] at BK264)
              (try simp only [hl286000_61] at BK285)
              (try simp only [hl286000_61] at HO_8)
              (try simp only [hl286000_61] at HO_12)
              (try simp only [hl286000_61] at HO_286001)
              have hl286001_61 := (Kd.R_reads' HO_286001.out).1
              rw [hl286001_61] at HO_286001
              (try simp only [hl286001_61])
              (try simp only [hl286001_61] at BK264)
              (try simp only [hl286001_61] at BK285)
              (try simp only [hl286001_61] at HO_8)
              (try simp only [hl286001_61] at HO_12)
              (try simp only [hl286001_61] at HO_286000)
              cases kq with
              | zero => exact absurd HA.out (by simp [laws_FnExactReachedWithout.j6])
              | succ kj61 =>
               have H := HA.out
               clear HA
               simp only [laws_FnExactReachedWithout.j6] at H
               have HC74 := Aside0.mk H
               clear H
               go_upto_if 84 with (fail)
               go_cut [] (fun wc => ∃ (kq : Nat), Aside0 (laws_FnExactReachedWithout.j7 kq a1 l2 t275 t278 t289 l0_0 l0_1 = some r) ∧ Aside0 (kq ≤ kj61) ∧ Aside0 (Kd.R (Kd.int .i64) 2 wc w.heap.size (fun k_ => some k_ ≠ (v290 : Value).ownBlock ∧ some k_ ≠ ((.slice Ao29 t306.length co29) : Value).ownBlock) v276 t275) ∧ Aside0 (Kd.R (Kd.int .i64) 2 wc w.heap.size (fun k_ => some k_ ≠ (v276 : Value).ownBlock ∧ some k_ ≠ ((.slice Ao29 t306.length co29) : Value).ownBlock) v290 t289) ∧ Aside0 (Kd.R (Kd.int .i64) 2 wc w.heap.size (fun k_ => some k_ ≠ (v276 : Value).ownBlock ∧ some k_ ≠ (v290 : Value).ownBlock) (.slice Ao29 t306.length co29) t306) ∧ Aside0 (Kd.R k60 60 wc w.heap.size (fun _ => True) (.slice Ao32 t307.length co32) t307) ∧ Aside0 (wc.heap[gb264]? = some (.cells #[(.slice A0_0 l0_0.length c0_0), (.slice A0_1 l0_1.length c0_1)] 25 (0, 0))) ∧ Aside0 (wc.heap[gb285]? = some (.cells #[(.slice Ao29 t306.length co29), (.slice Ao32 t307.length co32)] 31 (0, 0))) ∧ Aside0 (Below w.heap.size w wc))
               case first =>
                have H := HC74.out
                clear HC74
                by_cases c75 : x84_61 = true
                ·subst c75
                 have H1 : (some false) = some r := by rw [if_pos rfl] at H; exact H
                 clear H
                 have H := H1
                 clear H1
                 obtain rfl := Option.some.inj H
                 go_wp2
                 go_ret
                 exact ⟨by first | rfl | (simp [errW_none, errW_some] <;> rfl) | (simp [*, errW_none, errW_some] <;> rfl), by repeat (first | (with_reducible first | exact HB.out|apply wA|apply wN|apply wD |refine wS ?_ GE264.out |refine wS ?_ GE285.out) | exact HB.out)⟩
                ·replace c75 := Bool.eq_false_iff.mpr c75
                 subst c75
                 have H1 : (laws_FnExactReachedWithout.j7 kj61 a1 l2 t275 t278 t289 l0_0 l0_1) = some r := by rw [if_neg (show ¬ (false = true) by decide)] at H; exact H
                 clear H
                 have H := H1
                 clear H1
                 have H' := Aside0.mk H
                 clear H
                 go_wp2
                 go_meet
                 case rel => exact ⟨_, H', ⟨by have := HJ3.out; have := HJ7.out; have := HJ17.out; have := HJ42.out; have := HJ46.out; have := HJ55.out; have := HJ61.out; first | omega | exact Nat.le_refl _⟩, ⟨by (try simp only [hl286000_61]); (try simp only [hl286001_61]); (with_reducible repeat (first | apply rA|apply rN|apply rW)); exact HO_8.out⟩, ⟨by (try simp only [hl286000_61]); (try simp only [hl286001_61]); (with_reducible repeat (first | apply rA|apply rN|apply rW)); exact HO_12.out⟩, ⟨by (try simp only [hl286000_61]); (try simp only [hl286001_61]); (with_reducible repeat (first | apply rA|apply rN|apply rW)); exact HO_286000.out⟩, ⟨by (try simp only [hl286000_61]); (try simp only [hl286001_61]); (with_reducible repeat (first | apply rA|apply rN|apply rW)); exact HO_286001.out⟩, ⟨by (try simp only [hl286000_61]); (try simp only [hl286001_61]); (with_reducible repeat (first | refine bN ?_ _|refine bW ?_|refine bA ?_ _)); exact BK264.out⟩, ⟨by (try simp only [hl286000_61]); (try simp only [hl286001_61]); (with_reducible repeat (first | refine bN ?_ _|refine bW ?_|refine bA ?_ _)); exact BK285.out⟩, ⟨by repeat (first | (with_reducible first | exact HB.out|apply wA|apply wN|apply wD |refine wS ?_ GE264.out |refine wS ?_ GE285.out) | exact HB.out)⟩⟩
               case rest =>
                clear HC74
                try clear c1
                try clear c2
                try clear p2
                try clear c3
                try clear c4
                try clear c5
                try clear c6
                try clear c6b0
                try clear c6b1
                try clear c6b2
                try clear c7
                try clear c8
                try clear c11
                try clear c11b0
                try clear c11b2
                try clear c14
                try clear c16
                try clear c18
                try clear c19
                try clear c20
                try clear c21
                try clear c30
                try clear c31
                try clear c32
                try clear c33
                try clear c38
                try clear c44
                try clear c53
                try clear c59
                try clear c63
                try clear c67
                try clear c67b0
                try clear c67b2
                try clear c69
                try clear c75
                try clear hcz19_0
                try clear hcz19_1
                try clear hcz26_0
                try clear hcz26_1
                try clear hcz31_0
                try clear hcz31_1
                try clear hcz34_0
                try clear hcz34_1
                try clear hcz64_0
                try clear hcz64_1
                try clear hcz9_0
                try clear hcz9_1
                try clear hfz19_0
                try clear hfz19_1
                try clear hfz26_0
                try clear hfz26_1
                try clear hfz31_0
                try clear hfz31_1
                try clear hfz34_0
                try clear hfz34_1
                try clear hfz64_0
                try clear hfz64_1
                try clear hfz9_0
                try clear hfz9_1
                try clear p2
                obtain ⟨kq, HA, HJ73, HO_8, HO_12, HO_286000, HO_286001, BK264, BK285, HB⟩ := hcut
                cases kq with
                | zero => exact absurd HA.out (by simp [laws_FnExactReachedWithout.j7])
                | succ kj73 =>
                 have H := HA.out
                 clear HA
                 simp only [laws_FnExactReachedWithout.j7] at H
                 replace H := Option.bind_eq_some_iff.mp H
                 obtain ⟨⟨t311, t312⟩, A760, H⟩ := H
                 replace H : ((laws_heldInt64S_.f t312 1).bind fun t313 => (if t313 < 0 then (some false) else (laws_FnExactReachedWithout.j8 kj73 a1 l2 t275 t278 t312 t311 t313 l0_0 l0_1))) = some r := H
                 have A76 := Aside0.mk A760
                 clear A760
                 replace H := Option.bind_eq_some_iff.mp H
                 obtain ⟨t313, A770, H⟩ := H
                 replace H : (if t313 < 0 then (some false) else (laws_FnExactReachedWithout.j8 kj73 a1 l2 t275 t278 t312 t311 t313 l0_0 l0_1)) = some r := H
                 have A77 := Aside0.mk A770
                 clear A770
                 have HC78 := Aside0.mk H
                 clear H
                 obtain ⟨Ao79, co79, eo79⟩ := Kd.R_slice HO_12.out
                 subst eo79
                 go_upto_if 92 with (first | ((with_reducible refine gate_callee (f := 21) rfl ?_); refine goesL_ (some 87) rfl rfl Try.func21 (by kernel_rfl) rfl #[.slice Ao79 t289.length co79, .int .i64 1] rfl (by (try simp only [List.map_toArray, List.map_cons, List.map_nil]); first | done | rfl | (simp only [List.length_drop, List.length_take]; rfl)) ?_; (with_reducible refine (laws_markInt64S_.calls (fun k_ => some k_ = (.slice Ao79 t289.length co79 : Value).ownBlock) (.slice Ao79 t289.length co79) t289 1 t311 t312 w _ ?side1 ?side2 A76.out).mono ?_); (case side1 => repeat (first | (with_reducible first | exact HB.out|apply wA|apply wN|apply wD |refine wS ?_ GE264.out |refine wS ?_ GE285.out) | exact HB.out)); (case side2 => exact Kd.R_tight rfl HO_12.out); rintro e w80 ⟨rfl, hy0, hb, hkp⟩; refine ⟨_, rfl, ?_⟩; have n0_ := Aside0.mk (Kd.R_mono (ok' := fun k_ => some k_ ≠ (.slice Ao79 t289.length co79 : Value).ownBlock ∧ some k_ ≠ (.slice Ao29 t306.length co29 : Value).ownBlock) (Kd.R_keptB (HO_8.out) hkp (fun k_ hk_ hs_ => (hk_.1) hs_)) (fun k_ hk_ => ⟨hk_.1.1, hk_.1.2⟩)); have n1_ := Aside0.mk (Kd.R_reok rfl hy0 (fun k_ e_ => HO_12.out.1 k_ e_)); have n2_ := Aside0.mk (Kd.R_mono (ok' := fun k_ => some k_ ≠ (v276 : Value).ownBlock ∧ some k_ ≠ (.slice Ao79 t289.length co79 : Value).ownBlock) (Kd.R_keptB (HO_286000.out) hkp (fun k_ hk_ hs_ => (hk_.2) hs_)) (fun k_ hk_ => ⟨hk_.1.1, hk_.1.2⟩)); have n3_ := Aside0.mk (Kd.R_mono (ok' := fun k_ => True) (Kd.R_keptB ((Kd.R_apart' HO_286001.out (Kd.R_typed HO_12.out) (by decide))) hkp (fun k_ hk_ hs_ => (hk_.2) hs_)) (fun k_ hk_ => trivial)); have n4_ := Aside0.mk (blk_kept (by (with_reducible repeat (first | refine bN ?_ _|refine bW ?_|refine bA ?_ _)); exact BK264.out) hkp (fun hs_ => (fun e_ => (Kd.R_ne HO_12.out BK264.out (by decide)) e_) hs_)); have n5_ := Aside0.mk (blk_kept (by (with_reducible repeat (first | refine bN ?_ _|refine bW ?_|refine bA ?_ _)); exact BK285.out) hkp (fun hs_ => (fun e_ => (Kd.R_ne HO_12.out BK285.out (by decide)) e_) hs_)); have n6_ := Aside0.mk (hb); clear HO_8; clear HO_12; clear HO_286000; clear HO_286001; clear BK264; clear BK285; clear HB; have HO_8 := n0_; have HO_12 := n1_; have HO_286000 := n2_; have HO_286001 := n3_; have BK264 := n4_; have BK285 := n5_; have HB := n6_; clear n0_ n1_ n2_ n3_ n4_ n5_ n6_; (try clear hb); (try clear hkp); (try clear hy0)) | ((with_reducible refine gate_callee (f := 22) rfl ?_); refine goesL_ (some 90) rfl rfl Try.func22 (by kernel_rfl) rfl #[.slice Ao79 t312.length co79, .int .i64 1] rfl (by (try simp only [List.map_toArray, List.map_cons, List.map_nil]); first | done | (rw [show t312.length = t289.length from (Kd.R_reads' HO_12.out).1.symm] <;> rfl) | rfl | (simp only [List.length_drop, List.length_take]; rfl)) ?_; (with_reducible refine (laws_heldInt64S_.calls _ _ t312 1 t313 _ ?side1 ?side2 A77.out).mono ?_); (case side1 => repeat (first | exact (Kd.R_reads' HO_12.out).2.2 | (with_reducible first|refine Kd.C_alloc ?_ _|refine Kd.C_drewN ?_ _|refine Kd.C_drew ?_))); (case side2 => rw [show t312.length = t289.length from (Kd.R_reads' HO_12.out).1.symm]; exact (Kd.R_reads' HO_12.out).2.1); rintro e w' ⟨rfl, ⟨nd, rfl⟩⟩; refine ⟨_, rfl, ?_⟩))
                 (try simp only [Act.put, List.setIfInBounds_toArray, List.set_cons_zero, List.set_cons_succ])
                 go_cut [] (fun wc => ∃ (kq : Nat), Aside0 (laws_FnExactReachedWithout.j8 kq a1 l2 t275 t278 t312 t311 t313 l0_0 l0_1 = some r) ∧ Aside0 (kq ≤ kj73) ∧ Aside0 (Kd.R (Kd.int .i64) 2 wc w.heap.size (fun k_ => some k_ ≠ ((.slice Ao79 t289.length co79) : Value).ownBlock ∧ some k_ ≠ ((.slice Ao29 t306.length co29) : Value).ownBlock) v276 t275) ∧ Aside0 (Kd.R (Kd.int .i64) 2 wc w.heap.size (fun k_ => some k_ ≠ (v276 : Value).ownBlock ∧ some k_ ≠ ((.slice Ao29 t306.length co29) : Value).ownBlock) (.slice Ao79 t289.length co79) t312) ∧ Aside0 (Kd.R (Kd.int .i64) 2 wc w.heap.size (fun k_ => some k_ ≠ (v276 : Value).ownBlock ∧ some k_ ≠ ((.slice Ao79 t289.length co79) : Value).ownBlock) (.slice Ao29 t306.length co29) t306) ∧ Aside0 (Kd.R k60 60 wc w.heap.size (fun _ => True) (.slice Ao32 t307.length co32) t307) ∧ Aside0 (wc.heap[gb264]? = some (.cells #[(.slice A0_0 l0_0.length c0_0), (.slice A0_1 l0_1.length c0_1)] 25 (0, 0))) ∧ Aside0 (wc.heap[gb285]? = some (.cells #[(.slice Ao29 t306.length co29), (.slice Ao32 t307.length co32)] 31 (0, 0))) ∧ Aside0 (Below w.heap.size w wc))
                 case first =>
                  have H := HC78.out
                  clear HC78
                  by_cases c81 : t313 < 0
                  ·rw [if_pos c81] at H
                   have c81b0 : decide (t313 < 0) = true := decide_eq_true c81
                   clear c81
                   (first | rw [c81b0] | (simp only [i64_w, i32_w]; rw [c81b0]) | rw [c81b2] | skip)
                   obtain rfl := Option.some.inj H
                   go_wp2
                   go_ret
                   exact ⟨by first | rfl | (simp [errW_none, errW_some] <;> rfl) | (simp [*, errW_none, errW_some] <;> rfl), by repeat (first | (with_reducible first | exact HB.out|apply wA|apply wN|apply wD |refine wS ?_ GE264.out |refine wS ?_ GE285.out) | exact HB.out)⟩
                  ·rw [if_neg c81] at H
                   have c81b0 : decide (t313 < 0) = false := decide_eq_false c81
                   clear c81
                   (first | rw [c81b0] | (simp only [i64_w, i32_w]; rw [c81b0]) | rw [c81b2] | skip)
                   have H' := Aside0.mk H
                   clear H
                   go_wp2
                   go_meet
                   case rel => exact ⟨_, H', ⟨by have := HJ3.out; have := HJ7.out; have := HJ17.out; have := HJ42.out; have := HJ46.out; have := HJ55.out; have := HJ61.out; have := HJ73.out; first | omega | exact Nat.le_refl _⟩, ⟨by (try simp only [hl286000_61]); (try simp only [hl286001_61]); (with_reducible repeat (first | apply rA|apply rN|apply rW)); exact HO_8.out⟩, ⟨by (try simp only [hl286000_61]); (try simp only [hl286001_61]); (with_reducible repeat (first | apply rA|apply rN|apply rW)); exact HO_12.out⟩, ⟨by (try simp only [hl286000_61]); (try simp only [hl286001_61]); (with_reducible repeat (first | apply rA|apply rN|apply rW)); exact HO_286000.out⟩, ⟨by (try simp only [hl286000_61]); (try simp only [hl286001_61]); (with_reducible repeat (first | apply rA|apply rN|apply rW)); exact HO_286001.out⟩, ⟨by (try simp only [hl286000_61]); (try simp only [hl286001_61]); (with_reducible repeat (first | refine bN ?_ _|refine bW ?_|refine bA ?_ _)); exact BK264.out⟩, ⟨by (try simp only [hl286000_61]); (try simp only [hl286001_61]); (with_reducible repeat (first | refine bN ?_ _|refine bW ?_|refine bA ?_ _)); exact BK285.out⟩, ⟨by repeat (first | (with_reducible first | exact HB.out|apply wA|apply wN|apply wD |refine wS ?_ GE264.out |refine wS ?_ GE285.out) | exact HB.out)⟩⟩
                 case rest =>
                  clear HC78
                  try clear c1
                  try clear c2
                  try clear p2
                  try clear c3
                  try clear c4
                  try clear c5
                  try clear c6
                  try clear c6b0
                  try clear c6b1
                  try clear c6b2
                  try clear c7
                  try clear c8
                  try clear c11
                  try clear c11b0
                  try clear c11b2
                  try clear c14
                  try clear c16
                  try clear c18
                  try clear c19
                  try clear c20
                  try clear c21
                  try clear c22
                  try clear c30
                  try clear c31
                  try clear c32
                  try clear c33
                  try clear c38
                  try clear c44
                  try clear c53
                  try clear c59
                  try clear c63
                  try clear c67
                  try clear c67b0
                  try clear c67b2
                  try clear c69
                  try clear c75
                  try clear c81
                  try clear c81b0
                  try clear c81b2
                  try clear hcz19_0
                  try clear hcz19_1
                  try clear hcz26_0
                  try clear hcz26_1
                  try clear hcz31_0
                  try clear hcz31_1
                  try clear hcz34_0
                  try clear hcz34_1
                  try clear hcz64_0
                  try clear hcz64_1
                  try clear hcz9_0
                  try clear hcz9_1
                  try clear hfz19_0
                  try clear hfz19_1
                  try clear hfz26_0
                  try clear hfz26_1
                  try clear hfz31_0
                  try clear hfz31_1
                  try clear hfz34_0
                  try clear hfz34_1
                  try clear hfz64_0
                  try clear hfz64_1
                  try clear hfz9_0
                  try clear hfz9_1
                  try clear p2
                  obtain ⟨kq, HA, HJ77, HO_8, HO_12, HO_286000, HO_286001, BK264, BK285, HB⟩ := hcut
                  have hl12_77 := (Kd.R_reads' HO_12.out).1
                  rw [hl12_77] at HO_12
                  (try simp only [hl12_77])
                  (try simp only [hl12_77] at BK264)
                  (try simp only [hl12_77] at BK285)
                  (try simp only [hl12_77] at HO_8)
                  (try simp only [hl12_77] at HO_286000)
                  (try simp only [hl12_77] at HO_286001)
                  cases kq with
                  | zero => exact absurd HA.out (by simp [laws_FnExactReachedWithout.j8])
                  | succ kj77 =>
                   have H := HA.out
                   clear HA
                   simp only [laws_FnExactReachedWithout.j8] at H
                   have HC82 := Aside0.mk H
                   clear H
                   go_upto_if 95 with (fail)
                   go_cut [] (fun wc => ∃ (kq : Nat), Aside0 (laws_FnExactReachedWithout.j9 kq a1 l2 t275 t278 t312 t311 l0_0 l0_1 = some r) ∧ Aside0 (kq ≤ kj77) ∧ Aside0 (Kd.R (Kd.int .i64) 2 wc w.heap.size (fun k_ => some k_ ≠ ((.slice Ao79 t312.length co79) : Value).ownBlock ∧ some k_ ≠ ((.slice Ao29 t306.length co29) : Value).ownBlock) v276 t275) ∧ Aside0 (Kd.R (Kd.int .i64) 2 wc w.heap.size (fun k_ => some k_ ≠ (v276 : Value).ownBlock ∧ some k_ ≠ ((.slice Ao29 t306.length co29) : Value).ownBlock) (.slice Ao79 t312.length co79) t312) ∧ Aside0 (Kd.R (Kd.int .i64) 2 wc w.heap.size (fun k_ => some k_ ≠ (v276 : Value).ownBlock ∧ some k_ ≠ ((.slice Ao79 t312.length co79) : Value).ownBlock) (.slice Ao29 t306.length co29) t306) ∧ Aside0 (Kd.R k60 60 wc w.heap.size (fun _ => True) (.slice Ao32 t307.length co32) t307) ∧ Aside0 (wc.heap[gb264]? = some (.cells #[(.slice A0_0 l0_0.length c0_0), (.slice A0_1 l0_1.length c0_1)] 25 (0, 0))) ∧ Aside0 (wc.heap[gb285]? = some (.cells #[(.slice Ao29 t306.length co29), (.slice Ao32 t307.length co32)] 31 (0, 0))) ∧ Aside0 (Below w.heap.size w wc))
                   case first =>
                    have H := HC82.out
                    clear HC82
                    by_cases c83 : t313 = t311
                    ·rw [if_pos c83] at H
                     have c83b0 : (t313 == t311) = true := beq_iff_eq.mpr c83
                     have c83b1 : (t313 != t311) = false := bne_eq_false_iff_eq.mpr c83
                     clear c83
                     (first | rw [c83b0] | (simp only [i64_w, i32_w]; rw [c83b0]) | rw [c83b2] | skip)
                     have H' := Aside0.mk H
                     clear H
                     go_wp2
                     go_meet
                     case rel => exact ⟨_, H', ⟨by have := HJ3.out; have := HJ7.out; have := HJ17.out; have := HJ42.out; have := HJ46.out; have := HJ55.out; have := HJ61.out; have := HJ73.out; have := HJ77.out; first | omega | exact Nat.le_refl _⟩, ⟨by (try simp only [hl286000_61]); (try simp only [hl286001_61]); (try simp only [hl12_77]); (with_reducible repeat (first | apply rA|apply rN|apply rW)); exact HO_8.out⟩, ⟨by (try simp only [hl286000_61]); (try simp only [hl286001_61]); (try simp only [hl12_77]); (with_reducible repeat (first | apply rA|apply rN|apply rW)); exact HO_12.out⟩, ⟨by (try simp only [hl286000_61]); (try simp only [hl286001_61]); (try simp only [hl12_77]); (with_reducible repeat (first | apply rA|apply rN|apply rW)); exact HO_286000.out⟩, ⟨by (try simp only [hl286000_61]); (try simp only [hl286001_61]); (try simp only [hl12_77]); (with_reducible repeat (first | apply rA|apply rN|apply rW)); exact HO_286001.out⟩, ⟨by (try simp only [hl286000_61]); (try simp only [hl286001_61]); (try simp only [hl12_77]); (with_reducible repeat (first | refine bN ?_ _|refine bW ?_|refine bA ?_ _)); exact BK264.out⟩, ⟨by (try simp only [hl286000_61]); (try simp only [hl286001_61]); (try simp only [hl12_77]); (with_reducible repeat (first | refine bN ?_ _|refine bW ?_|refine bA ?_ _)); exact BK285.out⟩, ⟨by repeat (first | (with_reducible first | exact HB.out|apply wA|apply wN|apply wD |refine wS ?_ GE264.out |refine wS ?_ GE285.out) | exact HB.out)⟩⟩
                    ·rw [if_neg c83] at H
                     have c83b0 : (t313 == t311) = false := beq_eq_false_iff_ne.mpr c83
                     have c83b1 : (t313 != t311) = true := bne_iff_ne.mpr c83
                     (first | rw [c83b0] | (simp only [i64_w, i32_w]; rw [c83b0]) | rw [c83b2] | skip)
                     obtain rfl := Option.some.inj H
                     go_wp2
                     go_ret
                     exact ⟨by first | rfl | (simp [errW_none, errW_some] <;> rfl) | (simp [*, errW_none, errW_some] <;> rfl), by repeat (first | (with_reducible first | exact HB.out|apply wA|apply wN|apply wD |refine wS ?_ GE264.out |refine wS ?_ GE285.out) | exact HB.out)⟩
                   case rest =>
                    clear HC82
                    try clear c1
                    try clear c2
                    try clear p2
                    try clear c3
                    try clear c4
                    try clear c5
                    try clear c6
                    try clear c6b0
                    try clear c6b1
                    try clear c6b2
                    try clear c7
                    try clear c8
                    try clear c11
                    try clear c11b0
                    try clear c11b2
                    try clear c14
                    try clear c16
                    try clear c18
                    try clear c19
                    try clear c20
                    try clear c21
                    try clear c22
                    try clear c30
                    try clear c31
                    try clear c32
                    try clear c33
                    try clear c38
                    try clear c44
                    try clear c53
                    try clear c59
                    try clear c63
                    try clear c67
                    try clear c67b0
                    try clear c67b2
                    try clear c69
                    try clear c75
                    try clear c81
                    try clear c81b0
                    try clear c81b2
                    try clear c83
                    try clear c83b0
                    try clear c83b1
                    try clear c83b2
                    try clear hcz19_0
                    try clear hcz19_1
                    try clear hcz26_0
                    try clear hcz26_1
                    try clear hcz31_0
                    try clear hcz31_1
                    try clear hcz34_0
                    try clear hcz34_1
                    try clear hcz64_0
                    try clear hcz64_1
                    try clear hcz9_0
                    try clear hcz9_1
                    try clear hfz19_0
                    try clear hfz19_1
                    try clear hfz26_0
                    try clear hfz26_1
                    try clear hfz31_0
                    try clear hfz31_1
                    try clear hfz34_0
                    try clear hfz34_1
                    try clear hfz64_0
                    try clear hfz64_1
                    try clear hfz9_0
                    try clear hfz9_1
                    try clear p2
                    obtain ⟨kq, HA, HJ81, HO_8, HO_12, HO_286000, HO_286001, BK264, BK285, HB⟩ := hcut
                    cases kq with
                    | zero => exact absurd HA.out (by simp [laws_FnExactReachedWithout.j9])
                    | succ kj81 =>
                     have H := HA.out
                     clear HA
                     simp only [laws_FnExactReachedWithout.j9] at H
                     replace H := Option.bind_eq_some_iff.mp H
                     obtain ⟨⟨t314, t317⟩, A840, H⟩ := H
                     replace H : ((laws_toInt64S_.f l2).bind fun t320 => ((impl_ReachedWithout.f kj81 t314 t317 a1 t320).bind fun bt323 => ((laws_eqInt64S_.f bt323.1 t275).bind fun t327 => (if t327 = true then (laws_FnExactReachedWithout.j10 kj81 t312 t311 (bt323.2 != t278)) else (laws_FnExactReachedWithout.j10 kj81 t312 t311 true))))) = some r := H
                     have A84 := Aside0.mk A840
                     clear A840
                     replace H := Option.bind_eq_some_iff.mp H
                     obtain ⟨t320, A850, H⟩ := H
                     replace H : ((impl_ReachedWithout.f kj81 t314 t317 a1 t320).bind fun bt323 => ((laws_eqInt64S_.f bt323.1 t275).bind fun t327 => (if t327 = true then (laws_FnExactReachedWithout.j10 kj81 t312 t311 (bt323.2 != t278)) else (laws_FnExactReachedWithout.j10 kj81 t312 t311 true)))) = some r := H
                     have A85 := Aside0.mk A850
                     clear A850
                     replace H := Option.bind_eq_some_iff.mp H
                     obtain ⟨⟨t323, t326⟩, A860, H⟩ := H
                     replace H : ((laws_eqInt64S_.f t323 t275).bind fun t327 => (if t327 = true then (laws_FnExactReachedWithout.j10 kj81 t312 t311 (t326 != t278)) else (laws_FnExactReachedWithout.j10 kj81 t312 t311 true))) = some r := H
                     have A86 := Aside0.mk A860
                     clear A860
                     have HC87 := Aside0.mk H
                     clear H
                     have hnb88 := NB264_285.out
                     have hnc88 := NB285_264.out
                     have hcz89_0 : wc.cell? ⟨gb264, 0, none⟩ = some (.slice A0_0 l0_0.length c0_0) := (blk_cell BK264.out 0).trans rfl
                     have hcz89_1 : wc.cell? ⟨gb264, 1, none⟩ = some (.slice A0_1 l0_1.length c0_1) := (blk_cell BK264.out 1).trans rfl
                     have hfz89_0 := blk_frozen BK264.out 0
                     have hfz89_1 := blk_frozen BK264.out 1
                     go_upto_region 31 with (first | ((with_reducible refine gate_callee (f := 16) rfl ?_); refine goesL_ (some 98) rfl rfl Try.func16 (by kernel_rfl) rfl #[.agg #[.slice A0_0 l0_0.length c0_0, .slice A0_1 l0_1.length c0_1]] rfl (by (try simp only [List.map_toArray, List.map_cons, List.map_nil]); first | done | rfl | (simp only [List.length_drop, List.length_take]; rfl)) ?_; (with_reducible refine (laws_toNetwork.calls _ _ l0_0 _ _ l0_1 t314 t317 _ ?side1 ?side2 ?side3 ?side4 A84.out).mono ?_); (case side1 => repeat (first | exact (Kd.C_below HR0_0.out HB.out) | (with_reducible first|refine Kd.C_alloc ?_ _|refine Kd.C_drewN ?_ _|refine Kd.C_drew ?_))); (case side2 => exact HC0_0.out); (case side3 => repeat (first | exact (Kd.C_below HR0_1.out HB.out) | (with_reducible first|refine Kd.C_alloc ?_ _|refine Kd.C_drewN ?_ _|refine Kd.C_drew ?_))); (case side4 => exact HC0_1.out); rintro e w90 ⟨v315, v318, rfl, ho0, ho1, hb⟩; refine ⟨_, rfl, ?_⟩; have n0_ := Aside0.mk (Kd.R_elder' (by (with_reducible repeat (first | apply rA|apply rN|apply rW)); exact HO_8.out) (Kd.R_base ho0) hb); have n1_ := Aside0.mk (Kd.R_elder' (by (with_reducible repeat (first | apply rA|apply rN|apply rW)); exact HO_12.out) (Kd.R_base ho0) hb); have n2_ := Aside0.mk (Kd.R_elder' (by (with_reducible repeat (first | apply rA|apply rN|apply rW)); exact HO_286000.out) (Kd.R_base ho0) hb); have n3_ := Aside0.mk (Kd.R_elder' (by (with_reducible repeat (first | apply rA|apply rN|apply rW)); exact HO_286001.out) (Kd.R_base ho1) hb); have n4_ := Aside0.mk (Kd.R_lower (Kd.R_new' (Kd.R_new' (Kd.R_new' ho0 (Kd.R_lt (by (with_reducible repeat (first | apply rA|apply rN|apply rW)); exact HO_8.out))) (Kd.R_lt (by (with_reducible repeat (first | apply rA|apply rN|apply rW)); exact HO_12.out))) (Kd.R_lt (by (with_reducible repeat (first | apply rA|apply rN|apply rW)); exact HO_286000.out))) (below_size (by repeat (first | (with_reducible first | exact HB.out|apply wA|apply wN|apply wD |refine wS ?_ GE264.out |refine wS ?_ GE285.out) | exact HB.out)))); have n5_ := Aside0.mk (Kd.R_lower (Kd.R_new' ho1 (Kd.R_lt (by (with_reducible repeat (first | apply rA|apply rN|apply rW)); exact HO_286001.out))) (below_size (by repeat (first | (with_reducible first | exact HB.out|apply wA|apply wN|apply wD |refine wS ?_ GE264.out |refine wS ?_ GE285.out) | exact HB.out)))); have n6_ := Aside0.mk (blk_below (g := gb264) (o := .cells #[.slice A0_0 l0_0.length c0_0, .slice A0_1 l0_1.length c0_1] 25 (0, 0)) (by (with_reducible repeat (first | refine bN ?_ _|refine bW ?_|refine bA ?_ _)); exact BK264.out) hb); have n7_ := Aside0.mk (blk_below (g := gb285) (o := .cells #[.slice Ao29 t306.length co29, .slice Ao32 t307.length co32] 31 (0, 0)) (by (with_reducible repeat (first | refine bN ?_ _|refine bW ?_|refine bA ?_ _)); exact BK285.out) hb); have n8_ := Aside0.mk (below_step (by repeat (first | (with_reducible first | exact HB.out|apply wA|apply wN|apply wD |refine wS ?_ GE264.out |refine wS ?_ GE285.out) | exact HB.out)) hb); clear HO_8; clear HO_12; clear HO_286000; clear HO_286001; clear BK264; clear BK285; clear HB; have HO_8 := n0_; have HO_12 := n1_; have HO_286000 := n2_; have HO_286001 := n3_; have HO316 := n4_; have HO319 := n5_; have BK264 := n6_; have BK285 := n7_; have HB := n8_; clear n0_ n1_ n2_ n3_ n4_ n5_ n6_ n7_ n8_; (try clear hb); (try clear hb2); (try clear hk); (try clear hi); (try clear ho0); (try clear ho1)) | ((with_reducible refine gate_callee (f := 32) rfl ?_); refine goesL_ (some 101) rfl rfl Try.func32 (by kernel_rfl) rfl #[.slice A2 l2.length c2] rfl (by (try simp only [List.map_toArray, List.map_cons, List.map_nil]); first | done | rfl | (simp only [List.length_drop, List.length_take]; rfl)) ?_; (with_reducible refine (laws_toInt64S_.calls _ _ l2 t320 _ ?side1 ?side2 A85.out).mono ?_); (case side1 => repeat (first | exact (Kd.C_below HR2.out HB.out) | (with_reducible first|refine Kd.C_alloc ?_ _|refine Kd.C_drewN ?_ _|refine Kd.C_drew ?_))); (case side2 => exact HC2.out); rintro e w91 ⟨v321, rfl, ho0, hb⟩; refine ⟨_, rfl, ?_⟩; have n0_ := Aside0.mk (Kd.R_elder' (by (with_reducible repeat (first | apply rA|apply rN|apply rW)); exact HO_8.out) (Kd.R_base ho0) hb); have n1_ := Aside0.mk (Kd.R_elder' (by (with_reducible repeat (first | apply rA|apply rN|apply rW)); exact HO_12.out) (Kd.R_base ho0) hb); have n2_ := Aside0.mk (Kd.R_elder' (by (with_reducible repeat (first | apply rA|apply rN|apply rW)); exact HO_286000.out) (Kd.R_base ho0) hb); have n3_ := Aside0.mk (Kd.R_below (by (with_reducible repeat (first | apply rA|apply rN|apply rW)); exact HO_286001.out) hb); have n4_ := Aside0.mk (Kd.R_elder' (by (with_reducible repeat (first | apply rA|apply rN|apply rW)); exact HO316.out) (Kd.R_base ho0) hb); have n5_ := Aside0.mk (Kd.R_below (by (with_reducible repeat (first | apply rA|apply rN|apply rW)); exact HO319.out) hb); have n6_ := Aside0.mk (Kd.R_lower (Kd.R_new' (Kd.R_new' (Kd.R_new' (Kd.R_new' ho0 (Kd.R_lt (by (with_reducible repeat (first | apply rA|apply rN|apply rW)); exact HO_8.out))) (Kd.R_lt (by (with_reducible repeat (first | apply rA|apply rN|apply rW)); exact HO_12.out))) (Kd.R_lt (by (with_reducible repeat (first | apply rA|apply rN|apply rW)); exact HO_286000.out))) (Kd.R_lt (by (with_reducible repeat (first | apply rA|apply rN|apply rW)); exact HO316.out))) (below_size (by repeat (first | (with_reducible first | exact HB.out|apply wA|apply wN|apply wD |refine wS ?_ GE264.out |refine wS ?_ GE285.out) | exact HB.out)))); have n7_ := Aside0.mk (blk_below (g := gb264) (o := .cells #[.slice A0_0 l0_0.length c0_0, .slice A0_1 l0_1.length c0_1] 25 (0, 0)) (by (with_reducible repeat (first | refine bN ?_ _|refine bW ?_|refine bA ?_ _)); exact BK264.out) hb); have n8_ := Aside0.mk (blk_below (g := gb285) (o := .cells #[.slice Ao29 t306.length co29, .slice Ao32 t307.length co32] 31 (0, 0)) (by (with_reducible repeat (first | refine bN ?_ _|refine bW ?_|refine bA ?_ _)); exact BK285.out) hb); have n9_ := Aside0.mk (below_step (by repeat (first | (with_reducible first | exact HB.out|apply wA|apply wN|apply wD |refine wS ?_ GE264.out |refine wS ?_ GE285.out) | exact HB.out)) hb); clear HO_8; clear HO_12; clear HO_286000; clear HO_286001; clear HO316; clear HO319; clear BK264; clear BK285; clear HB; have HO_8 := n0_; have HO_12 := n1_; have HO_286000 := n2_; have HO_286001 := n3_; have HO316 := n4_; have HO319 := n5_; have HO322 := n6_; have BK264 := n7_; have BK285 := n8_; have HB := n9_; clear n0_ n1_ n2_ n3_ n4_ n5_ n6_ n7_ n8_ n9_; (try clear hb); (try clear hb2); (try clear hk); (try clear hi); (try clear ho0); obtain ⟨Ao92, co92, eo92⟩ := Kd.R_slice HO316.out; subst eo92; obtain ⟨Ao93, co93, eo93⟩ := Kd.R_slice HO319.out; subst eo93; obtain ⟨Ao94, co94, eo94⟩ := Kd.R_slice HO322.out; subst eo94) | ((with_reducible refine gate_callee (f := 33) rfl ?_); refine goesL_ (some 102) rfl rfl Try.func33 (by kernel_rfl) rfl #[.agg #[.slice Ao92 t314.length co92, .slice Ao93 t317.length co93], .int .i64 a1, .slice Ao94 t320.length co94] rfl (by (try simp only [List.map_toArray, List.map_cons, List.map_nil]); first | done | rfl | (simp only [List.length_drop, List.length_take]; rfl)) ?_; (with_reducible refine (impl_ReachedWithout.calls kj81 _ _ t314 _ _ t317 a1 _ _ t320 t323 t326 _ ?side1 ?side2 ?side3 ?side4 ?side5 ?side6 A86.out).mono ?_); (case side1 => repeat (first | exact (Kd.R_reads' HO316.out).2.2 | (with_reducible first|refine Kd.C_alloc ?_ _|refine Kd.C_drewN ?_ _|refine Kd.C_drew ?_))); (case side2 => exact (Kd.R_reads' HO316.out).2.1); (case side3 => repeat (first | exact (Kd.R_reads' HO319.out).2.2 | (with_reducible first|refine Kd.C_alloc ?_ _|refine Kd.C_drewN ?_ _|refine Kd.C_drew ?_))); (case side4 => exact (Kd.R_reads' HO319.out).2.1); (case side5 => repeat (first | exact (Kd.R_reads' HO322.out).2.2 | (with_reducible first|refine Kd.C_alloc ?_ _|refine Kd.C_drewN ?_ _|refine Kd.C_drew ?_))); (case side6 => exact (Kd.R_reads' HO322.out).2.1); rintro e w95 ⟨v324, rfl, ho0, hb⟩; refine ⟨_, rfl, ?_⟩; have n0_ := Aside0.mk (Kd.R_elder' (by (with_reducible repeat (first | apply rA|apply rN|apply rW)); exact HO_8.out) (Kd.R_base ho0) hb); have n1_ := Aside0.mk (Kd.R_elder' (by (with_reducible repeat (first | apply rA|apply rN|apply rW)); exact HO_12.out) (Kd.R_base ho0) hb); have n2_ := Aside0.mk (Kd.R_elder' (by (with_reducible repeat (first | apply rA|apply rN|apply rW)); exact HO_286000.out) (Kd.R_base ho0) hb); have n3_ := Aside0.mk (Kd.R_below (by (with_reducible repeat (first | apply rA|apply rN|apply rW)); exact HO_286001.out) hb); have n4_ := Aside0.mk (Kd.R_elder' (by (with_reducible repeat (first | apply rA|apply rN|apply rW)); exact HO316.out) (Kd.R_base ho0) hb); have n5_ := Aside0.mk (Kd.R_below (by (with_reducible repeat (first | apply rA|apply rN|apply rW)); exact HO319.out) hb); have n6_ := Aside0.mk (Kd.R_elder' (by (with_reducible repeat (first | apply rA|apply rN|apply rW)); exact HO322.out) (Kd.R_base ho0) hb); have n7_ := Aside0.mk (Kd.R_lower (Kd.R_new' (Kd.R_new' (Kd.R_new' (Kd.R_new' (Kd.R_new' ho0 (Kd.R_lt (by (with_reducible repeat (first | apply rA|apply rN|apply rW)); exact HO_8.out))) (Kd.R_lt (by (with_reducible repeat (first | apply rA|apply rN|apply rW)); exact HO_12.out))) (Kd.R_lt (by (with_reducible repeat (first | apply rA|apply rN|apply rW)); exact HO_286000.out))) (Kd.R_lt (by (with_reducible repeat (first | apply rA|apply rN|apply rW)); exact HO316.out))) (Kd.R_lt (by (with_reducible repeat (first | apply rA|apply rN|apply rW)); exact HO322.out))) (below_size (by repeat (first | (with_reducible first | exact HB.out|apply wA|apply wN|apply wD |refine wS ?_ GE264.out |refine wS ?_ GE285.out) | exact HB.out)))); have n8_ := Aside0.mk (blk_below (g := gb264) (o := .cells #[.slice A0_0 l0_0.length c0_0, .slice A0_1 l0_1.length c0_1] 25 (0, 0)) (by (with_reducible repeat (first | refine bN ?_ _|refine bW ?_|refine bA ?_ _)); exact BK264.out) hb); have n9_ := Aside0.mk (blk_below (g := gb285) (o := .cells #[.slice Ao29 t306.length co29, .slice Ao32 t307.length co32] 31 (0, 0)) (by (with_reducible repeat (first | refine bN ?_ _|refine bW ?_|refine bA ?_ _)); exact BK285.out) hb); have n10_ := Aside0.mk (below_step (by repeat (first | (with_reducible first | exact HB.out|apply wA|apply wN|apply wD |refine wS ?_ GE264.out |refine wS ?_ GE285.out) | exact HB.out)) hb); clear HO_8; clear HO_12; clear HO_286000; clear HO_286001; clear HO316; clear HO319; clear HO322; clear BK264; clear BK285; clear HB; have HO_8 := n0_; have HO_12 := n1_; have HO_286000 := n2_; have HO_286001 := n3_; have HO316 := n4_; have HO319 := n5_; have HO322 := n6_; have HO325 := n7_; have BK264 := n8_; have BK285 := n9_; have HB := n10_; clear n0_ n1_ n2_ n3_ n4_ n5_ n6_ n7_ n8_ n9_ n10_; (try clear hb); (try clear hb2); (try clear hk); (try clear hi); (try clear ho0)))
                     (try simp only [Act.put, List.setIfInBounds_toArray, List.set_cons_zero, List.set_cons_succ])
                     go_cut [113] (fun v113 wc => ∃ (kq : Nat) (x113_86 : Bool), v113 = .bool x113_86 ∧ Aside0 (laws_FnExactReachedWithout.j10 kq t312 t311 x113_86 = some r) ∧ Aside0 (kq ≤ kj81) ∧ Aside0 (Kd.R (Kd.int .i64) 2 wc w.heap.size (fun k_ => some k_ ≠ ((.slice Ao29 t306.length co29) : Value).ownBlock) (.slice Ao79 t312.length co79) t312) ∧ Aside0 (Kd.R (Kd.int .i64) 2 wc w.heap.size (fun k_ => some k_ ≠ ((.slice Ao79 t312.length co79) : Value).ownBlock) (.slice Ao29 t306.length co29) t306) ∧ Aside0 (Kd.R k60 60 wc w.heap.size (fun _ => True) (.slice Ao32 t307.length co32) t307) ∧ Aside0 (wc.heap[gb264]? = some (.cells #[(.slice A0_0 l0_0.length c0_0), (.slice A0_1 l0_1.length c0_1)] 25 (0, 0))) ∧ Aside0 (wc.heap[gb285]? = some (.cells #[(.slice Ao29 t306.length co29), (.slice Ao32 t307.length co32)] 31 (0, 0))) ∧ Aside0 (Below w.heap.size w wc))
                     case first =>
                      have H := HC87.out
                      clear HC87
                      replace H := Option.bind_eq_some_iff.mp H
                      obtain ⟨t327, A960, H⟩ := H
                      replace H : (if t327 = true then (laws_FnExactReachedWithout.j10 kj81 t312 t311 (t326 != t278)) else (laws_FnExactReachedWithout.j10 kj81 t312 t311 true)) = some r := H
                      have A96 := Aside0.mk A960
                      clear A960
                      by_cases c97 : t327 = true
                      ·subst c97
                       have H1 : (laws_FnExactReachedWithout.j10 kj81 t312 t311 (t326 != t278)) = some r := by rw [if_pos rfl] at H; exact H
                       clear H
                       have H := H1
                       clear H1
                       have H' := Aside0.mk H
                       clear H
                       obtain ⟨Ao98, co98, eo98⟩ := Kd.R_slice HO325.out
                       subst eo98
                       obtain ⟨Ao99, co99, eo99⟩ := Kd.R_slice HO_8.out
                       subst eo99
                       go_wp2_with (first | ((with_reducible refine gate_callee (f := 18) rfl ?_); refine goesL_ (some 107) rfl rfl Try.func18 (by kernel_rfl) rfl #[.slice Ao98 t323.length co98, .slice Ao99 t275.length co99] rfl (by (try simp only [List.map_toArray, List.map_cons, List.map_nil]); first | done | rfl | (simp only [List.length_drop, List.length_take]; rfl)) ?_; (with_reducible refine (laws_eqInt64S_.calls _ _ t323 _ _ t275 true _ ?side1 ?side2 ?side3 ?side4 A96.out).mono ?_); (case side1 => repeat (first | exact (Kd.R_reads' HO325.out).2.2 | (with_reducible first|refine Kd.C_alloc ?_ _|refine Kd.C_drewN ?_ _|refine Kd.C_drew ?_))); (case side2 => exact (Kd.R_reads' HO325.out).2.1); (case side3 => repeat (first | exact (Kd.R_reads' HO_8.out).2.2 | (with_reducible first|refine Kd.C_alloc ?_ _|refine Kd.C_drewN ?_ _|refine Kd.C_drew ?_))); (case side4 => exact (Kd.R_reads' HO_8.out).2.1); rintro e w' ⟨rfl, ⟨nd, rfl⟩⟩; refine ⟨_, rfl, ?_⟩))
                       go_meet
                       case rel => exact ⟨_, ((t326 != t278)), (by first | rfl | (simp; done) | (simp [*]; done)), H', ⟨by have := HJ3.out; have := HJ7.out; have := HJ17.out; have := HJ42.out; have := HJ46.out; have := HJ55.out; have := HJ61.out; have := HJ73.out; have := HJ77.out; have := HJ81.out; first | omega | exact Nat.le_refl _⟩, ⟨by (try simp only [hl286000_61]); (try simp only [hl286001_61]); (try simp only [hl12_77]); (with_reducible repeat (first | apply rA|apply rN|apply rW)); exact Kd.R_mono HO_12.out (fun _ hk => hk.1.1.1.2)⟩, ⟨by (try simp only [hl286000_61]); (try simp only [hl286001_61]); (try simp only [hl12_77]); (with_reducible repeat (first | apply rA|apply rN|apply rW)); exact Kd.R_mono HO_286000.out (fun _ hk => hk.1.1.1.2)⟩, ⟨by (try simp only [hl286000_61]); (try simp only [hl286001_61]); (try simp only [hl12_77]); (with_reducible repeat (first | apply rA|apply rN|apply rW)); exact Kd.R_mono HO_286001.out (fun _ hk => trivial)⟩, ⟨by (try simp only [hl286000_61]); (try simp only [hl286001_61]); (try simp only [hl12_77]); (with_reducible repeat (first | refine bN ?_ _|refine bW ?_|refine bA ?_ _)); exact BK264.out⟩, ⟨by (try simp only [hl286000_61]); (try simp only [hl286001_61]); (try simp only [hl12_77]); (with_reducible repeat (first | refine bN ?_ _|refine bW ?_|refine bA ?_ _)); exact BK285.out⟩, ⟨by repeat (first | (with_reducible first | exact HB.out|apply wA|apply wN|apply wD |refine wS ?_ GE264.out |refine wS ?_ GE285.out) | exact HB.out)⟩⟩
                      ·replace c97 := Bool.eq_false_iff.mpr c97
                       subst c97
                       have H1 : (laws_FnExactReachedWithout.j10 kj81 t312 t311 true) = some r := by rw [if_neg (show ¬ (false = true) by decide)] at H; exact H
                       clear H
                       have H := H1
                       clear H1
                       have H' := Aside0.mk H
                       clear H
                       obtain ⟨Ao100, co100, eo100⟩ := Kd.R_slice HO325.out
                       subst eo100
                       obtain ⟨Ao101, co101, eo101⟩ := Kd.R_slice HO_8.out
                       subst eo101
                       go_wp2_with (first | ((with_reducible refine gate_callee (f := 18) rfl ?_); refine goesL_ (some 107) rfl rfl Try.func18 (by kernel_rfl) rfl #[.slice Ao100 t323.length co100, .slice Ao101 t275.length co101] rfl (by (try simp only [List.map_toArray, List.map_cons, List.map_nil]); first | done | rfl | (simp only [List.length_drop, List.length_take]; rfl)) ?_; (with_reducible refine (laws_eqInt64S_.calls _ _ t323 _ _ t275 false _ ?side1 ?side2 ?side3 ?side4 A96.out).mono ?_); (case side1 => repeat (first | exact (Kd.R_reads' HO325.out).2.2 | (with_reducible first|refine Kd.C_alloc ?_ _|refine Kd.C_drewN ?_ _|refine Kd.C_drew ?_))); (case side2 => exact (Kd.R_reads' HO325.out).2.1); (case side3 => repeat (first | exact (Kd.R_reads' HO_8.out).2.2 | (with_reducible first|refine Kd.C_alloc ?_ _|refine Kd.C_drewN ?_ _|refine Kd.C_drew ?_))); (case side4 => exact (Kd.R_reads' HO_8.out).2.1); rintro e w' ⟨rfl, ⟨nd, rfl⟩⟩; refine ⟨_, rfl, ?_⟩))
                       go_meet
                       case rel => exact ⟨_, (true), (by first | rfl | (simp; done) | (simp [*]; done)), H', ⟨by have := HJ3.out; have := HJ7.out; have := HJ17.out; have := HJ42.out; have := HJ46.out; have := HJ55.out; have := HJ61.out; have := HJ73.out; have := HJ77.out; have := HJ81.out; first | omega | exact Nat.le_refl _⟩, ⟨by (try simp only [hl286000_61]); (try simp only [hl286001_61]); (try simp only [hl12_77]); (with_reducible repeat (first | apply rA|apply rN|apply rW)); exact Kd.R_mono HO_12.out (fun _ hk => hk.1.1.1.2)⟩, ⟨by (try simp only [hl286000_61]); (try simp only [hl286001_61]); (try simp only [hl12_77]); (with_reducible repeat (first | apply rA|apply rN|apply rW)); exact Kd.R_mono HO_286000.out (fun _ hk => hk.1.1.1.2)⟩, ⟨by (try simp only [hl286000_61]); (try simp only [hl286001_61]); (try simp only [hl12_77]); (with_reducible repeat (first | apply rA|apply rN|apply rW)); exact Kd.R_mono HO_286001.out (fun _ hk => trivial)⟩, ⟨by (try simp only [hl286000_61]); (try simp only [hl286001_61]); (try simp only [hl12_77]); (with_reducible repeat (first | refine bN ?_ _|refine bW ?_|refine bA ?_ _)); exact BK264.out⟩, ⟨by (try simp only [hl286000_61]); (try simp only [hl286001_61]); (try simp only [hl12_77]); (with_reducible repeat (first | refine bN ?_ _|refine bW ?_|refine bA ?_ _)); exact BK285.out⟩, ⟨by repeat (first | (with_reducible first | exact HB.out|apply wA|apply wN|apply wD |refine wS ?_ GE264.out |refine wS ?_ GE285.out) | exact HB.out)⟩⟩
                     case rest =>
                      clear HC87
                      try clear c1
                      try clear c2
                      try clear p2
                      try clear c3
                      try clear c4
                      try clear c5
                      try clear c6
                      try clear c6b0
                      try clear c6b1
                      try clear c6b2
                      try clear c7
                      try clear c8
                      try clear c9
                      try clear c11
                      try clear c11b0
                      try clear c11b2
                      try clear c14
                      try clear c16
                      try clear c18
                      try clear c19
                      try clear c20
                      try clear c21
                      try clear c22
                      try clear c30
                      try clear c31
                      try clear c32
                      try clear c33
                      try clear c38
                      try clear c44
                      try clear c53
                      try clear c59
                      try clear c63
                      try clear c67
                      try clear c67b0
                      try clear c67b2
                      try clear c69
                      try clear c75
                      try clear c81
                      try clear c81b0
                      try clear c81b2
                      try clear c83
                      try clear c83b0
                      try clear c83b1
                      try clear c83b2
                      try clear c88
                      try clear c97
                      try clear hcz19_0
                      try clear hcz19_1
                      try clear hcz26_0
                      try clear hcz26_1
                      try clear hcz31_0
                      try clear hcz31_1
                      try clear hcz34_0
                      try clear hcz34_1
                      try clear hcz64_0
                      try clear hcz64_1
                      try clear hcz89_0
                      try clear hcz89_1
                      try clear hcz9_0
                      try clear hcz9_1
                      try clear hfz19_0
                      try clear hfz19_1
                      try clear hfz26_0
                      try clear hfz26_1
                      try clear hfz31_0
                      try clear hfz31_1
                      try clear hfz34_0
                      try clear hfz34_1
                      try clear hfz64_0
                      try clear hfz64_1
                      try clear hfz89_0
                      try clear hfz89_1
                      try clear hfz9_0
                      try clear hfz9_1
                      try clear p2
                      obtain ⟨kq, x113_86, rfl, HA, HJ86, HO_12, HO_286000, HO_286001, BK264, BK285, HB⟩ := hcut
                      cases kq with
                      | zero => exact absurd HA.out (by simp [laws_FnExactReachedWithout.j10])
                      | succ kj86 =>
                       have H := HA.out
                       clear HA
                       simp only [laws_FnExactReachedWithout.j10] at H
                       have HC102 := Aside0.mk H
                       clear H
                       go_upto_if 113 with (fail)
                       go_cut [] (fun wc => ∃ (kq : Nat), Aside0 (laws_FnExactReachedWithout.j11 kq t312 t311 = some r) ∧ Aside0 (kq ≤ kj86) ∧ Aside0 (Kd.R (Kd.int .i64) 2 wc w.heap.size (fun k_ => some k_ ≠ ((.slice Ao29 t306.length co29) : Value).ownBlock) (.slice Ao79 t312.length co79) t312) ∧ Aside0 (Kd.R (Kd.int .i64) 2 wc w.heap.size (fun k_ => some k_ ≠ ((.slice Ao79 t312.length co79) : Value).ownBlock) (.slice Ao29 t306.length co29) t306) ∧ Aside0 (Kd.R k60 60 wc w.heap.size (fun _ => True) (.slice Ao32 t307.length co32) t307) ∧ Aside0 (wc.heap[gb264]? = some (.cells #[(.slice A0_0 l0_0.length c0_0), (.slice A0_1 l0_1.length c0_1)] 25 (0, 0))) ∧ Aside0 (wc.heap[gb285]? = some (.cells #[(.slice Ao29 t306.length co29), (.slice Ao32 t307.length co32)] 31 (0, 0))) ∧ Aside0 (Below w.heap.size w wc))
                       case first =>
                        have H := HC102.out
                        clear HC102
                        by_cases c103 : x113_86 = true
                        ·subst c103
                         have H1 : (some false) = some r := by rw [if_pos rfl] at H; exact H
                         clear H
                         have H := H1
                         clear H1
                         obtain rfl := Option.some.inj H
                         go_wp2
                         go_ret
                         exact ⟨by first | rfl | (simp [errW_none, errW_some] <;> rfl) | (simp [*, errW_none, errW_some] <;> rfl), by repeat (first | (with_reducible first | exact HB.out|apply wA|apply wN|apply wD |refine wS ?_ GE264.out |refine wS ?_ GE285.out) | exact HB.out)⟩
                        ·replace c103 := Bool.eq_false_iff.mpr c103
                         subst c103
                         have H1 : (laws_FnExactReachedWithout.j11 kj86 t312 t311) = some r := by rw [if_neg (show ¬ (false = true) by decide)] at H; exact H
                         clear H
                         have H := H1
                         clear H1
                         have H' := Aside0.mk H
                         clear H
                         go_wp2
                         go_meet
                         case rel => exact ⟨_, H', ⟨by have := HJ3.out; have := HJ7.out; have := HJ17.out; have := HJ42.out; have := HJ46.out; have := HJ55.out; have := HJ61.out; have := HJ73.out; have := HJ77.out; have := HJ81.out; have := HJ86.out; first | omega | exact Nat.le_refl _⟩, ⟨by (try simp only [hl286000_61]); (try simp only [hl286001_61]); (try simp only [hl12_77]); (with_reducible repeat (first | apply rA|apply rN|apply rW)); exact HO_12.out⟩, ⟨by (try simp only [hl286000_61]); (try simp only [hl286001_61]); (try simp only [hl12_77]); (with_reducible repeat (first | apply rA|apply rN|apply rW)); exact HO_286000.out⟩, ⟨by (try simp only [hl286000_61]); (try simp only [hl286001_61]); (try simp only [hl12_77]); (with_reducible repeat (first | apply rA|apply rN|apply rW)); exact HO_286001.out⟩, ⟨by (try simp only [hl286000_61]); (try simp only [hl286001_61]); (try simp only [hl12_77]); (with_reducible repeat (first | refine bN ?_ _|refine bW ?_|refine bA ?_ _)); exact BK264.out⟩, ⟨by (try simp only [hl286000_61]); (try simp only [hl286001_61]); (try simp only [hl12_77]); (with_reducible repeat (first | refine bN ?_ _|refine bW ?_|refine bA ?_ _)); exact BK285.out⟩, ⟨by repeat (first | (with_reducible first | exact HB.out|apply wA|apply wN|apply wD |refine wS ?_ GE264.out |refine wS ?_ GE285.out) | exact HB.out)⟩⟩
                       case rest =>
                        clear HC102
                        try clear c1
                        try clear c2
                        try clear p2
                        try clear c3
                        try clear c4
                        try clear c5
                        try clear c6
                        try clear c6b0
                        try clear c6b1
                        try clear c6b2
                        try clear c7
                        try clear c8
                        try clear c9
                        try clear c10
                        try clear c11
                        try clear c11b0
                        try clear c11b2
                        try clear c14
                        try clear c16
                        try clear c18
                        try clear c19
                        try clear c20
                        try clear c21
                        try clear c22
                        try clear c30
                        try clear c31
                        try clear c32
                        try clear c33
                        try clear c38
                        try clear c44
                        try clear c53
                        try clear c59
                        try clear c63
                        try clear c67
                        try clear c67b0
                        try clear c67b2
                        try clear c69
                        try clear c75
                        try clear c81
                        try clear c81b0
                        try clear c81b2
                        try clear c83
                        try clear c83b0
                        try clear c83b1
                        try clear c83b2
                        try clear c88
                        try clear c97
                        try clear c103
                        try clear hcz19_0
                        try clear hcz19_1
                        try clear hcz26_0
                        try clear hcz26_1
                        try clear hcz31_0
                        try clear hcz31_1
                        try clear hcz34_0
                        try clear hcz34_1
                        try clear hcz64_0
                        try clear hcz64_1
                        try clear hcz89_0
                        try clear hcz89_1
                        try clear hcz9_0
                        try clear hcz9_1
                        try clear hfz19_0
                        try clear hfz19_1
                        try clear hfz26_0
                        try clear hfz26_1
                        try clear hfz31_0
                        try clear hfz31_1
                        try clear hfz34_0
                        try clear hfz34_1
                        try clear hfz64_0
                        try clear hfz64_1
                        try clear hfz89_0
                        try clear hfz89_1
                        try clear hfz9_0
                        try clear hfz9_1
                        try clear p2
                        obtain ⟨kq, HA, HJ101, HO_12, HO_286000, HO_286001, BK264, BK285, HB⟩ := hcut
                        cases kq with
                        | zero => exact absurd HA.out (by simp [laws_FnExactReachedWithout.j11])
                        | succ kj101 =>
                         have H := HA.out
                         clear HA
                         simp only [laws_FnExactReachedWithout.j11] at H
                         replace H := Option.bind_eq_some_iff.mp H
                         obtain ⟨t328, A1040, H⟩ := H
                         replace H : (if t328 < 0 then (some false) else (if t328 = t311 then (some true) else (some false))) = some r := H
                         have A104 := Aside0.mk A1040
                         clear A1040
                         by_cases c105 : t328 < 0
                         ·rw [if_pos c105] at H
                          have c105b0 : decide (t328 < 0) = true := decide_eq_true c105
                          clear c105
                          obtain rfl := Option.some.inj H
                          go_wp2_with (first | ((with_reducible refine gate_callee (f := 22) rfl ?_); refine goesL_ (some 116) rfl rfl Try.func22 (by kernel_rfl) rfl #[.slice Ao79 t312.length co79, .int .i64 1] rfl (by (try simp only [List.map_toArray, List.map_cons, List.map_nil]); first | done | rfl | (simp only [List.length_drop, List.length_take]; rfl)) ?_; (with_reducible refine (laws_heldInt64S_.calls _ _ t312 1 t328 _ ?side1 ?side2 A104.out).mono ?_); (case side1 => repeat (first | exact (Kd.R_reads' HO_12.out).2.2 | (with_reducible first|refine Kd.C_alloc ?_ _|refine Kd.C_drewN ?_ _|refine Kd.C_drew ?_))); (case side2 => exact (Kd.R_reads' HO_12.out).2.1); rintro e w' ⟨rfl, ⟨nd, rfl⟩⟩; refine ⟨_, rfl, ?_⟩))
                          go_ret
                          exact ⟨by first | rfl | (simp [errW_none, errW_some] <;> rfl) | (simp [*, errW_none, errW_some] <;> rfl), by repeat (first | (with_reducible first | exact HB.out|apply wA|apply wN|apply wD |refine wS ?_ GE264.out |refine wS ?_ GE285.out) | exact HB.out)⟩
                         ·rw [if_neg c105] at H
                          have c105b0 : decide (t328 < 0) = false := decide_eq_false c105
                          clear c105
                          by_cases c106 : t328 = t311
                          ·rw [if_pos c106] at H
                           have c106b0 : (t328 == t311) = true := beq_iff_eq.mpr c106
                           have c106b1 : (t328 != t311) = false := bne_eq_false_iff_eq.mpr c106
                           clear c106
                           obtain rfl := Option.some.inj H
                           go_wp2_with (first | ((with_reducible refine gate_callee (f := 22) rfl ?_); refine goesL_ (some 116) rfl rfl Try.func22 (by kernel_rfl) rfl #[.slice Ao79 t312.length co79, .int .i64 1] rfl (by (try simp only [List.map_toArray, List.map_cons, List.map_nil]); first | done | rfl | (simp only [List.length_drop, List.length_take]; rfl)) ?_; (with_reducible refine (laws_heldInt64S_.calls _ _ t312 1 t328 _ ?side1 ?side2 A104.out).mono ?_); (case side1 => repeat (first | exact (Kd.R_reads' HO_12.out).2.2 | (with_reducible first|refine Kd.C_alloc ?_ _|refine Kd.C_drewN ?_ _|refine Kd.C_drew ?_))); (case side2 => exact (Kd.R_reads' HO_12.out).2.1); rintro e w' ⟨rfl, ⟨nd, rfl⟩⟩; refine ⟨_, rfl, ?_⟩))
                           go_ret
                           exact ⟨by first | rfl | (simp [errW_none, errW_some] <;> rfl) | (simp [*, errW_none, errW_some] <;> rfl), by repeat (first | (with_reducible first | exact HB.out|apply wA|apply wN|apply wD |refine wS ?_ GE264.out |refine wS ?_ GE285.out) | exact HB.out)⟩
                          ·rw [if_neg c106] at H
                           have c106b0 : (t328 == t311) = false := beq_eq_false_iff_ne.mpr c106
                           have c106b1 : (t328 != t311) = true := bne_iff_ne.mpr c106
                           obtain rfl := Option.some.inj H
                           go_wp2_with (first | ((with_reducible refine gate_callee (f := 22) rfl ?_); refine goesL_ (some 116) rfl rfl Try.func22 (by kernel_rfl) rfl #[.slice Ao79 t312.length co79, .int .i64 1] rfl (by (try simp only [List.map_toArray, List.map_cons, List.map_nil]); first | done | rfl | (simp only [List.length_drop, List.length_take]; rfl)) ?_; (with_reducible refine (laws_heldInt64S_.calls _ _ t312 1 t328 _ ?side1 ?side2 A104.out).mono ?_); (case side1 => repeat (first | exact (Kd.R_reads' HO_12.out).2.2 | (with_reducible first|refine Kd.C_alloc ?_ _|refine Kd.C_drewN ?_ _|refine Kd.C_drew ?_))); (case side2 => exact (Kd.R_reads' HO_12.out).2.1); rintro e w' ⟨rfl, ⟨nd, rfl⟩⟩; refine ⟨_, rfl, ?_⟩))
                           go_ret
                           exact ⟨by first | rfl | (simp [errW_none, errW_some] <;> rfl) | (simp [*, errW_none, errW_some] <;> rfl), by repeat (first | (with_reducible first | exact HB.out|apply wA|apply wN|apply wD |refine wS ?_ GE264.out |refine wS ?_ GE285.out) | exact HB.out)⟩

end Go.Proofs.Ytcgbagdpedpdpaa.PFnExactReachedWithout
