-- Printed by a program of this session (wip/hprint.sh: the kit's print with hand-proved contracts put in); not by print.sh itself.
import Derived.Test.YtcgbagdpedpdpaaPFnExactNetworkTreex0
import Derived.Test.YtcgbagdpedpdpaaPFnExactNetworkTreex1
import Derived.Test.YtcgbagdpedpdpaaPFnExactNetworkTreex2
import Derived.Test.YtcgbagdpedpdpaaPFnExactNetworkTreex3
import Derived.Test.YtcgbagdpedpdpaaPFnExactNetworkTreex5
import Derived.Test.YtcgbagdpedpdpaaPFnExactNetworkTreex10
namespace Go.Proofs.Ytcgbagdpedpdpaa.PFnExactNetworkTree
open Go.RowKit Go.Proofs.YtcgbagdpedpdpaaW.PrintWords Go.Proofs.YtcgbagdpedpdpaaW.PrintLast Go.Proofs.YtcgbagdpedpdpaaW.PrintMore Go.Proofs.YtcgbagdpedpdpaaM
attribute [local go_sem] max2_int min2_int max_two min_two max_three min_three max_four min_four   -- for this text's walks alone
set_option linter.unusedVariables false
set_option linter.unusedSimpArgs false

/-! ### laws_FnExactNetworkTree: function 5 -/
mutual
def laws_FnExactNetworkTree.j0 : Nat → List Int → List (S85) → Option (Bool)
 | 0, _, _ => none
 | k + 1, x264000, x264001 => (laws_toNetwork.f x264000 x264001).bind fun bt265 => ((spec_NetworkTree.f k bt265.1 bt265.2).bind fun bt271 => ((laws_toNetwork.f x264000 x264001).bind fun bt275 => ((impl_NetworkTree.f k bt275.1 bt275.2).bind fun bt282 => ((laws_eqInt64S_.f bt282.1 bt271.1).bind fun t286 => (if t286 = true then (laws_FnExactNetworkTree.j1 k bt271.1 bt271.2 bt282.1 bt282.2 (bt282.2 != bt271.2) x264000 x264001 bt275.1 bt275.2) else (laws_FnExactNetworkTree.j1 k bt271.1 bt271.2 bt282.1 bt282.2 true x264000 x264001 bt275.1 bt275.2))))))
def laws_FnExactNetworkTree.j1 : Nat → List Int → Int → List Int → Int → Bool → List Int → List (S85) → List Int → List (S60) → Option (Bool)
 | 0, _, _, _, _, _, _, _, _, _ => none
 | k + 1, x4, x5, x7, x8, x40, x264000, x264001, x282000, x282001 => if x40 = true then (some false) else (laws_FnExactNetworkTree.j2 k x4 x5 x7 x8 x264000 x264001 x282000 x282001)
def laws_FnExactNetworkTree.j2 : Nat → List Int → Int → List Int → Int → List Int → List (S85) → List Int → List (S60) → Option (Bool)
 | 0, _, _, _, _, _, _, _, _ => none
 | k + 1, x4, x5, x7, x8, x264000, x264001, x282000, x282001 => (laws_toNetwork.f x264000 x264001).bind fun bt287 => ((laws_eqNetwork.f x282000 x282001 bt287.1 bt287.2).bind fun t293 => (if t293 = true then (laws_FnExactNetworkTree.j3 k x4 x5 x7 x8 x264000 x264001 x282000 x282001) else (some false)))
def laws_FnExactNetworkTree.j3 : Nat → List Int → Int → List Int → Int → List Int → List (S85) → List Int → List (S60) → Option (Bool)
 | 0, _, _, _, _, _, _, _, _ => none
 | k + 1, x4, x5, x7, x8, x264000, x264001, x282000, x282001 => (laws_markNetwork.f x282000 x282001 1).bind fun bt294 => (if bt294.1 < 0 then (laws_FnExactNetworkTree.j4 k x4 x5 x7 true x264000 x264001) else ((laws_eqInt64S_.f x7 x4).bind fun t297 => (if t297 = true then (laws_FnExactNetworkTree.j4 k x4 x5 x7 (x8 != x5) x264000 x264001) else (laws_FnExactNetworkTree.j4 k x4 x5 x7 true x264000 x264001))))
def laws_FnExactNetworkTree.j4 : Nat → List Int → Int → List Int → Bool → List Int → List (S85) → Option (Bool)
 | 0, _, _, _, _, _, _ => none
 | k + 1, x4, x5, x7, x61, x264000, x264001 => if x61 = true then (some false) else (laws_FnExactNetworkTree.j5 k x4 x5 x7 x264000 x264001)
def laws_FnExactNetworkTree.j5 : Nat → List Int → Int → List Int → List Int → List (S85) → Option (Bool)
 | 0, _, _, _, _, _ => none
 | k + 1, x4, x5, x7, x264000, x264001 => (laws_markInt64S_.f x7 1).bind fun bt298 => ((laws_heldInt64S_.f bt298.2 1).bind fun t300 => (if t300 < 0 then (some false) else (laws_FnExactNetworkTree.j6 k x4 x5 bt298.2 bt298.1 t300 x264000 x264001)))
def laws_FnExactNetworkTree.j6 : Nat → List Int → Int → List Int → Int → Int → List Int → List (S85) → Option (Bool)
 | 0, _, _, _, _, _, _, _ => none
 | k + 1, x4, x5, x7, x10, x11, x264000, x264001 => if x11 = x10 then (laws_FnExactNetworkTree.j7 k x4 x5 x7 x10 x264000 x264001) else (some false)
def laws_FnExactNetworkTree.j7 : Nat → List Int → Int → List Int → Int → List Int → List (S85) → Option (Bool)
 | 0, _, _, _, _, _, _ => none
 | k + 1, x4, x5, x7, x10, x264000, x264001 => (laws_toNetwork.f x264000 x264001).bind fun bt301 => ((impl_NetworkTree.f k bt301.1 bt301.2).bind fun bt307 => ((laws_eqInt64S_.f bt307.1 x4).bind fun t311 => (if t311 = true then (laws_FnExactNetworkTree.j8 k x7 x10 (bt307.2 != x5)) else (laws_FnExactNetworkTree.j8 k x7 x10 true))))
def laws_FnExactNetworkTree.j8 : Nat → List Int → Int → Bool → Option (Bool)
 | 0, _, _, _ => none
 | k + 1, x7, x10, x87 => if x87 = true then (some false) else (laws_FnExactNetworkTree.j9 k x7 x10)
def laws_FnExactNetworkTree.j9 : Nat → List Int → Int → Option (Bool)
 | 0, _, _ => none
 | k + 1, x7, x10 => (laws_heldInt64S_.f x7 1).bind fun t312 => (if t312 < 0 then (some false) else (if t312 = x10 then (some true) else (some false)))
end
def laws_FnExactNetworkTree.f (k : Nat) (l0_0 : List Int) (l0_1 : List (S85)) : Option (Bool) := (laws_szNetwork.f l0_0 l0_1 1048576).bind fun t264 => (if t264 < 0 then (some true) else (laws_FnExactNetworkTree.j0 k l0_0 l0_1))
theorem laws_FnExactNetworkTree.mono_l : ∀ k, (∀ y0 y1, LeO (laws_FnExactNetworkTree.j0 k y0 y1) (laws_FnExactNetworkTree.j0 (k + 1) y0 y1)) ∧ (∀ y0 y1 y2 y3 y4 y5 y6 y7 y8, LeO (laws_FnExactNetworkTree.j1 k y0 y1 y2 y3 y4 y5 y6 y7 y8) (laws_FnExactNetworkTree.j1 (k + 1) y0 y1 y2 y3 y4 y5 y6 y7 y8)) ∧ (∀ y0 y1 y2 y3 y4 y5 y6 y7, LeO (laws_FnExactNetworkTree.j2 k y0 y1 y2 y3 y4 y5 y6 y7) (laws_FnExactNetworkTree.j2 (k + 1) y0 y1 y2 y3 y4 y5 y6 y7)) ∧ (∀ y0 y1 y2 y3 y4 y5 y6 y7, LeO (laws_FnExactNetworkTree.j3 k y0 y1 y2 y3 y4 y5 y6 y7) (laws_FnExactNetworkTree.j3 (k + 1) y0 y1 y2 y3 y4 y5 y6 y7)) ∧ (∀ y0 y1 y2 y3 y4 y5, LeO (laws_FnExactNetworkTree.j4 k y0 y1 y2 y3 y4 y5) (laws_FnExactNetworkTree.j4 (k + 1) y0 y1 y2 y3 y4 y5)) ∧ (∀ y0 y1 y2 y3 y4, LeO (laws_FnExactNetworkTree.j5 k y0 y1 y2 y3 y4) (laws_FnExactNetworkTree.j5 (k + 1) y0 y1 y2 y3 y4)) ∧ (∀ y0 y1 y2 y3 y4 y5 y6, LeO (laws_FnExactNetworkTree.j6 k y0 y1 y2 y3 y4 y5 y6) (laws_FnExactNetworkTree.j6 (k + 1) y0 y1 y2 y3 y4 y5 y6)) ∧ (∀ y0 y1 y2 y3 y4 y5, LeO (laws_FnExactNetworkTree.j7 k y0 y1 y2 y3 y4 y5) (laws_FnExactNetworkTree.j7 (k + 1) y0 y1 y2 y3 y4 y5)) ∧ (∀ y0 y1 y2, LeO (laws_FnExactNetworkTree.j8 k y0 y1 y2) (laws_FnExactNetworkTree.j8 (k + 1) y0 y1 y2)) ∧ (∀ y0 y1, LeO (laws_FnExactNetworkTree.j9 k y0 y1) (laws_FnExactNetworkTree.j9 (k + 1) y0 y1))
 | 0 => ⟨fun _ _ r h => by simp [laws_FnExactNetworkTree.j0] at h, fun _ _ _ _ _ _ _ _ _ r h => by simp [laws_FnExactNetworkTree.j1] at h, fun _ _ _ _ _ _ _ _ r h => by simp [laws_FnExactNetworkTree.j2] at h, fun _ _ _ _ _ _ _ _ r h => by simp [laws_FnExactNetworkTree.j3] at h, fun _ _ _ _ _ _ r h => by simp [laws_FnExactNetworkTree.j4] at h, fun _ _ _ _ _ r h => by simp [laws_FnExactNetworkTree.j5] at h, fun _ _ _ _ _ _ _ r h => by simp [laws_FnExactNetworkTree.j6] at h, fun _ _ _ _ _ _ r h => by simp [laws_FnExactNetworkTree.j7] at h, fun _ _ _ r h => by simp [laws_FnExactNetworkTree.j8] at h, fun _ _ r h => by simp [laws_FnExactNetworkTree.j9] at h⟩
 | k + 1 => by
  obtain ⟨ih0, ih1, ih2, ih3, ih4, ih5, ih6, ih7, ih8, ih9⟩ := laws_FnExactNetworkTree.mono_l k
  refine ⟨?_, ?_, ?_, ?_, ?_, ?_, ?_, ?_, ?_, ?_⟩
  ·intro y0 y1
   unfold laws_FnExactNetworkTree.j0
   repeat' first
   | (with_reducible exact ih0 _ _)
   | (with_reducible exact ih1 _ _ _ _ _ _ _ _ _)
   | (with_reducible exact ih2 _ _ _ _ _ _ _ _)
   | (with_reducible exact ih3 _ _ _ _ _ _ _ _)
   | (with_reducible exact ih4 _ _ _ _ _ _)
   | (with_reducible exact ih5 _ _ _ _ _)
   | (with_reducible exact ih6 _ _ _ _ _ _ _)
   | (with_reducible exact ih7 _ _ _ _ _ _)
   | (with_reducible exact ih8 _ _ _)
   | (with_reducible exact ih9 _ _)
   | (with_reducible exact impl_NetworkTree.mono _ _ _)
   | (with_reducible exact spec_NetworkTree.mono _ _ _)
   | (with_reducible exact LeO.refl _)
   | (with_reducible exact LeO.none _)
   | (with_reducible refine LeO.ite ?_ ?_)
   | (with_reducible refine LeO.bind ?_ (fun _ => ?_))
   | exact ih0 _ _
   | exact ih1 _ _ _ _ _ _ _ _ _
   | exact ih2 _ _ _ _ _ _ _ _
   | exact ih3 _ _ _ _ _ _ _ _
   | exact ih4 _ _ _ _ _ _
   | exact ih5 _ _ _ _ _
   | exact ih6 _ _ _ _ _ _ _
   | exact ih7 _ _ _ _ _ _
   | exact ih8 _ _ _
   | exact ih9 _ _
   | exact impl_NetworkTree.mono _ _ _
   | exact spec_NetworkTree.mono _ _ _
   | exact LeO.none _
   | refine LeO.ite ?_ ?_
   | refine LeO.bind ?_ (fun _ => ?_)
  ·intro y0 y1 y2 y3 y4 y5 y6 y7 y8
   unfold laws_FnExactNetworkTree.j1
   repeat' first
   | (with_reducible exact ih0 _ _)
   | (with_reducible exact ih1 _ _ _ _ _ _ _ _ _)
   | (with_reducible exact ih2 _ _ _ _ _ _ _ _)
   | (with_reducible exact ih3 _ _ _ _ _ _ _ _)
   | (with_reducible exact ih4 _ _ _ _ _ _)
   | (with_reducible exact ih5 _ _ _ _ _)
   | (with_reducible exact ih6 _ _ _ _ _ _ _)
   | (with_reducible exact ih7 _ _ _ _ _ _)
   | (with_reducible exact ih8 _ _ _)
   | (with_reducible exact ih9 _ _)
   | (with_reducible exact impl_NetworkTree.mono _ _ _)
   | (with_reducible exact spec_NetworkTree.mono _ _ _)
   | (with_reducible exact LeO.refl _)
   | (with_reducible exact LeO.none _)
   | (with_reducible refine LeO.ite ?_ ?_)
   | (with_reducible refine LeO.bind ?_ (fun _ => ?_))
   | exact ih0 _ _
   | exact ih1 _ _ _ _ _ _ _ _ _
   | exact ih2 _ _ _ _ _ _ _ _
   | exact ih3 _ _ _ _ _ _ _ _
   | exact ih4 _ _ _ _ _ _
   | exact ih5 _ _ _ _ _
   | exact ih6 _ _ _ _ _ _ _
   | exact ih7 _ _ _ _ _ _
   | exact ih8 _ _ _
   | exact ih9 _ _
   | exact impl_NetworkTree.mono _ _ _
   | exact spec_NetworkTree.mono _ _ _
   | exact LeO.none _
   | refine LeO.ite ?_ ?_
   | refine LeO.bind ?_ (fun _ => ?_)
  ·intro y0 y1 y2 y3 y4 y5 y6 y7
   unfold laws_FnExactNetworkTree.j2
   repeat' first
   | (with_reducible exact ih0 _ _)
   | (with_reducible exact ih1 _ _ _ _ _ _ _ _ _)
   | (with_reducible exact ih2 _ _ _ _ _ _ _ _)
   | (with_reducible exact ih3 _ _ _ _ _ _ _ _)
   | (with_reducible exact ih4 _ _ _ _ _ _)
   | (with_reducible exact ih5 _ _ _ _ _)
   | (with_reducible exact ih6 _ _ _ _ _ _ _)
   | (with_reducible exact ih7 _ _ _ _ _ _)
   | (with_reducible exact ih8 _ _ _)
   | (with_reducible exact ih9 _ _)
   | (with_reducible exact impl_NetworkTree.mono _ _ _)
   | (with_reducible exact spec_NetworkTree.mono _ _ _)
   | (with_reducible exact LeO.refl _)
   | (with_reducible exact LeO.none _)
   | (with_reducible refine LeO.ite ?_ ?_)
   | (with_reducible refine LeO.bind ?_ (fun _ => ?_))
   | exact ih0 _ _
   | exact ih1 _ _ _ _ _ _ _ _ _
   | exact ih2 _ _ _ _ _ _ _ _
   | exact ih3 _ _ _ _ _ _ _ _
   | exact ih4 _ _ _ _ _ _
   | exact ih5 _ _ _ _ _
   | exact ih6 _ _ _ _ _ _ _
   | exact ih7 _ _ _ _ _ _
   | exact ih8 _ _ _
   | exact ih9 _ _
   | exact impl_NetworkTree.mono _ _ _
   | exact spec_NetworkTree.mono _ _ _
   | exact LeO.none _
   | refine LeO.ite ?_ ?_
   | refine LeO.bind ?_ (fun _ => ?_)
  ·intro y0 y1 y2 y3 y4 y5 y6 y7
   unfold laws_FnExactNetworkTree.j3
   repeat' first
   | (with_reducible exact ih0 _ _)
   | (with_reducible exact ih1 _ _ _ _ _ _ _ _ _)
   | (with_reducible exact ih2 _ _ _ _ _ _ _ _)
   | (with_reducible exact ih3 _ _ _ _ _ _ _ _)
   | (with_reducible exact ih4 _ _ _ _ _ _)
   | (with_reducible exact ih5 _ _ _ _ _)
   | (with_reducible exact ih6 _ _ _ _ _ _ _)
   | (with_reducible exact ih7 _ _ _ _ _ _)
   | (with_reducible exact ih8 _ _ _)
   | (with_reducible exact ih9 _ _)
   | (with_reducible exact impl_NetworkTree.mono _ _ _)
   | (with_reducible exact spec_NetworkTree.mono _ _ _)
   | (with_reducible exact LeO.refl _)
   | (with_reducible exact LeO.none _)
   | (with_reducible refine LeO.ite ?_ ?_)
   | (with_reducible refine LeO.bind ?_ (fun _ => ?_))
   | exact ih0 _ _
   | exact ih1 _ _ _ _ _ _ _ _ _
   | exact ih2 _ _ _ _ _ _ _ _
   | exact ih3 _ _ _ _ _ _ _ _
   | exact ih4 _ _ _ _ _ _
   | exact ih5 _ _ _ _ _
   | exact ih6 _ _ _ _ _ _ _
   | exact ih7 _ _ _ _ _ _
   | exact ih8 _ _ _
   | exact ih9 _ _
   | exact impl_NetworkTree.mono _ _ _
   | exact spec_NetworkTree.mono _ _ _
   | exact LeO.none _
   | refine LeO.ite ?_ ?_
   | refine LeO.bind ?_ (fun _ => ?_)
  ·intro y0 y1 y2 y3 y4 y5
   unfold laws_FnExactNetworkTree.j4
   repeat' first
   | (with_reducible exact ih0 _ _)
   | (with_reducible exact ih1 _ _ _ _ _ _ _ _ _)
   | (with_reducible exact ih2 _ _ _ _ _ _ _ _)
   | (with_reducible exact ih3 _ _ _ _ _ _ _ _)
   | (with_reducible exact ih4 _ _ _ _ _ _)
   | (with_reducible exact ih5 _ _ _ _ _)
   | (with_reducible exact ih6 _ _ _ _ _ _ _)
   | (with_reducible exact ih7 _ _ _ _ _ _)
   | (with_reducible exact ih8 _ _ _)
   | (with_reducible exact ih9 _ _)
   | (with_reducible exact impl_NetworkTree.mono _ _ _)
   | (with_reducible exact spec_NetworkTree.mono _ _ _)
   | (with_reducible exact LeO.refl _)
   | (with_reducible exact LeO.none _)
   | (with_reducible refine LeO.ite ?_ ?_)
   | (with_reducible refine LeO.bind ?_ (fun _ => ?_))
   | exact ih0 _ _
   | exact ih1 _ _ _ _ _ _ _ _ _
   | exact ih2 _ _ _ _ _ _ _ _
   | exact ih3 _ _ _ _ _ _ _ _
   | exact ih4 _ _ _ _ _ _
   | exact ih5 _ _ _ _ _
   | exact ih6 _ _ _ _ _ _ _
   | exact ih7 _ _ _ _ _ _
   | exact ih8 _ _ _
   | exact ih9 _ _
   | exact impl_NetworkTree.mono _ _ _
   | exact spec_NetworkTree.mono _ _ _
   | exact LeO.none _
   | refine LeO.ite ?_ ?_
   | refine LeO.bind ?_ (fun _ => ?_)
  ·intro y0 y1 y2 y3 y4
   unfold laws_FnExactNetworkTree.j5
   repeat' first
   | (with_reducible exact ih0 _ _)
   | (with_reducible exact ih1 _ _ _ _ _ _ _ _ _)
   | (with_reducible exact ih2 _ _ _ _ _ _ _ _)
   | (with_reducible exact ih3 _ _ _ _ _ _ _ _)
   | (with_reducible exact ih4 _ _ _ _ _ _)
   | (with_reducible exact ih5 _ _ _ _ _)
   | (with_reducible exact ih6 _ _ _ _ _ _ _)
   | (with_reducible exact ih7 _ _ _ _ _ _)
   | (with_reducible exact ih8 _ _ _)
   | (with_reducible exact ih9 _ _)
   | (with_reducible exact impl_NetworkTree.mono _ _ _)
   | (with_reducible exact spec_NetworkTree.mono _ _ _)
   | (with_reducible exact LeO.refl _)
   | (with_reducible exact LeO.none _)
   | (with_reducible refine LeO.ite ?_ ?_)
   | (with_reducible refine LeO.bind ?_ (fun _ => ?_))
   | exact ih0 _ _
   | exact ih1 _ _ _ _ _ _ _ _ _
   | exact ih2 _ _ _ _ _ _ _ _
   | exact ih3 _ _ _ _ _ _ _ _
   | exact ih4 _ _ _ _ _ _
   | exact ih5 _ _ _ _ _
   | exact ih6 _ _ _ _ _ _ _
   | exact ih7 _ _ _ _ _ _
   | exact ih8 _ _ _
   | exact ih9 _ _
   | exact impl_NetworkTree.mono _ _ _
   | exact spec_NetworkTree.mono _ _ _
   | exact LeO.none _
   | refine LeO.ite ?_ ?_
   | refine LeO.bind ?_ (fun _ => ?_)
  ·intro y0 y1 y2 y3 y4 y5 y6
   unfold laws_FnExactNetworkTree.j6
   repeat' first
   | (with_reducible exact ih0 _ _)
   | (with_reducible exact ih1 _ _ _ _ _ _ _ _ _)
   | (with_reducible exact ih2 _ _ _ _ _ _ _ _)
   | (with_reducible exact ih3 _ _ _ _ _ _ _ _)
   | (with_reducible exact ih4 _ _ _ _ _ _)
   | (with_reducible exact ih5 _ _ _ _ _)
   | (with_reducible exact ih6 _ _ _ _ _ _ _)
   | (with_reducible exact ih7 _ _ _ _ _ _)
   | (with_reducible exact ih8 _ _ _)
   | (with_reducible exact ih9 _ _)
   | (with_reducible exact impl_NetworkTree.mono _ _ _)
   | (with_reducible exact spec_NetworkTree.mono _ _ _)
   | (with_reducible exact LeO.refl _)
   | (with_reducible exact LeO.none _)
   | (with_reducible refine LeO.ite ?_ ?_)
   | (with_reducible refine LeO.bind ?_ (fun _ => ?_))
   | exact ih0 _ _
   | exact ih1 _ _ _ _ _ _ _ _ _
   | exact ih2 _ _ _ _ _ _ _ _
   | exact ih3 _ _ _ _ _ _ _ _
   | exact ih4 _ _ _ _ _ _
   | exact ih5 _ _ _ _ _
   | exact ih6 _ _ _ _ _ _ _
   | exact ih7 _ _ _ _ _ _
   | exact ih8 _ _ _
   | exact ih9 _ _
   | exact impl_NetworkTree.mono _ _ _
   | exact spec_NetworkTree.mono _ _ _
   | exact LeO.none _
   | refine LeO.ite ?_ ?_
   | refine LeO.bind ?_ (fun _ => ?_)
  ·intro y0 y1 y2 y3 y4 y5
   unfold laws_FnExactNetworkTree.j7
   repeat' first
   | (with_reducible exact ih0 _ _)
   | (with_reducible exact ih1 _ _ _ _ _ _ _ _ _)
   | (with_reducible exact ih2 _ _ _ _ _ _ _ _)
   | (with_reducible exact ih3 _ _ _ _ _ _ _ _)
   | (with_reducible exact ih4 _ _ _ _ _ _)
   | (with_reducible exact ih5 _ _ _ _ _)
   | (with_reducible exact ih6 _ _ _ _ _ _ _)
   | (with_reducible exact ih7 _ _ _ _ _ _)
   | (with_reducible exact ih8 _ _ _)
   | (with_reducible exact ih9 _ _)
   | (with_reducible exact impl_NetworkTree.mono _ _ _)
   | (with_reducible exact spec_NetworkTree.mono _ _ _)
   | (with_reducible exact LeO.refl _)
   | (with_reducible exact LeO.none _)
   | (with_reducible refine LeO.ite ?_ ?_)
   | (with_reducible refine LeO.bind ?_ (fun _ => ?_))
   | exact ih0 _ _
   | exact ih1 _ _ _ _ _ _ _ _ _
   | exact ih2 _ _ _ _ _ _ _ _
   | exact ih3 _ _ _ _ _ _ _ _
   | exact ih4 _ _ _ _ _ _
   | exact ih5 _ _ _ _ _
   | exact ih6 _ _ _ _ _ _ _
   | exact ih7 _ _ _ _ _ _
   | exact ih8 _ _ _
   | exact ih9 _ _
   | exact impl_NetworkTree.mono _ _ _
   | exact spec_NetworkTree.mono _ _ _
   | exact LeO.none _
   | refine LeO.ite ?_ ?_
   | refine LeO.bind ?_ (fun _ => ?_)
  ·intro y0 y1 y2
   unfold laws_FnExactNetworkTree.j8
   repeat' first
   | (with_reducible exact ih0 _ _)
   | (with_reducible exact ih1 _ _ _ _ _ _ _ _ _)
   | (with_reducible exact ih2 _ _ _ _ _ _ _ _)
   | (with_reducible exact ih3 _ _ _ _ _ _ _ _)
   | (with_reducible exact ih4 _ _ _ _ _ _)
   | (with_reducible exact ih5 _ _ _ _ _)
   | (with_reducible exact ih6 _ _ _ _ _ _ _)
   | (with_reducible exact ih7 _ _ _ _ _ _)
   | (with_reducible exact ih8 _ _ _)
   | (with_reducible exact ih9 _ _)
   | (with_reducible exact impl_NetworkTree.mono _ _ _)
   | (with_reducible exact spec_NetworkTree.mono _ _ _)
   | (with_reducible exact LeO.refl _)
   | (with_reducible exact LeO.none _)
   | (with_reducible refine LeO.ite ?_ ?_)
   | (with_reducible refine LeO.bind ?_ (fun _ => ?_))
   | exact ih0 _ _
   | exact ih1 _ _ _ _ _ _ _ _ _
   | exact ih2 _ _ _ _ _ _ _ _
   | exact ih3 _ _ _ _ _ _ _ _
   | exact ih4 _ _ _ _ _ _
   | exact ih5 _ _ _ _ _
   | exact ih6 _ _ _ _ _ _ _
   | exact ih7 _ _ _ _ _ _
   | exact ih8 _ _ _
   | exact ih9 _ _
   | exact impl_NetworkTree.mono _ _ _
   | exact spec_NetworkTree.mono _ _ _
   | exact LeO.none _
   | refine LeO.ite ?_ ?_
   | refine LeO.bind ?_ (fun _ => ?_)
  ·intro y0 y1
   unfold laws_FnExactNetworkTree.j9
   repeat' first
   | (with_reducible exact ih0 _ _)
   | (with_reducible exact ih1 _ _ _ _ _ _ _ _ _)
   | (with_reducible exact ih2 _ _ _ _ _ _ _ _)
   | (with_reducible exact ih3 _ _ _ _ _ _ _ _)
   | (with_reducible exact ih4 _ _ _ _ _ _)
   | (with_reducible exact ih5 _ _ _ _ _)
   | (with_reducible exact ih6 _ _ _ _ _ _ _)
   | (with_reducible exact ih7 _ _ _ _ _ _)
   | (with_reducible exact ih8 _ _ _)
   | (with_reducible exact ih9 _ _)
   | (with_reducible exact impl_NetworkTree.mono _ _ _)
   | (with_reducible exact spec_NetworkTree.mono _ _ _)
   | (with_reducible exact LeO.refl _)
   | (with_reducible exact LeO.none _)
   | (with_reducible refine LeO.ite ?_ ?_)
   | (with_reducible refine LeO.bind ?_ (fun _ => ?_))
   | exact ih0 _ _
   | exact ih1 _ _ _ _ _ _ _ _ _
   | exact ih2 _ _ _ _ _ _ _ _
   | exact ih3 _ _ _ _ _ _ _ _
   | exact ih4 _ _ _ _ _ _
   | exact ih5 _ _ _ _ _
   | exact ih6 _ _ _ _ _ _ _
   | exact ih7 _ _ _ _ _ _
   | exact ih8 _ _ _
   | exact ih9 _ _
   | exact impl_NetworkTree.mono _ _ _
   | exact spec_NetworkTree.mono _ _ _
   | exact LeO.none _
   | refine LeO.ite ?_ ?_
   | refine LeO.bind ?_ (fun _ => ?_)
theorem laws_FnExactNetworkTree.mono : ∀ a0 a1 k, LeO (laws_FnExactNetworkTree.f k a0 a1) (laws_FnExactNetworkTree.f (k + 1) a0 a1) := by
 intro a0 a1 k
 obtain ⟨ih0, ih1, ih2, ih3, ih4, ih5, ih6, ih7, ih8, ih9⟩ := laws_FnExactNetworkTree.mono_l k
 unfold laws_FnExactNetworkTree.f
 repeat' first
   | (with_reducible exact ih0 _ _)
   | (with_reducible exact ih1 _ _ _ _ _ _ _ _ _)
   | (with_reducible exact ih2 _ _ _ _ _ _ _ _)
   | (with_reducible exact ih3 _ _ _ _ _ _ _ _)
   | (with_reducible exact ih4 _ _ _ _ _ _)
   | (with_reducible exact ih5 _ _ _ _ _)
   | (with_reducible exact ih6 _ _ _ _ _ _ _)
   | (with_reducible exact ih7 _ _ _ _ _ _)
   | (with_reducible exact ih8 _ _ _)
   | (with_reducible exact ih9 _ _)
   | (with_reducible exact impl_NetworkTree.mono _ _ _)
   | (with_reducible exact spec_NetworkTree.mono _ _ _)
   | (with_reducible exact LeO.refl _)
   | (with_reducible exact LeO.none _)
   | (with_reducible refine LeO.ite ?_ ?_)
   | (with_reducible refine LeO.bind ?_ (fun _ => ?_))
   | exact ih0 _ _
   | exact ih1 _ _ _ _ _ _ _ _ _
   | exact ih2 _ _ _ _ _ _ _ _
   | exact ih3 _ _ _ _ _ _ _ _
   | exact ih4 _ _ _ _ _ _
   | exact ih5 _ _ _ _ _
   | exact ih6 _ _ _ _ _ _ _
   | exact ih7 _ _ _ _ _ _
   | exact ih8 _ _ _
   | exact ih9 _ _
   | exact impl_NetworkTree.mono _ _ _
   | exact spec_NetworkTree.mono _ _ _
   | exact LeO.none _
   | refine LeO.ite ?_ ?_
   | refine LeO.bind ?_ (fun _ => ?_)
set_option maxHeartbeats 8000000 in
set_option maxRecDepth 100000 in
theorem laws_FnExactNetworkTree.calls (k : Nat) (A0_0 : Option Addr) (c0_0 : Nat) (l0_0 : List Int) (A0_1 : Option Addr) (c0_1 : Nat) (l0_1 : List (S85)) (r : Bool) (w : World) (hr0_0 : Kd.C (Kd.int .i64) w A0_0 l0_0.length l0_0) (hc0_0 : l0_0.length ≤ c0_0) (hr0_1 : Kd.C k85 w A0_1 l0_1.length l0_1) (hc0_1 : l0_1.length ≤ c0_1) (h : laws_FnExactNetworkTree.f k l0_0 l0_1 = some r) :
  Calls Try.prog 5 #[.agg #[.slice A0_0 l0_0.length c0_0, .slice A0_1 l0_1.length c0_1]] w fun e w' => e = .returned (.bool r) ∧ Below w.heap.size w w' := by
 have hu25 := Try.underlying25
 have hu31 := Try.underlying31
 have HR0_0 := Aside0.mk hr0_0
 have HC0_0 := Aside0.mk hc0_0
 clear hr0_0 hc0_0
 have HR0_1 := Aside0.mk hr0_1
 have HC0_1 := Aside0.mk hc0_1
 clear hr0_1 hc0_1
 have HB := Aside0.mk (Below.refl w.heap.size w)
 have H : ((laws_szNetwork.f l0_0 l0_1 1048576).bind fun t264 => (if t264 < 0 then (some true) else (laws_FnExactNetworkTree.j0 k l0_0 l0_1))) = some r := h
 clear h
 replace H := Option.bind_eq_some_iff.mp H
 obtain ⟨t264, A20, H⟩ := H
 replace H : (if t264 < 0 then (some true) else (laws_FnExactNetworkTree.j0 k l0_0 l0_1)) = some r := H
 have A2 := Aside0.mk A20
 clear A20
 have HC3 := Aside0.mk H
 clear H
 go_enter Try.func5, Try.ntmps5
 go_upto_if 18 with (first | ((with_reducible refine gate_dst (N := 1) rfl ?_); refine box_event ?hg (N := 1) ?hd (cs := #[.slice A0_0 l0_0.length c0_0, .slice A0_1 l0_1.length c0_1]) (t := 25) ?hr ?_; (case hd => rfl); (case hg => rfl); (case hr => first | (go_simp; done) | (go_simp; rfl)); intro gb263 hg w4 hbox hb; have n0_ := Aside0.mk (below_step (by repeat (first | (with_reducible first | exact HB.out|apply wA|apply wN|apply wD) | exact HB.out)) hb); have n1_ := Aside0.mk (hbox); have n2_ := Aside0.mk ((by rw [hg]; exact (below_size (by repeat (first | (with_reducible first | exact HB.out|apply wA|apply wN|apply wD) | exact HB.out))) : w.heap.size ≤ gb263)); have n3_ := Aside0.mk ((by rw [hg]; exact (below_size (by repeat (first | (with_reducible first | exact HB.out|apply wA|apply wN|apply wD) | exact HB.out))) : w.heap.size ≤ gb263)); clear HB; have HB := n0_; have BK263 := n1_; have GW263 := n2_; have GE263 := n3_; clear n0_ n1_ n2_ n3_; clear hb hbox hg; have hcz5_0 : w4.cell? ⟨gb263, 0, none⟩ = some (.slice A0_0 l0_0.length c0_0) := (blk_cell BK263.out 0).trans rfl; have hcz5_1 : w4.cell? ⟨gb263, 1, none⟩ = some (.slice A0_1 l0_1.length c0_1) := (blk_cell BK263.out 1).trans rfl; have hfz5_0 := blk_frozen BK263.out 0; have hfz5_1 := blk_frozen BK263.out 1) | ((with_reducible refine gate_callee (f := 14) rfl ?_); refine goesL_ (some 16) rfl rfl Try.func14 (by kernel_rfl) rfl #[.agg #[.slice A0_0 l0_0.length c0_0, .slice A0_1 l0_1.length c0_1], .int .i64 1048576] rfl (by (try simp only [List.map_toArray, List.map_cons, List.map_nil]); first | done | rfl | (simp only [List.length_drop, List.length_take]; rfl)) ?_; (with_reducible refine (laws_szNetwork.calls _ _ l0_0 _ _ l0_1 1048576 t264 _ ?side1 ?side2 ?side3 ?side4 A2.out).mono ?_); (case side1 => repeat (first | exact (Kd.C_below HR0_0.out HB.out) | (with_reducible first|refine Kd.C_alloc ?_ _|refine Kd.C_drewN ?_ _|refine Kd.C_drew ?_))); (case side2 => exact HC0_0.out); (case side3 => repeat (first | exact (Kd.C_below HR0_1.out HB.out) | (with_reducible first|refine Kd.C_alloc ?_ _|refine Kd.C_drewN ?_ _|refine Kd.C_drew ?_))); (case side4 => exact HC0_1.out); rintro e w6 ⟨rfl, hb⟩; refine ⟨_, rfl, ?_⟩; have n0_ := Aside0.mk (blk_below (g := gb263) (o := .cells #[.slice A0_0 l0_0.length c0_0, .slice A0_1 l0_1.length c0_1] 25 (0, 0)) (by (with_reducible repeat (first | refine bN ?_ _|refine bW ?_|refine bA ?_ _)); exact BK263.out) hb); have n1_ := Aside0.mk (below_step (by repeat (first | (with_reducible first | exact HB.out|apply wA|apply wN|apply wD |refine wS ?_ GE263.out) | exact HB.out)) hb); clear BK263; clear HB; have BK263 := n0_; have HB := n1_; clear n0_ n1_; (try clear hb); (try clear hb2); (try clear hk); (try clear hi)))
 (try simp only [Act.put, List.setIfInBounds_toArray, List.set_cons_zero, List.set_cons_succ])
 go_cut [] (fun wc => ∃ (kq : Nat), Aside0 (laws_FnExactNetworkTree.j0 kq l0_0 l0_1 = some r) ∧ Aside0 (kq ≤ k) ∧ Aside0 (wc.heap[gb263]? = some (.cells #[(.slice A0_0 l0_0.length c0_0), (.slice A0_1 l0_1.length c0_1)] 25 (0, 0))) ∧ Aside0 (Below w.heap.size w wc))
 case first =>
  have H := HC3.out
  clear HC3
  by_cases c7 : t264 < 0
  ·rw [if_pos c7] at H
   have c7b0 : decide (t264 < 0) = true := decide_eq_true c7
   clear c7
   (first | rw [c7b0] | (simp only [i64_w, i32_w]; rw [c7b0]) | rw [c7b2] | skip)
   obtain rfl := Option.some.inj H
   go_wp2
   go_ret
   exact ⟨by first | rfl | (simp [errW_none, errW_some] <;> rfl) | (simp [*, errW_none, errW_some] <;> rfl), by repeat (first | (with_reducible first | exact HB.out|apply wA|apply wN|apply wD |refine wS ?_ GE263.out) | exact HB.out)⟩
  ·rw [if_neg c7] at H
   have c7b0 : decide (t264 < 0) = false := decide_eq_false c7
   clear c7
   (first | rw [c7b0] | (simp only [i64_w, i32_w]; rw [c7b0]) | rw [c7b2] | skip)
   have H' := Aside0.mk H
   clear H
   go_wp2
   go_meet
   case rel => exact ⟨_, H', ⟨by first | omega | exact Nat.le_refl _⟩, ⟨by (with_reducible repeat (first | refine bN ?_ _|refine bW ?_|refine bA ?_ _)); exact BK263.out⟩, ⟨by repeat (first | (with_reducible first | exact HB.out|apply wA|apply wN|apply wD |refine wS ?_ GE263.out) | exact HB.out)⟩⟩
 case rest =>
  clear HC3
  try clear c1
  try clear p2
  try clear c5
  try clear c7
  try clear c7b0
  try clear c7b2
  try clear hcz5_0
  try clear hcz5_1
  try clear hfz5_0
  try clear hfz5_1
  obtain ⟨kq, HA, HJ2, BK263, HB⟩ := hcut
  cases kq with
  | zero => exact absurd HA.out (by simp [laws_FnExactNetworkTree.j0])
  | succ kj2 =>
   have H := HA.out
   clear HA
   simp only [laws_FnExactNetworkTree.j0] at H
   replace H := Option.bind_eq_some_iff.mp H
   obtain ⟨⟨t265, t268⟩, A80, H⟩ := H
   replace H : ((spec_NetworkTree.f kj2 t265 t268).bind fun bt271 => ((laws_toNetwork.f l0_0 l0_1).bind fun bt275 => ((impl_NetworkTree.f kj2 bt275.1 bt275.2).bind fun bt282 => ((laws_eqInt64S_.f bt282.1 bt271.1).bind fun t286 => (if t286 = true then (laws_FnExactNetworkTree.j1 kj2 bt271.1 bt271.2 bt282.1 bt282.2 (bt282.2 != bt271.2) l0_0 l0_1 bt275.1 bt275.2) else (laws_FnExactNetworkTree.j1 kj2 bt271.1 bt271.2 bt282.1 bt282.2 true l0_0 l0_1 bt275.1 bt275.2)))))) = some r := H
   have A8 := Aside0.mk A80
   clear A80
   replace H := Option.bind_eq_some_iff.mp H
   obtain ⟨⟨t271, t274⟩, A90, H⟩ := H
   replace H : ((laws_toNetwork.f l0_0 l0_1).bind fun bt275 => ((impl_NetworkTree.f kj2 bt275.1 bt275.2).bind fun bt282 => ((laws_eqInt64S_.f bt282.1 t271).bind fun t286 => (if t286 = true then (laws_FnExactNetworkTree.j1 kj2 t271 t274 bt282.1 bt282.2 (bt282.2 != t274) l0_0 l0_1 bt275.1 bt275.2) else (laws_FnExactNetworkTree.j1 kj2 t271 t274 bt282.1 bt282.2 true l0_0 l0_1 bt275.1 bt275.2))))) = some r := H
   have A9 := Aside0.mk A90
   clear A90
   replace H := Option.bind_eq_some_iff.mp H
   obtain ⟨⟨t275, t278⟩, A100, H⟩ := H
   replace H : ((impl_NetworkTree.f kj2 t275 t278).bind fun bt282 => ((laws_eqInt64S_.f bt282.1 t271).bind fun t286 => (if t286 = true then (laws_FnExactNetworkTree.j1 kj2 t271 t274 bt282.1 bt282.2 (bt282.2 != t274) l0_0 l0_1 t275 t278) else (laws_FnExactNetworkTree.j1 kj2 t271 t274 bt282.1 bt282.2 true l0_0 l0_1 t275 t278)))) = some r := H
   have A10 := Aside0.mk A100
   clear A100
   replace H := Option.bind_eq_some_iff.mp H
   obtain ⟨⟨t282, t285⟩, A110, H⟩ := H
   replace H : ((laws_eqInt64S_.f t282 t271).bind fun t286 => (if t286 = true then (laws_FnExactNetworkTree.j1 kj2 t271 t274 t282 t285 (t285 != t274) l0_0 l0_1 t275 t278) else (laws_FnExactNetworkTree.j1 kj2 t271 t274 t282 t285 true l0_0 l0_1 t275 t278))) = some r := H
   have A11 := Aside0.mk A110
   clear A110
   have HC12 := Aside0.mk H
   clear H
   have hcz13_0 : wc.cell? ⟨gb263, 0, none⟩ = some (.slice A0_0 l0_0.length c0_0) := (blk_cell BK263.out 0).trans rfl
   have hcz13_1 : wc.cell? ⟨gb263, 1, none⟩ = some (.slice A0_1 l0_1.length c0_1) := (blk_cell BK263.out 1).trans rfl
   have hfz13_0 := blk_frozen BK263.out 0
   have hfz13_1 := blk_frozen BK263.out 1
   go_upto_region 8 with (first | ((with_reducible refine gate_callee (f := 16) rfl ?_); refine goesL_ (some 21) rfl rfl Try.func16 (by kernel_rfl) rfl #[.agg #[.slice A0_0 l0_0.length c0_0, .slice A0_1 l0_1.length c0_1]] rfl (by (try simp only [List.map_toArray, List.map_cons, List.map_nil]); first | done | rfl | (simp only [List.length_drop, List.length_take]; rfl)) ?_; (with_reducible refine (laws_toNetwork.calls _ _ l0_0 _ _ l0_1 t265 t268 _ ?side1 ?side2 ?side3 ?side4 A8.out).mono ?_); (case side1 => repeat (first | exact (Kd.C_below HR0_0.out HB.out) | (with_reducible first|refine Kd.C_alloc ?_ _|refine Kd.C_drewN ?_ _|refine Kd.C_drew ?_))); (case side2 => exact HC0_0.out); (case side3 => repeat (first | exact (Kd.C_below HR0_1.out HB.out) | (with_reducible first|refine Kd.C_alloc ?_ _|refine Kd.C_drewN ?_ _|refine Kd.C_drew ?_))); (case side4 => exact HC0_1.out); rintro e w14 ⟨v266, v269, rfl, ho0, ho1, hb⟩; refine ⟨_, rfl, ?_⟩; have n0_ := Aside0.mk (Kd.R_lower ho0 (below_size (by repeat (first | (with_reducible first | exact HB.out|apply wA|apply wN|apply wD |refine wS ?_ GE263.out) | exact HB.out)))); have n1_ := Aside0.mk (Kd.R_lower ho1 (below_size (by repeat (first | (with_reducible first | exact HB.out|apply wA|apply wN|apply wD |refine wS ?_ GE263.out) | exact HB.out)))); have n2_ := Aside0.mk (blk_below (g := gb263) (o := .cells #[.slice A0_0 l0_0.length c0_0, .slice A0_1 l0_1.length c0_1] 25 (0, 0)) (by (with_reducible repeat (first | refine bN ?_ _|refine bW ?_|refine bA ?_ _)); exact BK263.out) hb); have n3_ := Aside0.mk (below_step (by repeat (first | (with_reducible first | exact HB.out|apply wA|apply wN|apply wD |refine wS ?_ GE263.out) | exact HB.out)) hb); clear BK263; clear HB; have HO267 := n0_; have HO270 := n1_; have BK263 := n2_; have HB := n3_; clear n0_ n1_ n2_ n3_; (try clear hb); (try clear hb2); (try clear hk); (try clear hi); (try clear ho0); (try clear ho1); obtain ⟨Ao15, co15, eo15⟩ := Kd.R_slice HO267.out; subst eo15; obtain ⟨Ao16, co16, eo16⟩ := Kd.R_slice HO270.out; subst eo16) | ((with_reducible refine gate_callee (f := 25) rfl ?_); refine goesL_ (some 22) rfl rfl Try.func25 (by kernel_rfl) rfl #[.agg #[.slice Ao15 t265.length co15, .slice Ao16 t268.length co16]] rfl (by (try simp only [List.map_toArray, List.map_cons, List.map_nil]); first | done | rfl | (simp only [List.length_drop, List.length_take]; rfl)) ?_; (with_reducible refine (spec_NetworkTree.calls kj2 _ _ t265 _ _ t268 t271 t274 _ ?side1 ?side2 ?side3 ?side4 A9.out).mono ?_); (case side1 => repeat (first | exact (Kd.R_reads' HO267.out).2.2 | (with_reducible first|refine Kd.C_alloc ?_ _|refine Kd.C_drewN ?_ _|refine Kd.C_drew ?_))); (case side2 => exact (Kd.R_reads' HO267.out).2.1); (case side3 => repeat (first | exact (Kd.R_reads' HO270.out).2.2 | (with_reducible first|refine Kd.C_alloc ?_ _|refine Kd.C_drewN ?_ _|refine Kd.C_drew ?_))); (case side4 => exact (Kd.R_reads' HO270.out).2.1); rintro e w17 ⟨v272, rfl, ho0, hb⟩; refine ⟨_, rfl, ?_⟩; have n0_ := Aside0.mk (Kd.R_elder' (by (with_reducible repeat (first | apply rA|apply rN|apply rW)); exact HO267.out) (Kd.R_base ho0) hb); have n1_ := Aside0.mk (Kd.R_below (by (with_reducible repeat (first | apply rA|apply rN|apply rW)); exact HO270.out) hb); have n2_ := Aside0.mk (Kd.R_lower (Kd.R_new' ho0 (Kd.R_lt (by (with_reducible repeat (first | apply rA|apply rN|apply rW)); exact HO267.out))) (below_size (by repeat (first | (with_reducible first | exact HB.out|apply wA|apply wN|apply wD |refine wS ?_ GE263.out) | exact HB.out)))); have n3_ := Aside0.mk (blk_below (g := gb263) (o := .cells #[.slice A0_0 l0_0.length c0_0, .slice A0_1 l0_1.length c0_1] 25 (0, 0)) (by (with_reducible repeat (first | refine bN ?_ _|refine bW ?_|refine bA ?_ _)); exact BK263.out) hb); have n4_ := Aside0.mk (below_step (by repeat (first | (with_reducible first | exact HB.out|apply wA|apply wN|apply wD |refine wS ?_ GE263.out) | exact HB.out)) hb); clear HO267; clear HO270; clear BK263; clear HB; have HO267 := n0_; have HO270 := n1_; have HO273 := n2_; have BK263 := n3_; have HB := n4_; clear n0_ n1_ n2_ n3_ n4_; (try clear hb); (try clear hb2); (try clear hk); (try clear hi); (try clear ho0); have hcz18_0 : w17.cell? ⟨gb263, 0, none⟩ = some (.slice A0_0 l0_0.length c0_0) := (blk_cell BK263.out 0).trans rfl; have hcz18_1 : w17.cell? ⟨gb263, 1, none⟩ = some (.slice A0_1 l0_1.length c0_1) := (blk_cell BK263.out 1).trans rfl; have hfz18_0 := blk_frozen BK263.out 0; have hfz18_1 := blk_frozen BK263.out 1) | ((with_reducible refine gate_callee (f := 16) rfl ?_); refine goesL_ (some 26) rfl rfl Try.func16 (by kernel_rfl) rfl #[.agg #[.slice A0_0 l0_0.length c0_0, .slice A0_1 l0_1.length c0_1]] rfl (by (try simp only [List.map_toArray, List.map_cons, List.map_nil]); first | done | rfl | (simp only [List.length_drop, List.length_take]; rfl)) ?_; (with_reducible refine (laws_toNetwork.calls _ _ l0_0 _ _ l0_1 t275 t278 _ ?side1 ?side2 ?side3 ?side4 A10.out).mono ?_); (case side1 => repeat (first | exact (Kd.C_below HR0_0.out HB.out) | (with_reducible first|refine Kd.C_alloc ?_ _|refine Kd.C_drewN ?_ _|refine Kd.C_drew ?_))); (case side2 => exact HC0_0.out); (case side3 => repeat (first | exact (Kd.C_below HR0_1.out HB.out) | (with_reducible first|refine Kd.C_alloc ?_ _|refine Kd.C_drewN ?_ _|refine Kd.C_drew ?_))); (case side4 => exact HC0_1.out); rintro e w19 ⟨v276, v279, rfl, ho0, ho1, hb⟩; refine ⟨_, rfl, ?_⟩; have n0_ := Aside0.mk (Kd.R_elder' (by (with_reducible repeat (first | apply rA|apply rN|apply rW)); exact HO267.out) (Kd.R_base ho0) hb); have n1_ := Aside0.mk (Kd.R_elder' (by (with_reducible repeat (first | apply rA|apply rN|apply rW)); exact HO270.out) (Kd.R_base ho1) hb); have n2_ := Aside0.mk (Kd.R_elder' (by (with_reducible repeat (first | apply rA|apply rN|apply rW)); exact HO273.out) (Kd.R_base ho0) hb); have n3_ := Aside0.mk (Kd.R_lower (Kd.R_new' (Kd.R_new' ho0 (Kd.R_lt (by (with_reducible repeat (first | apply rA|apply rN|apply rW)); exact HO267.out))) (Kd.R_lt (by (with_reducible repeat (first | apply rA|apply rN|apply rW)); exact HO273.out))) (below_size (by repeat (first | (with_reducible first | exact HB.out|apply wA|apply wN|apply wD |refine wS ?_ GE263.out) | exact HB.out)))); have n4_ := Aside0.mk (Kd.R_lower (Kd.R_new' ho1 (Kd.R_lt (by (with_reducible repeat (first | apply rA|apply rN|apply rW)); exact HO270.out))) (below_size (by repeat (first | (with_reducible first | exact HB.out|apply wA|apply wN|apply wD |refine wS ?_ GE263.out) | exact HB.out)))); have n5_ := Aside0.mk (blk_below (g := gb263) (o := .cells #[.slice A0_0 l0_0.length c0_0, .slice A0_1 l0_1.length c0_1] 25 (0, 0)) (by (with_reducible repeat (first | refine bN ?_ _|refine bW ?_|refine bA ?_ _)); exact BK263.out) hb); have n6_ := Aside0.mk (below_step (by repeat (first | (with_reducible first | exact HB.out|apply wA|apply wN|apply wD |refine wS ?_ GE263.out) | exact HB.out)) hb); clear HO267; clear HO270; clear HO273; clear BK263; clear HB; have HO267 := n0_; have HO270 := n1_; have HO273 := n2_; have HO277 := n3_; have HO280 := n4_; have BK263 := n5_; have HB := n6_; clear n0_ n1_ n2_ n3_ n4_ n5_ n6_; (try clear hb); (try clear hb2); (try clear hk); (try clear hi); (try clear ho0); (try clear ho1)) | ((with_reducible refine gate_dst (N := 6) rfl ?_); refine box_event ?hg (N := 6) ?hd (cs := #[.slice none 0 0, .slice none 0 0]) (t := 31) ?hr ?_; (case hd => rfl); (case hg => rfl); (case hr => first | (go_simp; done) | (go_simp; rfl)); intro gb281 hg w20 hbox hb; have n0_ := Aside0.mk (Kd.R_below (by (with_reducible repeat (first | apply rA|apply rN|apply rW)); exact HO267.out) hb); have n1_ := Aside0.mk (Kd.R_below (by (with_reducible repeat (first | apply rA|apply rN|apply rW)); exact HO270.out) hb); have n2_ := Aside0.mk (Kd.R_below (by (with_reducible repeat (first | apply rA|apply rN|apply rW)); exact HO273.out) hb); have n3_ := Aside0.mk (Kd.R_below (by (with_reducible repeat (first | apply rA|apply rN|apply rW)); exact HO277.out) hb); have n4_ := Aside0.mk (Kd.R_below (by (with_reducible repeat (first | apply rA|apply rN|apply rW)); exact HO280.out) hb); have n5_ := Aside0.mk (blk_below (g := gb263) (o := .cells #[.slice A0_0 l0_0.length c0_0, .slice A0_1 l0_1.length c0_1] 25 (0, 0)) (by (with_reducible repeat (first | refine bN ?_ _|refine bW ?_|refine bA ?_ _)); exact BK263.out) hb); have n6_ := Aside0.mk (below_step (by repeat (first | (with_reducible first | exact HB.out|apply wA|apply wN|apply wD |refine wS ?_ GE263.out) | exact HB.out)) hb); have n7_ := Aside0.mk (hbox); have n8_ := Aside0.mk ((by rw [hg]; exact (below_size (by repeat (first | (with_reducible first | exact HB.out|apply wA|apply wN|apply wD |refine wS ?_ GE263.out) | exact HB.out))) : w.heap.size ≤ gb281)); have n9_ := Aside0.mk ((by rw [hg]; exact (below_size (by repeat (first | (with_reducible first | exact HB.out|apply wA|apply wN|apply wD |refine wS ?_ GE263.out) | exact HB.out))) : w.heap.size ≤ gb281)); have n10_ := Aside0.mk ((by rw [hg]; exact Nat.ne_of_lt (blk_lt (g := gb263) (o := .cells #[.slice A0_0 l0_0.length c0_0, .slice A0_1 l0_1.length c0_1] 25 (0, 0)) (by (with_reducible repeat (first | refine bN ?_ _|refine bW ?_|refine bA ?_ _)); exact BK263.out)) : gb263 ≠ gb281)); have n11_ := Aside0.mk ((by rw [hg]; exact Nat.ne_of_gt (blk_lt (g := gb263) (o := .cells #[.slice A0_0 l0_0.length c0_0, .slice A0_1 l0_1.length c0_1] 25 (0, 0)) (by (with_reducible repeat (first | refine bN ?_ _|refine bW ?_|refine bA ?_ _)); exact BK263.out)) : gb281 ≠ gb263)); clear HO267; clear HO270; clear HO273; clear HO277; clear HO280; clear BK263; clear HB; have HO267 := n0_; have HO270 := n1_; have HO273 := n2_; have HO277 := n3_; have HO280 := n4_; have BK263 := n5_; have HB := n6_; have BK281 := n7_; have GW281 := n8_; have GE281 := n9_; have NB263_281 := n10_; have NB281_263 := n11_; clear n0_ n1_ n2_ n3_ n4_ n5_ n6_ n7_ n8_ n9_ n10_ n11_; clear hb hbox hg; obtain ⟨Ao21, co21, eo21⟩ := Kd.R_slice HO277.out; subst eo21; have hnb22 := NB281_263.out; have hnc22 := NB263_281.out; have hcz23_0 : w20.cell? ⟨gb281, 0, none⟩ = some (.slice none 0 0) := (blk_cell BK281.out 0).trans rfl; have hcz23_1 : w20.cell? ⟨gb281, 1, none⟩ = some (.slice none 0 0) := (blk_cell BK281.out 1).trans rfl; have hfz23_0 := blk_frozen BK281.out 0; have hfz23_1 := blk_frozen BK281.out 1; obtain ⟨Ao24, co24, eo24⟩ := Kd.R_slice HO280.out; subst eo24) | ((with_reducible refine gate_callee (f := 26) rfl ?_); refine goesL_ (some 29) rfl rfl Try.func26 (by kernel_rfl) rfl #[.agg #[.slice Ao21 t275.length co21, .slice Ao24 t278.length co24]] rfl (by (try simp only [List.map_toArray, List.map_cons, List.map_nil]); first | done | rfl | (simp only [List.length_drop, List.length_take]; rfl)) ?_; (with_reducible refine (impl_NetworkTree.calls kj2 _ _ t275 _ _ t278 t282 t285 _ ?side1 ?side2 ?side3 ?side4 A11.out).mono ?_); (case side1 => refine (Kd.R_reads' (e := 2) (base := w.heap.size) (ok := fun k_ => ((True ∧ some k_ ≠ (.slice Ao15 t265.length co15 : Value).ownBlock) ∧ some k_ ≠ (v272 : Value).ownBlock)) (n := t275.length) (c := co21) ?_).2.2; exact (by (with_reducible repeat (first | apply rA|apply rN|apply rW)); exact (Kd.R_mono (Kd.R_far (p := ⟨gb281, 1, none⟩) (Kd.R_far (p := ⟨gb281, 0, none⟩) (Kd.R_types HO277.out BK281.out (by decide)) (fun _ hk => hk.2) (.slice Ao21 t275.length co21)) (fun _ hk => hk.2) (.slice Ao24 t278.length co24)) (fun _ h_ => h_.1)))); (case side2 => exact (Kd.R_reads' HO277.out).2.1); (case side3 => refine (Kd.R_reads' (e := 60) (base := w.heap.size) (ok := fun k_ => (True ∧ some k_ ≠ (.slice Ao16 t268.length co16 : Value).ownBlock)) (n := t278.length) (c := co24) ?_).2.2; exact (by (with_reducible repeat (first | apply rA|apply rN|apply rW)); exact (Kd.R_mono (Kd.R_far (p := ⟨gb281, 1, none⟩) (Kd.R_far (p := ⟨gb281, 0, none⟩) (Kd.R_types HO280.out BK281.out (by decide)) (fun _ hk => hk.2) (.slice Ao21 t275.length co21)) (fun _ hk => hk.2) (.slice Ao24 t278.length co24)) (fun _ h_ => h_.1)))); (case side4 => exact (Kd.R_reads' HO280.out).2.1); rintro e w25 ⟨v283, rfl, ho0, hb⟩; refine ⟨_, rfl, ?_⟩; have n0_ := Aside0.mk (Kd.R_elder' (by (with_reducible repeat (first | apply rA|apply rN|apply rW)); exact (Kd.R_mono (Kd.R_far (p := ⟨gb281, 1, none⟩) (Kd.R_far (p := ⟨gb281, 0, none⟩) (Kd.R_types HO267.out BK281.out (by decide)) (fun _ hk => hk.2) (.slice Ao21 t275.length co21)) (fun _ hk => hk.2) (.slice Ao24 t278.length co24)) (fun _ h_ => h_.1))) (Kd.R_base ho0) hb); have n1_ := Aside0.mk (Kd.R_below (by (with_reducible repeat (first | apply rA|apply rN|apply rW)); exact (Kd.R_mono (Kd.R_far (p := ⟨gb281, 1, none⟩) (Kd.R_far (p := ⟨gb281, 0, none⟩) (Kd.R_types HO270.out BK281.out (by decide)) (fun _ hk => hk.2) (.slice Ao21 t275.length co21)) (fun _ hk => hk.2) (.slice Ao24 t278.length co24)) (fun _ h_ => h_.1))) hb); have n2_ := Aside0.mk (Kd.R_elder' (by (with_reducible repeat (first | apply rA|apply rN|apply rW)); exact (Kd.R_mono (Kd.R_far (p := ⟨gb281, 1, none⟩) (Kd.R_far (p := ⟨gb281, 0, none⟩) (Kd.R_types HO273.out BK281.out (by decide)) (fun _ hk => hk.2) (.slice Ao21 t275.length co21)) (fun _ hk => hk.2) (.slice Ao24 t278.length co24)) (fun _ h_ => h_.1))) (Kd.R_base ho0) hb); have n3_ := Aside0.mk (Kd.R_elder' (by (with_reducible repeat (first | apply rA|apply rN|apply rW)); exact (Kd.R_mono (Kd.R_far (p := ⟨gb281, 1, none⟩) (Kd.R_far (p := ⟨gb281, 0, none⟩) (Kd.R_types HO277.out BK281.out (by decide)) (fun _ hk => hk.2) (.slice Ao21 t275.length co21)) (fun _ hk => hk.2) (.slice Ao24 t278.length co24)) (fun _ h_ => h_.1))) (Kd.R_base ho0) hb); have n4_ := Aside0.mk (Kd.R_below (by (with_reducible repeat (first | apply rA|apply rN|apply rW)); exact (Kd.R_mono (Kd.R_far (p := ⟨gb281, 1, none⟩) (Kd.R_far (p := ⟨gb281, 0, none⟩) (Kd.R_types HO280.out BK281.out (by decide)) (fun _ hk => hk.2) (.slice Ao21 t275.length co21)) (fun _ hk => hk.2) (.slice Ao24 t278.length co24)) (fun _ h_ => h_.1))) hb); have n5_ := Aside0.mk (Kd.R_lower (Kd.R_new' (Kd.R_new' (Kd.R_new' ho0 (Kd.R_lt (by (with_reducible repeat (first | apply rA|apply rN|apply rW)); exact (Kd.R_mono (Kd.R_far (p := ⟨gb281, 1, none⟩) (Kd.R_far (p := ⟨gb281, 0, none⟩) (Kd.R_types HO267.out BK281.out (by decide)) (fun _ hk => hk.2) (.slice Ao21 t275.length co21)) (fun _ hk => hk.2) (.slice Ao24 t278.length co24)) (fun _ h_ => h_.1))))) (Kd.R_lt (by (with_reducible repeat (first | apply rA|apply rN|apply rW)); exact (Kd.R_mono (Kd.R_far (p := ⟨gb281, 1, none⟩) (Kd.R_far (p := ⟨gb281, 0, none⟩) (Kd.R_types HO273.out BK281.out (by decide)) (fun _ hk => hk.2) (.slice Ao21 t275.length co21)) (fun _ hk => hk.2) (.slice Ao24 t278.length co24)) (fun _ h_ => h_.1))))) (Kd.R_lt (by (with_reducible repeat (first | apply rA|apply rN|apply rW)); exact (Kd.R_mono (Kd.R_far (p := ⟨gb281, 1, none⟩) (Kd.R_far (p := ⟨gb281, 0, none⟩) (Kd.R_types HO277.out BK281.out (by decide)) (fun _ hk => hk.2) (.slice Ao21 t275.length co21)) (fun _ hk => hk.2) (.slice Ao24 t278.length co24)) (fun _ h_ => h_.1))))) (below_size (by repeat (first | (with_reducible first | exact HB.out|apply wA|apply wN|apply wD |refine wS ?_ GE263.out |refine wS ?_ GE281.out) | exact HB.out)))); have n6_ := Aside0.mk (blk_below (g := gb263) (o := .cells #[.slice A0_0 l0_0.length c0_0, .slice A0_1 l0_1.length c0_1] 25 (0, 0)) (by (with_reducible repeat (first | refine bN ?_ _|refine bW ?_|refine bA ?_ _)); refine blk_far ?_ NB263_281.out _; (with_reducible repeat (first | refine bN ?_ _|refine bW ?_|refine bA ?_ _)); refine blk_far ?_ NB263_281.out _; (with_reducible repeat (first | refine bN ?_ _|refine bW ?_|refine bA ?_ _)); exact BK263.out) hb); have n7_ := Aside0.mk (blk_below (g := gb281) (o := .cells #[.slice Ao21 t275.length co21, .slice Ao24 t278.length co24] 31 (0, 0)) (by (with_reducible repeat (first | refine bN ?_ _|refine bW ?_|refine bA ?_ _)); refine blk_put (cs := #[.slice Ao21 t275.length co21, .slice none 0 0]) ?_ 1 _ rfl; (with_reducible repeat (first | refine bN ?_ _|refine bW ?_|refine bA ?_ _)); refine blk_put (cs := #[.slice none 0 0, .slice none 0 0]) ?_ 0 _ rfl; (with_reducible repeat (first | refine bN ?_ _|refine bW ?_|refine bA ?_ _)); exact BK281.out) hb); have n8_ := Aside0.mk (below_step (by repeat (first | (with_reducible first | exact HB.out|apply wA|apply wN|apply wD |refine wS ?_ GE263.out |refine wS ?_ GE281.out) | exact HB.out)) hb); clear HO267; clear HO270; clear HO273; clear HO277; clear HO280; clear BK263; clear BK281; clear HB; have HO267 := n0_; have HO270 := n1_; have HO273 := n2_; have HO277 := n3_; have HO280 := n4_; have HO284 := n5_; have BK263 := n6_; have BK281 := n7_; have HB := n8_; clear n0_ n1_ n2_ n3_ n4_ n5_ n6_ n7_ n8_; (try clear hb); (try clear hb2); (try clear hk); (try clear hi); (try clear ho0)))
   (try simp only [Act.put, List.setIfInBounds_toArray, List.set_cons_zero, List.set_cons_succ])
   go_cut [40] (fun v40 wc => ∃ (kq : Nat) (x40_11 : Bool), v40 = .bool x40_11 ∧ Aside0 (laws_FnExactNetworkTree.j1 kq t271 t274 t282 t285 x40_11 l0_0 l0_1 t275 t278 = some r) ∧ Aside0 (kq ≤ kj2) ∧ Aside0 (Kd.R (Kd.int .i64) 2 wc w.heap.size (fun k_ => some k_ ≠ (v283 : Value).ownBlock ∧ some k_ ≠ ((.slice Ao21 t275.length co21) : Value).ownBlock) v272 t271) ∧ Aside0 (Kd.R (Kd.int .i64) 2 wc w.heap.size (fun k_ => some k_ ≠ (v272 : Value).ownBlock ∧ some k_ ≠ ((.slice Ao21 t275.length co21) : Value).ownBlock) v283 t282) ∧ Aside0 (Kd.R (Kd.int .i64) 2 wc w.heap.size (fun k_ => some k_ ≠ (v272 : Value).ownBlock ∧ some k_ ≠ (v283 : Value).ownBlock) (.slice Ao21 t275.length co21) t275) ∧ Aside0 (Kd.R k60 60 wc w.heap.size (fun _ => True) (.slice Ao24 t278.length co24) t278) ∧ Aside0 (wc.heap[gb263]? = some (.cells #[(.slice A0_0 l0_0.length c0_0), (.slice A0_1 l0_1.length c0_1)] 25 (0, 0))) ∧ Aside0 (wc.heap[gb281]? = some (.cells #[(.slice Ao21 t275.length co21), (.slice Ao24 t278.length co24)] 31 (0, 0))) ∧ Aside0 (Below w.heap.size w wc))
   case first =>
    have H := HC12.out
    clear HC12
    replace H := Option.bind_eq_some_iff.mp H
    obtain ⟨t286, A260, H⟩ := H
    replace H : (if t286 = true then (laws_FnExactNetworkTree.j1 kj2 t271 t274 t282 t285 (t285 != t274) l0_0 l0_1 t275 t278) else (laws_FnExactNetworkTree.j1 kj2 t271 t274 t282 t285 true l0_0 l0_1 t275 t278)) = some r := H
    have A26 := Aside0.mk A260
    clear A260
    by_cases c27 : t286 = true
    ·subst c27
     have H1 : (laws_FnExactNetworkTree.j1 kj2 t271 t274 t282 t285 (t285 != t274) l0_0 l0_1 t275 t278) = some r := by rw [if_pos rfl] at H; exact H
     clear H
     have H := H1
     clear H1
     have H' := Aside0.mk H
     clear H
     obtain ⟨Ao28, co28, eo28⟩ := Kd.R_slice HO284.out
     subst eo28
     obtain ⟨Ao29, co29, eo29⟩ := Kd.R_slice HO273.out
     subst eo29
     go_wp2_with (first | ((with_reducible refine gate_callee (f := 18) rfl ?_); refine goesL_ (some 34) rfl rfl Try.func18 (by kernel_rfl) rfl #[.slice Ao28 t282.length co28, .slice Ao29 t271.length co29] rfl (by (try simp only [List.map_toArray, List.map_cons, List.map_nil]); first | done | rfl | (simp only [List.length_drop, List.length_take]; rfl)) ?_; (with_reducible refine (laws_eqInt64S_.calls _ _ t282 _ _ t271 true _ ?side1 ?side2 ?side3 ?side4 A26.out).mono ?_); (case side1 => repeat (first | exact (Kd.R_reads' HO284.out).2.2 | (with_reducible first|refine Kd.C_alloc ?_ _|refine Kd.C_drewN ?_ _|refine Kd.C_drew ?_))); (case side2 => exact (Kd.R_reads' HO284.out).2.1); (case side3 => repeat (first | exact (Kd.R_reads' HO273.out).2.2 | (with_reducible first|refine Kd.C_alloc ?_ _|refine Kd.C_drewN ?_ _|refine Kd.C_drew ?_))); (case side4 => exact (Kd.R_reads' HO273.out).2.1); rintro e w' ⟨rfl, ⟨nd, rfl⟩⟩; refine ⟨_, rfl, ?_⟩))
     go_meet
     case rel => exact ⟨_, ((t285 != t274)), (by first | rfl | (simp; done) | (simp [*]; done)), H', ⟨by have := HJ2.out; first | omega | exact Nat.le_refl _⟩, ⟨by (with_reducible repeat (first | apply rA|apply rN|apply rW)); exact Kd.R_mono HO273.out (fun _ hk => ⟨hk.2, hk.1.2⟩)⟩, ⟨by (with_reducible repeat (first | apply rA|apply rN|apply rW)); exact Kd.R_mono HO284.out (fun _ hk => ⟨hk.1.2, hk.2⟩)⟩, ⟨by (with_reducible repeat (first | apply rA|apply rN|apply rW)); exact Kd.R_mono HO277.out (fun _ hk => ⟨hk.1.2, hk.2⟩)⟩, ⟨by (with_reducible repeat (first | apply rA|apply rN|apply rW)); exact Kd.R_mono HO280.out (fun _ hk => trivial)⟩, ⟨by (with_reducible repeat (first | refine bN ?_ _|refine bW ?_|refine bA ?_ _)); exact BK263.out⟩, ⟨by (with_reducible repeat (first | refine bN ?_ _|refine bW ?_|refine bA ?_ _)); exact BK281.out⟩, ⟨by repeat (first | (with_reducible first | exact HB.out|apply wA|apply wN|apply wD |refine wS ?_ GE263.out |refine wS ?_ GE281.out) | exact HB.out)⟩⟩
    ·replace c27 := Bool.eq_false_iff.mpr c27
     subst c27
     have H1 : (laws_FnExactNetworkTree.j1 kj2 t271 t274 t282 t285 true l0_0 l0_1 t275 t278) = some r := by rw [if_neg (show ¬ (false = true) by decide)] at H; exact H
     clear H
     have H := H1
     clear H1
     have H' := Aside0.mk H
     clear H
     obtain ⟨Ao30, co30, eo30⟩ := Kd.R_slice HO284.out
     subst eo30
     obtain ⟨Ao31, co31, eo31⟩ := Kd.R_slice HO273.out
     subst eo31
     go_wp2_with (first | ((with_reducible refine gate_callee (f := 18) rfl ?_); refine goesL_ (some 34) rfl rfl Try.func18 (by kernel_rfl) rfl #[.slice Ao30 t282.length co30, .slice Ao31 t271.length co31] rfl (by (try simp only [List.map_toArray, List.map_cons, List.map_nil]); first | done | rfl | (simp only [List.length_drop, List.length_take]; rfl)) ?_; (with_reducible refine (laws_eqInt64S_.calls _ _ t282 _ _ t271 false _ ?side1 ?side2 ?side3 ?side4 A26.out).mono ?_); (case side1 => repeat (first | exact (Kd.R_reads' HO284.out).2.2 | (with_reducible first|refine Kd.C_alloc ?_ _|refine Kd.C_drewN ?_ _|refine Kd.C_drew ?_))); (case side2 => exact (Kd.R_reads' HO284.out).2.1); (case side3 => repeat (first | exact (Kd.R_reads' HO273.out).2.2 | (with_reducible first|refine Kd.C_alloc ?_ _|refine Kd.C_drewN ?_ _|refine Kd.C_drew ?_))); (case side4 => exact (Kd.R_reads' HO273.out).2.1); rintro e w' ⟨rfl, ⟨nd, rfl⟩⟩; refine ⟨_, rfl, ?_⟩))
     go_meet
     case rel => exact ⟨_, (true), (by first | rfl | (simp; done) | (simp [*]; done)), H', ⟨by have := HJ2.out; first | omega | exact Nat.le_refl _⟩, ⟨by (with_reducible repeat (first | apply rA|apply rN|apply rW)); exact Kd.R_mono HO273.out (fun _ hk => ⟨hk.2, hk.1.2⟩)⟩, ⟨by (with_reducible repeat (first | apply rA|apply rN|apply rW)); exact Kd.R_mono HO284.out (fun _ hk => ⟨hk.1.2, hk.2⟩)⟩, ⟨by (with_reducible repeat (first | apply rA|apply rN|apply rW)); exact Kd.R_mono HO277.out (fun _ hk => ⟨hk.1.2, hk.2⟩)⟩, ⟨by (with_reducible repeat (first | apply rA|apply rN|apply rW)); exact Kd.R_mono HO280.out (fun _ hk => trivial)⟩, ⟨by (with_reducible repeat (first | refine bN ?_ _|refine bW ?_|refine bA ?_ _)); exact BK263.out⟩, ⟨by (with_reducible repeat (first | refine bN ?_ _|refine bW ?_|refine bA ?_ _)); exact BK281.out⟩, ⟨by repeat (first | (with_reducible first | exact HB.out|apply wA|apply wN|apply wD |refine wS ?_ GE263.out |refine wS ?_ GE281.out) | exact HB.out)⟩⟩
   case rest =>
    clear HC12
    try clear c1
    try clear c2
    try clear p2
    try clear c5
    try clear c7
    try clear c7b0
    try clear c7b2
    try clear c14
    try clear c16
    try clear c18
    try clear c22
    try clear c25
    try clear c26
    try clear c27
    try clear hcz13_0
    try clear hcz13_1
    try clear hcz18_0
    try clear hcz18_1
    try clear hcz23_0
    try clear hcz23_1
    try clear hcz5_0
    try clear hcz5_1
    try clear hfz13_0
    try clear hfz13_1
    try clear hfz18_0
    try clear hfz18_1
    try clear hfz23_0
    try clear hfz23_1
    try clear hfz5_0
    try clear hfz5_1
    try clear p2
    obtain ⟨kq, x40_11, rfl, HA, HJ11, HO_4, HO_7, HO_282000, HO_282001, BK263, BK281, HB⟩ := hcut
    cases kq with
    | zero => exact absurd HA.out (by simp [laws_FnExactNetworkTree.j1])
    | succ kj11 =>
     have H := HA.out
     clear HA
     simp only [laws_FnExactNetworkTree.j1] at H
     have HC32 := Aside0.mk H
     clear H
     go_upto_if 40 with (fail)
     go_cut [] (fun wc => ∃ (kq : Nat), Aside0 (laws_FnExactNetworkTree.j2 kq t271 t274 t282 t285 l0_0 l0_1 t275 t278 = some r) ∧ Aside0 (kq ≤ kj11) ∧ Aside0 (Kd.R (Kd.int .i64) 2 wc w.heap.size (fun k_ => some k_ ≠ (v283 : Value).ownBlock ∧ some k_ ≠ ((.slice Ao21 t275.length co21) : Value).ownBlock) v272 t271) ∧ Aside0 (Kd.R (Kd.int .i64) 2 wc w.heap.size (fun k_ => some k_ ≠ (v272 : Value).ownBlock ∧ some k_ ≠ ((.slice Ao21 t275.length co21) : Value).ownBlock) v283 t282) ∧ Aside0 (Kd.R (Kd.int .i64) 2 wc w.heap.size (fun k_ => some k_ ≠ (v272 : Value).ownBlock ∧ some k_ ≠ (v283 : Value).ownBlock) (.slice Ao21 t275.length co21) t275) ∧ Aside0 (Kd.R k60 60 wc w.heap.size (fun _ => True) (.slice Ao24 t278.length co24) t278) ∧ Aside0 (wc.heap[gb263]? = some (.cells #[(.slice A0_0 l0_0.length c0_0), (.slice A0_1 l0_1.length c0_1)] 25 (0, 0))) ∧ Aside0 (wc.heap[gb281]? = some (.cells #[(.slice Ao21 t275.length co21), (.slice Ao24 t278.length co24)] 31 (0, 0))) ∧ Aside0 (Below w.heap.size w wc))
     case first =>
      have H := HC32.out
      clear HC32
      by_cases c33 : x40_11 = true
      ·subst c33
       have H1 : (some false) = some r := by rw [if_pos rfl] at H; exact H
       clear H
       have H := H1
       clear H1
       obtain rfl := Option.some.inj H
       go_wp2
       go_ret
       exact ⟨by first | rfl | (simp [errW_none, errW_some] <;> rfl) | (simp [*, errW_none, errW_some] <;> rfl), by repeat (first | (with_reducible first | exact HB.out|apply wA|apply wN|apply wD |refine wS ?_ GE263.out |refine wS ?_ GE281.out) | exact HB.out)⟩
      ·replace c33 := Bool.eq_false_iff.mpr c33
       subst c33
       have H1 : (laws_FnExactNetworkTree.j2 kj11 t271 t274 t282 t285 l0_0 l0_1 t275 t278) = some r := by rw [if_neg (show ¬ (false = true) by decide)] at H; exact H
       clear H
       have H := H1
       clear H1
       have H' := Aside0.mk H
       clear H
       go_wp2
       go_meet
       case rel => exact ⟨_, H', ⟨by have := HJ2.out; have := HJ11.out; first | omega | exact Nat.le_refl _⟩, ⟨by (with_reducible repeat (first | apply rA|apply rN|apply rW)); exact HO_4.out⟩, ⟨by (with_reducible repeat (first | apply rA|apply rN|apply rW)); exact HO_7.out⟩, ⟨by (with_reducible repeat (first | apply rA|apply rN|apply rW)); exact HO_282000.out⟩, ⟨by (with_reducible repeat (first | apply rA|apply rN|apply rW)); exact HO_282001.out⟩, ⟨by (with_reducible repeat (first | refine bN ?_ _|refine bW ?_|refine bA ?_ _)); exact BK263.out⟩, ⟨by (with_reducible repeat (first | refine bN ?_ _|refine bW ?_|refine bA ?_ _)); exact BK281.out⟩, ⟨by repeat (first | (with_reducible first | exact HB.out|apply wA|apply wN|apply wD |refine wS ?_ GE263.out |refine wS ?_ GE281.out) | exact HB.out)⟩⟩
     case rest =>
      clear HC32
      try clear c1
      try clear c2
      try clear p2
      try clear c3
      try clear c5
      try clear c7
      try clear c7b0
      try clear c7b2
      try clear c14
      try clear c16
      try clear c18
      try clear c22
      try clear c25
      try clear c26
      try clear c27
      try clear c33
      try clear hcz13_0
      try clear hcz13_1
      try clear hcz18_0
      try clear hcz18_1
      try clear hcz23_0
      try clear hcz23_1
      try clear hcz5_0
      try clear hcz5_1
      try clear hfz13_0
      try clear hfz13_1
      try clear hfz18_0
      try clear hfz18_1
      try clear hfz23_0
      try clear hfz23_1
      try clear hfz5_0
      try clear hfz5_1
      try clear p2
      obtain ⟨kq, HA, HJ31, HO_4, HO_7, HO_282000, HO_282001, BK263, BK281, HB⟩ := hcut
      cases kq with
      | zero => exact absurd HA.out (by simp [laws_FnExactNetworkTree.j2])
      | succ kj31 =>
       have H := HA.out
       clear HA
       simp only [laws_FnExactNetworkTree.j2] at H
       replace H := Option.bind_eq_some_iff.mp H
       obtain ⟨⟨t287, t290⟩, A340, H⟩ := H
       replace H : ((laws_eqNetwork.f t275 t278 t287 t290).bind fun t293 => (if t293 = true then (laws_FnExactNetworkTree.j3 kj31 t271 t274 t282 t285 l0_0 l0_1 t275 t278) else (some false))) = some r := H
       have A34 := Aside0.mk A340
       clear A340
       replace H := Option.bind_eq_some_iff.mp H
       obtain ⟨t293, A350, H⟩ := H
       replace H : (if t293 = true then (laws_FnExactNetworkTree.j3 kj31 t271 t274 t282 t285 l0_0 l0_1 t275 t278) else (some false)) = some r := H
       have A35 := Aside0.mk A350
       clear A350
       have HC36 := Aside0.mk H
       clear H
       try go_wp2
       have n0_ := Aside0.mk (Kd.R_drew HO_4.out)
       have n1_ := Aside0.mk (Kd.R_drew HO_7.out)
       have n2_ := Aside0.mk (Kd.R_drew HO_282000.out)
       have n3_ := Aside0.mk (Kd.R_drew HO_282001.out)
       have n4_ := Aside0.mk (blk_drew BK263.out)
       have n5_ := Aside0.mk (blk_drew BK281.out)
       have n6_ := Aside0.mk (below_drew1 HB.out)
       clear HO_4
       clear HO_7
       clear HO_282000
       clear HO_282001
       clear BK263
       clear BK281
       clear HB
       have HO_4 := n0_
       have HO_7 := n1_
       have HO_282000 := n2_
       have HO_282001 := n3_
       have BK263 := n4_
       have BK281 := n5_
       have HB := n6_
       clear n0_ n1_ n2_ n3_ n4_ n5_ n6_
       refine start_ (n := 5) (S := fun w' => w'.cell? ⟨gb281, 0, none⟩ = some (.slice Ao21 t275.length co21) ∧ w'.cell? ⟨gb281, 1, none⟩ = some (.slice Ao24 t278.length co24) ∧ w'.cell? ⟨gb263, 0, none⟩ = some (.slice A0_0 l0_0.length c0_0) ∧ w'.cell? ⟨gb263, 1, none⟩ = some (.slice A0_1 l0_1.length c0_1)) (ds := []) #[J,J,J,J,J] (by kernel_rfl) rfl rfl ⟨(blk_cell BK281.out 0).trans rfl, (blk_cell BK281.out 1).trans rfl, (blk_cell BK263.out 0).trans rfl, (blk_cell BK263.out 1).trans rfl⟩ (fun hHeld => ?_)
       generalize wc.drew = w37 at HO_4 HO_7 HO_282000 HO_282001 BK263 BK281 HB hHeld ⊢
       refine take_ (i := 0) (N := some 41) (v := ?_) (a' := ?_) #[Y,J,J,J,J] rfl rfl (by kernel_rfl) (fun _ _ _ h => h) (Or.inl ⟨by rfl, ?_⟩) hHeld ?_ ?_; rotate_left
       ·rintro w' ⟨s0, s1, s2, s3⟩; go_simp; with_reducible rfl
       rotate_left
       ·simp only [pU,pN,sB,sZ,sS,i64_w,i32_w]; rfl
       refine take_ (i := 1) (N := some 42) (v := ?_) (a' := ?_) #[Y,Y,J,J,J] rfl rfl (by kernel_rfl) (fun _ _ _ h => h) (Or.inl ⟨by rfl, ?_⟩) hHeld ?_ ?_; rotate_left
       ·rintro w' ⟨s0, s1, s2, s3⟩; go_simp; with_reducible rfl
       rotate_left
       ·simp only [pU,pN,sB,sZ,sS,i64_w,i32_w]; rfl
       refine one_ (i := 2) (N := some 43) #[Y,Y,Y,J,J] rfl rfl (by kernel_rfl) (by decide) (fun K hK => ?_)
       refine goes_ Try.func16 (by kernel_rfl) rfl #[.agg #[.slice A0_0 l0_0.length c0_0, .slice A0_1 l0_1.length c0_1]] (by rfl) rfl rfl (by (try simp only [List.map_toArray, List.map_cons, List.map_nil]); first | done | rfl | (simp only [List.length_drop, List.length_take]; rfl)) ?_
       with_reducible refine (laws_toNetwork.calls _ _ l0_0 _ _ l0_1 t287 t290 _ ?side1 ?side2 ?side3 ?side4 A34.out).mono ?_
       (case side1 => repeat (first | exact (Kd.C_below HR0_0.out HB.out) | (with_reducible first|refine Kd.C_alloc ?_ _|refine Kd.C_drewN ?_ _|refine Kd.C_drew ?_)))
       (case side2 => exact HC0_0.out)
       (case side3 => repeat (first | exact (Kd.C_below HR0_1.out HB.out) | (with_reducible first|refine Kd.C_alloc ?_ _|refine Kd.C_drewN ?_ _|refine Kd.C_drew ?_)))
       (case side4 => exact HC0_1.out)
       rintro e w38 ⟨v288, v291, rfl, ho0, ho1, hb⟩
       refine ⟨_, rfl, ?_⟩
       have n0_ := Aside0.mk (Kd.R_elder' (by (with_reducible repeat (first | apply rA|apply rN|apply rW)); exact HO_4.out) (Kd.R_base ho0) hb)
       have n1_ := Aside0.mk (Kd.R_elder' (by (with_reducible repeat (first | apply rA|apply rN|apply rW)); exact HO_7.out) (Kd.R_base ho0) hb)
       have n2_ := Aside0.mk (Kd.R_elder' (by (with_reducible repeat (first | apply rA|apply rN|apply rW)); exact HO_282000.out) (Kd.R_base ho0) hb)
       have n3_ := Aside0.mk (Kd.R_elder' (by (with_reducible repeat (first | apply rA|apply rN|apply rW)); exact HO_282001.out) (Kd.R_base ho1) hb)
       have n4_ := Aside0.mk (Kd.R_lower (Kd.R_new' (Kd.R_new' (Kd.R_new' ho0 (Kd.R_lt (by (with_reducible repeat (first | apply rA|apply rN|apply rW)); exact HO_4.out))) (Kd.R_lt (by (with_reducible repeat (first | apply rA|apply rN|apply rW)); exact HO_7.out))) (Kd.R_lt (by (with_reducible repeat (first | apply rA|apply rN|apply rW)); exact HO_282000.out))) (below_size (by repeat (first | (with_reducible first | exact HB.out|apply wA|apply wN|apply wD |refine wS ?_ GE263.out |refine wS ?_ GE281.out) | exact HB.out))))
       have n5_ := Aside0.mk (Kd.R_lower (Kd.R_new' ho1 (Kd.R_lt (by (with_reducible repeat (first | apply rA|apply rN|apply rW)); exact HO_282001.out))) (below_size (by repeat (first | (with_reducible first | exact HB.out|apply wA|apply wN|apply wD |refine wS ?_ GE263.out |refine wS ?_ GE281.out) | exact HB.out))))
       have n6_ := Aside0.mk (blk_below (g := gb263) (o := .cells #[.slice A0_0 l0_0.length c0_0, .slice A0_1 l0_1.length c0_1] 25 (0, 0)) (by (with_reducible repeat (first | refine bN ?_ _|refine bW ?_|refine bA ?_ _)); exact BK263.out) hb)
       have n7_ := Aside0.mk (blk_below (g := gb281) (o := .cells #[.slice Ao21 t275.length co21, .slice Ao24 t278.length co24] 31 (0, 0)) (by (with_reducible repeat (first | refine bN ?_ _|refine bW ?_|refine bA ?_ _)); exact BK281.out) hb)
       have n8_ := Aside0.mk (below_step (by repeat (first | (with_reducible first | exact HB.out|apply wA|apply wN|apply wD |refine wS ?_ GE263.out |refine wS ?_ GE281.out) | exact HB.out)) hb)
       clear HO_4
       clear HO_7
       clear HO_282000
       clear HO_282001
       clear BK263
       clear BK281
       clear HB
       have HO_4 := n0_
       have HO_7 := n1_
       have HO_282000 := n2_
       have HO_282001 := n3_
       have HO289 := n4_
       have HO292 := n5_
       have BK263 := n6_
       have BK281 := n7_
       have HB := n8_
       clear n0_ n1_ n2_ n3_ n4_ n5_ n6_ n7_ n8_
       (try clear hb)
       (try clear hb2)
       (try clear hk)
       (try clear hi)
       (try clear ho0)
       (try clear ho1)
       obtain ⟨Ao39, co39, eo39⟩ := Kd.R_slice HO289.out
       (first | subst eo39 | (injection eo39 with f1_ f2_ f3_; have f4_ := f1_.symm; have f5_ := f3_.symm; clear f1_ f2_ f3_; subst f4_; subst f5_))
       obtain ⟨Ao40, co40, eo40⟩ := Kd.R_slice HO292.out
       (first | subst eo40 | (injection eo40 with f1_ f2_ f3_; have f4_ := f1_.symm; have f5_ := f3_.symm; clear f1_ f2_ f3_; subst f4_; subst f5_))
       refine hK.out _ _ ⟨(blk_cell BK281.out 0).trans rfl, (blk_cell BK281.out 1).trans rfl, (blk_cell BK263.out 0).trans rfl, (blk_cell BK263.out 1).trans rfl⟩ (fun hHeld => ?_)
       clear hK K
       refine norm_ (a' := ?_) ?_ ?_
       rotate_left
       ·show Act.put _ (some 43) _ = _
        simp only [pU,pN,sB,sZ,sS,i64_w,i32_w]
        rfl
       refine one_ (i := 3) (N := some 44) #[Y,Y,Y,Y,J] rfl rfl (by kernel_rfl) (by decide) (fun K hK => ?_)
       refine goes_ Try.func19 (by kernel_rfl) rfl #[.agg #[.slice Ao21 t275.length co21, .slice Ao24 t278.length co24], .agg #[.slice Ao39 t287.length co39, .slice Ao40 t290.length co40]] (by rfl) rfl rfl (by (try simp only [List.map_toArray, List.map_cons, List.map_nil]); first | done | rfl | (simp only [List.length_drop, List.length_take]; rfl)) ?_
       with_reducible refine (laws_eqNetwork.calls _ _ t275 _ _ t278 _ _ t287 _ _ t290 t293 _ ?side1 ?side2 ?side3 ?side4 ?side5 ?side6 ?side7 ?side8 A35.out).mono ?_
       (case side1 => repeat (first | exact (Kd.R_reads' HO_282000.out).2.2 | (with_reducible first|refine Kd.C_alloc ?_ _|refine Kd.C_drewN ?_ _|refine Kd.C_drew ?_)))
       (case side2 => exact (Kd.R_reads' HO_282000.out).2.1)
       (case side3 => repeat (first | exact (Kd.R_reads' HO_282001.out).2.2 | (with_reducible first|refine Kd.C_alloc ?_ _|refine Kd.C_drewN ?_ _|refine Kd.C_drew ?_)))
       (case side4 => exact (Kd.R_reads' HO_282001.out).2.1)
       (case side5 => repeat (first | exact (Kd.R_reads' HO289.out).2.2 | (with_reducible first|refine Kd.C_alloc ?_ _|refine Kd.C_drewN ?_ _|refine Kd.C_drew ?_)))
       (case side6 => exact (Kd.R_reads' HO289.out).2.1)
       (case side7 => repeat (first | exact (Kd.R_reads' HO292.out).2.2 | (with_reducible first|refine Kd.C_alloc ?_ _|refine Kd.C_drewN ?_ _|refine Kd.C_drew ?_)))
       (case side8 => exact (Kd.R_reads' HO292.out).2.1)
       rintro e w41 ⟨rfl, hb⟩
       refine ⟨_, rfl, ?_⟩
       have n0_ := Aside0.mk (Kd.R_below (by (with_reducible repeat (first | apply rA|apply rN|apply rW)); exact HO_4.out) hb)
       have n1_ := Aside0.mk (Kd.R_below (by (with_reducible repeat (first | apply rA|apply rN|apply rW)); exact HO_7.out) hb)
       have n2_ := Aside0.mk (Kd.R_below (by (with_reducible repeat (first | apply rA|apply rN|apply rW)); exact HO_282000.out) hb)
       have n3_ := Aside0.mk (Kd.R_below (by (with_reducible repeat (first | apply rA|apply rN|apply rW)); exact HO_282001.out) hb)
       have n4_ := Aside0.mk (Kd.R_below (by (with_reducible repeat (first | apply rA|apply rN|apply rW)); exact HO289.out) hb)
       have n5_ := Aside0.mk (Kd.R_below (by (with_reducible repeat (first | apply rA|apply rN|apply rW)); exact HO292.out) hb)
       have n6_ := Aside0.mk (blk_below (g := gb263) (o := .cells #[.slice A0_0 l0_0.length c0_0, .slice A0_1 l0_1.length c0_1] 25 (0, 0)) (by (with_reducible repeat (first | refine bN ?_ _|refine bW ?_|refine bA ?_ _)); exact BK263.out) hb)
       have n7_ := Aside0.mk (blk_below (g := gb281) (o := .cells #[.slice Ao21 t275.length co21, .slice Ao24 t278.length co24] 31 (0, 0)) (by (with_reducible repeat (first | refine bN ?_ _|refine bW ?_|refine bA ?_ _)); exact BK281.out) hb)
       have n8_ := Aside0.mk (below_step (by repeat (first | (with_reducible first | exact HB.out|apply wA|apply wN|apply wD |refine wS ?_ GE263.out |refine wS ?_ GE281.out) | exact HB.out)) hb)
       clear HO_4
       clear HO_7
       clear HO_282000
       clear HO_282001
       clear HO289
       clear HO292
       clear BK263
       clear BK281
       clear HB
       have HO_4 := n0_
       have HO_7 := n1_
       have HO_282000 := n2_
       have HO_282001 := n3_
       have HO289 := n4_
       have HO292 := n5_
       have BK263 := n6_
       have BK281 := n7_
       have HB := n8_
       clear n0_ n1_ n2_ n3_ n4_ n5_ n6_ n7_ n8_
       (try clear hb)
       (try clear hb2)
       (try clear hk)
       (try clear hi)
       refine hK.out _ _ ⟨(blk_cell BK281.out 0).trans rfl, (blk_cell BK281.out 1).trans rfl, (blk_cell BK263.out 0).trans rfl, (blk_cell BK263.out 1).trans rfl⟩ (fun hHeld => ?_)
       clear hK K
       refine norm_ (a' := ?_) ?_ ?_
       rotate_left
       ·show Act.put _ (some 44) _ = _
        simp only [pU,pN,sB,sZ,sS,i64_w,i32_w]
        rfl
       refine pure_ (i := 4) (N := some 45) (v := ?_) (a' := ?_) #[Y,Y,Y,Y,Y] rfl rfl (by kernel_rfl) (fun _ _ _ h => h) (Or.inl ⟨by rfl, ?_⟩) ?_ ?_; rotate_left
       ·intro w'; go_simp; with_reducible rfl
       rotate_left
       ·simp only [pU,pN,sB,sZ,sS,i64_w,i32_w]; rfl
       refine done_ (by kernel_rfl) ?_
       go_upto_if 45 with (fail)
       go_cut [] (fun wc => ∃ (kq : Nat), Aside0 (laws_FnExactNetworkTree.j3 kq t271 t274 t282 t285 l0_0 l0_1 t275 t278 = some r) ∧ Aside0 (kq ≤ kj31) ∧ Aside0 (Kd.R (Kd.int .i64) 2 wc w.heap.size (fun k_ => some k_ ≠ (v283 : Value).ownBlock ∧ some k_ ≠ ((.slice Ao21 t275.length co21) : Value).ownBlock) v272 t271) ∧ Aside0 (Kd.R (Kd.int .i64) 2 wc w.heap.size (fun k_ => some k_ ≠ (v272 : Value).ownBlock ∧ some k_ ≠ ((.slice Ao21 t275.length co21) : Value).ownBlock) v283 t282) ∧ Aside0 (Kd.R (Kd.int .i64) 2 wc w.heap.size (fun k_ => some k_ ≠ (v272 : Value).ownBlock ∧ some k_ ≠ (v283 : Value).ownBlock) (.slice Ao21 t275.length co21) t275) ∧ Aside0 (Kd.R k60 60 wc w.heap.size (fun _ => True) (.slice Ao24 t278.length co24) t278) ∧ Aside0 (wc.heap[gb263]? = some (.cells #[(.slice A0_0 l0_0.length c0_0), (.slice A0_1 l0_1.length c0_1)] 25 (0, 0))) ∧ Aside0 (wc.heap[gb281]? = some (.cells #[(.slice Ao21 t275.length co21), (.slice Ao24 t278.length co24)] 31 (0, 0))) ∧ Aside0 (Below w.heap.size w wc))
       case first =>
        have H := HC36.out
        clear HC36
        by_cases c42 : t293 = true
        ·subst c42
         have H1 : (laws_FnExactNetworkTree.j3 kj31 t271 t274 t282 t285 l0_0 l0_1 t275 t278) = some r := by rw [if_pos rfl] at H; exact H
         clear H
         have H := H1
         clear H1
         have H' := Aside0.mk H
         clear H
         go_wp2
         go_meet
         case rel => exact ⟨_, H', ⟨by have := HJ2.out; have := HJ11.out; have := HJ31.out; first | omega | exact Nat.le_refl _⟩, ⟨by (with_reducible repeat (first | apply rA|apply rN|apply rW)); exact Kd.R_mono HO_4.out (fun _ hk => ⟨hk.1.1, hk.1.2⟩)⟩, ⟨by (with_reducible repeat (first | apply rA|apply rN|apply rW)); exact Kd.R_mono HO_7.out (fun _ hk => ⟨hk.1.1, hk.1.2⟩)⟩, ⟨by (with_reducible repeat (first | apply rA|apply rN|apply rW)); exact Kd.R_mono HO_282000.out (fun _ hk => ⟨hk.1.1, hk.1.2⟩)⟩, ⟨by (with_reducible repeat (first | apply rA|apply rN|apply rW)); exact Kd.R_mono HO_282001.out (fun _ hk => trivial)⟩, ⟨by (with_reducible repeat (first | refine bN ?_ _|refine bW ?_|refine bA ?_ _)); exact BK263.out⟩, ⟨by (with_reducible repeat (first | refine bN ?_ _|refine bW ?_|refine bA ?_ _)); exact BK281.out⟩, ⟨by repeat (first | (with_reducible first | exact HB.out|apply wA|apply wN|apply wD |refine wS ?_ GE263.out |refine wS ?_ GE281.out) | exact HB.out)⟩⟩
        ·replace c42 := Bool.eq_false_iff.mpr c42
         subst c42
         have H1 : (some false) = some r := by rw [if_neg (show ¬ (false = true) by decide)] at H; exact H
         clear H
         have H := H1
         clear H1
         obtain rfl := Option.some.inj H
         go_wp2
         go_ret
         exact ⟨by first | rfl | (simp [errW_none, errW_some] <;> rfl) | (simp [*, errW_none, errW_some] <;> rfl), by repeat (first | (with_reducible first | exact HB.out|apply wA|apply wN|apply wD |refine wS ?_ GE263.out |refine wS ?_ GE281.out) | exact HB.out)⟩
       case rest =>
        clear HC36
        try clear c1
        try clear c2
        try clear p2
        try clear c3
        try clear c4
        try clear c5
        try clear c7
        try clear c7b0
        try clear c7b2
        try clear c14
        try clear c16
        try clear c18
        try clear c19
        try clear c22
        try clear c25
        try clear c26
        try clear c27
        try clear c33
        try clear c42
        try clear hcz13_0
        try clear hcz13_1
        try clear hcz18_0
        try clear hcz18_1
        try clear hcz23_0
        try clear hcz23_1
        try clear hcz5_0
        try clear hcz5_1
        try clear hfz13_0
        try clear hfz13_1
        try clear hfz18_0
        try clear hfz18_1
        try clear hfz23_0
        try clear hfz23_1
        try clear hfz5_0
        try clear hfz5_1
        try clear p2
        obtain ⟨kq, HA, HJ35, HO_4, HO_7, HO_282000, HO_282001, BK263, BK281, HB⟩ := hcut
        cases kq with
        | zero => exact absurd HA.out (by simp [laws_FnExactNetworkTree.j3])
        | succ kj35 =>
         have H := HA.out
         clear HA
         simp only [laws_FnExactNetworkTree.j3] at H
         replace H := Option.bind_eq_some_iff.mp H
         obtain ⟨⟨t294, t295, t296⟩, A430, H⟩ := H
         replace H : (if t294 < 0 then (laws_FnExactNetworkTree.j4 kj35 t271 t274 t282 true l0_0 l0_1) else ((laws_eqInt64S_.f t282 t271).bind fun t297 => (if t297 = true then (laws_FnExactNetworkTree.j4 kj35 t271 t274 t282 (t285 != t274) l0_0 l0_1) else (laws_FnExactNetworkTree.j4 kj35 t271 t274 t282 true l0_0 l0_1)))) = some r := H
         have A43 := Aside0.mk A430
         clear A430
         have HC44 := Aside0.mk H
         clear H
         have hnb45 := NB281_263.out
         have hnc45 := NB263_281.out
         have hcz46_0 : wc.cell? ⟨gb281, 0, none⟩ = some (.slice Ao21 t275.length co21) := (blk_cell BK281.out 0).trans rfl
         have hcz46_1 : wc.cell? ⟨gb281, 1, none⟩ = some (.slice Ao24 t278.length co24) := (blk_cell BK281.out 1).trans rfl
         have hfz46_0 := blk_frozen BK281.out 0
         have hfz46_1 := blk_frozen BK281.out 1
         go_upto_region 14 with (first | ((with_reducible refine gate_callee (f := 20) rfl ?_); refine goesL_ (some 48) rfl rfl Try.func20 (by kernel_rfl) rfl #[.agg #[.slice Ao21 t275.length co21, .slice Ao24 t278.length co24], .int .i64 1] rfl (by (try simp only [List.map_toArray, List.map_cons, List.map_nil]); first | done | rfl | (simp only [List.length_drop, List.length_take]; rfl)) ?_; (with_reducible refine (laws_markNetwork.calls (fun k_ => some k_ = (.slice Ao21 t275.length co21 : Value).ownBlock) (.slice Ao21 t275.length co21) t275 (fun k_ => some k_ = (.slice Ao24 t278.length co24 : Value).ownBlock) (.slice Ao24 t278.length co24) t278 1 t294 t295 t296 w _ ?side1 ?side2 ?side3 A43.out).mono ?_); (case side1 => repeat (first | (with_reducible first | exact HB.out|apply wA|apply wN|apply wD |refine wS ?_ GE263.out |refine wS ?_ GE281.out) | exact HB.out)); (case side2 => exact Kd.R_tight rfl HO_282000.out); (case side3 => exact Kd.R_tight rfl HO_282001.out); rintro e w47 ⟨rfl, hy0, hy1, hb, hkp⟩; refine ⟨_, rfl, ?_⟩; have n0_ := Aside0.mk (Kd.R_mono (ok' := fun k_ => some k_ ≠ (v283 : Value).ownBlock ∧ some k_ ≠ (.slice Ao21 t275.length co21 : Value).ownBlock) (Kd.R_keptB ((Kd.R_apart' HO_4.out (Kd.R_typed HO_282001.out) (by decide))) hkp (fun k_ hk_ hs_ => Or.elim hs_ (fun e_ => (hk_.1.2) e_) (fun e_ => (hk_.2) e_))) (fun k_ hk_ => ⟨hk_.1.1.1, hk_.1.1.2⟩)); have n1_ := Aside0.mk (Kd.R_mono (ok' := fun k_ => some k_ ≠ (v272 : Value).ownBlock ∧ some k_ ≠ (.slice Ao21 t275.length co21 : Value).ownBlock) (Kd.R_keptB ((Kd.R_apart' HO_7.out (Kd.R_typed HO_282001.out) (by decide))) hkp (fun k_ hk_ hs_ => Or.elim hs_ (fun e_ => (hk_.1.2) e_) (fun e_ => (hk_.2) e_))) (fun k_ hk_ => ⟨hk_.1.1.1, hk_.1.1.2⟩)); have n2_ := Aside0.mk (Kd.R_reok rfl hy0 (fun k_ e_ => HO_282000.out.1 k_ e_)); have n3_ := Aside0.mk (Kd.R_reok rfl hy1 (fun k_ e_ => HO_282001.out.1 k_ e_)); have n4_ := Aside0.mk (blk_kept (by (with_reducible repeat (first | refine bN ?_ _|refine bW ?_|refine bA ?_ _)); exact BK263.out) hkp (fun hs_ => Or.elim hs_ (fun e_ => (fun e_ => (Kd.R_ne HO_282000.out BK263.out (by decide)) e_) e_) (fun e_ => (fun e_ => (Kd.R_ne HO_282001.out BK263.out (by decide)) e_) e_))); have n5_ := Aside0.mk (blk_kept (by (with_reducible repeat (first | refine bN ?_ _|refine bW ?_|refine bA ?_ _)); exact BK281.out) hkp (fun hs_ => Or.elim hs_ (fun e_ => (fun e_ => (Kd.R_ne HO_282000.out BK281.out (by decide)) e_) e_) (fun e_ => (fun e_ => (Kd.R_ne HO_282001.out BK281.out (by decide)) e_) e_))); have n6_ := Aside0.mk (hb); clear HO_4; clear HO_7; clear HO_282000; clear HO_282001; clear BK263; clear BK281; clear HB; have HO_4 := n0_; have HO_7 := n1_; have HO_282000 := n2_; have HO_282001 := n3_; have BK263 := n4_; have BK281 := n5_; have HB := n6_; clear n0_ n1_ n2_ n3_ n4_ n5_ n6_; (try clear hb); (try clear hkp); (try clear hy0); (try clear hy1)))
         (try simp only [Act.put, List.setIfInBounds_toArray, List.set_cons_zero, List.set_cons_succ])
         go_cut [61] (fun v61 wc => ∃ (kq : Nat) (x61_43 : Bool), v61 = .bool x61_43 ∧ Aside0 (laws_FnExactNetworkTree.j4 kq t271 t274 t282 x61_43 l0_0 l0_1 = some r) ∧ Aside0 (kq ≤ kj35) ∧ Aside0 (Kd.R (Kd.int .i64) 2 wc w.heap.size (fun k_ => some k_ ≠ (v283 : Value).ownBlock ∧ some k_ ≠ ((.slice Ao21 t275.length co21) : Value).ownBlock) v272 t271) ∧ Aside0 (Kd.R (Kd.int .i64) 2 wc w.heap.size (fun k_ => some k_ ≠ (v272 : Value).ownBlock ∧ some k_ ≠ ((.slice Ao21 t275.length co21) : Value).ownBlock) v283 t282) ∧ Aside0 (Kd.R (Kd.int .i64) 2 wc w.heap.size (fun k_ => some k_ ≠ (v272 : Value).ownBlock ∧ some k_ ≠ (v283 : Value).ownBlock) (.slice Ao21 t275.length co21) t295) ∧ Aside0 (Kd.R k60 60 wc w.heap.size (fun _ => True) (.slice Ao24 t278.length co24) t296) ∧ Aside0 (wc.heap[gb263]? = some (.cells #[(.slice A0_0 l0_0.length c0_0), (.slice A0_1 l0_1.length c0_1)] 25 (0, 0))) ∧ Aside0 (wc.heap[gb281]? = some (.cells #[(.slice Ao21 t275.length co21), (.slice Ao24 t278.length co24)] 31 (0, 0))) ∧ Aside0 (Below w.heap.size w wc))
         case first =>
          have H := HC44.out
          clear HC44
          by_cases c48 : t294 < 0
          ·rw [if_pos c48] at H
           have c48b0 : decide (t294 < 0) = true := decide_eq_true c48
           clear c48
           (first | rw [c48b0] | (simp only [i64_w, i32_w]; rw [c48b0]) | rw [c48b2] | skip)
           have H' := Aside0.mk H
           clear H
           go_wp2
           go_meet
           case rel => exact ⟨_, (true), (by first | rfl | (simp; done) | (simp [*]; done)), H', ⟨by have := HJ2.out; have := HJ11.out; have := HJ31.out; have := HJ35.out; first | omega | exact Nat.le_refl _⟩, ⟨by (with_reducible repeat (first | apply rA|apply rN|apply rW)); exact HO_4.out⟩, ⟨by (with_reducible repeat (first | apply rA|apply rN|apply rW)); exact HO_7.out⟩, ⟨by (with_reducible repeat (first | apply rA|apply rN|apply rW)); exact HO_282000.out⟩, ⟨by (with_reducible repeat (first | apply rA|apply rN|apply rW)); exact HO_282001.out⟩, ⟨by (with_reducible repeat (first | refine bN ?_ _|refine bW ?_|refine bA ?_ _)); exact BK263.out⟩, ⟨by (with_reducible repeat (first | refine bN ?_ _|refine bW ?_|refine bA ?_ _)); exact BK281.out⟩, ⟨by repeat (first | (with_reducible first | exact HB.out|apply wA|apply wN|apply wD |refine wS ?_ GE263.out |refine wS ?_ GE281.out) | exact HB.out)⟩⟩
          ·rw [if_neg c48] at H
           have c48b0 : decide (t294 < 0) = false := decide_eq_false c48
           clear c48
           (first | rw [c48b0] | (simp only [i64_w, i32_w]; rw [c48b0]) | rw [c48b2] | skip)
           replace H := Option.bind_eq_some_iff.mp H
           obtain ⟨t297, A490, H⟩ := H
           replace H : (if t297 = true then (laws_FnExactNetworkTree.j4 kj35 t271 t274 t282 (t285 != t274) l0_0 l0_1) else (laws_FnExactNetworkTree.j4 kj35 t271 t274 t282 true l0_0 l0_1)) = some r := H
           have A49 := Aside0.mk A490
           clear A490
           by_cases c50 : t297 = true
           ·subst c50
            have H1 : (laws_FnExactNetworkTree.j4 kj35 t271 t274 t282 (t285 != t274) l0_0 l0_1) = some r := by rw [if_pos rfl] at H; exact H
            clear H
            have H := H1
            clear H1
            have H' := Aside0.mk H
            clear H
            obtain ⟨Ao51, co51, eo51⟩ := Kd.R_slice HO_7.out
            subst eo51
            obtain ⟨Ao52, co52, eo52⟩ := Kd.R_slice HO_4.out
            subst eo52
            go_wp2_with (first | (go_at_call 18; (with_reducible refine (laws_eqInt64S_.calls _ _ t282 _ _ t271 true _ ?side1 ?side2 ?side3 ?side4 A49.out).mono ?_); (case side1 => repeat (first | exact (Kd.R_reads' HO_7.out).2.2 | (with_reducible first|refine Kd.C_alloc ?_ _|refine Kd.C_drewN ?_ _|refine Kd.C_drew ?_))); (case side2 => exact (Kd.R_reads' HO_7.out).2.1); (case side3 => repeat (first | exact (Kd.R_reads' HO_4.out).2.2 | (with_reducible first|refine Kd.C_alloc ?_ _|refine Kd.C_drewN ?_ _|refine Kd.C_drew ?_))); (case side4 => exact (Kd.R_reads' HO_4.out).2.1); rintro e w' ⟨rfl, ⟨nd, rfl⟩⟩))
            go_meet
            case rel => exact ⟨_, ((t285 != t274)), (by first | rfl | (simp; done) | (simp [*]; done)), H', ⟨by have := HJ2.out; have := HJ11.out; have := HJ31.out; have := HJ35.out; first | omega | exact Nat.le_refl _⟩, ⟨by (with_reducible repeat (first | apply rA|apply rN|apply rW)); exact HO_4.out⟩, ⟨by (with_reducible repeat (first | apply rA|apply rN|apply rW)); exact HO_7.out⟩, ⟨by (with_reducible repeat (first | apply rA|apply rN|apply rW)); exact HO_282000.out⟩, ⟨by (with_reducible repeat (first | apply rA|apply rN|apply rW)); exact HO_282001.out⟩, ⟨by (with_reducible repeat (first | refine bN ?_ _|refine bW ?_|refine bA ?_ _)); exact BK263.out⟩, ⟨by (with_reducible repeat (first | refine bN ?_ _|refine bW ?_|refine bA ?_ _)); exact BK281.out⟩, ⟨by repeat (first | (with_reducible first | exact HB.out|apply wA|apply wN|apply wD |refine wS ?_ GE263.out |refine wS ?_ GE281.out) | exact HB.out)⟩⟩
           ·replace c50 := Bool.eq_false_iff.mpr c50
            subst c50
            have H1 : (laws_FnExactNetworkTree.j4 kj35 t271 t274 t282 true l0_0 l0_1) = some r := by rw [if_neg (show ¬ (false = true) by decide)] at H; exact H
            clear H
            have H := H1
            clear H1
            have H' := Aside0.mk H
            clear H
            obtain ⟨Ao53, co53, eo53⟩ := Kd.R_slice HO_7.out
            subst eo53
            obtain ⟨Ao54, co54, eo54⟩ := Kd.R_slice HO_4.out
            subst eo54
            go_wp2_with (first | (go_at_call 18; (with_reducible refine (laws_eqInt64S_.calls _ _ t282 _ _ t271 false _ ?side1 ?side2 ?side3 ?side4 A49.out).mono ?_); (case side1 => repeat (first | exact (Kd.R_reads' HO_7.out).2.2 | (with_reducible first|refine Kd.C_alloc ?_ _|refine Kd.C_drewN ?_ _|refine Kd.C_drew ?_))); (case side2 => exact (Kd.R_reads' HO_7.out).2.1); (case side3 => repeat (first | exact (Kd.R_reads' HO_4.out).2.2 | (with_reducible first|refine Kd.C_alloc ?_ _|refine Kd.C_drewN ?_ _|refine Kd.C_drew ?_))); (case side4 => exact (Kd.R_reads' HO_4.out).2.1); rintro e w' ⟨rfl, ⟨nd, rfl⟩⟩))
            go_meet
            case rel => exact ⟨_, (true), (by first | rfl | (simp; done) | (simp [*]; done)), H', ⟨by have := HJ2.out; have := HJ11.out; have := HJ31.out; have := HJ35.out; first | omega | exact Nat.le_refl _⟩, ⟨by (with_reducible repeat (first | apply rA|apply rN|apply rW)); exact HO_4.out⟩, ⟨by (with_reducible repeat (first | apply rA|apply rN|apply rW)); exact HO_7.out⟩, ⟨by (with_reducible repeat (first | apply rA|apply rN|apply rW)); exact HO_282000.out⟩, ⟨by (with_reducible repeat (first | apply rA|apply rN|apply rW)); exact HO_282001.out⟩, ⟨by (with_reducible repeat (first | refine bN ?_ _|refine bW ?_|refine bA ?_ _)); exact BK263.out⟩, ⟨by (with_reducible repeat (first | refine bN ?_ _|refine bW ?_|refine bA ?_ _)); exact BK281.out⟩, ⟨by repeat (first | (with_reducible first | exact HB.out|apply wA|apply wN|apply wD |refine wS ?_ GE263.out |refine wS ?_ GE281.out) | exact HB.out)⟩⟩
         case rest =>
          clear HC44
          try clear c1
          try clear c2
          try clear p2
          try clear c3
          try clear c4
          try clear c5
          try clear c7
          try clear c7b0
          try clear c7b2
          try clear c14
          try clear c16
          try clear c18
          try clear c19
          try clear c20
          try clear c22
          try clear c25
          try clear c26
          try clear c27
          try clear c33
          try clear c42
          try clear c45
          try clear c48
          try clear c48b0
          try clear c48b2
          try clear c50
          try clear hcz13_0
          try clear hcz13_1
          try clear hcz18_0
          try clear hcz18_1
          try clear hcz23_0
          try clear hcz23_1
          try clear hcz46_0
          try clear hcz46_1
          try clear hcz5_0
          try clear hcz5_1
          try clear hfz13_0
          try clear hfz13_1
          try clear hfz18_0
          try clear hfz18_1
          try clear hfz23_0
          try clear hfz23_1
          try clear hfz46_0
          try clear hfz46_1
          try clear hfz5_0
          try clear hfz5_1
          try clear p2
          obtain ⟨kq, x61_43, rfl, HA, HJ43, HO_4, HO_7, HO_282000, HO_282001, BK263, BK281, HB⟩ := hcut
          have hl282000_43 := (Kd.R_reads' HO_282000.out).1
          rw [hl282000_43] at HO_282000
          (try simp only [hl282000_43])
          (try simp only [hl282000_43] at BK263)
          (try simp only [hl282000_43] at BK281)
          (try simp only [hl282000_43] at HO_4)
          (try simp only [hl282000_43] at HO_7)
          (try simp only [hl282000_43] at HO_282001)
          have hl282001_43 := (Kd.R_reads' HO_282001.out).1
          rw [hl282001_43] at HO_282001
          (try simp only [hl282001_43])
          (try simp only [hl282001_43] at BK263)
          (try simp only [hl282001_43] at BK281)
          (try simp only [hl282001_43] at HO_4)
          (try simp only [hl282001_43] at HO_7)
          (try simp only [hl282001_43] at HO_282000)
          cases kq with
          | zero => exact absurd HA.out (by simp [laws_FnExactNetworkTree.j4])
          | succ kj43 =>
           have H := HA.out
           clear HA
           simp only [laws_FnExactNetworkTree.j4] at H
           have HC55 := Aside0.mk H
           clear H
           go_upto_if 61 with (fail)
           go_cut [] (fun wc => ∃ (kq : Nat), Aside0 (laws_FnExactNetworkTree.j5 kq t271 t274 t282 l0_0 l0_1 = some r) ∧ Aside0 (kq ≤ kj43) ∧ Aside0 (Kd.R (Kd.int .i64) 2 wc w.heap.size (fun k_ => some k_ ≠ (v283 : Value).ownBlock ∧ some k_ ≠ ((.slice Ao21 t295.length co21) : Value).ownBlock) v272 t271) ∧ Aside0 (Kd.R (Kd.int .i64) 2 wc w.heap.size (fun k_ => some k_ ≠ (v272 : Value).ownBlock ∧ some k_ ≠ ((.slice Ao21 t295.length co21) : Value).ownBlock) v283 t282) ∧ Aside0 (Kd.R (Kd.int .i64) 2 wc w.heap.size (fun k_ => some k_ ≠ (v272 : Value).ownBlock ∧ some k_ ≠ (v283 : Value).ownBlock) (.slice Ao21 t295.length co21) t295) ∧ Aside0 (Kd.R k60 60 wc w.heap.size (fun _ => True) (.slice Ao24 t296.length co24) t296) ∧ Aside0 (wc.heap[gb263]? = some (.cells #[(.slice A0_0 l0_0.length c0_0), (.slice A0_1 l0_1.length c0_1)] 25 (0, 0))) ∧ Aside0 (wc.heap[gb281]? = some (.cells #[(.slice Ao21 t295.length co21), (.slice Ao24 t296.length co24)] 31 (0, 0))) ∧ Aside0 (Below w.heap.size w wc))
           case first =>
            have H := HC55.out
            clear HC55
            by_cases c56 : x61_43 = true
            ·subst c56
             have H1 : (some false) = some r := by rw [if_pos rfl] at H; exact H
             clear H
             have H := H1
             clear H1
             obtain rfl := Option.some.inj H
             go_wp2
             go_ret
             exact ⟨by first | rfl | (simp [errW_none, errW_some] <;> rfl) | (simp [*, errW_none, errW_some] <;> rfl), by repeat (first | (with_reducible first | exact HB.out|apply wA|apply wN|apply wD |refine wS ?_ GE263.out |refine wS ?_ GE281.out) | exact HB.out)⟩
            ·replace c56 := Bool.eq_false_iff.mpr c56
             subst c56
             have H1 : (laws_FnExactNetworkTree.j5 kj43 t271 t274 t282 l0_0 l0_1) = some r := by rw [if_neg (show ¬ (false = true) by decide)] at H; exact H
             clear H
             have H := H1
             clear H1
             have H' := Aside0.mk H
             clear H
             go_wp2
             go_meet
             case rel => exact ⟨_, H', ⟨by have := HJ2.out; have := HJ11.out; have := HJ31.out; have := HJ35.out; have := HJ43.out; first | omega | exact Nat.le_refl _⟩, ⟨by (try simp only [hl282000_43]); (try simp only [hl282001_43]); (with_reducible repeat (first | apply rA|apply rN|apply rW)); exact HO_4.out⟩, ⟨by (try simp only [hl282000_43]); (try simp only [hl282001_43]); (with_reducible repeat (first | apply rA|apply rN|apply rW)); exact HO_7.out⟩, ⟨by (try simp only [hl282000_43]); (try simp only [hl282001_43]); (with_reducible repeat (first | apply rA|apply rN|apply rW)); exact HO_282000.out⟩, ⟨by (try simp only [hl282000_43]); (try simp only [hl282001_43]); (with_reducible repeat (first | apply rA|apply rN|apply rW)); exact HO_282001.out⟩, ⟨by (try simp only [hl282000_43]); (try simp only [hl282001_43]); (with_reducible repeat (first | refine bN ?_ _|refine bW ?_|refine bA ?_ _)); exact BK263.out⟩, ⟨by (try simp only [hl282000_43]); (try simp only [hl282001_43]); (with_reducible repeat (first | refine bN ?_ _|refine bW ?_|refine bA ?_ _)); exact BK281.out⟩, ⟨by repeat (first | (with_reducible first | exact HB.out|apply wA|apply wN|apply wD |refine wS ?_ GE263.out |refine wS ?_ GE281.out) | exact HB.out)⟩⟩
           case rest =>
            clear HC55
            try clear c1
            try clear c2
            try clear p2
            try clear c3
            try clear c4
            try clear c5
            try clear c7
            try clear c7b0
            try clear c7b2
            try clear c14
            try clear c16
            try clear c18
            try clear c19
            try clear c20
            try clear c22
            try clear c25
            try clear c26
            try clear c27
            try clear c33
            try clear c42
            try clear c45
            try clear c48
            try clear c48b0
            try clear c48b2
            try clear c50
            try clear c56
            try clear hcz13_0
            try clear hcz13_1
            try clear hcz18_0
            try clear hcz18_1
            try clear hcz23_0
            try clear hcz23_1
            try clear hcz46_0
            try clear hcz46_1
            try clear hcz5_0
            try clear hcz5_1
            try clear hfz13_0
            try clear hfz13_1
            try clear hfz18_0
            try clear hfz18_1
            try clear hfz23_0
            try clear hfz23_1
            try clear hfz46_0
            try clear hfz46_1
            try clear hfz5_0
            try clear hfz5_1
            try clear p2
            obtain ⟨kq, HA, HJ54, HO_4, HO_7, HO_282000, HO_282001, BK263, BK281, HB⟩ := hcut
            cases kq with
            | zero => exact absurd HA.out (by simp [laws_FnExactNetworkTree.j5])
            | succ kj54 =>
             have H := HA.out
             clear HA
             simp only [laws_FnExactNetworkTree.j5] at H
             replace H := Option.bind_eq_some_iff.mp H
             obtain ⟨⟨t298, t299⟩, A570, H⟩ := H
             replace H : ((laws_heldInt64S_.f t299 1).bind fun t300 => (if t300 < 0 then (some false) else (laws_FnExactNetworkTree.j6 kj54 t271 t274 t299 t298 t300 l0_0 l0_1))) = some r := H
             have A57 := Aside0.mk A570
             clear A570
             replace H := Option.bind_eq_some_iff.mp H
             obtain ⟨t300, A580, H⟩ := H
             replace H : (if t300 < 0 then (some false) else (laws_FnExactNetworkTree.j6 kj54 t271 t274 t299 t298 t300 l0_0 l0_1)) = some r := H
             have A58 := Aside0.mk A580
             clear A580
             have HC59 := Aside0.mk H
             clear H
             obtain ⟨Ao60, co60, eo60⟩ := Kd.R_slice HO_7.out
             subst eo60
             go_upto_if 69 with (first | ((with_reducible refine gate_callee (f := 21) rfl ?_); refine goesL_ (some 64) rfl rfl Try.func21 (by kernel_rfl) rfl #[.slice Ao60 t282.length co60, .int .i64 1] rfl (by (try simp only [List.map_toArray, List.map_cons, List.map_nil]); first | done | rfl | (simp only [List.length_drop, List.length_take]; rfl)) ?_; (with_reducible refine (laws_markInt64S_.calls (fun k_ => some k_ = (.slice Ao60 t282.length co60 : Value).ownBlock) (.slice Ao60 t282.length co60) t282 1 t298 t299 w _ ?side1 ?side2 A57.out).mono ?_); (case side1 => repeat (first | (with_reducible first | exact HB.out|apply wA|apply wN|apply wD |refine wS ?_ GE263.out |refine wS ?_ GE281.out) | exact HB.out)); (case side2 => exact Kd.R_tight rfl HO_7.out); rintro e w61 ⟨rfl, hy0, hb, hkp⟩; refine ⟨_, rfl, ?_⟩; have n0_ := Aside0.mk (Kd.R_mono (ok' := fun k_ => some k_ ≠ (.slice Ao60 t282.length co60 : Value).ownBlock ∧ some k_ ≠ (.slice Ao21 t295.length co21 : Value).ownBlock) (Kd.R_keptB (HO_4.out) hkp (fun k_ hk_ hs_ => (hk_.1) hs_)) (fun k_ hk_ => ⟨hk_.1.1, hk_.1.2⟩)); have n1_ := Aside0.mk (Kd.R_reok rfl hy0 (fun k_ e_ => HO_7.out.1 k_ e_)); have n2_ := Aside0.mk (Kd.R_mono (ok' := fun k_ => some k_ ≠ (v272 : Value).ownBlock ∧ some k_ ≠ (.slice Ao60 t282.length co60 : Value).ownBlock) (Kd.R_keptB (HO_282000.out) hkp (fun k_ hk_ hs_ => (hk_.2) hs_)) (fun k_ hk_ => ⟨hk_.1.1, hk_.1.2⟩)); have n3_ := Aside0.mk (Kd.R_mono (ok' := fun k_ => True) (Kd.R_keptB ((Kd.R_apart' HO_282001.out (Kd.R_typed HO_7.out) (by decide))) hkp (fun k_ hk_ hs_ => (hk_.2) hs_)) (fun k_ hk_ => trivial)); have n4_ := Aside0.mk (blk_kept (by (with_reducible repeat (first | refine bN ?_ _|refine bW ?_|refine bA ?_ _)); exact BK263.out) hkp (fun hs_ => (fun e_ => (Kd.R_ne HO_7.out BK263.out (by decide)) e_) hs_)); have n5_ := Aside0.mk (blk_kept (by (with_reducible repeat (first | refine bN ?_ _|refine bW ?_|refine bA ?_ _)); exact BK281.out) hkp (fun hs_ => (fun e_ => (Kd.R_ne HO_7.out BK281.out (by decide)) e_) hs_)); have n6_ := Aside0.mk (hb); clear HO_4; clear HO_7; clear HO_282000; clear HO_282001; clear BK263; clear BK281; clear HB; have HO_4 := n0_; have HO_7 := n1_; have HO_282000 := n2_; have HO_282001 := n3_; have BK263 := n4_; have BK281 := n5_; have HB := n6_; clear n0_ n1_ n2_ n3_ n4_ n5_ n6_; (try clear hb); (try clear hkp); (try clear hy0)) | ((with_reducible refine gate_callee (f := 22) rfl ?_); refine goesL_ (some 67) rfl rfl Try.func22 (by kernel_rfl) rfl #[.slice Ao60 t299.length co60, .int .i64 1] rfl (by (try simp only [List.map_toArray, List.map_cons, List.map_nil]); first | done | (rw [show t299.length = t282.length from (Kd.R_reads' HO_7.out).1.symm] <;> rfl) | rfl | (simp only [List.length_drop, List.length_take]; rfl)) ?_; (with_reducible refine (laws_heldInt64S_.calls _ _ t299 1 t300 _ ?side1 ?side2 A58.out).mono ?_); (case side1 => repeat (first | exact (Kd.R_reads' HO_7.out).2.2 | (with_reducible first|refine Kd.C_alloc ?_ _|refine Kd.C_drewN ?_ _|refine Kd.C_drew ?_))); (case side2 => rw [show t299.length = t282.length from (Kd.R_reads' HO_7.out).1.symm]; exact (Kd.R_reads' HO_7.out).2.1); rintro e w' ⟨rfl, ⟨nd, rfl⟩⟩; refine ⟨_, rfl, ?_⟩))
             (try simp only [Act.put, List.setIfInBounds_toArray, List.set_cons_zero, List.set_cons_succ])
             go_cut [] (fun wc => ∃ (kq : Nat), Aside0 (laws_FnExactNetworkTree.j6 kq t271 t274 t299 t298 t300 l0_0 l0_1 = some r) ∧ Aside0 (kq ≤ kj54) ∧ Aside0 (Kd.R (Kd.int .i64) 2 wc w.heap.size (fun k_ => some k_ ≠ ((.slice Ao60 t282.length co60) : Value).ownBlock ∧ some k_ ≠ ((.slice Ao21 t295.length co21) : Value).ownBlock) v272 t271) ∧ Aside0 (Kd.R (Kd.int .i64) 2 wc w.heap.size (fun k_ => some k_ ≠ (v272 : Value).ownBlock ∧ some k_ ≠ ((.slice Ao21 t295.length co21) : Value).ownBlock) (.slice Ao60 t282.length co60) t299) ∧ Aside0 (Kd.R (Kd.int .i64) 2 wc w.heap.size (fun k_ => some k_ ≠ (v272 : Value).ownBlock ∧ some k_ ≠ ((.slice Ao60 t282.length co60) : Value).ownBlock) (.slice Ao21 t295.length co21) t295) ∧ Aside0 (Kd.R k60 60 wc w.heap.size (fun _ => True) (.slice Ao24 t296.length co24) t296) ∧ Aside0 (wc.heap[gb263]? = some (.cells #[(.slice A0_0 l0_0.length c0_0), (.slice A0_1 l0_1.length c0_1)] 25 (0, 0))) ∧ Aside0 (wc.heap[gb281]? = some (.cells #[(.slice Ao21 t295.length co21), (.slice Ao24 t296.length co24)] 31 (0, 0))) ∧ Aside0 (Below w.heap.size w wc))
             case first =>
              have H := HC59.out
              clear HC59
              by_cases c62 : t300 < 0
              ·rw [if_pos c62] at H
               have c62b0 : decide (t300 < 0) = true := decide_eq_true c62
               clear c62
               (first | rw [c62b0] | (simp only [i64_w, i32_w]; rw [c62b0]) | rw [c62b2] | skip)
               obtain rfl := Option.some.inj H
               go_wp2
               go_ret
               exact ⟨by first | rfl | (simp [errW_none, errW_some] <;> rfl) | (simp [*, errW_none, errW_some] <;> rfl), by repeat (first | (with_reducible first | exact HB.out|apply wA|apply wN|apply wD |refine wS ?_ GE263.out |refine wS ?_ GE281.out) | exact HB.out)⟩
              ·rw [if_neg c62] at H
               have c62b0 : decide (t300 < 0) = false := decide_eq_false c62
               clear c62
               (first | rw [c62b0] | (simp only [i64_w, i32_w]; rw [c62b0]) | rw [c62b2] | skip)
               have H' := Aside0.mk H
               clear H
               go_wp2
               go_meet
               case rel => exact ⟨_, H', ⟨by have := HJ2.out; have := HJ11.out; have := HJ31.out; have := HJ35.out; have := HJ43.out; have := HJ54.out; first | omega | exact Nat.le_refl _⟩, ⟨by (try simp only [hl282000_43]); (try simp only [hl282001_43]); (with_reducible repeat (first | apply rA|apply rN|apply rW)); exact HO_4.out⟩, ⟨by (try simp only [hl282000_43]); (try simp only [hl282001_43]); (with_reducible repeat (first | apply rA|apply rN|apply rW)); exact HO_7.out⟩, ⟨by (try simp only [hl282000_43]); (try simp only [hl282001_43]); (with_reducible repeat (first | apply rA|apply rN|apply rW)); exact HO_282000.out⟩, ⟨by (try simp only [hl282000_43]); (try simp only [hl282001_43]); (with_reducible repeat (first | apply rA|apply rN|apply rW)); exact HO_282001.out⟩, ⟨by (try simp only [hl282000_43]); (try simp only [hl282001_43]); (with_reducible repeat (first | refine bN ?_ _|refine bW ?_|refine bA ?_ _)); exact BK263.out⟩, ⟨by (try simp only [hl282000_43]); (try simp only [hl282001_43]); (with_reducible repeat (first | refine bN ?_ _|refine bW ?_|refine bA ?_ _)); exact BK281.out⟩, ⟨by repeat (first | (with_reducible first | exact HB.out|apply wA|apply wN|apply wD |refine wS ?_ GE263.out |refine wS ?_ GE281.out) | exact HB.out)⟩⟩
             case rest =>
              clear HC59
              try clear c1
              try clear c2
              try clear p2
              try clear c3
              try clear c4
              try clear c5
              try clear c6
              try clear c7
              try clear c7b0
              try clear c7b2
              try clear c14
              try clear c16
              try clear c18
              try clear c19
              try clear c20
              try clear c21
              try clear c22
              try clear c25
              try clear c26
              try clear c27
              try clear c33
              try clear c42
              try clear c45
              try clear c48
              try clear c48b0
              try clear c48b2
              try clear c50
              try clear c56
              try clear c62
              try clear c62b0
              try clear c62b2
              try clear hcz13_0
              try clear hcz13_1
              try clear hcz18_0
              try clear hcz18_1
              try clear hcz23_0
              try clear hcz23_1
              try clear hcz46_0
              try clear hcz46_1
              try clear hcz5_0
              try clear hcz5_1
              try clear hfz13_0
              try clear hfz13_1
              try clear hfz18_0
              try clear hfz18_1
              try clear hfz23_0
              try clear hfz23_1
              try clear hfz46_0
              try clear hfz46_1
              try clear hfz5_0
              try clear hfz5_1
              try clear p2
              obtain ⟨kq, HA, HJ58, HO_4, HO_7, HO_282000, HO_282001, BK263, BK281, HB⟩ := hcut
              have hl7_58 := (Kd.R_reads' HO_7.out).1
              rw [hl7_58] at HO_7
              (try simp only [hl7_58])
              (try simp only [hl7_58] at BK263)
              (try simp only [hl7_58] at BK281)
              (try simp only [hl7_58] at HO_4)
              (try simp only [hl7_58] at HO_282000)
              (try simp only [hl7_58] at HO_282001)
              cases kq with
              | zero => exact absurd HA.out (by simp [laws_FnExactNetworkTree.j6])
              | succ kj58 =>
               have H := HA.out
               clear HA
               simp only [laws_FnExactNetworkTree.j6] at H
               have HC63 := Aside0.mk H
               clear H
               go_upto_if 72 with (fail)
               go_cut [] (fun wc => ∃ (kq : Nat), Aside0 (laws_FnExactNetworkTree.j7 kq t271 t274 t299 t298 l0_0 l0_1 = some r) ∧ Aside0 (kq ≤ kj58) ∧ Aside0 (Kd.R (Kd.int .i64) 2 wc w.heap.size (fun k_ => some k_ ≠ ((.slice Ao60 t299.length co60) : Value).ownBlock ∧ some k_ ≠ ((.slice Ao21 t295.length co21) : Value).ownBlock) v272 t271) ∧ Aside0 (Kd.R (Kd.int .i64) 2 wc w.heap.size (fun k_ => some k_ ≠ (v272 : Value).ownBlock ∧ some k_ ≠ ((.slice Ao21 t295.length co21) : Value).ownBlock) (.slice Ao60 t299.length co60) t299) ∧ Aside0 (Kd.R (Kd.int .i64) 2 wc w.heap.size (fun k_ => some k_ ≠ (v272 : Value).ownBlock ∧ some k_ ≠ ((.slice Ao60 t299.length co60) : Value).ownBlock) (.slice Ao21 t295.length co21) t295) ∧ Aside0 (Kd.R k60 60 wc w.heap.size (fun _ => True) (.slice Ao24 t296.length co24) t296) ∧ Aside0 (wc.heap[gb263]? = some (.cells #[(.slice A0_0 l0_0.length c0_0), (.slice A0_1 l0_1.length c0_1)] 25 (0, 0))) ∧ Aside0 (wc.heap[gb281]? = some (.cells #[(.slice Ao21 t295.length co21), (.slice Ao24 t296.length co24)] 31 (0, 0))) ∧ Aside0 (Below w.heap.size w wc))
               case first =>
                have H := HC63.out
                clear HC63
                by_cases c64 : t300 = t298
                ·rw [if_pos c64] at H
                 have c64b0 : (t300 == t298) = true := beq_iff_eq.mpr c64
                 have c64b1 : (t300 != t298) = false := bne_eq_false_iff_eq.mpr c64
                 clear c64
                 (first | rw [c64b0] | (simp only [i64_w, i32_w]; rw [c64b0]) | rw [c64b2] | skip)
                 have H' := Aside0.mk H
                 clear H
                 go_wp2
                 go_meet
                 case rel => exact ⟨_, H', ⟨by have := HJ2.out; have := HJ11.out; have := HJ31.out; have := HJ35.out; have := HJ43.out; have := HJ54.out; have := HJ58.out; first | omega | exact Nat.le_refl _⟩, ⟨by (try simp only [hl282000_43]); (try simp only [hl282001_43]); (try simp only [hl7_58]); (with_reducible repeat (first | apply rA|apply rN|apply rW)); exact HO_4.out⟩, ⟨by (try simp only [hl282000_43]); (try simp only [hl282001_43]); (try simp only [hl7_58]); (with_reducible repeat (first | apply rA|apply rN|apply rW)); exact HO_7.out⟩, ⟨by (try simp only [hl282000_43]); (try simp only [hl282001_43]); (try simp only [hl7_58]); (with_reducible repeat (first | apply rA|apply rN|apply rW)); exact HO_282000.out⟩, ⟨by (try simp only [hl282000_43]); (try simp only [hl282001_43]); (try simp only [hl7_58]); (with_reducible repeat (first | apply rA|apply rN|apply rW)); exact HO_282001.out⟩, ⟨by (try simp only [hl282000_43]); (try simp only [hl282001_43]); (try simp only [hl7_58]); (with_reducible repeat (first | refine bN ?_ _|refine bW ?_|refine bA ?_ _)); exact BK263.out⟩, ⟨by (try simp only [hl282000_43]); (try simp only [hl282001_43]); (try simp only [hl7_58]); (with_reducible repeat (first | refine bN ?_ _|refine bW ?_|refine bA ?_ _)); exact BK281.out⟩, ⟨by repeat (first | (with_reducible first | exact HB.out|apply wA|apply wN|apply wD |refine wS ?_ GE263.out |refine wS ?_ GE281.out) | exact HB.out)⟩⟩
                ·rw [if_neg c64] at H
                 have c64b0 : (t300 == t298) = false := beq_eq_false_iff_ne.mpr c64
                 have c64b1 : (t300 != t298) = true := bne_iff_ne.mpr c64
                 (first | rw [c64b0] | (simp only [i64_w, i32_w]; rw [c64b0]) | rw [c64b2] | skip)
                 obtain rfl := Option.some.inj H
                 go_wp2
                 go_ret
                 exact ⟨by first | rfl | (simp [errW_none, errW_some] <;> rfl) | (simp [*, errW_none, errW_some] <;> rfl), by repeat (first | (with_reducible first | exact HB.out|apply wA|apply wN|apply wD |refine wS ?_ GE263.out |refine wS ?_ GE281.out) | exact HB.out)⟩
               case rest =>
                clear HC63
                try clear c1
                try clear c2
                try clear p2
                try clear c3
                try clear c4
                try clear c5
                try clear c6
                try clear c7
                try clear c7b0
                try clear c7b2
                try clear c14
                try clear c16
                try clear c18
                try clear c19
                try clear c20
                try clear c21
                try clear c22
                try clear c25
                try clear c26
                try clear c27
                try clear c33
                try clear c42
                try clear c45
                try clear c48
                try clear c48b0
                try clear c48b2
                try clear c50
                try clear c56
                try clear c62
                try clear c62b0
                try clear c62b2
                try clear c64
                try clear c64b0
                try clear c64b1
                try clear c64b2
                try clear hcz13_0
                try clear hcz13_1
                try clear hcz18_0
                try clear hcz18_1
                try clear hcz23_0
                try clear hcz23_1
                try clear hcz46_0
                try clear hcz46_1
                try clear hcz5_0
                try clear hcz5_1
                try clear hfz13_0
                try clear hfz13_1
                try clear hfz18_0
                try clear hfz18_1
                try clear hfz23_0
                try clear hfz23_1
                try clear hfz46_0
                try clear hfz46_1
                try clear hfz5_0
                try clear hfz5_1
                try clear p2
                obtain ⟨kq, HA, HJ62, HO_4, HO_7, HO_282000, HO_282001, BK263, BK281, HB⟩ := hcut
                cases kq with
                | zero => exact absurd HA.out (by simp [laws_FnExactNetworkTree.j7])
                | succ kj62 =>
                 have H := HA.out
                 clear HA
                 simp only [laws_FnExactNetworkTree.j7] at H
                 replace H := Option.bind_eq_some_iff.mp H
                 obtain ⟨⟨t301, t304⟩, A650, H⟩ := H
                 replace H : ((impl_NetworkTree.f kj62 t301 t304).bind fun bt307 => ((laws_eqInt64S_.f bt307.1 t271).bind fun t311 => (if t311 = true then (laws_FnExactNetworkTree.j8 kj62 t299 t298 (bt307.2 != t274)) else (laws_FnExactNetworkTree.j8 kj62 t299 t298 true)))) = some r := H
                 have A65 := Aside0.mk A650
                 clear A650
                 replace H := Option.bind_eq_some_iff.mp H
                 obtain ⟨⟨t307, t310⟩, A660, H⟩ := H
                 replace H : ((laws_eqInt64S_.f t307 t271).bind fun t311 => (if t311 = true then (laws_FnExactNetworkTree.j8 kj62 t299 t298 (t310 != t274)) else (laws_FnExactNetworkTree.j8 kj62 t299 t298 true))) = some r := H
                 have A66 := Aside0.mk A660
                 clear A660
                 have HC67 := Aside0.mk H
                 clear H
                 have hnb68 := NB263_281.out
                 have hnc68 := NB281_263.out
                 have hcz69_0 : wc.cell? ⟨gb263, 0, none⟩ = some (.slice A0_0 l0_0.length c0_0) := (blk_cell BK263.out 0).trans rfl
                 have hcz69_1 : wc.cell? ⟨gb263, 1, none⟩ = some (.slice A0_1 l0_1.length c0_1) := (blk_cell BK263.out 1).trans rfl
                 have hfz69_0 := blk_frozen BK263.out 0
                 have hfz69_1 := blk_frozen BK263.out 1
                 go_upto_region 25 with (first | ((with_reducible refine gate_callee (f := 16) rfl ?_); refine goesL_ (some 75) rfl rfl Try.func16 (by kernel_rfl) rfl #[.agg #[.slice A0_0 l0_0.length c0_0, .slice A0_1 l0_1.length c0_1]] rfl (by (try simp only [List.map_toArray, List.map_cons, List.map_nil]); first | done | rfl | (simp only [List.length_drop, List.length_take]; rfl)) ?_; (with_reducible refine (laws_toNetwork.calls _ _ l0_0 _ _ l0_1 t301 t304 _ ?side1 ?side2 ?side3 ?side4 A65.out).mono ?_); (case side1 => repeat (first | exact (Kd.C_below HR0_0.out HB.out) | (with_reducible first|refine Kd.C_alloc ?_ _|refine Kd.C_drewN ?_ _|refine Kd.C_drew ?_))); (case side2 => exact HC0_0.out); (case side3 => repeat (first | exact (Kd.C_below HR0_1.out HB.out) | (with_reducible first|refine Kd.C_alloc ?_ _|refine Kd.C_drewN ?_ _|refine Kd.C_drew ?_))); (case side4 => exact HC0_1.out); rintro e w70 ⟨v302, v305, rfl, ho0, ho1, hb⟩; refine ⟨_, rfl, ?_⟩; have n0_ := Aside0.mk (Kd.R_elder' (by (with_reducible repeat (first | apply rA|apply rN|apply rW)); exact HO_4.out) (Kd.R_base ho0) hb); have n1_ := Aside0.mk (Kd.R_elder' (by (with_reducible repeat (first | apply rA|apply rN|apply rW)); exact HO_7.out) (Kd.R_base ho0) hb); have n2_ := Aside0.mk (Kd.R_elder' (by (with_reducible repeat (first | apply rA|apply rN|apply rW)); exact HO_282000.out) (Kd.R_base ho0) hb); have n3_ := Aside0.mk (Kd.R_elder' (by (with_reducible repeat (first | apply rA|apply rN|apply rW)); exact HO_282001.out) (Kd.R_base ho1) hb); have n4_ := Aside0.mk (Kd.R_lower (Kd.R_new' (Kd.R_new' (Kd.R_new' ho0 (Kd.R_lt (by (with_reducible repeat (first | apply rA|apply rN|apply rW)); exact HO_4.out))) (Kd.R_lt (by (with_reducible repeat (first | apply rA|apply rN|apply rW)); exact HO_7.out))) (Kd.R_lt (by (with_reducible repeat (first | apply rA|apply rN|apply rW)); exact HO_282000.out))) (below_size (by repeat (first | (with_reducible first | exact HB.out|apply wA|apply wN|apply wD |refine wS ?_ GE263.out |refine wS ?_ GE281.out) | exact HB.out)))); have n5_ := Aside0.mk (Kd.R_lower (Kd.R_new' ho1 (Kd.R_lt (by (with_reducible repeat (first | apply rA|apply rN|apply rW)); exact HO_282001.out))) (below_size (by repeat (first | (with_reducible first | exact HB.out|apply wA|apply wN|apply wD |refine wS ?_ GE263.out |refine wS ?_ GE281.out) | exact HB.out)))); have n6_ := Aside0.mk (blk_below (g := gb263) (o := .cells #[.slice A0_0 l0_0.length c0_0, .slice A0_1 l0_1.length c0_1] 25 (0, 0)) (by (with_reducible repeat (first | refine bN ?_ _|refine bW ?_|refine bA ?_ _)); exact BK263.out) hb); have n7_ := Aside0.mk (blk_below (g := gb281) (o := .cells #[.slice Ao21 t295.length co21, .slice Ao24 t296.length co24] 31 (0, 0)) (by (with_reducible repeat (first | refine bN ?_ _|refine bW ?_|refine bA ?_ _)); exact BK281.out) hb); have n8_ := Aside0.mk (below_step (by repeat (first | (with_reducible first | exact HB.out|apply wA|apply wN|apply wD |refine wS ?_ GE263.out |refine wS ?_ GE281.out) | exact HB.out)) hb); clear HO_4; clear HO_7; clear HO_282000; clear HO_282001; clear BK263; clear BK281; clear HB; have HO_4 := n0_; have HO_7 := n1_; have HO_282000 := n2_; have HO_282001 := n3_; have HO303 := n4_; have HO306 := n5_; have BK263 := n6_; have BK281 := n7_; have HB := n8_; clear n0_ n1_ n2_ n3_ n4_ n5_ n6_ n7_ n8_; (try clear hb); (try clear hb2); (try clear hk); (try clear hi); (try clear ho0); (try clear ho1); obtain ⟨Ao71, co71, eo71⟩ := Kd.R_slice HO303.out; subst eo71; obtain ⟨Ao72, co72, eo72⟩ := Kd.R_slice HO306.out; subst eo72) | ((with_reducible refine gate_callee (f := 26) rfl ?_); refine goesL_ (some 76) rfl rfl Try.func26 (by kernel_rfl) rfl #[.agg #[.slice Ao71 t301.length co71, .slice Ao72 t304.length co72]] rfl (by (try simp only [List.map_toArray, List.map_cons, List.map_nil]); first | done | rfl | (simp only [List.length_drop, List.length_take]; rfl)) ?_; (with_reducible refine (impl_NetworkTree.calls kj62 _ _ t301 _ _ t304 t307 t310 _ ?side1 ?side2 ?side3 ?side4 A66.out).mono ?_); (case side1 => repeat (first | exact (Kd.R_reads' HO303.out).2.2 | (with_reducible first|refine Kd.C_alloc ?_ _|refine Kd.C_drewN ?_ _|refine Kd.C_drew ?_))); (case side2 => exact (Kd.R_reads' HO303.out).2.1); (case side3 => repeat (first | exact (Kd.R_reads' HO306.out).2.2 | (with_reducible first|refine Kd.C_alloc ?_ _|refine Kd.C_drewN ?_ _|refine Kd.C_drew ?_))); (case side4 => exact (Kd.R_reads' HO306.out).2.1); rintro e w73 ⟨v308, rfl, ho0, hb⟩; refine ⟨_, rfl, ?_⟩; have n0_ := Aside0.mk (Kd.R_elder' (by (with_reducible repeat (first | apply rA|apply rN|apply rW)); exact HO_4.out) (Kd.R_base ho0) hb); have n1_ := Aside0.mk (Kd.R_elder' (by (with_reducible repeat (first | apply rA|apply rN|apply rW)); exact HO_7.out) (Kd.R_base ho0) hb); have n2_ := Aside0.mk (Kd.R_elder' (by (with_reducible repeat (first | apply rA|apply rN|apply rW)); exact HO_282000.out) (Kd.R_base ho0) hb); have n3_ := Aside0.mk (Kd.R_below (by (with_reducible repeat (first | apply rA|apply rN|apply rW)); exact HO_282001.out) hb); have n4_ := Aside0.mk (Kd.R_elder' (by (with_reducible repeat (first | apply rA|apply rN|apply rW)); exact HO303.out) (Kd.R_base ho0) hb); have n5_ := Aside0.mk (Kd.R_below (by (with_reducible repeat (first | apply rA|apply rN|apply rW)); exact HO306.out) hb); have n6_ := Aside0.mk (Kd.R_lower (Kd.R_new' (Kd.R_new' (Kd.R_new' (Kd.R_new' ho0 (Kd.R_lt (by (with_reducible repeat (first | apply rA|apply rN|apply rW)); exact HO_4.out))) (Kd.R_lt (by (with_reducible repeat (first | apply rA|apply rN|apply rW)); exact HO_7.out))) (Kd.R_lt (by (with_reducible repeat (first | apply rA|apply rN|apply rW)); exact HO_282000.out))) (Kd.R_lt (by (with_reducible repeat (first | apply rA|apply rN|apply rW)); exact HO303.out))) (below_size (by repeat (first | (with_reducible first | exact HB.out|apply wA|apply wN|apply wD |refine wS ?_ GE263.out |refine wS ?_ GE281.out) | exact HB.out)))); have n7_ := Aside0.mk (blk_below (g := gb263) (o := .cells #[.slice A0_0 l0_0.length c0_0, .slice A0_1 l0_1.length c0_1] 25 (0, 0)) (by (with_reducible repeat (first | refine bN ?_ _|refine bW ?_|refine bA ?_ _)); exact BK263.out) hb); have n8_ := Aside0.mk (blk_below (g := gb281) (o := .cells #[.slice Ao21 t295.length co21, .slice Ao24 t296.length co24] 31 (0, 0)) (by (with_reducible repeat (first | refine bN ?_ _|refine bW ?_|refine bA ?_ _)); exact BK281.out) hb); have n9_ := Aside0.mk (below_step (by repeat (first | (with_reducible first | exact HB.out|apply wA|apply wN|apply wD |refine wS ?_ GE263.out |refine wS ?_ GE281.out) | exact HB.out)) hb); clear HO_4; clear HO_7; clear HO_282000; clear HO_282001; clear HO303; clear HO306; clear BK263; clear BK281; clear HB; have HO_4 := n0_; have HO_7 := n1_; have HO_282000 := n2_; have HO_282001 := n3_; have HO303 := n4_; have HO306 := n5_; have HO309 := n6_; have BK263 := n7_; have BK281 := n8_; have HB := n9_; clear n0_ n1_ n2_ n3_ n4_ n5_ n6_ n7_ n8_ n9_; (try clear hb); (try clear hb2); (try clear hk); (try clear hi); (try clear ho0)))
                 (try simp only [Act.put, List.setIfInBounds_toArray, List.set_cons_zero, List.set_cons_succ])
                 go_cut [87] (fun v87 wc => ∃ (kq : Nat) (x87_66 : Bool), v87 = .bool x87_66 ∧ Aside0 (laws_FnExactNetworkTree.j8 kq t299 t298 x87_66 = some r) ∧ Aside0 (kq ≤ kj62) ∧ Aside0 (Kd.R (Kd.int .i64) 2 wc w.heap.size (fun k_ => some k_ ≠ ((.slice Ao21 t295.length co21) : Value).ownBlock) (.slice Ao60 t299.length co60) t299) ∧ Aside0 (Kd.R (Kd.int .i64) 2 wc w.heap.size (fun k_ => some k_ ≠ ((.slice Ao60 t299.length co60) : Value).ownBlock) (.slice Ao21 t295.length co21) t295) ∧ Aside0 (Kd.R k60 60 wc w.heap.size (fun _ => True) (.slice Ao24 t296.length co24) t296) ∧ Aside0 (wc.heap[gb263]? = some (.cells #[(.slice A0_0 l0_0.length c0_0), (.slice A0_1 l0_1.length c0_1)] 25 (0, 0))) ∧ Aside0 (wc.heap[gb281]? = some (.cells #[(.slice Ao21 t295.length co21), (.slice Ao24 t296.length co24)] 31 (0, 0))) ∧ Aside0 (Below w.heap.size w wc))
                 case first =>
                  have H := HC67.out
                  clear HC67
                  replace H := Option.bind_eq_some_iff.mp H
                  obtain ⟨t311, A740, H⟩ := H
                  replace H : (if t311 = true then (laws_FnExactNetworkTree.j8 kj62 t299 t298 (t310 != t274)) else (laws_FnExactNetworkTree.j8 kj62 t299 t298 true)) = some r := H
                  have A74 := Aside0.mk A740
                  clear A740
                  by_cases c75 : t311 = true
                  ·subst c75
                   have H1 : (laws_FnExactNetworkTree.j8 kj62 t299 t298 (t310 != t274)) = some r := by rw [if_pos rfl] at H; exact H
                   clear H
                   have H := H1
                   clear H1
                   have H' := Aside0.mk H
                   clear H
                   obtain ⟨Ao76, co76, eo76⟩ := Kd.R_slice HO309.out
                   subst eo76
                   obtain ⟨Ao77, co77, eo77⟩ := Kd.R_slice HO_4.out
                   subst eo77
                   go_wp2_with (first | ((with_reducible refine gate_callee (f := 18) rfl ?_); refine goesL_ (some 81) rfl rfl Try.func18 (by kernel_rfl) rfl #[.slice Ao76 t307.length co76, .slice Ao77 t271.length co77] rfl (by (try simp only [List.map_toArray, List.map_cons, List.map_nil]); first | done | rfl | (simp only [List.length_drop, List.length_take]; rfl)) ?_; (with_reducible refine (laws_eqInt64S_.calls _ _ t307 _ _ t271 true _ ?side1 ?side2 ?side3 ?side4 A74.out).mono ?_); (case side1 => repeat (first | exact (Kd.R_reads' HO309.out).2.2 | (with_reducible first|refine Kd.C_alloc ?_ _|refine Kd.C_drewN ?_ _|refine Kd.C_drew ?_))); (case side2 => exact (Kd.R_reads' HO309.out).2.1); (case side3 => repeat (first | exact (Kd.R_reads' HO_4.out).2.2 | (with_reducible first|refine Kd.C_alloc ?_ _|refine Kd.C_drewN ?_ _|refine Kd.C_drew ?_))); (case side4 => exact (Kd.R_reads' HO_4.out).2.1); rintro e w' ⟨rfl, ⟨nd, rfl⟩⟩; refine ⟨_, rfl, ?_⟩))
                   go_meet
                   case rel => exact ⟨_, ((t310 != t274)), (by first | rfl | (simp; done) | (simp [*]; done)), H', ⟨by have := HJ2.out; have := HJ11.out; have := HJ31.out; have := HJ35.out; have := HJ43.out; have := HJ54.out; have := HJ58.out; have := HJ62.out; first | omega | exact Nat.le_refl _⟩, ⟨by (try simp only [hl282000_43]); (try simp only [hl282001_43]); (try simp only [hl7_58]); (with_reducible repeat (first | apply rA|apply rN|apply rW)); exact Kd.R_mono HO_7.out (fun _ hk => hk.1.1.2)⟩, ⟨by (try simp only [hl282000_43]); (try simp only [hl282001_43]); (try simp only [hl7_58]); (with_reducible repeat (first | apply rA|apply rN|apply rW)); exact Kd.R_mono HO_282000.out (fun _ hk => hk.1.1.2)⟩, ⟨by (try simp only [hl282000_43]); (try simp only [hl282001_43]); (try simp only [hl7_58]); (with_reducible repeat (first | apply rA|apply rN|apply rW)); exact Kd.R_mono HO_282001.out (fun _ hk => trivial)⟩, ⟨by (try simp only [hl282000_43]); (try simp only [hl282001_43]); (try simp only [hl7_58]); (with_reducible repeat (first | refine bN ?_ _|refine bW ?_|refine bA ?_ _)); exact BK263.out⟩, ⟨by (try simp only [hl282000_43]); (try simp only [hl282001_43]); (try simp only [hl7_58]); (with_reducible repeat (first | refine bN ?_ _|refine bW ?_|refine bA ?_ _)); exact BK281.out⟩, ⟨by repeat (first | (with_reducible first | exact HB.out|apply wA|apply wN|apply wD |refine wS ?_ GE263.out |refine wS ?_ GE281.out) | exact HB.out)⟩⟩
                  ·replace c75 := Bool.eq_false_iff.mpr c75
                   subst c75
                   have H1 : (laws_FnExactNetworkTree.j8 kj62 t299 t298 true) = some r := by rw [if_neg (show ¬ (false = true) by decide)] at H; exact H
                   clear H
                   have H := H1
                   clear H1
                   have H' := Aside0.mk H
                   clear H
                   obtain ⟨Ao78, co78, eo78⟩ := Kd.R_slice HO309.out
                   subst eo78
                   obtain ⟨Ao79, co79, eo79⟩ := Kd.R_slice HO_4.out
                   subst eo79
                   go_wp2_with (first | ((with_reducible refine gate_callee (f := 18) rfl ?_); refine goesL_ (some 81) rfl rfl Try.func18 (by kernel_rfl) rfl #[.slice Ao78 t307.length co78, .slice Ao79 t271.length co79] rfl (by (try simp only [List.map_toArray, List.map_cons, List.map_nil]); first | done | rfl | (simp only [List.length_drop, List.length_take]; rfl)) ?_; (with_reducible refine (laws_eqInt64S_.calls _ _ t307 _ _ t271 false _ ?side1 ?side2 ?side3 ?side4 A74.out).mono ?_); (case side1 => repeat (first | exact (Kd.R_reads' HO309.out).2.2 | (with_reducible first|refine Kd.C_alloc ?_ _|refine Kd.C_drewN ?_ _|refine Kd.C_drew ?_))); (case side2 => exact (Kd.R_reads' HO309.out).2.1); (case side3 => repeat (first | exact (Kd.R_reads' HO_4.out).2.2 | (with_reducible first|refine Kd.C_alloc ?_ _|refine Kd.C_drewN ?_ _|refine Kd.C_drew ?_))); (case side4 => exact (Kd.R_reads' HO_4.out).2.1); rintro e w' ⟨rfl, ⟨nd, rfl⟩⟩; refine ⟨_, rfl, ?_⟩))
                   go_meet
                   case rel => exact ⟨_, (true), (by first | rfl | (simp; done) | (simp [*]; done)), H', ⟨by have := HJ2.out; have := HJ11.out; have := HJ31.out; have := HJ35.out; have := HJ43.out; have := HJ54.out; have := HJ58.out; have := HJ62.out; first | omega | exact Nat.le_refl _⟩, ⟨by (try simp only [hl282000_43]); (try simp only [hl282001_43]); (try simp only [hl7_58]); (with_reducible repeat (first | apply rA|apply rN|apply rW)); exact Kd.R_mono HO_7.out (fun _ hk => hk.1.1.2)⟩, ⟨by (try simp only [hl282000_43]); (try simp only [hl282001_43]); (try simp only [hl7_58]); (with_reducible repeat (first | apply rA|apply rN|apply rW)); exact Kd.R_mono HO_282000.out (fun _ hk => hk.1.1.2)⟩, ⟨by (try simp only [hl282000_43]); (try simp only [hl282001_43]); (try simp only [hl7_58]); (with_reducible repeat (first | apply rA|apply rN|apply rW)); exact Kd.R_mono HO_282001.out (fun _ hk => trivial)⟩, ⟨by (try simp only [hl282000_43]); (try simp only [hl282001_43]); (try simp only [hl7_58]); (with_reducible repeat (first | refine bN ?_ _|refine bW ?_|refine bA ?_ _)); exact BK263.out⟩, ⟨by (try simp only [hl282000_43]); (try simp only [hl282001_43]); (try simp only [hl7_58]); (with_reducible repeat (first | refine bN ?_ _|refine bW ?_|refine bA ?_ _)); exact BK281.out⟩, ⟨by repeat (first | (with_reducible first | exact HB.out|apply wA|apply wN|apply wD |refine wS ?_ GE263.out |refine wS ?_ GE281.out) | exact HB.out)⟩⟩
                 case rest =>
                  clear HC67
                  try clear c1
                  try clear c2
                  try clear p2
                  try clear c3
                  try clear c4
                  try clear c5
                  try clear c6
                  try clear c7
                  try clear c7b0
                  try clear c7b2
                  try clear c14
                  try clear c16
                  try clear c18
                  try clear c19
                  try clear c20
                  try clear c21
                  try clear c22
                  try clear c25
                  try clear c26
                  try clear c27
                  try clear c33
                  try clear c42
                  try clear c45
                  try clear c48
                  try clear c48b0
                  try clear c48b2
                  try clear c50
                  try clear c56
                  try clear c62
                  try clear c62b0
                  try clear c62b2
                  try clear c64
                  try clear c64b0
                  try clear c64b1
                  try clear c64b2
                  try clear c68
                  try clear c75
                  try clear hcz13_0
                  try clear hcz13_1
                  try clear hcz18_0
                  try clear hcz18_1
                  try clear hcz23_0
                  try clear hcz23_1
                  try clear hcz46_0
                  try clear hcz46_1
                  try clear hcz5_0
                  try clear hcz5_1
                  try clear hcz69_0
                  try clear hcz69_1
                  try clear hfz13_0
                  try clear hfz13_1
                  try clear hfz18_0
                  try clear hfz18_1
                  try clear hfz23_0
                  try clear hfz23_1
                  try clear hfz46_0
                  try clear hfz46_1
                  try clear hfz5_0
                  try clear hfz5_1
                  try clear hfz69_0
                  try clear hfz69_1
                  try clear p2
                  obtain ⟨kq, x87_66, rfl, HA, HJ66, HO_7, HO_282000, HO_282001, BK263, BK281, HB⟩ := hcut
                  cases kq with
                  | zero => exact absurd HA.out (by simp [laws_FnExactNetworkTree.j8])
                  | succ kj66 =>
                   have H := HA.out
                   clear HA
                   simp only [laws_FnExactNetworkTree.j8] at H
                   have HC80 := Aside0.mk H
                   clear H
                   go_upto_if 87 with (fail)
                   go_cut [] (fun wc => ∃ (kq : Nat), Aside0 (laws_FnExactNetworkTree.j9 kq t299 t298 = some r) ∧ Aside0 (kq ≤ kj66) ∧ Aside0 (Kd.R (Kd.int .i64) 2 wc w.heap.size (fun k_ => some k_ ≠ ((.slice Ao21 t295.length co21) : Value).ownBlock) (.slice Ao60 t299.length co60) t299) ∧ Aside0 (Kd.R (Kd.int .i64) 2 wc w.heap.size (fun k_ => some k_ ≠ ((.slice Ao60 t299.length co60) : Value).ownBlock) (.slice Ao21 t295.length co21) t295) ∧ Aside0 (Kd.R k60 60 wc w.heap.size (fun _ => True) (.slice Ao24 t296.length co24) t296) ∧ Aside0 (wc.heap[gb263]? = some (.cells #[(.slice A0_0 l0_0.length c0_0), (.slice A0_1 l0_1.length c0_1)] 25 (0, 0))) ∧ Aside0 (wc.heap[gb281]? = some (.cells #[(.slice Ao21 t295.length co21), (.slice Ao24 t296.length co24)] 31 (0, 0))) ∧ Aside0 (Below w.heap.size w wc))
                   case first =>
                    have H := HC80.out
                    clear HC80
                    by_cases c81 : x87_66 = true
                    ·subst c81
                     have H1 : (some false) = some r := by rw [if_pos rfl] at H; exact H
                     clear H
                     have H := H1
                     clear H1
                     obtain rfl := Option.some.inj H
                     go_wp2
                     go_ret
                     exact ⟨by first | rfl | (simp [errW_none, errW_some] <;> rfl) | (simp [*, errW_none, errW_some] <;> rfl), by repeat (first | (with_reducible first | exact HB.out|apply wA|apply wN|apply wD |refine wS ?_ GE263.out |refine wS ?_ GE281.out) | exact HB.out)⟩
                    ·replace c81 := Bool.eq_false_iff.mpr c81
                     subst c81
                     have H1 : (laws_FnExactNetworkTree.j9 kj66 t299 t298) = some r := by rw [if_neg (show ¬ (false = true) by decide)] at H; exact H
                     clear H
                     have H := H1
                     clear H1
                     have H' := Aside0.mk H
                     clear H
                     go_wp2
                     go_meet
                     case rel => exact ⟨_, H', ⟨by have := HJ2.out; have := HJ11.out; have := HJ31.out; have := HJ35.out; have := HJ43.out; have := HJ54.out; have := HJ58.out; have := HJ62.out; have := HJ66.out; first | omega | exact Nat.le_refl _⟩, ⟨by (try simp only [hl282000_43]); (try simp only [hl282001_43]); (try simp only [hl7_58]); (with_reducible repeat (first | apply rA|apply rN|apply rW)); exact HO_7.out⟩, ⟨by (try simp only [hl282000_43]); (try simp only [hl282001_43]); (try simp only [hl7_58]); (with_reducible repeat (first | apply rA|apply rN|apply rW)); exact HO_282000.out⟩, ⟨by (try simp only [hl282000_43]); (try simp only [hl282001_43]); (try simp only [hl7_58]); (with_reducible repeat (first | apply rA|apply rN|apply rW)); exact HO_282001.out⟩, ⟨by (try simp only [hl282000_43]); (try simp only [hl282001_43]); (try simp only [hl7_58]); (with_reducible repeat (first | refine bN ?_ _|refine bW ?_|refine bA ?_ _)); exact BK263.out⟩, ⟨by (try simp only [hl282000_43]); (try simp only [hl282001_43]); (try simp only [hl7_58]); (with_reducible repeat (first | refine bN ?_ _|refine bW ?_|refine bA ?_ _)); exact BK281.out⟩, ⟨by repeat (first | (with_reducible first | exact HB.out|apply wA|apply wN|apply wD |refine wS ?_ GE263.out |refine wS ?_ GE281.out) | exact HB.out)⟩⟩
                   case rest =>
                    clear HC80
                    try clear c1
                    try clear c2
                    try clear p2
                    try clear c3
                    try clear c4
                    try clear c5
                    try clear c6
                    try clear c7
                    try clear c7b0
                    try clear c7b2
                    try clear c8
                    try clear c14
                    try clear c16
                    try clear c18
                    try clear c19
                    try clear c20
                    try clear c21
                    try clear c22
                    try clear c25
                    try clear c26
                    try clear c27
                    try clear c33
                    try clear c42
                    try clear c45
                    try clear c48
                    try clear c48b0
                    try clear c48b2
                    try clear c50
                    try clear c56
                    try clear c62
                    try clear c62b0
                    try clear c62b2
                    try clear c64
                    try clear c64b0
                    try clear c64b1
                    try clear c64b2
                    try clear c68
                    try clear c75
                    try clear c81
                    try clear hcz13_0
                    try clear hcz13_1
                    try clear hcz18_0
                    try clear hcz18_1
                    try clear hcz23_0
                    try clear hcz23_1
                    try clear hcz46_0
                    try clear hcz46_1
                    try clear hcz5_0
                    try clear hcz5_1
                    try clear hcz69_0
                    try clear hcz69_1
                    try clear hfz13_0
                    try clear hfz13_1
                    try clear hfz18_0
                    try clear hfz18_1
                    try clear hfz23_0
                    try clear hfz23_1
                    try clear hfz46_0
                    try clear hfz46_1
                    try clear hfz5_0
                    try clear hfz5_1
                    try clear hfz69_0
                    try clear hfz69_1
                    try clear p2
                    obtain ⟨kq, HA, HJ79, HO_7, HO_282000, HO_282001, BK263, BK281, HB⟩ := hcut
                    cases kq with
                    | zero => exact absurd HA.out (by simp [laws_FnExactNetworkTree.j9])
                    | succ kj79 =>
                     have H := HA.out
                     clear HA
                     simp only [laws_FnExactNetworkTree.j9] at H
                     replace H := Option.bind_eq_some_iff.mp H
                     obtain ⟨t312, A820, H⟩ := H
                     replace H : (if t312 < 0 then (some false) else (if t312 = t298 then (some true) else (some false))) = some r := H
                     have A82 := Aside0.mk A820
                     clear A820
                     by_cases c83 : t312 < 0
                     ·rw [if_pos c83] at H
                      have c83b0 : decide (t312 < 0) = true := decide_eq_true c83
                      clear c83
                      obtain rfl := Option.some.inj H
                      go_wp2_with (first | ((with_reducible refine gate_callee (f := 22) rfl ?_); refine goesL_ (some 90) rfl rfl Try.func22 (by kernel_rfl) rfl #[.slice Ao60 t299.length co60, .int .i64 1] rfl (by (try simp only [List.map_toArray, List.map_cons, List.map_nil]); first | done | rfl | (simp only [List.length_drop, List.length_take]; rfl)) ?_; (with_reducible refine (laws_heldInt64S_.calls _ _ t299 1 t312 _ ?side1 ?side2 A82.out).mono ?_); (case side1 => repeat (first | exact (Kd.R_reads' HO_7.out).2.2 | (with_reducible first|refine Kd.C_alloc ?_ _|refine Kd.C_drewN ?_ _|refine Kd.C_drew ?_))); (case side2 => exact (Kd.R_reads' HO_7.out).2.1); rintro e w' ⟨rfl, ⟨nd, rfl⟩⟩; refine ⟨_, rfl, ?_⟩))
                      go_ret
                      exact ⟨by first | rfl | (simp [errW_none, errW_some] <;> rfl) | (simp [*, errW_none, errW_some] <;> rfl), by repeat (first | (with_reducible first | exact HB.out|apply wA|apply wN|apply wD |refine wS ?_ GE263.out |refine wS ?_ GE281.out) | exact HB.out)⟩
                     ·rw [if_neg c83] at H
                      have c83b0 : decide (t312 < 0) = false := decide_eq_false c83
                      clear c83
                      by_cases c84 : t312 = t298
                      ·rw [if_pos c84] at H
                       have c84b0 : (t312 == t298) = true := beq_iff_eq.mpr c84
                       have c84b1 : (t312 != t298) = false := bne_eq_false_iff_eq.mpr c84
                       clear c84
                       obtain rfl := Option.some.inj H
                       go_wp2_with (first | ((with_reducible refine gate_callee (f := 22) rfl ?_); refine goesL_ (some 90) rfl rfl Try.func22 (by kernel_rfl) rfl #[.slice Ao60 t299.length co60, .int .i64 1] rfl (by (try simp only [List.map_toArray, List.map_cons, List.map_nil]); first | done | rfl | (simp only [List.length_drop, List.length_take]; rfl)) ?_; (with_reducible refine (laws_heldInt64S_.calls _ _ t299 1 t312 _ ?side1 ?side2 A82.out).mono ?_); (case side1 => repeat (first | exact (Kd.R_reads' HO_7.out).2.2 | (with_reducible first|refine Kd.C_alloc ?_ _|refine Kd.C_drewN ?_ _|refine Kd.C_drew ?_))); (case side2 => exact (Kd.R_reads' HO_7.out).2.1); rintro e w' ⟨rfl, ⟨nd, rfl⟩⟩; refine ⟨_, rfl, ?_⟩))
                       go_ret
                       exact ⟨by first | rfl | (simp [errW_none, errW_some] <;> rfl) | (simp [*, errW_none, errW_some] <;> rfl), by repeat (first | (with_reducible first | exact HB.out|apply wA|apply wN|apply wD |refine wS ?_ GE263.out |refine wS ?_ GE281.out) | exact HB.out)⟩
                      ·rw [if_neg c84] at H
                       have c84b0 : (t312 == t298) = false := beq_eq_false_iff_ne.mpr c84
                       have c84b1 : (t312 != t298) = true := bne_iff_ne.mpr c84
                       obtain rfl := Option.some.inj H
                       go_wp2_with (first | ((with_reducible refine gate_callee (f := 22) rfl ?_); refine goesL_ (some 90) rfl rfl Try.func22 (by kernel_rfl) rfl #[.slice Ao60 t299.length co60, .int .i64 1] rfl (by (try simp only [List.map_toArray, List.map_cons, List.map_nil]); first | done | rfl | (simp only [List.length_drop, List.length_take]; rfl)) ?_; (with_reducible refine (laws_heldInt64S_.calls _ _ t299 1 t312 _ ?side1 ?side2 A82.out).mono ?_); (case side1 => repeat (first | exact (Kd.R_reads' HO_7.out).2.2 | (with_reducible first|refine Kd.C_alloc ?_ _|refine Kd.C_drewN ?_ _|refine Kd.C_drew ?_))); (case side2 => exact (Kd.R_reads' HO_7.out).2.1); rintro e w' ⟨rfl, ⟨nd, rfl⟩⟩; refine ⟨_, rfl, ?_⟩))
                       go_ret
                       exact ⟨by first | rfl | (simp [errW_none, errW_some] <;> rfl) | (simp [*, errW_none, errW_some] <;> rfl), by repeat (first | (with_reducible first | exact HB.out|apply wA|apply wN|apply wD |refine wS ?_ GE263.out |refine wS ?_ GE281.out) | exact HB.out)⟩

end Go.Proofs.Ytcgbagdpedpdpaa.PFnExactNetworkTree
