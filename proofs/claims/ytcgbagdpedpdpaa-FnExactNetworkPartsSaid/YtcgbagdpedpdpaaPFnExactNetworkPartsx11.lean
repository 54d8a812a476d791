-- Printed by a program of this session (wip/hprint.sh: the kit's print with hand-proved contracts put in); not by print.sh itself.
import Derived.Test.YtcgbagdpedpdpaaPFnExactNetworkPartsx0
import Derived.Test.YtcgbagdpedpdpaaPFnExactNetworkPartsx1
import Derived.Test.YtcgbagdpedpdpaaPFnExactNetworkPartsx2
import Derived.Test.YtcgbagdpedpdpaaPFnExactNetworkPartsx3
import Derived.Test.YtcgbagdpedpdpaaPFnExactNetworkPartsx5
import Derived.Test.YtcgbagdpedpdpaaPFnExactNetworkPartsx10
namespace Go.Proofs.Ytcgbagdpedpdpaa.PFnExactNetworkParts
open Go.RowKit Go.Proofs.YtcgbagdpedpdpaaW.PrintWords Go.Proofs.YtcgbagdpedpdpaaW.PrintLast Go.Proofs.YtcgbagdpedpdpaaW.PrintMore Go.Proofs.YtcgbagdpedpdpaaM
attribute [local go_sem] max2_int min2_int max_two min_two max_three min_three max_four min_four   -- for this text's walks alone
set_option linter.unusedVariables false
set_option linter.unusedSimpArgs false

/-! ### laws_FnExactNetworkParts: function 6 -/
mutual
def laws_FnExactNetworkParts.j0 : Nat → List Int → List (S85) → Option (Bool)
 | 0, _, _ => none
 | k + 1, x254000, x254001 => (laws_toNetwork.f x254000 x254001).bind fun bt255 => ((spec_NetworkParts.f k bt255.1 bt255.2).bind fun bt261 => ((laws_toNetwork.f x254000 x254001).bind fun bt265 => ((impl_NetworkParts.f k bt265.1 bt265.2).bind fun bt272 => ((laws_eqInt64S_.f bt272.1 bt261.1).bind fun t276 => (if t276 = true then (laws_FnExactNetworkParts.j1 k bt261.1 bt261.2 bt272.1 bt272.2 (bt272.2 != bt261.2) x254000 x254001 bt265.1 bt265.2) else (laws_FnExactNetworkParts.j1 k bt261.1 bt261.2 bt272.1 bt272.2 true x254000 x254001 bt265.1 bt265.2))))))
def laws_FnExactNetworkParts.j1 : Nat → List Int → Int → List Int → Int → Bool → List Int → List (S85) → List Int → List (S60) → Option (Bool)
 | 0, _, _, _, _, _, _, _, _, _ => none
 | k + 1, x4, x5, x7, x8, x40, x254000, x254001, x272000, x272001 => if x40 = true then (some false) else (laws_FnExactNetworkParts.j2 k x4 x5 x7 x8 x254000 x254001 x272000 x272001)
def laws_FnExactNetworkParts.j2 : Nat → List Int → Int → List Int → Int → List Int → List (S85) → List Int → List (S60) → Option (Bool)
 | 0, _, _, _, _, _, _, _, _ => none
 | k + 1, x4, x5, x7, x8, x254000, x254001, x272000, x272001 => (laws_toNetwork.f x254000 x254001).bind fun bt277 => ((laws_eqNetwork.f x272000 x272001 bt277.1 bt277.2).bind fun t283 => (if t283 = true then (laws_FnExactNetworkParts.j3 k x4 x5 x7 x8 x254000 x254001 x272000 x272001) else (some false)))
def laws_FnExactNetworkParts.j3 : Nat → List Int → Int → List Int → Int → List Int → List (S85) → List Int → List (S60) → Option (Bool)
 | 0, _, _, _, _, _, _, _, _ => none
 | k + 1, x4, x5, x7, x8, x254000, x254001, x272000, x272001 => (laws_markNetwork.f x272000 x272001 1).bind fun bt284 => (if bt284.1 < 0 then (laws_FnExactNetworkParts.j4 k x4 x5 x7 true x254000 x254001) else ((laws_eqInt64S_.f x7 x4).bind fun t287 => (if t287 = true then (laws_FnExactNetworkParts.j4 k x4 x5 x7 (x8 != x5) x254000 x254001) else (laws_FnExactNetworkParts.j4 k x4 x5 x7 true x254000 x254001))))
def laws_FnExactNetworkParts.j4 : Nat → List Int → Int → List Int → Bool → List Int → List (S85) → Option (Bool)
 | 0, _, _, _, _, _, _ => none
 | k + 1, x4, x5, x7, x61, x254000, x254001 => if x61 = true then (some false) else (laws_FnExactNetworkParts.j5 k x4 x5 x7 x254000 x254001)
def laws_FnExactNetworkParts.j5 : Nat → List Int → Int → List Int → List Int → List (S85) → Option (Bool)
 | 0, _, _, _, _, _ => none
 | k + 1, x4, x5, x7, x254000, x254001 => (laws_markInt64S_.f x7 1).bind fun bt288 => ((laws_heldInt64S_.f bt288.2 1).bind fun t290 => (if t290 < 0 then (some false) else (laws_FnExactNetworkParts.j6 k x4 x5 bt288.2 bt288.1 t290 x254000 x254001)))
def laws_FnExactNetworkParts.j6 : Nat → List Int → Int → List Int → Int → Int → List Int → List (S85) → Option (Bool)
 | 0, _, _, _, _, _, _, _ => none
 | k + 1, x4, x5, x7, x10, x11, x254000, x254001 => if x11 = x10 then (laws_FnExactNetworkParts.j7 k x4 x5 x7 x10 x254000 x254001) else (some false)
def laws_FnExactNetworkParts.j7 : Nat → List Int → Int → List Int → Int → List Int → List (S85) → Option (Bool)
 | 0, _, _, _, _, _, _ => none
 | k + 1, x4, x5, x7, x10, x254000, x254001 => (laws_toNetwork.f x254000 x254001).bind fun bt291 => ((impl_NetworkParts.f k bt291.1 bt291.2).bind fun bt297 => ((laws_eqInt64S_.f bt297.1 x4).bind fun t301 => (if t301 = true then (laws_FnExactNetworkParts.j8 k x7 x10 (bt297.2 != x5)) else (laws_FnExactNetworkParts.j8 k x7 x10 true))))
def laws_FnExactNetworkParts.j8 : Nat → List Int → Int → Bool → Option (Bool)
 | 0, _, _, _ => none
 | k + 1, x7, x10, x87 => if x87 = true then (some false) else (laws_FnExactNetworkParts.j9 k x7 x10)
def laws_FnExactNetworkParts.j9 : Nat → List Int → Int → Option (Bool)
 | 0, _, _ => none
 | k + 1, x7, x10 => (laws_heldInt64S_.f x7 1).bind fun t302 => (if t302 < 0 then (some false) else (if t302 = x10 then (some true) else (some false)))
end
def laws_FnExactNetworkParts.f (k : Nat) (l0_0 : List Int) (l0_1 : List (S85)) : Option (Bool) := (laws_szNetwork.f l0_0 l0_1 1048576).bind fun t254 => (if t254 < 0 then (some true) else (laws_FnExactNetworkParts.j0 k l0_0 l0_1))
theorem laws_FnExactNetworkParts.mono_l : ∀ k, (∀ y0 y1, LeO (laws_FnExactNetworkParts.j0 k y0 y1) (laws_FnExactNetworkParts.j0 (k + 1) y0 y1)) ∧ (∀ y0 y1 y2 y3 y4 y5 y6 y7 y8, LeO (laws_FnExactNetworkParts.j1 k y0 y1 y2 y3 y4 y5 y6 y7 y8) (laws_FnExactNetworkParts.j1 (k + 1) y0 y1 y2 y3 y4 y5 y6 y7 y8)) ∧ (∀ y0 y1 y2 y3 y4 y5 y6 y7, LeO (laws_FnExactNetworkParts.j2 k y0 y1 y2 y3 y4 y5 y6 y7) (laws_FnExactNetworkParts.j2 (k + 1) y0 y1 y2 y3 y4 y5 y6 y7)) ∧ (∀ y0 y1 y2 y3 y4 y5 y6 y7, LeO (laws_FnExactNetworkParts.j3 k y0 y1 y2 y3 y4 y5 y6 y7) (laws_FnExactNetworkParts.j3 (k + 1) y0 y1 y2 y3 y4 y5 y6 y7)) ∧ (∀ y0 y1 y2 y3 y4 y5, LeO (laws_FnExactNetworkParts.j4 k y0 y1 y2 y3 y4 y5) (laws_FnExactNetworkParts.j4 (k + 1) y0 y1 y2 y3 y4 y5)) ∧ (∀ y0 y1 y2 y3 y4, LeO (laws_FnExactNetworkParts.j5 k y0 y1 y2 y3 y4) (laws_FnExactNetworkParts.j5 (k + 1) y0 y1 y2 y3 y4)) ∧ (∀ y0 y1 y2 y3 y4 y5 y6, LeO (laws_FnExactNetworkParts.j6 k y0 y1 y2 y3 y4 y5 y6) (laws_FnExactNetworkParts.j6 (k + 1) y0 y1 y2 y3 y4 y5 y6)) ∧ (∀ y0 y1 y2 y3 y4 y5, LeO (laws_FnExactNetworkParts.j7 k y0 y1 y2 y3 y4 y5) (laws_FnExactNetworkParts.j7 (k + 1) y0 y1 y2 y3 y4 y5)) ∧ (∀ y0 y1 y2, LeO (laws_FnExactNetworkParts.j8 k y0 y1 y2) (laws_FnExactNetworkParts.j8 (k + 1) y0 y1 y2)) ∧ (∀ y0 y1, LeO (laws_FnExactNetworkParts.j9 k y0 y1) (laws_FnExactNetworkParts.j9 (k + 1) y0 y1))
 | 0 => ⟨fun _ _ r h => by simp [laws_FnExactNetworkParts.j0] at h, fun _ _ _ _ _ _ _ _ _ r h => by simp [laws_FnExactNetworkParts.j1] at h, fun _ _ _ _ _ _ _ _ r h => by simp [laws_FnExactNetworkParts.j2] at h, fun _ _ _ _ _ _ _ _ r h => by simp [laws_FnExactNetworkParts.j3] at h, fun _ _ _ _ _ _ r h => by simp [laws_FnExactNetworkParts.j4] at h, fun _ _ _ _ _ r h => by simp [laws_FnExactNetworkParts.j5] at h, fun _ _ _ _ _ _ _ r h => by simp [laws_FnExactNetworkParts.j6] at h, fun _ _ _ _ _ _ r h => by simp [laws_FnExactNetworkParts.j7] at h, fun _ _ _ r h => by simp [laws_FnExactNetworkParts.j8] at h, fun _ _ r h => by simp [laws_FnExactNetworkParts.j9] at h⟩
 | k + 1 => by
  obtain ⟨ih0, ih1, ih2, ih3, ih4, ih5, ih6, ih7, ih8, ih9⟩ := laws_FnExactNetworkParts.mono_l k
  refine ⟨?_, ?_, ?_, ?_, ?_, ?_, ?_, ?_, ?_, ?_⟩
  ·intro y0 y1
   unfold laws_FnExactNetworkParts.j0
   repeat' first
   | (with_reducible exact ih0 _ _)
   | (with_reducible exact ih1 _ _ _ _ _ _ _ _ _)
   | (with_reducible exact ih2 _ _ _ _ _ _ _ _)
   | (with_reducible exact ih3 _ _ _ _ _ _ _ _)
   | (with_reducible exact ih4 _ _ _ _ _ _)
   | (with_reducible exact ih5 _ _ _ _ _)
   | (with_reducible exact ih6 _ _ _ _ _ _ _)
   | (with_reducible exact ih7 _ _ _ _ _ _)
   | (with_reducible exact ih8 _ _ _)
   | (with_reducible exact ih9 _ _)
   | (with_reducible exact impl_NetworkParts.mono _ _ _)
   | (with_reducible exact spec_NetworkParts.mono _ _ _)
   | (with_reducible exact LeO.refl _)
   | (with_reducible exact LeO.none _)
   | (with_reducible refine LeO.ite ?_ ?_)
   | (with_reducible refine LeO.bind ?_ (fun _ => ?_))
   | exact ih0 _ _
   | exact ih1 _ _ _ _ _ _ _ _ _
   | exact ih2 _ _ _ _ _ _ _ _
   | exact ih3 _ _ _ _ _ _ _ _
   | exact ih4 _ _ _ _ _ _
   | exact ih5 _ _ _ _ _
   | exact ih6 _ _ _ _ _ _ _
   | exact ih7 _ _ _ _ _ _
   | exact ih8 _ _ _
   | exact ih9 _ _
   | exact impl_NetworkParts.mono _ _ _
   | exact spec_NetworkParts.mono _ _ _
   | exact LeO.none _
   | refine LeO.ite ?_ ?_
   | refine LeO.bind ?_ (fun _ => ?_)
  ·intro y0 y1 y2 y3 y4 y5 y6 y7 y8
   unfold laws_FnExactNetworkParts.j1
   repeat' first
   | (with_reducible exact ih0 _ _)
   | (with_reducible exact ih1 _ _ _ _ _ _ _ _ _)
   | (with_reducible exact ih2 _ _ _ _ _ _ _ _)
   | (with_reducible exact ih3 _ _ _ _ _ _ _ _)
   | (with_reducible exact ih4 _ _ _ _ _ _)
   | (with_reducible exact ih5 _ _ _ _ _)
   | (with_reducible exact ih6 _ _ _ _ _ _ _)
   | (with_reducible exact ih7 _ _ _ _ _ _)
   | (with_reducible exact ih8 _ _ _)
   | (with_reducible exact ih9 _ _)
   | (with_reducible exact impl_NetworkParts.mono _ _ _)
   | (with_reducible exact spec_NetworkParts.mono _ _ _)
   | (with_reducible exact LeO.refl _)
   | (with_reducible exact LeO.none _)
   | (with_reducible refine LeO.ite ?_ ?_)
   | (with_reducible refine LeO.bind ?_ (fun _ => ?_))
   | exact ih0 _ _
   | exact ih1 _ _ _ _ _ _ _ _ _
   | exact ih2 _ _ _ _ _ _ _ _
   | exact ih3 _ _ _ _ _ _ _ _
   | exact ih4 _ _ _ _ _ _
   | exact ih5 _ _ _ _ _
   | exact ih6 _ _ _ _ _ _ _
   | exact ih7 _ _ _ _ _ _
   | exact ih8 _ _ _
   | exact ih9 _ _
   | exact impl_NetworkParts.mono _ _ _
   | exact spec_NetworkParts.mono _ _ _
   | exact LeO.none _
   | refine LeO.ite ?_ ?_
   | refine LeO.bind ?_ (fun _ => ?_)
  ·intro y0 y1 y2 y3 y4 y5 y6 y7
   unfold laws_FnExactNetworkParts.j2
   repeat' first
   | (with_reducible exact ih0 _ _)
   | (with_reducible exact ih1 _ _ _ _ _ _ _ _ _)
   | (with_reducible exact ih2 _ _ _ _ _ _ _ _)
   | (with_reducible exact ih3 _ _ _ _ _ _ _ _)
   | (with_reducible exact ih4 _ _ _ _ _ _)
   | (with_reducible exact ih5 _ _ _ _ _)
   | (with_reducible exact ih6 _ _ _ _ _ _ _)
   | (with_reducible exact ih7 _ _ _ _ _ _)
   | (with_reducible exact ih8 _ _ _)
   | (with_reducible exact ih9 _ _)
   | (with_reducible exact impl_NetworkParts.mono _ _ _)
   | (with_reducible exact spec_NetworkParts.mono _ _ _)
   | (with_reducible exact LeO.refl _)
   | (with_reducible exact LeO.none _)
   | (with_reducible refine LeO.ite ?_ ?_)
   | (with_reducible refine LeO.bind ?_ (fun _ => ?_))
   | exact ih0 _ _
   | exact ih1 _ _ _ _ _ _ _ _ _
   | exact ih2 _ _ _ _ _ _ _ _
   | exact ih3 _ _ _ _ _ _ _ _
   | exact ih4 _ _ _ _ _ _
   | exact ih5 _ _ _ _ _
   | exact ih6 _ _ _ _ _ _ _
   | exact ih7 _ _ _ _ _ _
   | exact ih8 _ _ _
   | exact ih9 _ _
   | exact impl_NetworkParts.mono _ _ _
   | exact spec_NetworkParts.mono _ _ _
   | exact LeO.none _
   | refine LeO.ite ?_ ?_
   | refine LeO.bind ?_ (fun _ => ?_)
  ·intro y0 y1 y2 y3 y4 y5 y6 y7
   unfold laws_FnExactNetworkParts.j3
   repeat' first
   | (with_reducible exact ih0 _ _)
   | (with_reducible exact ih1 _ _ _ _ _ _ _ _ _)
   | (with_reducible exact ih2 _ _ _ _ _ _ _ _)
   | (with_reducible exact ih3 _ _ _ _ _ _ _ _)
   | (with_reducible exact ih4 _ _ _ _ _ _)
   | (with_reducible exact ih5 _ _ _ _ _)
   | (with_reducible exact ih6 _ _ _ _ _ _ _)
   | (with_reducible exact ih7 _ _ _ _ _ _)
   | (with_reducible exact ih8 _ _ _)
   | (with_reducible exact ih9 _ _)
   | (with_reducible exact impl_NetworkParts.mono _ _ _)
   | (with_reducible exact spec_NetworkParts.mono _ _ _)
   | (with_reducible exact LeO.refl _)
   | (with_reducible exact LeO.none _)
   | (with_reducible refine LeO.ite ?_ ?_)
   | (with_reducible refine LeO.bind ?_ (fun _ => ?_))
   | exact ih0 _ _
   | exact ih1 _ _ _ _ _ _ _ _ _
   | exact ih2 _ _ _ _ _ _ _ _
   | exact ih3 _ _ _ _ _ _ _ _
   | exact ih4 _ _ _ _ _ _
   | exact ih5 _ _ _ _ _
   | exact ih6 _ _ _ _ _ _ _
   | exact ih7 _ _ _ _ _ _
   | exact ih8 _ _ _
   | exact ih9 _ _
   | exact impl_NetworkParts.mono _ _ _
   | exact spec_NetworkParts.mono _ _ _
   | exact LeO.none _
   | refine LeO.ite ?_ ?_
   | refine LeO.bind ?_ (fun _ => ?_)
  ·intro y0 y1 y2 y3 y4 y5
   unfold laws_FnExactNetworkParts.j4
   repeat' first
   | (with_reducible exact ih0 _ _)
   | (with_reducible exact ih1 _ _ _ _ _ _ _ _ _)
   | (with_reducible exact ih2 _ _ _ _ _ _ _ _)
   | (with_reducible exact ih3 _ _ _ _ _ _ _ _)
   | (with_reducible exact ih4 _ _ _ _ _ _)
   | (with_reducible exact ih5 _ _ _ _ _)
   | (with_reducible exact ih6 _ _ _ _ _ _ _)
   | (with_reducible exact ih7 _ _ _ _ _ _)
   | (with_reducible exact ih8 _ _ _)
   | (with_reducible exact ih9 _ _)
   | (with_reducible exact impl_NetworkParts.mono _ _ _)
   | (with_reducible exact spec_NetworkParts.mono _ _ _)
   | (with_reducible exact LeO.refl _)
   | (with_reducible exact LeO.none _)
   | (with_reducible refine LeO.ite ?_ ?_)
   | (with_reducible refine LeO.bind ?_ (fun _ => ?_))
   | exact ih0 _ _
   | exact ih1 _ _ _ _ _ _ _ _ _
   | exact ih2 _ _ _ _ _ _ _ _
   | exact ih3 _ _ _ _ _ _ _ _
   | exact ih4 _ _ _ _ _ _
   | exact ih5 _ _ _ _ _
   | exact ih6 _ _ _ _ _ _ _
   | exact ih7 _ _ _ _ _ _
   | exact ih8 _ _ _
   | exact ih9 _ _
   | exact impl_NetworkParts.mono _ _ _
   | exact spec_NetworkParts.mono _ _ _
   | exact LeO.none _
   | refine LeO.ite ?_ ?_
   | refine LeO.bind ?_ (fun _ => ?_)
  ·intro y0 y1 y2 y3 y4
   unfold laws_FnExactNetworkParts.j5
   repeat' first
   | (with_reducible exact ih0 _ _)
   | (with_reducible exact ih1 _ _ _ _ _ _ _ _ _)
   | (with_reducible exact ih2 _ _ _ _ _ _ _ _)
   | (with_reducible exact ih3 _ _ _ _ _ _ _ _)
   | (with_reducible exact ih4 _ _ _ _ _ _)
   | (with_reducible exact ih5 _ _ _ _ _)
   | (with_reducible exact ih6 _ _ _ _ _ _ _)
   | (with_reducible exact ih7 _ _ _ _ _ _)
   | (with_reducible exact ih8 _ _ _)
   | (with_reducible exact ih9 _ _)
   | (with_reducible exact impl_NetworkParts.mono _ _ _)
   | (with_reducible exact spec_NetworkParts.mono _ _ _)
   | (with_reducible exact LeO.refl _)
   | (with_reducible exact LeO.none _)
   | (with_reducible refine LeO.ite ?_ ?_)
   | (with_reducible refine LeO.bind ?_ (fun _ => ?_))
   | exact ih0 _ _
   | exact ih1 _ _ _ _ _ _ _ _ _
   | exact ih2 _ _ _ _ _ _ _ _
   | exact ih3 _ _ _ _ _ _ _ _
   | exact ih4 _ _ _ _ _ _
   | exact ih5 _ _ _ _ _
   | exact ih6 _ _ _ _ _ _ _
   | exact ih7 _ _ _ _ _ _
   | exact ih8 _ _ _
   | exact ih9 _ _
   | exact impl_NetworkParts.mono _ _ _
   | exact spec_NetworkParts.mono _ _ _
   | exact LeO.none _
   | refine LeO.ite ?_ ?_
   | refine LeO.bind ?_ (fun _ => ?_)
  ·intro y0 y1 y2 y3 y4 y5 y6
   unfold laws_FnExactNetworkParts.j6
   repeat' first
   | (with_reducible exact ih0 _ _)
   | (with_reducible exact ih1 _ _ _ _ _ _ _ _ _)
   | (with_reducible exact ih2 _ _ _ _ _ _ _ _)
   | (with_reducible exact ih3 _ _ _ _ _ _ _ _)
   | (with_reducible exact ih4 _ _ _ _ _ _)
   | (with_reducible exact ih5 _ _ _ _ _)
   | (with_reducible exact ih6 _ _ _ _ _ _ _)
   | (with_reducible exact ih7 _ _ _ _ _ _)
   | (with_reducible exact ih8 _ _ _)
   | (with_reducible exact ih9 _ _)
   | (with_reducible exact impl_NetworkParts.mono _ _ _)
   | (with_reducible exact spec_NetworkParts.mono _ _ _)
   | (with_reducible exact LeO.refl _)
   | (with_reducible exact LeO.none _)
   | (with_reducible refine LeO.ite ?_ ?_)
   | (with_reducible refine LeO.bind ?_ (fun _ => ?_))
   | exact ih0 _ _
   | exact ih1 _ _ _ _ _ _ _ _ _
   | exact ih2 _ _ _ _ _ _ _ _
   | exact ih3 _ _ _ _ _ _ _ _
   | exact ih4 _ _ _ _ _ _
   | exact ih5 _ _ _ _ _
   | exact ih6 _ _ _ _ _ _ _
   | exact ih7 _ _ _ _ _ _
   | exact ih8 _ _ _
   | exact ih9 _ _
   | exact impl_NetworkParts.mono _ _ _
   | exact spec_NetworkParts.mono _ _ _
   | exact LeO.none _
   | refine LeO.ite ?_ ?_
   | refine LeO.bind ?_ (fun _ => ?_)
  ·intro y0 y1 y2 y3 y4 y5
   unfold laws_FnExactNetworkParts.j7
   repeat' first
   | (with_reducible exact ih0 _ _)
   | (with_reducible exact ih1 _ _ _ _ _ _ _ _ _)
   | (with_reducible exact ih2 _ _ _ _ _ _ _ _)
   | (with_reducible exact ih3 _ _ _ _ _ _ _ _)
   | (with_reducible exact ih4 _ _ _ _ _ _)
   | (with_reducible exact ih5 _ _ _ _ _)
   | (with_reducible exact ih6 _ _ _ _ _ _ _)
   | (with_reducible exact ih7 _ _ _ _ _ _)
   | (with_reducible exact ih8 _ _ _)
   | (with_reducible exact ih9 _ _)
   | (with_reducible exact impl_NetworkParts.mono _ _ _)
   | (with_reducible exact spec_NetworkParts.mono _ _ _)
   | (with_reducible exact LeO.refl _)
   | (with_reducible exact LeO.none _)
   | (with_reducible refine LeO.ite ?_ ?_)
   | (with_reducible refine LeO.bind ?_ (fun _ => ?_))
   | exact ih0 _ _
   | exact ih1 _ _ _ _ _ _ _ _ _
   | exact ih2 _ _ _ _ _ _ _ _
   | exact ih3 _ _ _ _ _ _ _ _
   | exact ih4 _ _ _ _ _ _
   | exact ih5 _ _ _ _ _
   | exact ih6 _ _ _ _ _ _ _
   | exact ih7 _ _ _ _ _ _
   | exact ih8 _ _ _
   | exact ih9 _ _
   | exact impl_NetworkParts.mono _ _ _
   | exact spec_NetworkParts.mono _ _ _
   | exact LeO.none _
   | refine LeO.ite ?_ ?_
   | refine LeO.bind ?_ (fun _ => ?_)
  ·intro y0 y1 y2
   unfold laws_FnExactNetworkParts.j8
   repeat' first
   | (with_reducible exact ih0 _ _)
   | (with_reducible exact ih1 _ _ _ _ _ _ _ _ _)
   | (with_reducible exact ih2 _ _ _ _ _ _ _ _)
   | (with_reducible exact ih3 _ _ _ _ _ _ _ _)
   | (with_reducible exact ih4 _ _ _ _ _ _)
   | (with_reducible exact ih5 _ _ _ _ _)
   | (with_reducible exact ih6 _ _ _ _ _ _ _)
   | (with_reducible exact ih7 _ _ _ _ _ _)
   | (with_reducible exact ih8 _ _ _)
   | (with_reducible exact ih9 _ _)
   | (with_reducible exact impl_NetworkParts.mono _ _ _)
   | (with_reducible exact spec_NetworkParts.mono _ _ _)
   | (with_reducible exact LeO.refl _)
   | (with_reducible exact LeO.none _)
   | (with_reducible refine LeO.ite ?_ ?_)
   | (with_reducible refine LeO.bind ?_ (fun _ => ?_))
   | exact ih0 _ _
   | exact ih1 _ _ _ _ _ _ _ _ _
   | exact ih2 _ _ _ _ _ _ _ _
   | exact ih3 _ _ _ _ _ _ _ _
   | exact ih4 _ _ _ _ _ _
   | exact ih5 _ _ _ _ _
   | exact ih6 _ _ _ _ _ _ _
   | exact ih7 _ _ _ _ _ _
   | exact ih8 _ _ _
   | exact ih9 _ _
   | exact impl_NetworkParts.mono _ _ _
   | exact spec_NetworkParts.mono _ _ _
   | exact LeO.none _
   | refine LeO.ite ?_ ?_
   | refine LeO.bind ?_ (fun _ => ?_)
  ·intro y0 y1
   unfold laws_FnExactNetworkParts.j9
   repeat' first
   | (with_reducible exact ih0 _ _)
   | (with_reducible exact ih1 _ _ _ _ _ _ _ _ _)
   | (with_reducible exact ih2 _ _ _ _ _ _ _ _)
   | (with_reducible exact ih3 _ _ _ _ _ _ _ _)
   | (with_reducible exact ih4 _ _ _ _ _ _)
   | (with_reducible exact ih5 _ _ _ _ _)
   | (with_reducible exact ih6 _ _ _ _ _ _ _)
   | (with_reducible exact ih7 _ _ _ _ _ _)
   | (with_reducible exact ih8 _ _ _)
   | (with_reducible exact ih9 _ _)
   | (with_reducible exact impl_NetworkParts.mono _ _ _)
   | (with_reducible exact spec_NetworkParts.mono _ _ _)
   | (with_reducible exact LeO.refl _)
   | (with_reducible exact LeO.none _)
   | (with_reducible refine LeO.ite ?_ ?_)
   | (with_reducible refine LeO.bind ?_ (fun _ => ?_))
   | exact ih0 _ _
   | exact ih1 _ _ _ _ _ _ _ _ _
   | exact ih2 _ _ _ _ _ _ _ _
   | exact ih3 _ _ _ _ _ _ _ _
   | exact ih4 _ _ _ _ _ _
   | exact ih5 _ _ _ _ _
   | exact ih6 _ _ _ _ _ _ _
   | exact ih7 _ _ _ _ _ _
   | exact ih8 _ _ _
   | exact ih9 _ _
   | exact impl_NetworkParts.mono _ _ _
   | exact spec_NetworkParts.mono _ _ _
   | exact LeO.none _
   | refine LeO.ite ?_ ?_
   | refine LeO.bind ?_ (fun _ => ?_)
theorem laws_FnExactNetworkParts.mono : ∀ a0 a1 k, LeO (laws_FnExactNetworkParts.f k a0 a1) (laws_FnExactNetworkParts.f (k + 1) a0 a1) := by
 intro a0 a1 k
 obtain ⟨ih0, ih1, ih2, ih3, ih4, ih5, ih6, ih7, ih8, ih9⟩ := laws_FnExactNetworkParts.mono_l k
 unfold laws_FnExactNetworkParts.f
 repeat' first
   | (with_reducible exact ih0 _ _)
   | (with_reducible exact ih1 _ _ _ _ _ _ _ _ _)
   | (with_reducible exact ih2 _ _ _ _ _ _ _ _)
   | (with_reducible exact ih3 _ _ _ _ _ _ _ _)
   | (with_reducible exact ih4 _ _ _ _ _ _)
   | (with_reducible exact ih5 _ _ _ _ _)
   | (with_reducible exact ih6 _ _ _ _ _ _ _)
   | (with_reducible exact ih7 _ _ _ _ _ _)
   | (with_reducible exact ih8 _ _ _)
   | (with_reducible exact ih9 _ _)
   | (with_reducible exact impl_NetworkParts.mono _ _ _)
   | (with_reducible exact spec_NetworkParts.mono _ _ _)
   | (with_reducible exact LeO.refl _)
   | (with_reducible exact LeO.none _)
   | (with_reducible refine LeO.ite ?_ ?_)
   | (with_reducible refine LeO.bind ?_ (fun _ => ?_))
   | exact ih0 _ _
   | exact ih1 _ _ _ _ _ _ _ _ _
   | exact ih2 _ _ _ _ _ _ _ _
   | exact ih3 _ _ _ _ _ _ _ _
   | exact ih4 _ _ _ _ _ _
   | exact ih5 _ _ _ _ _
   | exact ih6 _ _ _ _ _ _ _
   | exact ih7 _ _ _ _ _ _
   | exact ih8 _ _ _
   | exact ih9 _ _
   | exact impl_NetworkParts.mono _ _ _
   | exact spec_NetworkParts.mono _ _ _
   | exact LeO.none _
   | refine LeO.ite ?_ ?_
   | refine LeO.bind ?_ (fun _ => ?_)
set_option maxHeartbeats 8000000 in
set_option maxRecDepth 100000 in
theorem laws_FnExactNetworkParts.calls (k : Nat) (A0_0 : Option Addr) (c0_0 : Nat) (l0_0 : List Int) (A0_1 : Option Addr) (c0_1 : Nat) (l0_1 : List (S85)) (r : Bool) (w : World) (hr0_0 : Kd.C (Kd.int .i64) w A0_0 l0_0.length l0_0) (hc0_0 : l0_0.length ≤ c0_0) (hr0_1 : Kd.C k85 w A0_1 l0_1.length l0_1) (hc0_1 : l0_1.length ≤ c0_1) (h : laws_FnExactNetworkParts.f k l0_0 l0_1 = some r) :
  Calls Try.prog 6 #[.agg #[.slice A0_0 l0_0.length c0_0, .slice A0_1 l0_1.length c0_1]] w fun e w' => e = .returned (.bool r) ∧ Below w.heap.size w w' := by
 have hu25 := Try.underlying25
 have hu31 := Try.underlying31
 have HR0_0 := Aside0.mk hr0_0
 have HC0_0 := Aside0.mk hc0_0
 clear hr0_0 hc0_0
 have HR0_1 := Aside0.mk hr0_1
 have HC0_1 := Aside0.mk hc0_1
 clear hr0_1 hc0_1
 have HB := Aside0.mk (Below.refl w.heap.size w)
 have H : ((laws_szNetwork.f l0_0 l0_1 1048576).bind fun t254 => (if t254 < 0 then (some true) else (laws_FnExactNetworkParts.j0 k l0_0 l0_1))) = some r := h
 clear h
 replace H := Option.bind_eq_some_iff.mp H
 obtain ⟨t254, A20, H⟩ := H
 replace H : (if t254 < 0 then (some true) else (laws_FnExactNetworkParts.j0 k l0_0 l0_1)) = some r := H
 have A2 := Aside0.mk A20
 clear A20
 have HC3 := Aside0.mk H
 clear H
 go_enter Try.func6, Try.ntmps6
 go_upto_if 18 with (first | ((with_reducible refine gate_dst (N := 1) rfl ?_); refine box_event ?hg (N := 1) ?hd (cs := #[.slice A0_0 l0_0.length c0_0, .slice A0_1 l0_1.length c0_1]) (t := 25) ?hr ?_; (case hd => rfl); (case hg => rfl); (case hr => first | (go_simp; done) | (go_simp; rfl)); intro gb253 hg w4 hbox hb; have n0_ := Aside0.mk (below_step (by repeat (first | (with_reducible first | exact HB.out|apply wA|apply wN|apply wD) | exact HB.out)) hb); have n1_ := Aside0.mk (hbox); have n2_ := Aside0.mk ((by rw [hg]; exact (below_size (by repeat (first | (with_reducible first | exact HB.out|apply wA|apply wN|apply wD) | exact HB.out))) : w.heap.size ≤ gb253)); have n3_ := Aside0.mk ((by rw [hg]; exact (below_size (by repeat (first | (with_reducible first | exact HB.out|apply wA|apply wN|apply wD) | exact HB.out))) : w.heap.size ≤ gb253)); clear HB; have HB := n0_; have BK253 := n1_; have GW253 := n2_; have GE253 := n3_; clear n0_ n1_ n2_ n3_; clear hb hbox hg; have hcz5_0 : w4.cell? ⟨gb253, 0, none⟩ = some (.slice A0_0 l0_0.length c0_0) := (blk_cell BK253.out 0).trans rfl; have hcz5_1 : w4.cell? ⟨gb253, 1, none⟩ = some (.slice A0_1 l0_1.length c0_1) := (blk_cell BK253.out 1).trans rfl; have hfz5_0 := blk_frozen BK253.out 0; have hfz5_1 := blk_frozen BK253.out 1) | ((with_reducible refine gate_callee (f := 14) rfl ?_); refine goesL_ (some 16) rfl rfl Try.func14 (by kernel_rfl) rfl #[.agg #[.slice A0_0 l0_0.length c0_0, .slice A0_1 l0_1.length c0_1], .int .i64 1048576] rfl (by (try simp only [List.map_toArray, List.map_cons, List.map_nil]); first | done | rfl | (simp only [List.length_drop, List.length_take]; rfl)) ?_; (with_reducible refine (laws_szNetwork.calls _ _ l0_0 _ _ l0_1 1048576 t254 _ ?side1 ?side2 ?side3 ?side4 A2.out).mono ?_); (case side1 => repeat (first | exact (Kd.C_below HR0_0.out HB.out) | (with_reducible first|refine Kd.C_alloc ?_ _|refine Kd.C_drewN ?_ _|refine Kd.C_drew ?_))); (case side2 => exact HC0_0.out); (case side3 => repeat (first | exact (Kd.C_below HR0_1.out HB.out) | (with_reducible first|refine Kd.C_alloc ?_ _|refine Kd.C_drewN ?_ _|refine Kd.C_drew ?_))); (case side4 => exact HC0_1.out); rintro e w6 ⟨rfl, hb⟩; refine ⟨_, rfl, ?_⟩; have n0_ := Aside0.mk (blk_below (g := gb253) (o := .cells #[.slice A0_0 l0_0.length c0_0, .slice A0_1 l0_1.length c0_1] 25 (0, 0)) (by (with_reducible repeat (first | refine bN ?_ _|refine bW ?_|refine bA ?_ _)); exact BK253.out) hb); have n1_ := Aside0.mk (below_step (by repeat (first | (with_reducible first | exact HB.out|apply wA|apply wN|apply wD |refine wS ?_ GE253.out) | exact HB.out)) hb); clear BK253; clear HB; have BK253 := n0_; have HB := n1_; clear n0_ n1_; (try clear hb); (try clear hb2); (try clear hk); (try clear hi)))
 (try simp only [Act.put, List.setIfInBounds_toArray, List.set_cons_zero, List.set_cons_succ])
 go_cut [] (fun wc => ∃ (kq : Nat), Aside0 (laws_FnExactNetworkParts.j0 kq l0_0 l0_1 = some r) ∧ Aside0 (kq ≤ k) ∧ Aside0 (wc.heap[gb253]? = some (.cells #[(.slice A0_0 l0_0.length c0_0), (.slice A0_1 l0_1.length c0_1)] 25 (0, 0))) ∧ Aside0 (Below w.heap.size w wc))
 case first =>
  have H := HC3.out
  clear HC3
  by_cases c7 : t254 < 0
  ·rw [if_pos c7] at H
   have c7b0 : decide (t254 < 0) = true := decide_eq_true c7
   clear c7
   (first | rw [c7b0] | (simp only [i64_w, i32_w]; rw [c7b0]) | rw [c7b2] | skip)
   obtain rfl := Option.some.inj H
   go_wp2
   go_ret
   exact ⟨by first | rfl | (simp [errW_none, errW_some] <;> rfl) | (simp [*, errW_none, errW_some] <;> rfl), by repeat (first | (with_reducible first | exact HB.out|apply wA|apply wN|apply wD |refine wS ?_ GE253.out) | exact HB.out)⟩
  ·rw [if_neg c7] at H
   have c7b0 : decide (t254 < 0) = false := decide_eq_false c7
   clear c7
   (first | rw [c7b0] | (simp only [i64_w, i32_w]; rw [c7b0]) | rw [c7b2] | skip)
   have H' := Aside0.mk H
   clear H
   go_wp2
   go_meet
   case rel => exact ⟨_, H', ⟨by first | omega | exact Nat.le_refl _⟩, ⟨by (with_reducible repeat (first | refine bN ?_ _|refine bW ?_|refine bA ?_ _)); exact BK253.out⟩, ⟨by repeat (first | (with_reducible first | exact HB.out|apply wA|apply wN|apply wD |refine wS ?_ GE253.out) | exact HB.out)⟩⟩
 case rest =>
  clear HC3
  try clear c1
  try clear p2
  try clear c6
  try clear c7
  try clear c7b0
  try clear c7b2
  try clear hcz5_0
  try clear hcz5_1
  try clear hfz5_0
  try clear hfz5_1
  obtain ⟨kq, HA, HJ2, BK253, HB⟩ := hcut
  cases kq with
  | zero => exact absurd HA.out (by simp [laws_FnExactNetworkParts.j0])
  | succ kj2 =>
   have H := HA.out
   clear HA
   simp only [laws_FnExactNetworkParts.j0] at H
   replace H := Option.bind_eq_some_iff.mp H
   obtain ⟨⟨t255, t258⟩, A80, H⟩ := H
   replace H : ((spec_NetworkParts.f kj2 t255 t258).bind fun bt261 => ((laws_toNetwork.f l0_0 l0_1).bind fun bt265 => ((impl_NetworkParts.f kj2 bt265.1 bt265.2).bind fun bt272 => ((laws_eqInt64S_.f bt272.1 bt261.1).bind fun t276 => (if t276 = true then (laws_FnExactNetworkParts.j1 kj2 bt261.1 bt261.2 bt272.1 bt272.2 (bt272.2 != bt261.2) l0_0 l0_1 bt265.1 bt265.2) else (laws_FnExactNetworkParts.j1 kj2 bt261.1 bt261.2 bt272.1 bt272.2 true l0_0 l0_1 bt265.1 bt265.2)))))) = some r := H
   have A8 := Aside0.mk A80
   clear A80
   replace H := Option.bind_eq_some_iff.mp H
   obtain ⟨⟨t261, t264⟩, A90, H⟩ := H
   replace H : ((laws_toNetwork.f l0_0 l0_1).bind fun bt265 => ((impl_NetworkParts.f kj2 bt265.1 bt265.2).bind fun bt272 => ((laws_eqInt64S_.f bt272.1 t261).bind fun t276 => (if t276 = true then (laws_FnExactNetworkParts.j1 kj2 t261 t264 bt272.1 bt272.2 (bt272.2 != t264) l0_0 l0_1 bt265.1 bt265.2) else (laws_FnExactNetworkParts.j1 kj2 t261 t264 bt272.1 bt272.2 true l0_0 l0_1 bt265.1 bt265.2))))) = some r := H
   have A9 := Aside0.mk A90
   clear A90
   replace H := Option.bind_eq_some_iff.mp H
   obtain ⟨⟨t265, t268⟩, A100, H⟩ := H
   replace H : ((impl_NetworkParts.f kj2 t265 t268).bind fun bt272 => ((laws_eqInt64S_.f bt272.1 t261).bind fun t276 => (if t276 = true then (laws_FnExactNetworkParts.j1 kj2 t261 t264 bt272.1 bt272.2 (bt272.2 != t264) l0_0 l0_1 t265 t268) else (laws_FnExactNetworkParts.j1 kj2 t261 t264 bt272.1 bt272.2 true l0_0 l0_1 t265 t268)))) = some r := H
   have A10 := Aside0.mk A100
   clear A100
   replace H := Option.bind_eq_some_iff.mp H
   obtain ⟨⟨t272, t275⟩, A110, H⟩ := H
   replace H : ((laws_eqInt64S_.f t272 t261).bind fun t276 => (if t276 = true then (laws_FnExactNetworkParts.j1 kj2 t261 t264 t272 t275 (t275 != t264) l0_0 l0_1 t265 t268) else (laws_FnExactNetworkParts.j1 kj2 t261 t264 t272 t275 true l0_0 l0_1 t265 t268))) = some r := H
   have A11 := Aside0.mk A110
   clear A110
   have HC12 := Aside0.mk H
   clear H
   have hcz13_0 : wc.cell? ⟨gb253, 0, none⟩ = some (.slice A0_0 l0_0.length c0_0) := (blk_cell BK253.out 0).trans rfl
   have hcz13_1 : wc.cell? ⟨gb253, 1, none⟩ = some (.slice A0_1 l0_1.length c0_1) := (blk_cell BK253.out 1).trans rfl
   have hfz13_0 := blk_frozen BK253.out 0
   have hfz13_1 := blk_frozen BK253.out 1
   go_upto_region 8 with (first | ((with_reducible refine gate_callee (f := 16) rfl ?_); refine goesL_ (some 21) rfl rfl Try.func16 (by kernel_rfl) rfl #[.agg #[.slice A0_0 l0_0.length c0_0, .slice A0_1 l0_1.length c0_1]] rfl (by (try simp only [List.map_toArray, List.map_cons, List.map_nil]); first | done | rfl | (simp only [List.length_drop, List.length_take]; rfl)) ?_; (with_reducible refine (laws_toNetwork.calls _ _ l0_0 _ _ l0_1 t255 t258 _ ?side1 ?side2 ?side3 ?side4 A8.out).mono ?_); (case side1 => repeat (first | exact (Kd.C_below HR0_0.out HB.out) | (with_reducible first|refine Kd.C_alloc ?_ _|refine Kd.C_drewN ?_ _|refine Kd.C_drew ?_))); (case side2 => exact HC0_0.out); (case side3 => repeat (first | exact (Kd.C_below HR0_1.out HB.out) | (with_reducible first|refine Kd.C_alloc ?_ _|refine Kd.C_drewN ?_ _|refine Kd.C_drew ?_))); (case side4 => exact HC0_1.out); rintro e w14 ⟨v256, v259, rfl, ho0, ho1, hb⟩; refine ⟨_, rfl, ?_⟩; have n0_ := Aside0.mk (Kd.R_lower ho0 (below_size (by repeat (first | (with_reducible first | exact HB.out|apply wA|apply wN|apply wD |refine wS ?_ GE253.out) | exact HB.out)))); have n1_ := Aside0.mk (Kd.R_lower ho1 (below_size (by repeat (first | (with_reducible first | exact HB.out|apply wA|apply wN|apply wD |refine wS ?_ GE253.out) | exact HB.out)))); have n2_ := Aside0.mk (blk_below (g := gb253) (o := .cells #[.slice A0_0 l0_0.length c0_0, .slice A0_1 l0_1.length c0_1] 25 (0, 0)) (by (with_reducible repeat (first | refine bN ?_ _|refine bW ?_|refine bA ?_ _)); exact BK253.out) hb); have n3_ := Aside0.mk (below_step (by repeat (first | (with_reducible first | exact HB.out|apply wA|apply wN|apply wD |refine wS ?_ GE253.out) | exact HB.out)) hb); clear BK253; clear HB; have HO257 := n0_; have HO260 := n1_; have BK253 := n2_; have HB := n3_; clear n0_ n1_ n2_ n3_; (try clear hb); (try clear hb2); (try clear hk); (try clear hi); (try clear ho0); (try clear ho1); obtain ⟨Ao15, co15, eo15⟩ := Kd.R_slice HO257.out; subst eo15; obtain ⟨Ao16, co16, eo16⟩ := Kd.R_slice HO260.out; subst eo16) | ((with_reducible refine gate_callee (f := 27) rfl ?_); refine goesL_ (some 22) rfl rfl Try.func27 (by kernel_rfl) rfl #[.agg #[.slice Ao15 t255.length co15, .slice Ao16 t258.length co16]] rfl (by (try simp only [List.map_toArray, List.map_cons, List.map_nil]); first | done | rfl | (simp only [List.length_drop, List.length_take]; rfl)) ?_; (with_reducible refine (spec_NetworkParts.calls kj2 _ _ t255 _ _ t258 t261 t264 _ ?side1 ?side2 ?side3 ?side4 A9.out).mono ?_); (case side1 => repeat (first | exact (Kd.R_reads' HO257.out).2.2 | (with_reducible first|refine Kd.C_alloc ?_ _|refine Kd.C_drewN ?_ _|refine Kd.C_drew ?_))); (case side2 => exact (Kd.R_reads' HO257.out).2.1); (case side3 => repeat (first | exact (Kd.R_reads' HO260.out).2.2 | (with_reducible first|refine Kd.C_alloc ?_ _|refine Kd.C_drewN ?_ _|refine Kd.C_drew ?_))); (case side4 => exact (Kd.R_reads' HO260.out).2.1); rintro e w17 ⟨v262, rfl, ho0, hb⟩; refine ⟨_, rfl, ?_⟩; have n0_ := Aside0.mk (Kd.R_elder' (by (with_reducible repeat (first | apply rA|apply rN|apply rW)); exact HO257.out) (Kd.R_base ho0) hb); have n1_ := Aside0.mk (Kd.R_below (by (with_reducible repeat (first | apply rA|apply rN|apply rW)); exact HO260.out) hb); have n2_ := Aside0.mk (Kd.R_lower (Kd.R_new' ho0 (Kd.R_lt (by (with_reducible repeat (first | apply rA|apply rN|apply rW)); exact HO257.out))) (below_size (by repeat (first | (with_reducible first | exact HB.out|apply wA|apply wN|apply wD |refine wS ?_ GE253.out) | exact HB.out)))); have n3_ := Aside0.mk (blk_below (g := gb253) (o := .cells #[.slice A0_0 l0_0.length c0_0, .slice A0_1 l0_1.length c0_1] 25 (0, 0)) (by (with_reducible repeat (first | refine bN ?_ _|refine bW ?_|refine bA ?_ _)); exact BK253.out) hb); have n4_ := Aside0.mk (below_step (by repeat (first | (with_reducible first | exact HB.out|apply wA|apply wN|apply wD |refine wS ?_ GE253.out) | exact HB.out)) hb); clear HO257; clear HO260; clear BK253; clear HB; have HO257 := n0_; have HO260 := n1_; have HO263 := n2_; have BK253 := n3_; have HB := n4_; clear n0_ n1_ n2_ n3_ n4_; (try clear hb); (try clear hb2); (try clear hk); (try clear hi); (try clear ho0); have hcz18_0 : w17.cell? ⟨gb253, 0, none⟩ = some (.slice A0_0 l0_0.length c0_0) := (blk_cell BK253.out 0).trans rfl; have hcz18_1 : w17.cell? ⟨gb253, 1, none⟩ = some (.slice A0_1 l0_1.length c0_1) := (blk_cell BK253.out 1).trans rfl; have hfz18_0 := blk_frozen BK253.out 0; have hfz18_1 := blk_frozen BK253.out 1) | ((with_reducible refine gate_callee (f := 16) rfl ?_); refine goesL_ (some 26) rfl rfl Try.func16 (by kernel_rfl) rfl #[.agg #[.slice A0_0 l0_0.length c0_0, .slice A0_1 l0_1.length c0_1]] rfl (by (try simp only [List.map_toArray, List.map_cons, List.map_nil]); first | done | rfl | (simp only [List.length_drop, List.length_take]; rfl)) ?_; (with_reducible refine (laws_toNetwork.calls _ _ l0_0 _ _ l0_1 t265 t268 _ ?side1 ?side2 ?side3 ?side4 A10.out).mono ?_); (case side1 => repeat (first | exact (Kd.C_below HR0_0.out HB.out) | (with_reducible first|refine Kd.C_alloc ?_ _|refine Kd.C_drewN ?_ _|refine Kd.C_drew ?_))); (case side2 => exact HC0_0.out); (case side3 => repeat (first | exact (Kd.C_below HR0_1.out HB.out) | (with_reducible first|refine Kd.C_alloc ?_ _|refine Kd.C_drewN ?_ _|refine Kd.C_drew ?_))); (case side4 => exact HC0_1.out); rintro e w19 ⟨v266, v269, rfl, ho0, ho1, hb⟩; refine ⟨_, rfl, ?_⟩; have n0_ := Aside0.mk (Kd.R_elder' (by (with_reducible repeat (first | apply rA|apply rN|apply rW)); exact HO257.out) (Kd.R_base ho0) hb); have n1_ := Aside0.mk (Kd.R_elder' (by (with_reducible repeat (first | apply rA|apply rN|apply rW)); exact HO260.out) (Kd.R_base ho1) hb); have n2_ := Aside0.mk (Kd.R_elder' (by (with_reducible repeat (first | apply rA|apply rN|apply rW)); exact HO263.out) (Kd.R_base ho0) hb); have n3_ := Aside0.mk (Kd.R_lower (Kd.R_new' (Kd.R_new' ho0 (Kd.R_lt (by (with_reducible repeat (first | apply rA|apply rN|apply rW)); exact HO257.out))) (Kd.R_lt (by (with_reducible repeat (first | apply rA|apply rN|apply rW)); exact HO263.out))) (below_size (by repeat (first | (with_reducible first | exact HB.out|apply wA|apply wN|apply wD |refine wS ?_ GE253.out) | exact HB.out)))); have n4_ := Aside0.mk (Kd.R_lower (Kd.R_new' ho1 (Kd.R_lt (by (with_reducible repeat (first | apply rA|apply rN|apply rW)); exact HO260.out))) (below_size (by repeat (first | (with_reducible first | exact HB.out|apply wA|apply wN|apply wD |refine wS ?_ GE253.out) | exact HB.out)))); have n5_ := Aside0.mk (blk_below (g := gb253) (o := .cells #[.slice A0_0 l0_0.length c0_0, .slice A0_1 l0_1.length c0_1] 25 (0, 0)) (by (with_reducible repeat (first | refine bN ?_ _|refine bW ?_|refine bA ?_ _)); exact BK253.out) hb); have n6_ := Aside0.mk (below_step (by repeat (first | (with_reducible first | exact HB.out|apply wA|apply wN|apply wD |refine wS ?_ GE253.out) | exact HB.out)) hb); clear HO257; clear HO260; clear HO263; clear BK253; clear HB; have HO257 := n0_; have HO260 := n1_; have HO263 := n2_; have HO267 := n3_; have HO270 := n4_; have BK253 := n5_; have HB := n6_; clear n0_ n1_ n2_ n3_ n4_ n5_ n6_; (try clear hb); (try clear hb2); (try clear hk); (try clear hi); (try clear ho0); (try clear ho1)) | ((with_reducible refine gate_dst (N := 6) rfl ?_); refine box_event ?hg (N := 6) ?hd (cs := #[.slice none 0 0, .slice none 0 0]) (t := 31) ?hr ?_; (case hd => rfl); (case hg => rfl); (case hr => first | (go_simp; done) | (go_simp; rfl)); intro gb271 hg w20 hbox hb; have n0_ := Aside0.mk (Kd.R_below (by (with_reducible repeat (first | apply rA|apply rN|apply rW)); exact HO257.out) hb); have n1_ := Aside0.mk (Kd.R_below (by (with_reducible repeat (first | apply rA|apply rN|apply rW)); exact HO260.out) hb); have n2_ := Aside0.mk (Kd.R_below (by (with_reducible repeat (first | apply rA|apply rN|apply rW)); exact HO263.out) hb); have n3_ := Aside0.mk (Kd.R_below (by (with_reducible repeat (first | apply rA|apply rN|apply rW)); exact HO267.out) hb); have n4_ := Aside0.mk (Kd.R_below (by (with_reducible repeat (first | apply rA|apply rN|apply rW)); exact HO270.out) hb); have n5_ := Aside0.mk (blk_below (g := gb253) (o := .cells #[.slice A0_0 l0_0.length c0_0, .slice A0_1 l0_1.length c0_1] 25 (0, 0)) (by (with_reducible repeat (first | refine bN ?_ _|refine bW ?_|refine bA ?_ _)); exact BK253.out) hb); have n6_ := Aside0.mk (below_step (by repeat (first | (with_reducible first | exact HB.out|apply wA|apply wN|apply wD |refine wS ?_ GE253.out) | exact HB.out)) hb); have n7_ := Aside0.mk (hbox); have n8_ := Aside0.mk ((by rw [hg]; exact (below_size (by repeat (first | (with_reducible first | exact HB.out|apply wA|apply wN|apply wD |refine wS ?_ GE253.out) | exact HB.out))) : w.heap.size ≤ gb271)); have n9_ := Aside0.mk ((by rw [hg]; exact (below_size (by repeat (first | (with_reducible first | exact HB.out|apply wA|apply wN|apply wD |refine wS ?_ GE253.out) | exact HB.out))) : w.heap.size ≤ gb271)); have n10_ := Aside0.mk ((by rw [hg]; exact Nat.ne_of_lt (blk_lt (g := gb253) (o := .cells #[.slice A0_0 l0_0.length c0_0, .slice A0_1 l0_1.length c0_1] 25 (0, 0)) (by (with_reducible repeat (first | refine bN ?_ _|refine bW ?_|refine bA ?_ _)); exact BK253.out)) : gb253 ≠ gb271)); have n11_ := Aside0.mk ((by rw [hg]; exact Nat.ne_of_gt (blk_lt (g := gb253) (o := .cells #[.slice A0_0 l0_0.length c0_0, .slice A0_1 l0_1.length c0_1] 25 (0, 0)) (by (with_reducible repeat (first | refine bN ?_ _|refine bW ?_|refine bA ?_ _)); exact BK253.out)) : gb271 ≠ gb253)); clear HO257; clear HO260; clear HO263; clear HO267; clear HO270; clear BK253; clear HB; have HO257 := n0_; have HO260 := n1_; have HO263 := n2_; have HO267 := n3_; have HO270 := n4_; have BK253 := n5_; have HB := n6_; have BK271 := n7_; have GW271 := n8_; have GE271 := n9_; have NB253_271 := n10_; have NB271_253 := n11_; clear n0_ n1_ n2_ n3_ n4_ n5_ n6_ n7_ n8_ n9_ n10_ n11_; clear hb hbox hg; obtain ⟨Ao21, co21, eo21⟩ := Kd.R_slice HO267.out; subst eo21; have hnb22 := NB271_253.out; have hnc22 := NB253_271.out; have hcz23_0 : w20.cell? ⟨gb271, 0, none⟩ = some (.slice none 0 0) := (blk_cell BK271.out 0).trans rfl; have hcz23_1 : w20.cell? ⟨gb271, 1, none⟩ = some (.slice none 0 0) := (blk_cell BK271.out 1).trans rfl; have hfz23_0 := blk_frozen BK271.out 0; have hfz23_1 := blk_frozen BK271.out 1; obtain ⟨Ao24, co24, eo24⟩ := Kd.R_slice HO270.out; subst eo24) | ((with_reducible refine gate_callee (f := 28) rfl ?_); refine goesL_ (some 29) rfl rfl Try.func28 (by kernel_rfl) rfl #[.agg #[.slice Ao21 t265.length co21, .slice Ao24 t268.length co24]] rfl (by (try simp only [List.map_toArray, List.map_cons, List.map_nil]); first | done | rfl | (simp only [List.length_drop, List.length_take]; rfl)) ?_; (with_reducible refine (impl_NetworkParts.calls kj2 _ _ t265 _ _ t268 t272 t275 _ ?side1 ?side2 ?side3 ?side4 A11.out).mono ?_); (case side1 => refine (Kd.R_reads' (e := 2) (base := w.heap.size) (ok := fun k_ => ((True ∧ some k_ ≠ (.slice Ao15 t255.length co15 : Value).ownBlock) ∧ some k_ ≠ (v262 : Value).ownBlock)) (n := t265.length) (c := co21) ?_).2.2; exact (by (with_reducible repeat (first | apply rA|apply rN|apply rW)); exact (Kd.R_mono (Kd.R_far (p := ⟨gb271, 1, none⟩) (Kd.R_far (p := ⟨gb271, 0, none⟩) (Kd.R_types HO267.out BK271.out (by decide)) (fun _ hk => hk.2) (.slice Ao21 t265.length co21)) (fun _ hk => hk.2) (.slice Ao24 t268.length co24)) (fun _ h_ => h_.1)))); (case side2 => exact (Kd.R_reads' HO267.out).2.1); (case side3 => refine (Kd.R_reads' (e := 60) (base := w.heap.size) (ok := fun k_ => (True ∧ some k_ ≠ (.slice Ao16 t258.length co16 : Value).ownBlock)) (n := t268.length) (c := co24) ?_).2.2; exact (by (with_reducible repeat (first | apply rA|apply rN|apply rW)); exact (Kd.R_mono (Kd.R_far (p := ⟨gb271, 1, none⟩) (Kd.R_far (p := ⟨gb271, 0, none⟩) (Kd.R_types HO270.out BK271.out (by decide)) (fun _ hk => hk.2) (.slice Ao21 t265.length co21)) (fun _ hk => hk.2) (.slice Ao24 t268.length co24)) (fun _ h_ => h_.1)))); (case side4 => exact (Kd.R_reads' HO270.out).2.1); rintro e w25 ⟨v273, rfl, ho0, hb⟩; refine ⟨_, rfl, ?_⟩; have n0_ := Aside0.mk (Kd.R_elder' (by (with_reducible repeat (first | apply rA|apply rN|apply rW)); exact (Kd.R_mono (Kd.R_far (p := ⟨gb271, 1, none⟩) (Kd.R_far (p := ⟨gb271, 0, none⟩) (Kd.R_types HO257.out BK271.out (by decide)) (fun _ hk => hk.2) (.slice Ao21 t265.length co21)) (fun _ hk => hk.2) (.slice Ao24 t268.length co24)) (fun _ h_ => h_.1))) (Kd.R_base ho0) hb); have n1_ := Aside0.mk (Kd.R_below (by (with_reducible repeat (first | apply rA|apply rN|apply rW)); exact (Kd.R_mono (Kd.R_far (p := ⟨gb271, 1, none⟩) (Kd.R_far (p := ⟨gb271, 0, none⟩) (Kd.R_types HO260.out BK271.out (by decide)) (fun _ hk => hk.2) (.slice Ao21 t265.length co21)) (fun _ hk => hk.2) (.slice Ao24 t268.length co24)) (fun _ h_ => h_.1))) hb); have n2_ := Aside0.mk (Kd.R_elder' (by (with_reducible repeat (first | apply rA|apply rN|apply rW)); exact (Kd.R_mono (Kd.R_far (p := ⟨gb271, 1, none⟩) (Kd.R_far (p := ⟨gb271, 0, none⟩) (Kd.R_types HO263.out BK271.out (by decide)) (fun _ hk => hk.2) (.slice Ao21 t265.length co21)) (fun _ hk => hk.2) (.slice Ao24 t268.length co24)) (fun _ h_ => h_.1))) (Kd.R_base ho0) hb); have n3_ := Aside0.mk (Kd.R_elder' (by (with_reducible repeat (first | apply rA|apply rN|apply rW)); exact (Kd.R_mono (Kd.R_far (p := ⟨gb271, 1, none⟩) (Kd.R_far (p := ⟨gb271, 0, none⟩) (Kd.R_types HO267.out BK271.out (by decide)) (fun _ hk => hk.2) (.slice Ao21 t265.length co21)) (fun _ hk => hk.2) (.slice Ao24 t268.length co24)) (fun _ h_ => h_.1))) (Kd.R_base ho0) hb); have n4_ := Aside0.mk (Kd.R_below (by (with_reducible repeat (first | apply rA|apply rN|apply rW)); exact (Kd.R_mono (Kd.R_far (p := ⟨gb271, 1, none⟩) (Kd.R_far (p := ⟨gb271, 0, none⟩) (Kd.R_types HO270.out BK271.out (by decide)) (fun _ hk => hk.2) (.slice Ao21 t265.length co21)) (fun _ hk => hk.2) (.slice Ao24 t268.length co24)) (fun _ h_ => h_.1))) hb); have n5_ := Aside0.mk (Kd.R_lower (Kd.R_new' (Kd.R_new' (Kd.R_new' ho0 (Kd.R_lt (by (with_reducible repeat (first | apply rA|apply rN|apply rW)); exact (Kd.R_mono (Kd.R_far (p := ⟨gb271, 1, none⟩) (Kd.R_far (p := ⟨gb271, 0, none⟩) (Kd.R_types HO257.out BK271.out (by decide)) (fun _ hk => hk.2) (.slice Ao21 t265.length co21)) (fun _ hk => hk.2) (.slice Ao24 t268.length co24)) (fun _ h_ => h_.1))))) (Kd.R_lt (by (with_reducible repeat (first | apply rA|apply rN|apply rW)); exact (Kd.R_mono (Kd.R_far (p := ⟨gb271, 1, none⟩) (Kd.R_far (p := ⟨gb271, 0, none⟩) (Kd.R_types HO263.out BK271.out (by decide)) (fun _ hk => hk.2) (.slice Ao21 t265.length co21)) (fun _ hk => hk.2) (.slice Ao24 t268.length co24)) (fun _ h_ => h_.1))))) (Kd.R_lt (by (with_reducible repeat (first | apply rA|apply rN|apply rW)); exact (Kd.R_mono (Kd.R_far (p := ⟨gb271, 1, none⟩) (Kd.R_far (p := ⟨gb271, 0, none⟩) (Kd.R_types HO267.out BK271.out (by decide)) (fun _ hk => hk.2) (.slice Ao21 t265.length co21)) (fun _ hk => hk.2) (.slice Ao24 t268.length co24)) (fun _ h_ => h_.1))))) (below_size (by repeat (first | (with_reducible first | exact HB.out|apply wA|apply wN|apply wD |refine wS ?_ GE253.out |refine wS ?_ GE271.out) | exact HB.out)))); have n6_ := Aside0.mk (blk_below (g := gb253) (o := .cells #[.slice A0_0 l0_0.length c0_0, .slice A0_1 l0_1.length c0_1] 25 (0, 0)) (by (with_reducible repeat (first | refine bN ?_ _|refine bW ?_|refine bA ?_ _)); refine blk_far ?_ NB253_271.out _; (with_reducible repeat (first | refine bN ?_ _|refine bW ?_|refine bA ?_ _)); refine blk_far ?_ NB253_271.out _; (with_reducible repeat (first | refine bN ?_ _|refine bW ?_|refine bA ?_ _)); exact BK253.out) hb); have n7_ := Aside0.mk (blk_below (g := gb271) (o := .cells #[.slice Ao21 t265.length co21, .slice Ao24 t268.length co24] 31 (0, 0)) (by (with_reducible repeat (first | refine bN ?_ _|refine bW ?_|refine bA ?_ _)); refine blk_put (cs := #[.slice Ao21 t265.length co21, .slice none 0 0]) ?_ 1 _ rfl; (with_reducible repeat (first | refine bN ?_ _|refine bW ?_|refine bA ?_ _)); refine blk_put (cs := #[.slice none 0 0, .slice none 0 0]) ?_ 0 _ rfl; (with_reducible repeat (first | refine bN ?_ _|refine bW ?_|refine bA ?_ _)); exact BK271.out) hb); have n8_ := Aside0.mk (below_step (by repeat (first | (with_reducible first | exact HB.out|apply wA|apply wN|apply wD |refine wS ?_ GE253.out |refine wS ?_ GE271.out) | exact HB.out)) hb); clear HO257; clear HO260; clear HO263; clear HO267; clear HO270; clear BK253; clear BK271; clear HB; have HO257 := n0_; have HO260 := n1_; have HO263 := n2_; have HO267 := n3_; have HO270 := n4_; have HO274 := n5_; have BK253 := n6_; have BK271 := n7_; have HB := n8_; clear n0_ n1_ n2_ n3_ n4_ n5_ n6_ n7_ n8_; (try clear hb); (try clear hb2); (try clear hk); (try clear hi); (try clear ho0)))
   (try simp only [Act.put, List.setIfInBounds_toArray, List.set_cons_zero, List.set_cons_succ])
   go_cut [40] (fun v40 wc => ∃ (kq : Nat) (x40_11 : Bool), v40 = .bool x40_11 ∧ Aside0 (laws_FnExactNetworkParts.j1 kq t261 t264 t272 t275 x40_11 l0_0 l0_1 t265 t268 = some r) ∧ Aside0 (kq ≤ kj2) ∧ Aside0 (Kd.R (Kd.int .i64) 2 wc w.heap.size (fun k_ => some k_ ≠ (v273 : Value).ownBlock ∧ some k_ ≠ ((.slice Ao21 t265.length co21) : Value).ownBlock) v262 t261) ∧ Aside0 (Kd.R (Kd.int .i64) 2 wc w.heap.size (fun k_ => some k_ ≠ (v262 : Value).ownBlock ∧ some k_ ≠ ((.slice Ao21 t265.length co21) : Value).ownBlock) v273 t272) ∧ Aside0 (Kd.R (Kd.int .i64) 2 wc w.heap.size (fun k_ => some k_ ≠ (v262 : Value).ownBlock ∧ some k_ ≠ (v273 : Value).ownBlock) (.slice Ao21 t265.length co21) t265) ∧ Aside0 (Kd.R k60 60 wc w.heap.size (fun _ => True) (.slice Ao24 t268.length co24) t268) ∧ Aside0 (wc.heap[gb253]? = some (.cells #[(.slice A0_0 l0_0.length c0_0), (.slice A0_1 l0_1.length c0_1)] 25 (0, 0))) ∧ Aside0 (wc.heap[gb271]? = some (.cells #[(.slice Ao21 t265.length co21), (.slice Ao24 t268.length co24)] 31 (0, 0))) ∧ Aside0 (Below w.heap.size w wc))
   case first =>
    have H := HC12.out
    clear HC12
    replace H := Option.bind_eq_some_iff.mp H
    obtain ⟨t276, A260, H⟩ := H
    replace H : (if t276 = true then (laws_FnExactNetworkParts.j1 kj2 t261 t264 t272 t275 (t275 != t264) l0_0 l0_1 t265 t268) else (laws_FnExactNetworkParts.j1 kj2 t261 t264 t272 t275 true l0_0 l0_1 t265 t268)) = some r := H
    have A26 := Aside0.mk A260
    clear A260
    by_cases c27 : t276 = true
    ·subst c27
     have H1 : (laws_FnExactNetworkParts.j1 kj2 t261 t264 t272 t275 (t275 != t264) l0_0 l0_1 t265 t268) = some r := by rw [if_pos rfl] at H; exact H
     clear H
     have H := H1
     clear H1
     have H' := Aside0.mk H
     clear H
     obtain ⟨Ao28, co28, eo28⟩ := Kd.R_slice HO274.out
     subst eo28
     obtain ⟨Ao29, co29, eo29⟩ := Kd.R_slice HO263.out
     subst eo29
     go_wp2_with (first | ((with_reducible refine gate_callee (f := 18) rfl ?_); refine goesL_ (some 34) rfl rfl Try.func18 (by kernel_rfl) rfl #[.slice Ao28 t272.length co28, .slice Ao29 t261.length co29] rfl (by (try simp only [List.map_toArray, List.map_cons, List.map_nil]); first | done | rfl | (simp only [List.length_drop, List.length_take]; rfl)) ?_; (with_reducible refine (laws_eqInt64S_.calls _ _ t272 _ _ t261 true _ ?side1 ?side2 ?side3 ?side4 A26.out).mono ?_); (case side1 => repeat (first | exact (Kd.R_reads' HO274.out).2.2 | (with_reducible first|refine Kd.C_alloc ?_ _|refine Kd.C_drewN ?_ _|refine Kd.C_drew ?_))); (case side2 => exact (Kd.R_reads' HO274.out).2.1); (case side3 => repeat (first | exact (Kd.R_reads' HO263.out).2.2 | (with_reducible first|refine Kd.C_alloc ?_ _|refine Kd.C_drewN ?_ _|refine Kd.C_drew ?_))); (case side4 => exact (Kd.R_reads' HO263.out).2.1); rintro e w' ⟨rfl, ⟨nd, rfl⟩⟩; refine ⟨_, rfl, ?_⟩))
     go_meet
     case rel => exact ⟨_, ((t275 != t264)), (by first | rfl | (simp; done) | (simp [*]; done)), H', ⟨by have := HJ2.out; first | omega | exact Nat.le_refl _⟩, ⟨by (with_reducible repeat (first | apply rA|apply rN|apply rW)); exact Kd.R_mono HO263.out (fun _ hk => ⟨hk.2, hk.1.2⟩)⟩, ⟨by (with_reducible repeat (first | apply rA|apply rN|apply rW)); exact Kd.R_mono HO274.out (fun _ hk => ⟨hk.1.2, hk.2⟩)⟩, ⟨by (with_reducible repeat (first | apply rA|apply rN|apply rW)); exact Kd.R_mono HO267.out (fun _ hk => ⟨hk.1.2, hk.2⟩)⟩, ⟨by (with_reducible repeat (first | apply rA|apply rN|apply rW)); exact Kd.R_mono HO270.out (fun _ hk => trivial)⟩, ⟨by (with_reducible repeat (first | refine bN ?_ _|refine bW ?_|refine bA ?_ _)); exact BK253.out⟩, ⟨by (with_reducible repeat (first | refine bN ?_ _|refine bW ?_|refine bA ?_ _)); exact BK271.out⟩, ⟨by repeat (first | (with_reducible first | exact HB.out|apply wA|apply wN|apply wD |refine wS ?_ GE253.out |refine wS ?_ GE271.out) | exact HB.out)⟩⟩
    ·replace c27 := Bool.eq_false_iff.mpr c27
     subst c27
     have H1 : (laws_FnExactNetworkParts.j1 kj2 t261 t264 t272 t275 true l0_0 l0_1 t265 t268) = some r := by rw [if_neg (show ¬ (false = true) by decide)] at H; exact H
     clear H
     have H := H1
     clear H1
     have H' := Aside0.mk H
     clear H
     obtain ⟨Ao30, co30, eo30⟩ := Kd.R_slice HO274.out
     subst eo30
     obtain ⟨Ao31, co31, eo31⟩ := Kd.R_slice HO263.out
     subst eo31
     go_wp2_with (first | ((with_reducible refine gate_callee (f := 18) rfl ?_); refine goesL_ (some 34) rfl rfl Try.func18 (by kernel_rfl) rfl #[.slice Ao30 t272.length co30, .slice Ao31 t261.length co31] rfl (by (try simp only [List.map_toArray, List.map_cons, List.map_nil]); first | done | rfl | (simp only [List.length_drop, List.length_take]; rfl)) ?_; (with_reducible refine (laws_eqInt64S_.calls _ _ t272 _ _ t261 false _ ?side1 ?side2 ?side3 ?side4 A26.out).mono ?_); (case side1 => repeat (first | exact (Kd.R_reads' HO274.out).2.2 | (with_reducible first|refine Kd.C_alloc ?_ _|refine Kd.C_drewN ?_ _|refine Kd.C_drew ?_))); (case side2 => exact (Kd.R_reads' HO274.out).2.1); (case side3 => repeat (first | exact (Kd.R_reads' HO263.out).2.2 | (with_reducible first|refine Kd.C_alloc ?_ _|refine Kd.C_drewN ?_ _|refine Kd.C_drew ?_))); (case side4 => exact (Kd.R_reads' HO263.out).2.1); rintro e w' ⟨rfl, ⟨nd, rfl⟩⟩; refine ⟨_, rfl, ?_⟩))
     go_meet
     case rel => exact ⟨_, (true), (by first | rfl | (simp; done) | (simp [*]; done)), H', ⟨by have := HJ2.out; first | omega | exact Nat.le_refl _⟩, ⟨by (with_reducible repeat (first | apply rA|apply rN|apply rW)); exact Kd.R_mono HO263.out (fun _ hk => ⟨hk.2, hk.1.2⟩)⟩, ⟨by (with_reducible repeat (first | apply rA|apply rN|apply rW)); exact Kd.R_mono HO274.out (fun _ hk => ⟨hk.1.2, hk.2⟩)⟩, ⟨by (with_reducible repeat (first | apply rA|apply rN|apply rW)); exact Kd.R_mono HO267.out (fun _ hk => ⟨hk.1.2, hk.2⟩)⟩, ⟨by (with_reducible repeat (first | apply rA|apply rN|apply rW)); exact Kd.R_mono HO270.out (fun _ hk => trivial)⟩, ⟨by (with_reducible repeat (first | refine bN ?_ _|refine bW ?_|refine bA ?_ _)); exact BK253.out⟩, ⟨by (with_reducible repeat (first | refine bN ?_ _|refine bW ?_|refine bA ?_ _)); exact BK271.out⟩, ⟨by repeat (first | (with_reducible first | exact HB.out|apply wA|apply wN|apply wD |refine wS ?_ GE253.out |refine wS ?_ GE271.out) | exact HB.out)⟩⟩
   case rest =>
    clear HC12
    try clear c1
    try clear c2
    try clear p2
    try clear c6
    try clear c7
    try clear c7b0
    try clear c7b2
    try clear c14
    try clear c16
    try clear c18
    try clear c22
    try clear c27
    try clear c28
    try clear hcz13_0
    try clear hcz13_1
    try clear hcz18_0
    try clear hcz18_1
    try clear hcz23_0
    try clear hcz23_1
    try clear hcz5_0
    try clear hcz5_1
    try clear hfz13_0
    try clear hfz13_1
    try clear hfz18_0
    try clear hfz18_1
    try clear hfz23_0
    try clear hfz23_1
    try clear hfz5_0
    try clear hfz5_1
    try clear p2
    obtain ⟨kq, x40_11, rfl, HA, HJ11, HO_4, HO_7, HO_272000, HO_272001, BK253, BK271, HB⟩ := hcut
    cases kq with
    | zero => exact absurd HA.out (by simp [laws_FnExactNetworkParts.j1])
    | succ kj11 =>
     have H := HA.out
     clear HA
     simp only [laws_FnExactNetworkParts.j1] at H
     have HC32 := Aside0.mk H
     clear H
     go_upto_if 40 with (fail)
     go_cut [] (fun wc => ∃ (kq : Nat), Aside0 (laws_FnExactNetworkParts.j2 kq t261 t264 t272 t275 l0_0 l0_1 t265 t268 = some r) ∧ Aside0 (kq ≤ kj11) ∧ Aside0 (Kd.R (Kd.int .i64) 2 wc w.heap.size (fun k_ => some k_ ≠ (v273 : Value).ownBlock ∧ some k_ ≠ ((.slice Ao21 t265.length co21) : Value).ownBlock) v262 t261) ∧ Aside0 (Kd.R (Kd.int .i64) 2 wc w.heap.size (fun k_ => some k_ ≠ (v262 : Value).ownBlock ∧ some k_ ≠ ((.slice Ao21 t265.length co21) : Value).ownBlock) v273 t272) ∧ Aside0 (Kd.R (Kd.int .i64) 2 wc w.heap.size (fun k_ => some k_ ≠ (v262 : Value).ownBlock ∧ some k_ ≠ (v273 : Value).ownBlock) (.slice Ao21 t265.length co21) t265) ∧ Aside0 (Kd.R k60 60 wc w.heap.size (fun _ => True) (.slice Ao24 t268.length co24) t268) ∧ Aside0 (wc.heap[gb253]? = some (.cells #[(.slice A0_0 l0_0.length c0_0), (.slice A0_1 l0_1.length c0_1)] 25 (0, 0))) ∧ Aside0 (wc.heap[gb271]? = some (.cells #[(.slice Ao21 t265.length co21), (.slice Ao24 t268.length co24)] 31 (0, 0))) ∧ Aside0 (Below w.heap.size w wc))
     case first =>
      have H := HC32.out
      clear HC32
      by_cases c33 : x40_11 = true
      ·subst c33
       have H1 : (some false) = some r := by rw [if_pos rfl] at H; exact H
       clear H
       have H := H1
       clear H1
       obtain rfl := Option.some.inj H
       go_wp2
       go_ret
       exact ⟨by first | rfl | (simp [errW_none, errW_some] <;> rfl) | (simp [*, errW_none, errW_some] <;> rfl), by repeat (first | (with_reducible first | exact HB.out|apply wA|apply wN|apply wD |refine wS ?_ GE253.out |refine wS ?_ GE271.out) | exact HB.out)⟩
      ·replace c33 := Bool.eq_false_iff.mpr c33
       subst c33
       have H1 : (laws_FnExactNetworkParts.j2 kj11 t261 t264 t272 t275 l0_0 l0_1 t265 t268) = some r := by rw [if_neg (show ¬ (false = true) by decide)] at H; exact H
       clear H
       have H := H1
       clear H1
       have H' := Aside0.mk H
       clear H
       go_wp2
       go_meet
       case rel => exact ⟨_, H', ⟨by have := HJ2.out; have := HJ11.out; first | omega | exact Nat.le_refl _⟩, ⟨by (with_reducible repeat (first | apply rA|apply rN|apply rW)); exact HO_4.out⟩, ⟨by (with_reducible repeat (first | apply rA|apply rN|apply rW)); exact HO_7.out⟩, ⟨by (with_reducible repeat (first | apply rA|apply rN|apply rW)); exact HO_272000.out⟩, ⟨by (with_reducible repeat (first | apply rA|apply rN|apply rW)); exact HO_272001.out⟩, ⟨by (with_reducible repeat (first | refine bN ?_ _|refine bW ?_|refine bA ?_ _)); exact BK253.out⟩, ⟨by (with_reducible repeat (first | refine bN ?_ _|refine bW ?_|refine bA ?_ _)); exact BK271.out⟩, ⟨by repeat (first | (with_reducible first | exact HB.out|apply wA|apply wN|apply wD |refine wS ?_ GE253.out |refine wS ?_ GE271.out) | exact HB.out)⟩⟩
     case rest =>
      clear HC32
      try clear c1
      try clear c2
      try clear p2
      try clear c3
      try clear c6
      try clear c7
      try clear c7b0
      try clear c7b2
      try clear c14
      try clear c16
      try clear c18
      try clear c22
      try clear c27
      try clear c28
      try clear c33
      try clear hcz13_0
      try clear hcz13_1
      try clear hcz18_0
      try clear hcz18_1
      try clear hcz23_0
      try clear hcz23_1
      try clear hcz5_0
      try clear hcz5_1
      try clear hfz13_0
      try clear hfz13_1
      try clear hfz18_0
      try clear hfz18_1
      try clear hfz23_0
      try clear hfz23_1
      try clear hfz5_0
      try clear hfz5_1
      try clear p2
      obtain ⟨kq, HA, HJ31, HO_4, HO_7, HO_272000, HO_272001, BK253, BK271, HB⟩ := hcut
      cases kq with
      | zero => exact absurd HA.out (by simp [laws_FnExactNetworkParts.j2])
      | succ kj31 =>
       have H := HA.out
       clear HA
       simp only [laws_FnExactNetworkParts.j2] at H
       replace H := Option.bind_eq_some_iff.mp H
       obtain ⟨⟨t277, t280⟩, A340, H⟩ := H
       replace H : ((laws_eqNetwork.f t265 t268 t277 t280).bind fun t283 => (if t283 = true then (laws_FnExactNetworkParts.j3 kj31 t261 t264 t272 t275 l0_0 l0_1 t265 t268) else (some false))) = some r := H
       have A34 := Aside0.mk A340
       clear A340
       replace H := Option.bind_eq_some_iff.mp H
       obtain ⟨t283, A350, H⟩ := H
       replace H : (if t283 = true then (laws_FnExactNetworkParts.j3 kj31 t261 t264 t272 t275 l0_0 l0_1 t265 t268) else (some false)) = some r := H
       have A35 := Aside0.mk A350
       clear A350
       have HC36 := Aside0.mk H
       clear H
       try go_wp2
       have n0_ := Aside0.mk (Kd.R_drew HO_4.out)
       have n1_ := Aside0.mk (Kd.R_drew HO_7.out)
       have n2_ := Aside0.mk (Kd.R_drew HO_272000.out)
       have n3_ := Aside0.mk (Kd.R_drew HO_272001.out)
       have n4_ := Aside0.mk (blk_drew BK253.out)
       have n5_ := Aside0.mk (blk_drew BK271.out)
       have n6_ := Aside0.mk (below_drew1 HB.out)
       clear HO_4
       clear HO_7
       clear HO_272000
       clear HO_272001
       clear BK253
       clear BK271
       clear HB
       have HO_4 := n0_
       have HO_7 := n1_
       have HO_272000 := n2_
       have HO_272001 := n3_
       have BK253 := n4_
       have BK271 := n5_
       have HB := n6_
       clear n0_ n1_ n2_ n3_ n4_ n5_ n6_
       refine start_ (n := 5) (S := fun w' => w'.cell? ⟨gb271, 0, none⟩ = some (.slice Ao21 t265.length co21) ∧ w'.cell? ⟨gb271, 1, none⟩ = some (.slice Ao24 t268.length co24) ∧ w'.cell? ⟨gb253, 0, none⟩ = some (.slice A0_0 l0_0.length c0_0) ∧ w'.cell? ⟨gb253, 1, none⟩ = some (.slice A0_1 l0_1.length c0_1)) (ds := []) #[J,J,J,J,J] (by kernel_rfl) rfl rfl ⟨(blk_cell BK271.out 0).trans rfl, (blk_cell BK271.out 1).trans rfl, (blk_cell BK253.out 0).trans rfl, (blk_cell BK253.out 1).trans rfl⟩ (fun hHeld => ?_)
       generalize wc.drew = w37 at HO_4 HO_7 HO_272000 HO_272001 BK253 BK271 HB hHeld ⊢
       refine take_ (i := 0) (N := some 41) (v := ?_) (a' := ?_) #[Y,J,J,J,J] rfl rfl (by kernel_rfl) (fun _ _ _ h => h) (Or.inl ⟨by rfl, ?_⟩) hHeld ?_ ?_; rotate_left
       ·rintro w' ⟨s0, s1, s2, s3⟩; go_simp; with_reducible rfl
       rotate_left
       ·simp only [pU,pN,sB,sZ,sS,i64_w,i32_w]; rfl
       refine take_ (i := 1) (N := some 42) (v := ?_) (a' := ?_) #[Y,Y,J,J,J] rfl rfl (by kernel_rfl) (fun _ _ _ h => h) (Or.inl ⟨by rfl, ?_⟩) hHeld ?_ ?_; rotate_left
       ·rintro w' ⟨s0, s1, s2, s3⟩; go_simp; with_reducible rfl
       rotate_left
       ·simp only [pU,pN,sB,sZ,sS,i64_w,i32_w]; rfl
       refine one_ (i := 2) (N := some 43) #[Y,Y,Y,J,J] rfl rfl (by kernel_rfl) (by decide) (fun K hK => ?_)
       refine goes_ Try.func16 (by kernel_rfl) rfl #[.agg #[.slice A0_0 l0_0.length c0_0, .slice A0_1 l0_1.length c0_1]] (by rfl) rfl rfl (by (try simp only [List.map_toArray, List.map_cons, List.map_nil]); first | done | rfl | (simp only [List.length_drop, List.length_take]; rfl)) ?_
       with_reducible refine (laws_toNetwork.calls _ _ l0_0 _ _ l0_1 t277 t280 _ ?side1 ?side2 ?side3 ?side4 A34.out).mono ?_
       (case side1 => repeat (first | exact (Kd.C_below HR0_0.out HB.out) | (with_reducible first|refine Kd.C_alloc ?_ _|refine Kd.C_drewN ?_ _|refine Kd.C_drew ?_)))
       (case side2 => exact HC0_0.out)
       (case side3 => repeat (first | exact (Kd.C_below HR0_1.out HB.out) | (with_reducible first|refine Kd.C_alloc ?_ _|refine Kd.C_drewN ?_ _|refine Kd.C_drew ?_)))
       (case side4 => exact HC0_1.out)
       rintro e w38 ⟨v278, v281, rfl, ho0, ho1, hb⟩
       refine ⟨_, rfl, ?_⟩
       have n0_ := Aside0.mk (Kd.R_elder' (by (with_reducible repeat (first | apply rA|apply rN|apply rW)); exact HO_4.out) (Kd.R_base ho0) hb)
       have n1_ := Aside0.mk (Kd.R_elder' (by (with_reducible repeat (first | apply rA|apply rN|apply rW)); exact HO_7.out) (Kd.R_base ho0) hb)
       have n2_ := Aside0.mk (Kd.R_elder' (by (with_reducible repeat (first | apply rA|apply rN|apply rW)); exact HO_272000.out) (Kd.R_base ho0) hb)
       have n3_ := Aside0.mk (Kd.R_elder' (by (with_reducible repeat (first | apply rA|apply rN|apply rW)); exact HO_272001.out) (Kd.R_base ho1) hb)
       have n4_ := Aside0.mk (Kd.R_lower (Kd.R_new' (Kd.R_new' (Kd.R_new' ho0 (Kd.R_lt (by (with_reducible repeat (first | apply rA|apply rN|apply rW)); exact HO_4.out))) (Kd.R_lt (by (with_reducible repeat (first | apply rA|apply rN|apply rW)); exact HO_7.out))) (Kd.R_lt (by (with_reducible repeat (first | apply rA|apply rN|apply rW)); exact HO_272000.out))) (below_size (by repeat (first | (with_reducible first | exact HB.out|apply wA|apply wN|apply wD |refine wS ?_ GE253.out |refine wS ?_ GE271.out) | exact HB.out))))
       have n5_ := Aside0.mk (Kd.R_lower (Kd.R_new' ho1 (Kd.R_lt (by (with_reducible repeat (first | apply rA|apply rN|apply rW)); exact HO_272001.out))) (below_size (by repeat (first | (with_reducible first | exact HB.out|apply wA|apply wN|apply wD |refine wS ?_ GE253.out |refine wS ?_ GE271.out) | exact HB.out))))
       have n6_ := Aside0.mk (blk_below (g := gb253) (o := .cells #[.slice A0_0 l0_0.length c0_0, .slice A0_1 l0_1.length c0_1] 25 (0, 0)) (by (with_reducible repeat (first | refine bN ?_ _|refine bW ?_|refine bA ?_ _)); exact BK253.out) hb)
       have n7_ := Aside0.mk (blk_below (g := gb271) (o := .cells #[.slice Ao21 t265.length co21, .slice Ao24 t268.length co24] 31 (0, 0)) (by (with_reducible repeat (first | refine bN ?_ _|refine bW ?_|refine bA ?_ _)); exact BK271.out) hb)
       have n8_ := Aside0.mk (below_step (by repeat (first | (with_reducible first | exact HB.out|apply wA|apply wN|apply wD |refine wS ?_ GE253.out |refine wS ?_ GE271.out) | exact HB.out)) hb)
       clear HO_4
       clear HO_7
       clear HO_272000
       clear HO_272001
       clear BK253
       clear BK271
       clear HB
       have HO_4 := n0_
       have HO_7 := n1_
       have HO_272000 := n2_
       have HO_272001 := n3_
       have HO279 := n4_
       have HO282 := n5_
       have BK253 := n6_
       have BK271 := n7_
       have HB := n8_
       clear n0_ n1_ n2_ n3_ n4_ n5_ n6_ n7_ n8_
       (try clear hb)
       (try clear hb2)
       (try clear hk)
       (try clear hi)
       (try clear ho0)
       (try clear ho1)
       obtain ⟨Ao39, co39, eo39⟩ := Kd.R_slice HO279.out
       (first | subst eo39 | (injection eo39 with f1_ f2_ f3_; have f4_ := f1_.symm; have f5_ := f3_.symm; clear f1_ f2_ f3_; subst f4_; subst f5_))
       obtain ⟨Ao40, co40, eo40⟩ := Kd.R_slice HO282.out
       (first | subst eo40 | (injection eo40 with f1_ f2_ f3_; have f4_ := f1_.symm; have f5_ := f3_.symm; clear f1_ f2_ f3_; subst f4_; subst f5_))
       refine hK.out _ _ ⟨(blk_cell BK271.out 0).trans rfl, (blk_cell BK271.out 1).trans rfl, (blk_cell BK253.out 0).trans rfl, (blk_cell BK253.out 1).trans rfl⟩ (fun hHeld => ?_)
       clear hK K
       refine norm_ (a' := ?_) ?_ ?_
       rotate_left
       ·show Act.put _ (some 43) _ = _
        simp only [pU,pN,sB,sZ,sS,i64_w,i32_w]
        rfl
       refine one_ (i := 3) (N := some 44) #[Y,Y,Y,Y,J] rfl rfl (by kernel_rfl) (by decide) (fun K hK => ?_)
       refine goes_ Try.func19 (by kernel_rfl) rfl #[.agg #[.slice Ao21 t265.length co21, .slice Ao24 t268.length co24], .agg #[.slice Ao39 t277.length co39, .slice Ao40 t280.length co40]] (by rfl) rfl rfl (by (try simp only [List.map_toArray, List.map_cons, List.map_nil]); first | done | rfl | (simp only [List.length_drop, List.length_take]; rfl)) ?_
       with_reducible refine (laws_eqNetwork.calls _ _ t265 _ _ t268 _ _ t277 _ _ t280 t283 _ ?side1 ?side2 ?side3 ?side4 ?side5 ?side6 ?side7 ?side8 A35.out).mono ?_
       (case side1 => repeat (first | exact (Kd.R_reads' HO_272000.out).2.2 | (with_reducible first|refine Kd.C_alloc ?_ _|refine Kd.C_drewN ?_ _|refine Kd.C_drew ?_)))
       (case side2 => exact (Kd.R_reads' HO_272000.out).2.1)
       (case side3 => repeat (first | exact (Kd.R_reads' HO_272001.out).2.2 | (with_reducible first|refine Kd.C_alloc ?_ _|refine Kd.C_drewN ?_ _|refine Kd.C_drew ?_)))
       (case side4 => exact (Kd.R_reads' HO_272001.out).2.1)
       (case side5 => repeat (first | exact (Kd.R_reads' HO279.out).2.2 | (with_reducible first|refine Kd.C_alloc ?_ _|refine Kd.C_drewN ?_ _|refine Kd.C_drew ?_)))
       (case side6 => exact (Kd.R_reads' HO279.out).2.1)
       (case side7 => repeat (first | exact (Kd.R_reads' HO282.out).2.2 | (with_reducible first|refine Kd.C_alloc ?_ _|refine Kd.C_drewN ?_ _|refine Kd.C_drew ?_)))
       (case side8 => exact (Kd.R_reads' HO282.out).2.1)
       rintro e w41 ⟨rfl, hb⟩
       refine ⟨_, rfl, ?_⟩
       have n0_ := Aside0.mk (Kd.R_below (by (with_reducible repeat (first | apply rA|apply rN|apply rW)); exact HO_4.out) hb)
       have n1_ := Aside0.mk (Kd.R_below (by (with_reducible repeat (first | apply rA|apply rN|apply rW)); exact HO_7.out) hb)
       have n2_ := Aside0.mk (Kd.R_below (by (with_reducible repeat (first | apply rA|apply rN|apply rW)); exact HO_272000.out) hb)
       have n3_ := Aside0.mk (Kd.R_below (by (with_reducible repeat (first | apply rA|apply rN|apply rW)); exact HO_272001.out) hb)
       have n4_ := Aside0.mk (Kd.R_below (by (with_reducible repeat (first | apply rA|apply rN|apply rW)); exact HO279.out) hb)
       have n5_ := Aside0.mk (Kd.R_below (by (with_reducible repeat (first | apply rA|apply rN|apply rW)); exact HO282.out) hb)
       have n6_ := Aside0.mk (blk_below (g := gb253) (o := .cells #[.slice A0_0 l0_0.length c0_0, .slice A0_1 l0_1.length c0_1] 25 (0, 0)) (by (with_reducible repeat (first | refine bN ?_ _|refine bW ?_|refine bA ?_ _)); exact BK253.out) hb)
       have n7_ := Aside0.mk (blk_below (g := gb271) (o := .cells #[.slice Ao21 t265.length co21, .slice Ao24 t268.length co24] 31 (0, 0)) (by (with_reducible repeat (first | refine bN ?_ _|refine bW ?_|refine bA ?_ _)); exact BK271.out) hb)
       have n8_ := Aside0.mk (below_step (by repeat (first | (with_reducible first | exact HB.out|apply wA|apply wN|apply wD |refine wS ?_ GE253.out |refine wS ?_ GE271.out) | exact HB.out)) hb)
       clear HO_4
       clear HO_7
       clear HO_272000
       clear HO_272001
       clear HO279
       clear HO282
       clear BK253
       clear BK271
       clear HB
       have HO_4 := n0_
       have HO_7 := n1_
       have HO_272000 := n2_
       have HO_272001 := n3_
       have HO279 := n4_
       have HO282 := n5_
       have BK253 := n6_
       have BK271 := n7_
       have HB := n8_
       clear n0_ n1_ n2_ n3_ n4_ n5_ n6_ n7_ n8_
       (try clear hb)
       (try clear hb2)
       (try clear hk)
       (try clear hi)
       refine hK.out _ _ ⟨(blk_cell BK271.out 0).trans rfl, (blk_cell BK271.out 1).trans rfl, (blk_cell BK253.out 0).trans rfl, (blk_cell BK253.out 1).trans rfl⟩ (fun hHeld => ?_)
       clear hK K
       refine norm_ (a' := ?_) ?_ ?_
       rotate_left
       ·show Act.put _ (some 44) _ = _
        simp only [pU,pN,sB,sZ,sS,i64_w,i32_w]
        rfl
       refine pure_ (i := 4) (N := some 45) (v := ?_) (a' := ?_) #[Y,Y,Y,Y,Y] rfl rfl (by kernel_rfl) (fun _ _ _ h => h) (Or.inl ⟨by rfl, ?_⟩) ?_ ?_; rotate_left
       ·intro w'; go_simp; with_reducible rfl
       rotate_left
       ·simp only [pU,pN,sB,sZ,sS,i64_w,i32_w]; rfl
       refine done_ (by kernel_rfl) ?_
       go_upto_if 45 with (fail)
       go_cut [] (fun wc => ∃ (kq : Nat), Aside0 (laws_FnExactNetworkParts.j3 kq t261 t264 t272 t275 l0_0 l0_1 t265 t268 = some r) ∧ Aside0 (kq ≤ kj31) ∧ Aside0 (Kd.R (Kd.int .i64) 2 wc w.heap.size (fun k_ => some k_ ≠ (v273 : Value).ownBlock ∧ some k_ ≠ ((.slice Ao21 t265.length co21) : Value).ownBlock) v262 t261) ∧ Aside0 (Kd.R (Kd.int .i64) 2 wc w.heap.size (fun k_ => some k_ ≠ (v262 : Value).ownBlock ∧ some k_ ≠ ((.slice Ao21 t265.length co21) : Value).ownBlock) v273 t272) ∧ Aside0 (Kd.R (Kd.int .i64) 2 wc w.heap.size (fun k_ => some k_ ≠ (v262 : Value).ownBlock ∧ some k_ ≠ (v273 : Value).ownBlock) (.slice Ao21 t265.length co21) t265) ∧ Aside0 (Kd.R k60 60 wc w.heap.size (fun _ => True) (.slice Ao24 t268.length co24) t268) ∧ Aside0 (wc.heap[gb253]? = some (.cells #[(.slice A0_0 l0_0.length c0_0), (.slice A0_1 l0_1.length c0_1)] 25 (0, 0))) ∧ Aside0 (wc.heap[gb271]? = some (.cells #[(.slice Ao21 t265.length co21), (.slice Ao24 t268.length co24)] 31 (0, 0))) ∧ Aside0 (Below w.heap.size w wc))
       case first =>
        have H := HC36.out
        clear HC36
        by_cases c42 : t283 = true
        ·subst c42
         have H1 : (laws_FnExactNetworkParts.j3 kj31 t261 t264 t272 t275 l0_0 l0_1 t265 t268) = some r := by rw [if_pos rfl] at H; exact H
         clear H
         have H := H1
         clear H1
         have H' := Aside0.mk H
         clear H
         go_wp2
         go_meet
         case rel => exact ⟨_, H', ⟨by have := HJ2.out; have := HJ11.out; have := HJ31.out; first | omega | exact Nat.le_refl _⟩, ⟨by (with_reducible repeat (first | apply rA|apply rN|apply rW)); exact Kd.R_mono HO_4.out (fun _ hk => ⟨hk.1.1, hk.1.2⟩)⟩, ⟨by (with_reducible repeat (first | apply rA|apply rN|apply rW)); exact Kd.R_mono HO_7.out (fun _ hk => ⟨hk.1.1, hk.1.2⟩)⟩, ⟨by (with_reducible repeat (first | apply rA|apply rN|apply rW)); exact Kd.R_mono HO_272000.out (fun _ hk => ⟨hk.1.1, hk.1.2⟩)⟩, ⟨by (with_reducible repeat (first | apply rA|apply rN|apply rW)); exact Kd.R_mono HO_272001.out (fun _ hk => trivial)⟩, ⟨by (with_reducible repeat (first | refine bN ?_ _|refine bW ?_|refine bA ?_ _)); exact BK253.out⟩, ⟨by (with_reducible repeat (first | refine bN ?_ _|refine bW ?_|refine bA ?_ _)); exact BK271.out⟩, ⟨by repeat (first | (with_reducible first | exact HB.out|apply wA|apply wN|apply wD |refine wS ?_ GE253.out |refine wS ?_ GE271.out) | exact HB.out)⟩⟩
        ·replace c42 := Bool.eq_false_iff.mpr c42
         subst c42
         have H1 : (some false) = some r := by rw [if_neg (show ¬ (false = true) by decide)] at H; exact H
         clear H
         have H := H1
         clear H1
         obtain rfl := Option.some.inj H
         go_wp2
         go_ret
         exact ⟨by first | rfl | (simp [errW_none, errW_some] <;> rfl) | (simp [*, errW_none, errW_some] <;> rfl), by repeat (first | (with_reducible first | exact HB.out|apply wA|apply wN|apply wD |refine wS ?_ GE253.out |refine wS ?_ GE271.out) | exact HB.out)⟩
       case rest =>
        clear HC36
        try clear c1
        try clear c2
        try clear p2
        try clear c3
        try clear c4
        try clear c6
        try clear c7
        try clear c7b0
        try clear c7b2
        try clear c14
        try clear c16
        try clear c18
        try clear c19
        try clear c22
        try clear c27
        try clear c28
        try clear c33
        try clear c42
        try clear hcz13_0
        try clear hcz13_1
        try clear hcz18_0
        try clear hcz18_1
        try clear hcz23_0
        try clear hcz23_1
        try clear hcz5_0
        try clear hcz5_1
        try clear hfz13_0
        try clear hfz13_1
        try clear hfz18_0
        try clear hfz18_1
        try clear hfz23_0
        try clear hfz23_1
        try clear hfz5_0
        try clear hfz5_1
        try clear p2
        obtain ⟨kq, HA, HJ35, HO_4, HO_7, HO_272000, HO_272001, BK253, BK271, HB⟩ := hcut
        cases kq with
        | zero => exact absurd HA.out (by simp [laws_FnExactNetworkParts.j3])
        | succ kj35 =>
         have H := HA.out
         clear HA
         simp only [laws_FnExactNetworkParts.j3] at H
         replace H := Option.bind_eq_some_iff.mp H
         obtain ⟨⟨t284, t285, t286⟩, A430, H⟩ := H
         replace H : (if t284 < 0 then (laws_FnExactNetworkParts.j4 kj35 t261 t264 t272 true l0_0 l0_1) else ((laws_eqInt64S_.f t272 t261).bind fun t287 => (if t287 = true then (laws_FnExactNetworkParts.j4 kj35 t261 t264 t272 (t275 != t264) l0_0 l0_1) else (laws_FnExactNetworkParts.j4 kj35 t261 t264 t272 true l0_0 l0_1)))) = some r := H
         have A43 := Aside0.mk A430
         clear A430
         have HC44 := Aside0.mk H
         clear H
         have hnb45 := NB271_253.out
         have hnc45 := NB253_271.out
         have hcz46_0 : wc.cell? ⟨gb271, 0, none⟩ = some (.slice Ao21 t265.length co21) := (blk_cell BK271.out 0).trans rfl
         have hcz46_1 : wc.cell? ⟨gb271, 1, none⟩ = some (.slice Ao24 t268.length co24) := (blk_cell BK271.out 1).trans rfl
         have hfz46_0 := blk_frozen BK271.out 0
         have hfz46_1 := blk_frozen BK271.out 1
         go_upto_region 14 with (first | ((with_reducible refine gate_callee (f := 20) rfl ?_); refine goesL_ (some 48) rfl rfl Try.func20 (by kernel_rfl) rfl #[.agg #[.slice Ao21 t265.length co21, .slice Ao24 t268.length co24], .int .i64 1] rfl (by (try simp only [List.map_toArray, List.map_cons, List.map_nil]); first | done | rfl | (simp only [List.length_drop, List.length_take]; rfl)) ?_; (with_reducible refine (laws_markNetwork.calls (fun k_ => some k_ = (.slice Ao21 t265.length co21 : Value).ownBlock) (.slice Ao21 t265.length co21) t265 (fun k_ => some k_ = (.slice Ao24 t268.length co24 : Value).ownBlock) (.slice Ao24 t268.length co24) t268 1 t284 t285 t286 w _ ?side1 ?side2 ?side3 A43.out).mono ?_); (case side1 => repeat (first | (with_reducible first | exact HB.out|apply wA|apply wN|apply wD |refine wS ?_ GE253.out |refine wS ?_ GE271.out) | exact HB.out)); (case side2 => exact Kd.R_tight rfl HO_272000.out); (case side3 => exact Kd.R_tight rfl HO_272001.out); rintro e w47 ⟨rfl, hy0, hy1, hb, hkp⟩; refine ⟨_, rfl, ?_⟩; have n0_ := Aside0.mk (Kd.R_mono (ok' := fun k_ => some k_ ≠ (v273 : Value).ownBlock ∧ some k_ ≠ (.slice Ao21 t265.length co21 : Value).ownBlock) (Kd.R_keptB ((Kd.R_apart' HO_4.out (Kd.R_typed HO_272001.out) (by decide))) hkp (fun k_ hk_ hs_ => Or.elim hs_ (fun e_ => (hk_.1.2) e_) (fun e_ => (hk_.2) e_))) (fun k_ hk_ => ⟨hk_.1.1.1, hk_.1.1.2⟩)); have n1_ := Aside0.mk (Kd.R_mono (ok' := fun k_ => some k_ ≠ (v262 : Value).ownBlock ∧ some k_ ≠ (.slice Ao21 t265.length co21 : Value).ownBlock) (Kd.R_keptB ((Kd.R_apart' HO_7.out (Kd.R_typed HO_272001.out) (by decide))) hkp (fun k_ hk_ hs_ => Or.elim hs_ (fun e_ => (hk_.1.2) e_) (fun e_ => (hk_.2) e_))) (fun k_ hk_ => ⟨hk_.1.1.1, hk_.1.1.2⟩)); have n2_ := Aside0.mk (Kd.R_reok rfl hy0 (fun k_ e_ => HO_272000.out.1 k_ e_)); have n3_ := Aside0.mk (Kd.R_reok rfl hy1 (fun k_ e_ => HO_272001.out.1 k_ e_)); have n4_ := Aside0.mk (blk_kept (by (with_reducible repeat (first | refine bN ?_ _|refine bW ?_|refine bA ?_ _)); exact BK253.out) hkp (fun hs_ => Or.elim hs_ (fun e_ => (fun e_ => (Kd.R_ne HO_272000.out BK253.out (by decide)) e_) e_) (fun e_ => (fun e_ => (Kd.R_ne HO_272001.out BK253.out (by decide)) e_) e_))); have n5_ := Aside0.mk (blk_kept (by (with_reducible repeat (first | refine bN ?_ _|refine bW ?_|refine bA ?_ _)); exact BK271.out) hkp (fun hs_ => Or.elim hs_ (fun e_ => (fun e_ => (Kd.R_ne HO_272000.out BK271.out (by decide)) e_) e_) (fun e_ => (fun e_ => (Kd.R_ne HO_272001.out BK271.out (by decide)) e_) e_))); have n6_ := Aside0.mk (hb); clear HO_4; clear HO_7; clear HO_272000; clear HO_272001; clear BK253; clear BK271; clear HB; have HO_4 := n0_; have HO_7 := n1_; have HO_272000 := n2_; have HO_272001 := n3_; have BK253 := n4_; have BK271 := n5_; have HB := n6_; clear n0_ n1_ n2_ n3_ n4_ n5_ n6_; (try clear hb); (try clear hkp); (try clear hy0); (try clear hy1)))
         (try simp only [Act.put, List.setIfInBounds_toArray, List.set_cons_zero, List.set_cons_succ])
         go_cut [61] (fun v61 wc => ∃ (kq : Nat) (x61_43 : Bool), v61 = .bool x61_43 ∧ Aside0 (laws_FnExactNetworkParts.j4 kq t261 t264 t272 x61_43 l0_0 l0_1 = some r) ∧ Aside0 (kq ≤ kj35) ∧ Aside0 (Kd.R (Kd.int .i64) 2 wc w.heap.size (fun k_ => some k_ ≠ (v273 : Value).ownBlock ∧ some k_ ≠ ((.slice Ao21 t265.length co21) : Value).ownBlock) v262 t261) ∧ Aside0 (Kd.R (Kd.int .i64) 2 wc w.heap.size (fun k_ => some k_ ≠ (v262 : Value).ownBlock ∧ some k_ ≠ ((.slice Ao21 t265.length co21) : Value).ownBlock) v273 t272) ∧ Aside0 (Kd.R (Kd.int .i64) 2 wc w.heap.size (fun k_ => some k_ ≠ (v262 : Value).ownBlock ∧ some k_ ≠ (v273 : Value).ownBlock) (.slice Ao21 t265.length co21) t285) ∧ Aside0 (Kd.R k60 60 wc w.heap.size (fun _ => True) (.slice Ao24 t268.length co24) t286) ∧ Aside0 (wc.heap[gb253]? = some (.cells #[(.slice A0_0 l0_0.length c0_0), (.slice A0_1 l0_1.length c0_1)] 25 (0, 0))) ∧ Aside0 (wc.heap[gb271]? = some (.cells #[(.slice Ao21 t265.length co21), (.slice Ao24 t268.length co24)] 31 (0, 0))) ∧ Aside0 (Below w.heap.size w wc))
         case first =>
          have H := HC44.out
          clear HC44
          by_cases c48 : t284 < 0
          ·rw [if_pos c48] at H
           have c48b0 : decide (t284 < 0) = true := decide_eq_true c48
           clear c48
           (first | rw [c48b0] | (simp only [i64_w, i32_w]; rw [c48b0]) | rw [c48b2] | skip)
           have H' := Aside0.mk H
           clear H
           go_wp2
           go_meet
           case rel => exact ⟨_, (true), (by first | rfl | (simp; done) | (simp [*]; done)), H', ⟨by have := HJ2.out; have := HJ11.out; have := HJ31.out; have := HJ35.out; first | omega | exact Nat.le_refl _⟩, ⟨by (with_reducible repeat (first | apply rA|apply rN|apply rW)); exact HO_4.out⟩, ⟨by (with_reducible repeat (first | apply rA|apply rN|apply rW)); exact HO_7.out⟩, ⟨by (with_reducible repeat (first | apply rA|apply rN|apply rW)); exact HO_272000.out⟩, ⟨by (with_reducible repeat (first | apply rA|apply rN|apply rW)); exact HO_272001.out⟩, ⟨by (with_reducible repeat (first | refine bN ?_ _|refine bW ?_|refine bA ?_ _)); exact BK253.out⟩, ⟨by (with_reducible repeat (first | refine bN ?_ _|refine bW ?_|refine bA ?_ _)); exact BK271.out⟩, ⟨by repeat (first | (with_reducible first | exact HB.out|apply wA|apply wN|apply wD |refine wS ?_ GE253.out |refine wS ?_ GE271.out) | exact HB.out)⟩⟩
          ·rw [if_neg c48] at H
           have c48b0 : decide (t284 < 0) = false := decide_eq_false c48
           clear c48
           (first | rw [c48b0] | (simp only [i64_w, i32_w]; rw [c48b0]) | rw [c48b2] | skip)
           replace H := Option.bind_eq_some_iff.mp H
           obtain ⟨t287, A490, H⟩ := H
           replace H : (if t287 = true then (laws_FnExactNetworkParts.j4 kj35 t261 t264 t272 (t275 != t264) l0_0 l0_1) else (laws_FnExactNetworkParts.j4 kj35 t261 t264 t272 true l0_0 l0_1)) = some r := H
           have A49 := Aside0.mk A490
           clear A490
           by_cases c50 : t287 = true
           ·subst c50
            have H1 : (laws_FnExactNetworkParts.j4 kj35 t261 t264 t272 (t275 != t264) l0_0 l0_1) = some r := by rw [if_pos rfl] at H; exact H
            clear H
            have H := H1
            clear H1
            have H' := Aside0.mk H
            clear H
            obtain ⟨Ao51, co51, eo51⟩ := Kd.R_slice HO_7.out
            subst eo51
            obtain ⟨Ao52, co52, eo52⟩ := Kd.R_slice HO_4.out
            subst eo52
            go_wp2_with (first | (go_at_call 18; (with_reducible refine (laws_eqInt64S_.calls _ _ t272 _ _ t261 true _ ?side1 ?side2 ?side3 ?side4 A49.out).mono ?_); (case side1 => repeat (first | exact (Kd.R_reads' HO_7.out).2.2 | (with_reducible first|refine Kd.C_alloc ?_ _|refine Kd.C_drewN ?_ _|refine Kd.C_drew ?_))); (case side2 => exact (Kd.R_reads' HO_7.out).2.1); (case side3 => repeat (first | exact (Kd.R_reads' HO_4.out).2.2 | (with_reducible first|refine Kd.C_alloc ?_ _|refine Kd.C_drewN ?_ _|refine Kd.C_drew ?_))); (case side4 => exact (Kd.R_reads' HO_4.out).2.1); rintro e w' ⟨rfl, ⟨nd, rfl⟩⟩))
            go_meet
            case rel => exact ⟨_, ((t275 != t264)), (by first | rfl | (simp; done) | (simp [*]; done)), H', ⟨by have := HJ2.out; have := HJ11.out; have := HJ31.out; have := HJ35.out; first | omega | exact Nat.le_refl _⟩, ⟨by (with_reducible repeat (first | apply rA|apply rN|apply rW)); exact HO_4.out⟩, ⟨by (with_reducible repeat (first | apply rA|apply rN|apply rW)); exact HO_7.out⟩, ⟨by (with_reducible repeat (first | apply rA|apply rN|apply rW)); exact HO_272000.out⟩, ⟨by (with_reducible repeat (first | apply rA|apply rN|apply rW)); exact HO_272001.out⟩, ⟨by (with_reducible repeat (first | refine bN ?_ _|refine bW ?_|refine bA ?_ _)); exact BK253.out⟩, ⟨by (with_reducible repeat (first | refine bN ?_ _|refine bW ?_|refine bA ?_ _)); exact BK271.out⟩, ⟨by repeat (first | (with_reducible first | exact HB.out|apply wA|apply wN|apply wD |refine wS ?_ GE253.out |refine wS ?_ GE271.out) | exact HB.out)⟩⟩
           ·replace c50 := Bool.eq_false_iff.mpr c50
            subst c50
            have H1 : (laws_FnExactNetworkParts.j4 kj35 t261 t264 t272 true l0_0 l0_1) = some r := by rw [if_neg (show ¬ (false = true) by decide)] at H; exact H
            clear H
            have H := H1
            clear H1
            have H' := Aside0.mk H
            clear H
            obtain ⟨Ao53, co53, eo53⟩ := Kd.R_slice HO_7.out
            subst eo53
            obtain ⟨Ao54, co54, eo54⟩ := Kd.R_slice HO_4.out
            subst eo54
            go_wp2_with (first | (go_at_call 18; (with_reducible refine (laws_eqInt64S_.calls _ _ t272 _ _ t261 false _ ?side1 ?side2 ?side3 ?side4 A49.out).mono ?_); (case side1 => repeat (first | exact (Kd.R_reads' HO_7.out).2.2 | (with_reducible first|refine Kd.C_alloc ?_ _|refine Kd.C_drewN ?_ _|refine Kd.C_drew ?_))); (case side2 => exact (Kd.R_reads' HO_7.out).2.1); (case side3 => repeat (first | exact (Kd.R_reads' HO_4.out).2.2 | (with_reducible first|refine Kd.C_alloc ?_ _|refine Kd.C_drewN ?_ _|refine Kd.C_drew ?_))); (case side4 => exact (Kd.R_reads' HO_4.out).2.1); rintro e w' ⟨rfl, ⟨nd, rfl⟩⟩))
            go_meet
            case rel => exact ⟨_, (true), (by first | rfl | (simp; done) | (simp [*]; done)), H', ⟨by have := HJ2.out; have := HJ11.out; have := HJ31.out; have := HJ35.out; first | omega | exact Nat.le_refl _⟩, ⟨by (with_reducible repeat (first | apply rA|apply rN|apply rW)); exact HO_4.out⟩, ⟨by (with_reducible repeat (first | apply rA|apply rN|apply rW)); exact HO_7.out⟩, ⟨by (with_reducible repeat (first | apply rA|apply rN|apply rW)); exact HO_272000.out⟩, ⟨by (with_reducible repeat (first | apply rA|apply rN|apply rW)); exact HO_272001.out⟩, ⟨by (with_reducible repeat (first | refine bN ?_ _|refine bW ?_|refine bA ?_ _)); exact BK253.out⟩, ⟨by (with_reducible repeat (first | refine bN ?_ _|refine bW ?_|refine bA ?_ _)); exact BK271.out⟩, ⟨by repeat (first | (with_reducible first | exact HB.out|apply wA|apply wN|apply wD |refine wS ?_ GE253.out |refine wS ?_ GE271.out) | exact HB.out)⟩⟩
         case rest =>
          clear HC44
          try clear c1
          try clear c2
          try clear p2
          try clear c3
          try clear c4
          try clear c5
          try clear c6
          try clear c7
          try clear c7b0
          try clear c7b2
          try clear c14
          try clear c16
          try clear c18
          try clear c19
          try clear c20
          try clear c22
          try clear c27
          try clear c28
          try clear c33
          try clear c42
          try clear c45
          try clear c48
          try clear c48b0
          try clear c48b2
          try clear c50
          try clear hcz13_0
          try clear hcz13_1
          try clear hcz18_0
          try clear hcz18_1
          try clear hcz23_0
          try clear hcz23_1
          try clear hcz46_0
          try clear hcz46_1
          try clear hcz5_0
          try clear hcz5_1
          try clear hfz13_0
          try clear hfz13_1
          try clear hfz18_0
          try clear hfz18_1
          try clear hfz23_0
          try clear hfz23_1
          try clear hfz46_0
          try clear hfz46_1
          try clear hfz5_0
          try clear hfz5_1
          try clear p2
          obtain ⟨kq, x61_43, rfl, HA, HJ43, HO_4, HO_7, HO_272000, HO_272001, BK253, BK271, HB⟩ := hcut
          have hl272000_43 := (Kd.R_reads' HO_272000.out).1
          rw [hl272000_43] at HO_272000
          (try simp only [hl272000_43])
          (try simp only [hl272000_43] at BK253)
          (try simp only [hl272000_43] at BK271)
          (try simp only [hl272000_43] at HO_4)
          (try simp only [hl272000_43] at HO_7)
          (try simp only [hl272000_43] at HO_272001)
          have hl272001_43 := (Kd.R_reads' HO_272001.out).1
          rw [hl272001_43] at HO_272001
          (try simp only [hl272001_43])
          (try simp only [hl272001_43] at BK253)
          (try simp only [hl272001_43] at BK271)
          (try simp only [hl272001_43] at HO_4)
          (try simp only [hl272001_43] at HO_7)
          (try simp only [hl272001_43] at HO_272000)
          cases kq with
          | zero => exact absurd HA.out (by simp [laws_FnExactNetworkParts.j4])
          | succ kj43 =>
           have H := HA.out
           clear HA
           simp only [laws_FnExactNetworkParts.j4] at H
           have HC55 := Aside0.mk H
           clear H
           go_upto_if 61 with (fail)
           go_cut [] (fun wc => ∃ (kq : Nat), Aside0 (laws_FnExactNetworkParts.j5 kq t261 t264 t272 l0_0 l0_1 = some r) ∧ Aside0 (kq ≤ kj43) ∧ Aside0 (Kd.R (Kd.int .i64) 2 wc w.heap.size (fun k_ => some k_ ≠ (v273 : Value).ownBlock ∧ some k_ ≠ ((.slice Ao21 t285.length co21) : Value).ownBlock) v262 t261) ∧ Aside0 (Kd.R (Kd.int .i64) 2 wc w.heap.size (fun k_ => some k_ ≠ (v262 : Value).ownBlock ∧ some k_ ≠ ((.slice Ao21 t285.length co21) : Value).ownBlock) v273 t272) ∧ Aside0 (Kd.R (Kd.int .i64) 2 wc w.heap.size (fun k_ => some k_ ≠ (v262 : Value).ownBlock ∧ some k_ ≠ (v273 : Value).ownBlock) (.slice Ao21 t285.length co21) t285) ∧ Aside0 (Kd.R k60 60 wc w.heap.size (fun _ => True) (.slice Ao24 t286.length co24) t286) ∧ Aside0 (wc.heap[gb253]? = some (.cells #[(.slice A0_0 l0_0.length c0_0), (.slice A0_1 l0_1.length c0_1)] 25 (0, 0))) ∧ Aside0 (wc.heap[gb271]? = some (.cells #[(.slice Ao21 t285.length co21), (.slice Ao24 t286.length co24)] 31 (0, 0))) ∧ Aside0 (Below w.heap.size w wc))
           case first =>
            have H := HC55.out
            clear HC55
            by_cases c56 : x61_43 = true
            ·subst c56
             have H1 : (some false) = some r := by rw [if_pos rfl] at H; exact H
             clear H
             have H := H1
             clear H1
             obtain rfl := Option.some.inj H
             go_wp2
             go_ret
             exact ⟨by first | rfl | (simp [errW_none, errW_some] <;> rfl) | (simp [*, errW_none, errW_some] <;> rfl), by repeat (first | (with_reducible first | exact HB.out|apply wA|apply wN|apply wD |refine wS ?_ GE253.out |refine wS ?_ GE271.out) | exact HB.out)⟩
            ·replace c56 := Bool.eq_false_iff.mpr c56
             subst c56
             have H1 : (laws_FnExactNetworkParts.j5 kj43 t261 t264 t272 l0_0 l0_1) = some r := by rw [if_neg (show ¬ (false = true) by decide)] at H; exact H
             clear H
             have H := H1
             clear H1
             have H' := Aside0.mk H
             clear H
             go_wp2
             go_meet
             case rel => exact ⟨_, H', ⟨by have := HJ2.out; have := HJ11.out; have := HJ31.out; have := HJ35.out; have := HJ43.out; first | omega | exact Nat.le_refl _⟩, ⟨by (try simp only [hl272000_43]); (try simp only [hl272001_43]); (with_reducible repeat (first | apply rA|apply rN|apply rW)); exact HO_4.out⟩, ⟨by (try simp only [hl272000_43]); (try simp only [hl272001_43]); (with_reducible repeat (first | apply rA|apply rN|apply rW)); exact HO_7.out⟩, ⟨by (try simp only [hl272000_43]); (try simp only [hl272001_43]); (with_reducible repeat (first | apply rA|apply rN|apply rW)); exact HO_272000.out⟩, ⟨by (try simp only [hl272000_43]); (try simp only [hl272001_43]); (with_reducible repeat (first | apply rA|apply rN|apply rW)); exact HO_272001.out⟩, ⟨by (try simp only [hl272000_43]); (try simp only [hl272001_43]); (with_reducible repeat (first | refine bN ?_ _|refine bW ?_|refine bA ?_ _)); exact BK253.out⟩, ⟨by (try simp only [hl272000_43]); (try simp only [hl272001_43]); (with_reducible repeat (first | refine bN ?_ _|refine bW ?_|refine bA ?_ _)); exact BK271.out⟩, ⟨by repeat (first | (with_reducible first | exact HB.out|apply wA|apply wN|apply wD |refine wS ?_ GE253.out |refine wS ?_ GE271.out) | exact HB.out)⟩⟩
           case rest =>
            clear HC55
            try clear c1
            try clear c2
            try clear p2
            try clear c3
            try clear c4
            try clear c5
            try clear c6
            try clear c7
            try clear c7b0
            try clear c7b2
            try clear c14
            try clear c16
            try clear c18
            try clear c19
            try clear c20
            try clear c22
            try clear c27
            try clear c28
            try clear c33
            try clear c42
            try clear c45
            try clear c48
            try clear c48b0
            try clear c48b2
            try clear c50
            try clear c56
            try clear hcz13_0
            try clear hcz13_1
            try clear hcz18_0
            try clear hcz18_1
            try clear hcz23_0
            try clear hcz23_1
            try clear hcz46_0
            try clear hcz46_1
            try clear hcz5_0
            try clear hcz5_1
            try clear hfz13_0
            try clear hfz13_1
            try clear hfz18_0
            try clear hfz18_1
            try clear hfz23_0
            try clear hfz23_1
            try clear hfz46_0
            try clear hfz46_1
            try clear hfz5_0
            try clear hfz5_1
            try clear p2
            obtain ⟨kq, HA, HJ54, HO_4, HO_7, HO_272000, HO_272001, BK253, BK271, HB⟩ := hcut
            cases kq with
            | zero => exact absurd HA.out (by simp [laws_FnExactNetworkParts.j5])
            | succ kj54 =>
             have H := HA.out
             clear HA
             simp only [laws_FnExactNetworkParts.j5] at H
             replace H := Option.bind_eq_some_iff.mp H
             obtain ⟨⟨t288, t289⟩, A570, H⟩ := H
             replace H : ((laws_heldInt64S_.f t289 1).bind fun t290 => (if t290 < 0 then (some false) else (laws_FnExactNetworkParts.j6 kj54 t261 t264 t289 t288 t290 l0_0 l0_1))) = some r := H
             have A57 := Aside0.mk A570
             clear A570
             replace H := Option.bind_eq_some_iff.mp H
             obtain ⟨t290, A580, H⟩ := H
             replace H : (if t290 < 0 then (some false) else (laws_FnExactNetworkParts.j6 kj54 t261 t264 t289 t288 t290 l0_0 l0_1)) = some r := H
             have A58 := Aside0.mk A580
             clear A580
             have HC59 := Aside0.mk H
             clear H
             obtain ⟨Ao60, co60, eo60⟩ := Kd.R_slice HO_7.out
             subst eo60
             go_upto_if 69 with (first | ((with_reducible refine gate_callee (f := 21) rfl ?_); refine goesL_ (some 64) rfl rfl Try.func21 (by kernel_rfl) rfl #[.slice Ao60 t272.length co60, .int .i64 1] rfl (by (try simp only [List.map_toArray, List.map_cons, List.map_nil]); first | done | rfl | (simp only [List.length_drop, List.length_take]; rfl)) ?_; (with_reducible refine (laws_markInt64S_.calls (fun k_ => some k_ = (.slice Ao60 t272.length co60 : Value).ownBlock) (.slice Ao60 t272.length co60) t272 1 t288 t289 w _ ?side1 ?side2 A57.out).mono ?_); (case side1 => repeat (first | (with_reducible first | exact HB.out|apply wA|apply wN|apply wD |refine wS ?_ GE253.out |refine wS ?_ GE271.out) | exact HB.out)); (case side2 => exact Kd.R_tight rfl HO_7.out); rintro e w61 ⟨rfl, hy0, hb, hkp⟩; refine ⟨_, rfl, ?_⟩; have n0_ := Aside0.mk (Kd.R_mono (ok' := fun k_ => some k_ ≠ (.slice Ao60 t272.length co60 : Value).ownBlock ∧ some k_ ≠ (.slice Ao21 t285.length co21 : Value).ownBlock) (Kd.R_keptB (HO_4.out) hkp (fun k_ hk_ hs_ => (hk_.1) hs_)) (fun k_ hk_ => ⟨hk_.1.1, hk_.1.2⟩)); have n1_ := Aside0.mk (Kd.R_reok rfl hy0 (fun k_ e_ => HO_7.out.1 k_ e_)); have n2_ := Aside0.mk (Kd.R_mono (ok' := fun k_ => some k_ ≠ (v262 : Value).ownBlock ∧ some k_ ≠ (.slice Ao60 t272.length co60 : Value).ownBlock) (Kd.R_keptB (HO_272000.out) hkp (fun k_ hk_ hs_ => (hk_.2) hs_)) (fun k_ hk_ => ⟨hk_.1.1, hk_.1.2⟩)); have n3_ := Aside0.mk (Kd.R_mono (ok' := fun k_ => True) (Kd.R_keptB ((Kd.R_apart' HO_272001.out (Kd.R_typed HO_7.out) (by decide))) hkp (fun k_ hk_ hs_ => (hk_.2) hs_)) (fun k_ hk_ => trivial)); have n4_ := Aside0.mk (blk_kept (by (with_reducible repeat (first | refine bN ?_ _|refine bW ?_|refine bA ?_ _)); exact BK253.out) hkp (fun hs_ => (fun e_ => (Kd.R_ne HO_7.out BK253.out (by decide)) e_) hs_)); have n5_ := Aside0.mk (blk_kept (by (with_reducible repeat (first | refine bN ?_ _|refine bW ?_|refine bA ?_ _)); exact BK271.out) hkp (fun hs_ => (fun e_ => (Kd.R_ne HO_7.out BK271.out (by decide)) e_) hs_)); have n6_ := Aside0.mk (hb); clear HO_4; clear HO_7; clear HO_272000; clear HO_272001; clear BK253; clear BK271; clear HB; have HO_4 := n0_; have HO_7 := n1_; have HO_272000 := n2_; have HO_272001 := n3_; have BK253 := n4_; have BK271 := n5_; have HB := n6_; clear n0_ n1_ n2_ n3_ n4_ n5_ n6_; (try clear hb); (try clear hkp); (try clear hy0)) | ((with_reducible refine gate_callee (f := 22) rfl ?_); refine goesL_ (some 67) rfl rfl Try.func22 (by kernel_rfl) rfl #[.slice Ao60 t289.length co60, .int .i64 1] rfl (by (try simp only [List.map_toArray, List.map_cons, List.map_nil]); first | done | (rw [show t289.length = t272.length from (Kd.R_reads' HO_7.out).1.symm] <;> rfl) | rfl | (simp only [List.length_drop, List.length_take]; rfl)) ?_; (with_reducible refine (laws_heldInt64S_.calls _ _ t289 1 t290 _ ?side1 ?side2 A58.out).mono ?_); (case side1 => repeat (first | exact (Kd.R_reads' HO_7.out).2.2 | (with_reducible first|refine Kd.C_alloc ?_ _|refine Kd.C_drewN ?_ _|refine Kd.C_drew ?_))); (case side2 => rw [show t289.length = t272.length from (Kd.R_reads' HO_7.out).1.symm]; exact (Kd.R_reads' HO_7.out).2.1); rintro e w' ⟨rfl, ⟨nd, rfl⟩⟩; refine ⟨_, rfl, ?_⟩))
             (try simp only [Act.put, List.setIfInBounds_toArray, List.set_cons_zero, List.set_cons_succ])
             go_cut [] (fun wc => ∃ (kq : Nat), Aside0 (laws_FnExactNetworkParts.j6 kq t261 t264 t289 t288 t290 l0_0 l0_1 = some r) ∧ Aside0 (kq ≤ kj54) ∧ Aside0 (Kd.R (Kd.int .i64) 2 wc w.heap.size (fun k_ => some k_ ≠ ((.slice Ao60 t272.length co60) : Value).ownBlock ∧ some k_ ≠ ((.slice Ao21 t285.length co21) : Value).ownBlock) v262 t261) ∧ Aside0 (Kd.R (Kd.int .i64) 2 wc w.heap.size (fun k_ => some k_ ≠ (v262 : Value).ownBlock ∧ some k_ ≠ ((.slice Ao21 t285.length co21) : Value).ownBlock) (.slice Ao60 t272.length co60) t289) ∧ Aside0 (Kd.R (Kd.int .i64) 2 wc w.heap.size (fun k_ => some k_ ≠ (v262 : Value).ownBlock ∧ some k_ ≠ ((.slice Ao60 t272.length co60) : Value).ownBlock) (.slice Ao21 t285.length co21) t285) ∧ Aside0 (Kd.R k60 60 wc w.heap.size (fun _ => True) (.slice Ao24 t286.length co24) t286) ∧ Aside0 (wc.heap[gb253]? = some (.cells #[(.slice A0_0 l0_0.length c0_0), (.slice A0_1 l0_1.length c0_1)] 25 (0, 0))) ∧ Aside0 (wc.heap[gb271]? = some (.cells #[(.slice Ao21 t285.length co21), (.slice Ao24 t286.length co24)] 31 (0, 0))) ∧ Aside0 (Below w.heap.size w wc))
             case first =>
              have H := HC59.out
              clear HC59
              by_cases c62 : t290 < 0
              ·rw [if_pos c62] at H
               have c62b0 : decide (t290 < 0) = true := decide_eq_true c62
               clear c62
               (first | rw [c62b0] | (simp only [i64_w, i32_w]; rw [c62b0]) | rw [c62b2] | skip)
               obtain rfl := Option.some.inj H
               go_wp2
               go_ret
               exact ⟨by first | rfl | (simp [errW_none, errW_some] <;> rfl) | (simp [*, errW_none, errW_some] <;> rfl), by repeat (first | (with_reducible first | exact HB.out|apply wA|apply wN|apply wD |refine wS ?_ GE253.out |refine wS ?_ GE271.out) | exact HB.out)⟩
              ·rw [if_neg c62] at H
               have c62b0 : decide (t290 < 0) = false := decide_eq_false c62
               clear c62
               (first | rw [c62b0] | (simp only [i64_w, i32_w]; rw [c62b0]) | rw [c62b2] | skip)
               have H' := Aside0.mk H
               clear H
               go_wp2
               go_meet
               case rel => exact ⟨_, H', ⟨by have := HJ2.out; have := HJ11.out; have := HJ31.out; have := HJ35.out; have := HJ43.out; have := HJ54.out; first | omega | exact Nat.le_refl _⟩, ⟨by (try simp only [hl272000_43]); (try simp only [hl272001_43]); (with_reducible repeat (first | apply rA|apply rN|apply rW)); exact HO_4.out⟩, ⟨by (try simp only [hl272000_43]); (try simp only [hl272001_43]); (with_reducible repeat (first | apply rA|apply rN|apply rW)); exact HO_7.out⟩, ⟨by (try simp only [hl272000_43]); (try simp only [hl272001_43]); (with_reducible repeat (first | apply rA|apply rN|apply rW)); exact HO_272000.out⟩, ⟨by (try simp only [hl272000_43]); (try simp only [hl272001_43]); (with_reducible repeat (first | apply rA|apply rN|apply rW)); exact HO_272001.out⟩, ⟨by (try simp only [hl272000_43]); (try simp only [hl272001_43]); (with_reducible repeat (first | refine bN ?_ _|refine bW ?_|refine bA ?_ _)); exact BK253.out⟩, ⟨by (try simp only [hl272000_43]); (try simp only [hl272001_43]); (with_reducible repeat (first | refine bN ?_ _|refine bW ?_|refine bA ?_ _)); exact BK271.out⟩, ⟨by repeat (first | (with_reducible first | exact HB.out|apply wA|apply wN|apply wD |refine wS ?_ GE253.out |refine wS ?_ GE271.out) | exact HB.out)⟩⟩
             case rest =>
              clear HC59
              try clear c1
              try clear c2
              try clear p2
              try clear c3
              try clear c4
              try clear c5
              try clear c6
              try clear c7
              try clear c7b0
              try clear c7b2
              try clear c14
              try clear c16
              try clear c18
              try clear c19
              try clear c20
              try clear c21
              try clear c22
              try clear c27
              try clear c28
              try clear c33
              try clear c42
              try clear c45
              try clear c48
              try clear c48b0
              try clear c48b2
              try clear c50
              try clear c56
              try clear c62
              try clear c62b0
              try clear c62b2
              try clear hcz13_0
              try clear hcz13_1
              try clear hcz18_0
              try clear hcz18_1
              try clear hcz23_0
              try clear hcz23_1
              try clear hcz46_0
              try clear hcz46_1
              try clear hcz5_0
              try clear hcz5_1
              try clear hfz13_0
              try clear hfz13_1
              try clear hfz18_0
              try clear hfz18_1
              try clear hfz23_0
              try clear hfz23_1
              try clear hfz46_0
              try clear hfz46_1
              try clear hfz5_0
              try clear hfz5_1
              try clear p2
              obtain ⟨kq, HA, HJ58, HO_4, HO_7, HO_272000, HO_272001, BK253, BK271, HB⟩ := hcut
              have hl7_58 := (Kd.R_reads' HO_7.out).1
              rw [hl7_58] at HO_7
              (try simp only [hl7_58])
              (try simp only [hl7_58] at BK253)
              (try simp only [hl7_58] at BK271)
              (try simp only [hl7_58] at HO_4)
              (try simp only [hl7_58] at HO_272000)
              (try simp only [hl7_58] at HO_272001)
              cases kq with
              | zero => exact absurd HA.out (by simp [laws_FnExactNetworkParts.j6])
              | succ kj58 =>
               have H := HA.out
               clear HA
               simp only [laws_FnExactNetworkParts.j6] at H
               have HC63 := Aside0.mk H
               clear H
               go_upto_if 72 with (fail)
               go_cut [] (fun wc => ∃ (kq : Nat), Aside0 (laws_FnExactNetworkParts.j7 kq t261 t264 t289 t288 l0_0 l0_1 = some r) ∧ Aside0 (kq ≤ kj58) ∧ Aside0 (Kd.R (Kd.int .i64) 2 wc w.heap.size (fun k_ => some k_ ≠ ((.slice Ao60 t289.length co60) : Value).ownBlock ∧ some k_ ≠ ((.slice Ao21 t285.length co21) : Value).ownBlock) v262 t261) ∧ Aside0 (Kd.R (Kd.int .i64) 2 wc w.heap.size (fun k_ => some k_ ≠ (v262 : Value).ownBlock ∧ some k_ ≠ ((.slice Ao21 t285.length co21) : Value).ownBlock) (.slice Ao60 t289.length co60) t289) ∧ Aside0 (Kd.R (Kd.int .i64) 2 wc w.heap.size (fun k_ => some k_ ≠ (v262 : Value).ownBlock ∧ some k_ ≠ ((.slice Ao60 t289.length co60) : Value).ownBlock) (.slice Ao21 t285.length co21) t285) ∧ Aside0 (Kd.R k60 60 wc w.heap.size (fun _ => True) (.slice Ao24 t286.length co24) t286) ∧ Aside0 (wc.heap[gb253]? = some (.cells #[(.slice A0_0 l0_0.length c0_0), (.slice A0_1 l0_1.length c0_1)] 25 (0, 0))) ∧ Aside0 (wc.heap[gb271]? = some (.cells #[(.slice Ao21 t285.length co21), (.slice Ao24 t286.length co24)] 31 (0, 0))) ∧ Aside0 (Below w.heap.size w wc))
               case first =>
                have H := HC63.out
                clear HC63
                by_cases c64 : t290 = t288
                ·rw [if_pos c64] at H
                 have c64b0 : (t290 == t288) = true := beq_iff_eq.mpr c64
                 have c64b1 : (t290 != t288) = false := bne_eq_false_iff_eq.mpr c64
                 clear c64
                 (first | rw [c64b0] | (simp only [i64_w, i32_w]; rw [c64b0]) | rw [c64b2] | skip)
                 have H' := Aside0.mk H
                 clear H
                 go_wp2
                 go_meet
                 case rel => exact ⟨_, H', ⟨by have := HJ2.out; have := HJ11.out; have := HJ31.out; have := HJ35.out; have := HJ43.out; have := HJ54.out; have := HJ58.out; first | omega | exact Nat.le_refl _⟩, ⟨by (try simp only [hl272000_43]); (try simp only [hl272001_43]); (try simp only [hl7_58]); (with_reducible repeat (first | apply rA|apply rN|apply rW)); exact HO_4.out⟩, ⟨by (try simp only [hl272000_43]); (try simp only [hl272001_43]); (try simp only [hl7_58]); (with_reducible repeat (first | apply rA|apply rN|apply rW)); exact HO_7.out⟩, ⟨by (try simp only [hl272000_43]); (try simp only [hl272001_43]); (try simp only [hl7_58]); (with_reducible repeat (first | apply rA|apply rN|apply rW)); exact HO_272000.out⟩, ⟨by (try simp only [hl272000_43]); (try simp only [hl272001_43]); (try simp only [hl7_58]); (with_reducible repeat (first | apply rA|apply rN|apply rW)); exact HO_272001.out⟩, ⟨by (try simp only [hl272000_43]); (try simp only [hl272001_43]); (try simp only [hl7_58]); (with_reducible repeat (first | refine bN ?_ _|refine bW ?_|refine bA ?_ _)); exact BK253.out⟩, ⟨by (try simp only [hl272000_43]); (try simp only [hl272001_43]); (try simp only [hl7_58]); (with_reducible repeat (first | refine bN ?_ _|refine bW ?_|refine bA ?_ _)); exact BK271.out⟩, ⟨by repeat (first | (with_reducible first | exact HB.out|apply wA|apply wN|apply wD |refine wS ?_ GE253.out |refine wS ?_ GE271.out) | exact HB.out)⟩⟩
                ·rw [if_neg c64] at H
                 have c64b0 : (t290 == t288) = false := beq_eq_false_iff_ne.mpr c64
                 have c64b1 : (t290 != t288) = true := bne_iff_ne.mpr c64
                 (first | rw [c64b0] | (simp only [i64_w, i32_w]; rw [c64b0]) | rw [c64b2] | skip)
                 obtain rfl := Option.some.inj H
                 go_wp2
                 go_ret
                 exact ⟨by first | rfl | (simp [errW_none, errW_some] <;> rfl) | (simp [*, errW_none, errW_some] <;> rfl), by repeat (first | (with_reducible first | exact HB.out|apply wA|apply wN|apply wD |refine wS ?_ GE253.out |refine wS ?_ GE271.out) | exact HB.out)⟩
               case rest =>
                clear HC63
                try clear c1
                try clear c2
                try clear p2
                try clear c3
                try clear c4
                try clear c5
                try clear c6
                try clear c7
                try clear c7b0
                try clear c7b2
                try clear c14
                try clear c16
                try clear c18
                try clear c19
                try clear c20
                try clear c21
                try clear c22
                try clear c27
                try clear c28
                try clear c33
                try clear c42
                try clear c45
                try clear c48
                try clear c48b0
                try clear c48b2
                try clear c50
                try clear c56
                try clear c62
                try clear c62b0
                try clear c62b2
                try clear c64
                try clear c64b0
                try clear c64b1
                try clear c64b2
                try clear hcz13_0
                try clear hcz13_1
                try clear hcz18_0
                try clear hcz18_1
                try clear hcz23_0
                try clear hcz23_1
                try clear hcz46_0
                try clear hcz46_1
                try clear hcz5_0
                try clear hcz5_1
                try clear hfz13_0
                try clear hfz13_1
                try clear hfz18_0
                try clear hfz18_1
                try clear hfz23_0
                try clear hfz23_1
                try clear hfz46_0
                try clear hfz46_1
                try clear hfz5_0
                try clear hfz5_1
                try clear p2
                obtain ⟨kq, HA, HJ62, HO_4, HO_7, HO_272000, HO_272001, BK253, BK271, HB⟩ := hcut
                cases kq with
                | zero => exact absurd HA.out (by simp [laws_FnExactNetworkParts.j7])
                | succ kj62 =>
                 have H := HA.out
                 clear HA
                 simp only [laws_FnExactNetworkParts.j7] at H
                 replace H := Option.bind_eq_some_iff.mp H
                 obtain ⟨⟨t291, t294⟩, A650, H⟩ := H
                 replace H : ((impl_NetworkParts.f kj62 t291 t294).bind fun bt297 => ((laws_eqInt64S_.f bt297.1 t261).bind fun t301 => (if t301 = true then (laws_FnExactNetworkParts.j8 kj62 t289 t288 (bt297.2 != t264)) else (laws_FnExactNetworkParts.j8 kj62 t289 t288 true)))) = some r := H
                 have A65 := Aside0.mk A650
                 clear A650
                 replace H := Option.bind_eq_some_iff.mp H
                 obtain ⟨⟨t297, t300⟩, A660, H⟩ := H
                 replace H : ((laws_eqInt64S_.f t297 t261).bind fun t301 => (if t301 = true then (laws_FnExactNetworkParts.j8 kj62 t289 t288 (t300 != t264)) else (laws_FnExactNetworkParts.j8 kj62 t289 t288 true))) = some r := H
                 have A66 := Aside0.mk A660
                 clear A660
                 have HC67 := Aside0.mk H
                 clear H
                 have hnb68 := NB253_271.out
                 have hnc68 := NB271_253.out
                 have hcz69_0 : wc.cell? ⟨gb253, 0, none⟩ = some (.slice A0_0 l0_0.length c0_0) := (blk_cell BK253.out 0).trans rfl
                 have hcz69_1 : wc.cell? ⟨gb253, 1, none⟩ = some (.slice A0_1 l0_1.length c0_1) := (blk_cell BK253.out 1).trans rfl
                 have hfz69_0 := blk_frozen BK253.out 0
                 have hfz69_1 := blk_frozen BK253.out 1
                 go_upto_region 25 with (first | ((with_reducible refine gate_callee (f := 16) rfl ?_); refine goesL_ (some 75) rfl rfl Try.func16 (by kernel_rfl) rfl #[.agg #[.slice A0_0 l0_0.length c0_0, .slice A0_1 l0_1.length c0_1]] rfl (by (try simp only [List.map_toArray, List.map_cons, List.map_nil]); first | done | rfl | (simp only [List.length_drop, List.length_take]; rfl)) ?_; (with_reducible refine (laws_toNetwork.calls _ _ l0_0 _ _ l0_1 t291 t294 _ ?side1 ?side2 ?side3 ?side4 A65.out).mono ?_); (case side1 => repeat (first | exact (Kd.C_below HR0_0.out HB.out) | (with_reducible first|refine Kd.C_alloc ?_ _|refine Kd.C_drewN ?_ _|refine Kd.C_drew ?_))); (case side2 => exact HC0_0.out); (case side3 => repeat (first | exact (Kd.C_below HR0_1.out HB.out) | (with_reducible first|refine Kd.C_alloc ?_ _|refine Kd.C_drewN ?_ _|refine Kd.C_drew ?_))); (case side4 => exact HC0_1.out); rintro e w70 ⟨v292, v295, rfl, ho0, ho1, hb⟩; refine ⟨_, rfl, ?_⟩; have n0_ := Aside0.mk (Kd.R_elder' (by (with_reducible repeat (first | apply rA|apply rN|apply rW)); exact HO_4.out) (Kd.R_base ho0) hb); have n1_ := Aside0.mk (Kd.R_elder' (by (with_reducible repeat (first | apply rA|apply rN|apply rW)); exact HO_7.out) (Kd.R_base ho0) hb); have n2_ := Aside0.mk (Kd.R_elder' (by (with_reducible repeat (first | apply rA|apply rN|apply rW)); exact HO_272000.out) (Kd.R_base ho0) hb); have n3_ := Aside0.mk (Kd.R_elder' (by (with_reducible repeat (first | apply rA|apply rN|apply rW)); exact HO_272001.out) (Kd.R_base ho1) hb); have n4_ := Aside0.mk (Kd.R_lower (Kd.R_new' (Kd.R_new' (Kd.R_new' ho0 (Kd.R_lt (by (with_reducible repeat (first | apply rA|apply rN|apply rW)); exact HO_4.out))) (Kd.R_lt (by (with_reducible repeat (first | apply rA|apply rN|apply rW)); exact HO_7.out))) (Kd.R_lt (by (with_reducible repeat (first | apply rA|apply rN|apply rW)); exact HO_272000.out))) (below_size (by repeat (first | (with_reducible first | exact HB.out|apply wA|apply wN|apply wD |refine wS ?_ GE253.out |refine wS ?_ GE271.out) | exact HB.out)))); have n5_ := Aside0.mk (Kd.R_lower (Kd.R_new' ho1 (Kd.R_lt (by (with_reducible repeat (first | apply rA|apply rN|apply rW)); exact HO_272001.out))) (below_size (by repeat (first | (with_reducible first | exact HB.out|apply wA|apply wN|apply wD |refine wS ?_ GE253.out |refine wS ?_ GE271.out) | exact HB.out)))); have n6_ := Aside0.mk (blk_below (g := gb253) (o := .cells #[.slice A0_0 l0_0.length c0_0, .slice A0_1 l0_1.length c0_1] 25 (0, 0)) (by (with_reducible repeat (first | refine bN ?_ _|refine bW ?_|refine bA ?_ _)); exact BK253.out) hb); have n7_ := Aside0.mk (blk_below (g := gb271) (o := .cells #[.slice Ao21 t285.length co21, .slice Ao24 t286.length co24] 31 (0, 0)) (by (with_reducible repeat (first | refine bN ?_ _|refine bW ?_|refine bA ?_ _)); exact BK271.out) hb); have n8_ := Aside0.mk (below_step (by repeat (first | (with_reducible first | exact HB.out|apply wA|apply wN|apply wD |refine wS ?_ GE253.out |refine wS ?_ GE271.out) | exact HB.out)) hb); clear HO_4; clear HO_7; clear HO_272000; clear HO_272001; clear BK253; clear BK271; clear HB; have HO_4 := n0_; have HO_7 := n1_; have HO_272000 := n2_; have HO_272001 := n3_; have HO293 := n4_; have HO296 := n5_; have BK253 := n6_; have BK271 := n7_; have HB := n8_; clear n0_ n1_ n2_ n3_ n4_ n5_ n6_ n7_ n8_; (try clear hb); (try clear hb2); (try clear hk); (try clear hi); (try clear ho0); (try clear ho1); obtain ⟨Ao71, co71, eo71⟩ := Kd.R_slice HO293.out; subst eo71; obtain ⟨Ao72, co72, eo72⟩ := Kd.R_slice HO296.out; subst eo72) | ((with_reducible refine gate_callee (f := 28) rfl ?_); refine goesL_ (some 76) rfl rfl Try.func28 (by kernel_rfl) rfl #[.agg #[.slice Ao71 t291.length co71, .slice Ao72 t294.length co72]] rfl (by (try simp only [List.map_toArray, List.map_cons, List.map_nil]); first | done | rfl | (simp only [List.length_drop, List.length_take]; rfl)) ?_; (with_reducible refine (impl_NetworkParts.calls kj62 _ _ t291 _ _ t294 t297 t300 _ ?side1 ?side2 ?side3 ?side4 A66.out).mono ?_); (case side1 => repeat (first | exact (Kd.R_reads' HO293.out).2.2 | (with_reducible first|refine Kd.C_alloc ?_ _|refine Kd.C_drewN ?_ _|refine Kd.C_drew ?_))); (case side2 => exact (Kd.R_reads' HO293.out).2.1); (case side3 => repeat (first | exact (Kd.R_reads' HO296.out).2.2 | (with_reducible first|refine Kd.C_alloc ?_ _|refine Kd.C_drewN ?_ _|refine Kd.C_drew ?_))); (case side4 => exact (Kd.R_reads' HO296.out).2.1); rintro e w73 ⟨v298, rfl, ho0, hb⟩; refine ⟨_, rfl, ?_⟩; have n0_ := Aside0.mk (Kd.R_elder' (by (with_reducible repeat (first | apply rA|apply rN|apply rW)); exact HO_4.out) (Kd.R_base ho0) hb); have n1_ := Aside0.mk (Kd.R_elder' (by (with_reducible repeat (first | apply rA|apply rN|apply rW)); exact HO_7.out) (Kd.R_base ho0) hb); have n2_ := Aside0.mk (Kd.R_elder' (by (with_reducible repeat (first | apply rA|apply rN|apply rW)); exact HO_272000.out) (Kd.R_base ho0) hb); have n3_ := Aside0.mk (Kd.R_below (by (with_reducible repeat (first | apply rA|apply rN|apply rW)); exact HO_272001.out) hb); have n4_ := Aside0.mk (Kd.R_elder' (by (with_reducible repeat (first | apply rA|apply rN|apply rW)); exact HO293.out) (Kd.R_base ho0) hb); have n5_ := Aside0.mk (Kd.R_below (by (with_reducible repeat (first | apply rA|apply rN|apply rW)); exact HO296.out) hb); have n6_ := Aside0.mk (Kd.R_lower (Kd.R_new' (Kd.R_new' (Kd.R_new' (Kd.R_new' ho0 (Kd.R_lt (by (with_reducible repeat (first | apply rA|apply rN|apply rW)); exact HO_4.out))) (Kd.R_lt (by (with_reducible repeat (first | apply rA|apply rN|apply rW)); exact HO_7.out))) (Kd.R_lt (by (with_reducible repeat (first | apply rA|apply rN|apply rW)); exact HO_272000.out))) (Kd.R_lt (by (with_reducible repeat (first | apply rA|apply rN|apply rW)); exact HO293.out))) (below_size (by repeat (first | (with_reducible first | exact HB.out|apply wA|apply wN|apply wD |refine wS ?_ GE253.out |refine wS ?_ GE271.out) | exact HB.out)))); have n7_ := Aside0.mk (blk_below (g := gb253) (o := .cells #[.slice A0_0 l0_0.length c0_0, .slice A0_1 l0_1.length c0_1] 25 (0, 0)) (by (with_reducible repeat (first | refine bN ?_ _|refine bW ?_|refine bA ?_ _)); exact BK253.out) hb); have n8_ := Aside0.mk (blk_below (g := gb271) (o := .cells #[.slice Ao21 t285.length co21, .slice Ao24 t286.length co24] 31 (0, 0)) (by (with_reducible repeat (first | refine bN ?_ _|refine bW ?_|refine bA ?_ _)); exact BK271.out) hb); have n9_ := Aside0.mk (below_step (by repeat (first | (with_reducible first | exact HB.out|apply wA|apply wN|apply wD |refine wS ?_ GE253.out |refine wS ?_ GE271.out) | exact HB.out)) hb); clear HO_4; clear HO_7; clear HO_272000; clear HO_272001; clear HO293; clear HO296; clear BK253; clear BK271; clear HB; have HO_4 := n0_; have HO_7 := n1_; have HO_272000 := n2_; have HO_272001 := n3_; have HO293 := n4_; have HO296 := n5_; have HO299 := n6_; have BK253 := n7_; have BK271 := n8_; have HB := n9_; clear n0_ n1_ n2_ n3_ n4_ n5_ n6_ n7_ n8_ n9_; (try clear hb); (try clear hb2); (try clear hk); (try clear hi); (try clear ho0)))
                 (try simp only [Act.put, List.setIfInBounds_toArray, List.set_cons_zero, List.set_cons_succ])
                 go_cut [87] (fun v87 wc => ∃ (kq : Nat) (x87_66 : Bool), v87 = .bool x87_66 ∧ Aside0 (laws_FnExactNetworkParts.j8 kq t289 t288 x87_66 = some r) ∧ Aside0 (kq ≤ kj62) ∧ Aside0 (Kd.R (Kd.int .i64) 2 wc w.heap.size (fun k_ => some k_ ≠ ((.slice Ao21 t285.length co21) : Value).ownBlock) (.slice Ao60 t289.length co60) t289) ∧ Aside0 (Kd.R (Kd.int .i64) 2 wc w.heap.size (fun k_ => some k_ ≠ ((.slice Ao60 t289.length co60) : Value).ownBlock) (.slice Ao21 t285.length co21) t285) ∧ Aside0 (Kd.R k60 60 wc w.heap.size (fun _ => True) (.slice Ao24 t286.length co24) t286) ∧ Aside0 (wc.heap[gb253]? = some (.cells #[(.slice A0_0 l0_0.length c0_0), (.slice A0_1 l0_1.length c0_1)] 25 (0, 0))) ∧ Aside0 (wc.heap[gb271]? = some (.cells #[(.slice Ao21 t285.length co21), (.slice Ao24 t286.length co24)] 31 (0, 0))) ∧ Aside0 (Below w.heap.size w wc))
                 case first =>
                  have H := HC67.out
                  clear HC67
                  replace H := Option.bind_eq_some_iff.mp H
                  obtain ⟨t301, A740, H⟩ := H
                  replace H : (if t301 = true then (laws_FnExactNetworkParts.j8 kj62 t289 t288 (t300 != t264)) else (laws_FnExactNetworkParts.j8 kj62 t289 t288 true)) = some r := H
                  have A74 := Aside0.mk A740
                  clear A740
                  by_cases c75 : t301 = true
                  ·subst c75
                   have H1 : (laws_FnExactNetworkParts.j8 kj62 t289 t288 (t300 != t264)) = some r := by rw [if_pos rfl] at H; exact H
                   clear H
                   have H := H1
                   clear H1
                   have H' := Aside0.mk H
                   clear H
                   obtain ⟨Ao76, co76, eo76⟩ := Kd.R_slice HO299.out
                   subst eo76
                   obtain ⟨Ao77, co77, eo77⟩ := Kd.R_slice HO_4.out
                   subst eo77
                   go_wp2_with (first | ((with_reducible refine gate_callee (f := 18) rfl ?_); refine goesL_ (some 81) rfl rfl Try.func18 (by kernel_rfl) rfl #[.slice Ao76 t297.length co76, .slice Ao77 t261.length co77] rfl (by (try simp only [List.map_toArray, List.map_cons, List.map_nil]); first | done | rfl | (simp only [List.length_drop, List.length_take]; rfl)) ?_; (with_reducible refine (laws_eqInt64S_.calls _ _ t297 _ _ t261 true _ ?side1 ?side2 ?side3 ?side4 A74.out).mono ?_); (case side1 => repeat (first | exact (Kd.R_reads' HO299.out).2.2 | (with_reducible first|refine Kd.C_alloc ?_ _|refine Kd.C_drewN ?_ _|refine Kd.C_drew ?_))); (case side2 => exact (Kd.R_reads' HO299.out).2.1); (case side3 => repeat (first | exact (Kd.R_reads' HO_4.out).2.2 | (with_reducible first|refine Kd.C_alloc ?_ _|refine Kd.C_drewN ?_ _|refine Kd.C_drew ?_))); (case side4 => exact (Kd.R_reads' HO_4.out).2.1); rintro e w' ⟨rfl, ⟨nd, rfl⟩⟩; refine ⟨_, rfl, ?_⟩))
                   go_meet
                   case rel => exact ⟨_, ((t300 != t264)), (by first | rfl | (simp; done) | (simp [*]; done)), H', ⟨by have := HJ2.out; have := HJ11.out; have := HJ31.out; have := HJ35.out; have := HJ43.out; have := HJ54.out; have := HJ58.out; have := HJ62.out; first | omega | exact Nat.le_refl _⟩, ⟨by (try simp only [hl272000_43]); (try simp only [hl272001_43]); (try simp only [hl7_58]); (with_reducible repeat (first | apply rA|apply rN|apply rW)); exact Kd.R_mono HO_7.out (fun _ hk => hk.1.1.2)⟩, ⟨by (try simp only [hl272000_43]); (try simp only [hl272001_43]); (try simp only [hl7_58]); (with_reducible repeat (first | apply rA|apply rN|apply rW)); exact Kd.R_mono HO_272000.out (fun _ hk => hk.1.1.2)⟩, ⟨by (try simp only [hl272000_43]); (try simp only [hl272001_43]); (try simp only [hl7_58]); (with_reducible repeat (first | apply rA|apply rN|apply rW)); exact Kd.R_mono HO_272001.out (fun _ hk => trivial)⟩, ⟨by (try simp only [hl272000_43]); (try simp only [hl272001_43]); (try simp only [hl7_58]); (with_reducible repeat (first | refine bN ?_ _|refine bW ?_|refine bA ?_ _)); exact BK253.out⟩, ⟨by (try simp only [hl272000_43]); (try simp only [hl272001_43]); (try simp only [hl7_58]); (with_reducible repeat (first | refine bN ?_ _|refine bW ?_|refine bA ?_ _)); exact BK271.out⟩, ⟨by repeat (first | (with_reducible first | exact HB.out|apply wA|apply wN|apply wD |refine wS ?_ GE253.out |refine wS ?_ GE271.out) | exact HB.out)⟩⟩
                  ·replace c75 := Bool.eq_false_iff.mpr c75
                   subst c75
                   have H1 : (laws_FnExactNetworkParts.j8 kj62 t289 t288 true) = some r := by rw [if_neg (show ¬ (false = true) by decide)] at H; exact H
                   clear H
                   have H := H1
                   clear H1
                   have H' := Aside0.mk H
                   clear H
                   obtain ⟨Ao78, co78, eo78⟩ := Kd.R_slice HO299.out
                   subst eo78
                   obtain ⟨Ao79, co79, eo79⟩ := Kd.R_slice HO_4.out
                   subst eo79
                   go_wp2_with (first | ((with_reducible refine gate_callee (f := 18) rfl ?_); refine goesL_ (some 81) rfl rfl Try.func18 (by kernel_rfl) rfl #[.slice Ao78 t297.length co78, .slice Ao79 t261.length co79] rfl (by (try simp only [List.map_toArray, List.map_cons, List.map_nil]); first | done | rfl | (simp only [List.length_drop, List.length_take]; rfl)) ?_; (with_reducible refine (laws_eqInt64S_.calls _ _ t297 _ _ t261 false _ ?side1 ?side2 ?side3 ?side4 A74.out).mono ?_); (case side1 => repeat (first | exact (Kd.R_reads' HO299.out).2.2 | (with_reducible first|refine Kd.C_alloc ?_ _|refine Kd.C_drewN ?_ _|refine Kd.C_drew ?_))); (case side2 => exact (Kd.R_reads' HO299.out).2.1); (case side3 => repeat (first | exact (Kd.R_reads' HO_4.out).2.2 | (with_reducible first|refine Kd.C_alloc ?_ _|refine Kd.C_drewN ?_ _|refine Kd.C_drew ?_))); (case side4 => exact (Kd.R_reads' HO_4.out).2.1); rintro e w' ⟨rfl, ⟨nd, rfl⟩⟩; refine ⟨_, rfl, ?_⟩))
                   go_meet
                   case rel => exact ⟨_, (true), (by first | rfl | (simp; done) | (simp [*]; done)), H', ⟨by have := HJ2.out; have := HJ11.out; have := HJ31.out; have := HJ35.out; have := HJ43.out; have := HJ54.out; have := HJ58.out; have := HJ62.out; first | omega | exact Nat.le_refl _⟩, ⟨by (try simp only [hl272000_43]); (try simp only [hl272001_43]); (try simp only [hl7_58]); (with_reducible repeat (first | apply rA|apply rN|apply rW)); exact Kd.R_mono HO_7.out (fun _ hk => hk.1.1.2)⟩, ⟨by (try simp only [hl272000_43]); (try simp only [hl272001_43]); (try simp only [hl7_58]); (with_reducible repeat (first | apply rA|apply rN|apply rW)); exact Kd.R_mono HO_272000.out (fun _ hk => hk.1.1.2)⟩, ⟨by (try simp only [hl272000_43]); (try simp only [hl272001_43]); (try simp only [hl7_58]); (with_reducible repeat (first | apply rA|apply rN|apply rW)); exact Kd.R_mono HO_272001.out (fun _ hk => trivial)⟩, ⟨by (try simp only [hl272000_43]); (try simp only [hl272001_43]); (try simp only [hl7_58]); (with_reducible repeat (first | refine bN ?_ _|refine bW ?_|refine bA ?_ _)); exact BK253.out⟩, ⟨by (try simp only [hl272000_43]); (try simp only [hl272001_43]); (try simp only [hl7_58]); (with_reducible repeat (first | refine bN ?_ _|refine bW ?_|refine bA ?_ _)); exact BK271.out⟩, ⟨by repeat (first | (with_reducible first | exact HB.out|apply wA|apply wN|apply wD |refine wS ?_ GE253.out |refine wS ?_ GE271.out) | exact HB.out)⟩⟩
                 case rest =>
                  clear HC67
                  try clear c1
                  try clear c2
                  try clear p2
                  try clear c3
                  try clear c4
                  try clear c5
                  try clear c6
                  try clear c7
                  try clear c7b0
                  try clear c7b2
                  try clear c14
                  try clear c16
                  try clear c18
                  try clear c19
                  try clear c20
                  try clear c21
                  try clear c22
                  try clear c27
                  try clear c28
                  try clear c33
                  try clear c42
                  try clear c45
                  try clear c48
                  try clear c48b0
                  try clear c48b2
                  try clear c50
                  try clear c56
                  try clear c62
                  try clear c62b0
                  try clear c62b2
                  try clear c64
                  try clear c64b0
                  try clear c64b1
                  try clear c64b2
                  try clear c68
                  try clear c75
                  try clear hcz13_0
                  try clear hcz13_1
                  try clear hcz18_0
                  try clear hcz18_1
                  try clear hcz23_0
                  try clear hcz23_1
                  try clear hcz46_0
                  try clear hcz46_1
                  try clear hcz5_0
                  try clear hcz5_1
                  try clear hcz69_0
                  try clear hcz69_1
                  try clear hfz13_0
                  try clear hfz13_1
                  try clear hfz18_0
                  try clear hfz18_1
                  try clear hfz23_0
                  try clear hfz23_1
                  try clear hfz46_0
                  try clear hfz46_1
                  try clear hfz5_0
                  try clear hfz5_1
                  try clear hfz69_0
                  try clear hfz69_1
                  try clear p2
                  obtain ⟨kq, x87_66, rfl, HA, HJ66, HO_7, HO_272000, HO_272001, BK253, BK271, HB⟩ := hcut
                  cases kq with
                  | zero => exact absurd HA.out (by simp [laws_FnExactNetworkParts.j8])
                  | succ kj66 =>
                   have H := HA.out
                   clear HA
                   simp only [laws_FnExactNetworkParts.j8] at H
                   have HC80 := Aside0.mk H
                   clear H
                   go_upto_if 87 with (fail)
                   go_cut [] (fun wc => ∃ (kq : Nat), Aside0 (laws_FnExactNetworkParts.j9 kq t289 t288 = some r) ∧ Aside0 (kq ≤ kj66) ∧ Aside0 (Kd.R (Kd.int .i64) 2 wc w.heap.size (fun k_ => some k_ ≠ ((.slice Ao21 t285.length co21) : Value).ownBlock) (.slice Ao60 t289.length co60) t289) ∧ Aside0 (Kd.R (Kd.int .i64) 2 wc w.heap.size (fun k_ => some k_ ≠ ((.slice Ao60 t289.length co60) : Value).ownBlock) (.slice Ao21 t285.length co21) t285) ∧ Aside0 (Kd.R k60 60 wc w.heap.size (fun _ => True) (.slice Ao24 t286.length co24) t286) ∧ Aside0 (wc.heap[gb253]? = some (.cells #[(.slice A0_0 l0_0.length c0_0), (.slice A0_1 l0_1.length c0_1)] 25 (0, 0))) ∧ Aside0 (wc.heap[gb271]? = some (.cells #[(.slice Ao21 t285.length co21), (.slice Ao24 t286.length co24)] 31 (0, 0))) ∧ Aside0 (Below w.heap.size w wc))
                   case first =>
                    have H := HC80.out
                    clear HC80
                    by_cases c81 : x87_66 = true
                    ·subst c81
                     have H1 : (some false) = some r := by rw [if_pos rfl] at H; exact H
                     clear H
                     have H := H1
                     clear H1
                     obtain rfl := Option.some.inj H
                     go_wp2
                     go_ret
                     exact ⟨by first | rfl | (simp [errW_none, errW_some] <;> rfl) | (simp [*, errW_none, errW_some] <;> rfl), by repeat (first | (with_reducible first | exact HB.out|apply wA|apply wN|apply wD |refine wS ?_ GE253.out |refine wS ?_ GE271.out) | exact HB.out)⟩
                    ·replace c81 := Bool.eq_false_iff.mpr c81
                     subst c81
                     have H1 : (laws_FnExactNetworkParts.j9 kj66 t289 t288) = some r := by rw [if_neg (show ¬ (false = true) by decide)] at H; exact H
                     clear H
                     have H := H1
                     clear H1
                     have H' := Aside0.mk H
                     clear H
                     go_wp2
                     go_meet
                     case rel => exact ⟨_, H', ⟨by have := HJ2.out; have := HJ11.out; have := HJ31.out; have := HJ35.out; have := HJ43.out; have := HJ54.out; have := HJ58.out; have := HJ62.out; have := HJ66.out; first | omega | exact Nat.le_refl _⟩, ⟨by (try simp only [hl272000_43]); (try simp only [hl272001_43]); (try simp only [hl7_58]); (with_reducible repeat (first | apply rA|apply rN|apply rW)); exact HO_7.out⟩, ⟨by (try simp only [hl272000_43]); (try simp only [hl272001_43]); (try simp only [hl7_58]); (with_reducible repeat (first | apply rA|apply rN|apply rW)); exact HO_272000.out⟩, ⟨by (try simp only [hl272000_43]); (try simp only [hl272001_43]); (try simp only [hl7_58]); (with_reducible repeat (first | apply rA|apply rN|apply rW)); exact HO_272001.out⟩, ⟨by (try simp only [hl272000_43]); (try simp only [hl272001_43]); (try simp only [hl7_58]); (with_reducible repeat (first | refine bN ?_ _|refine bW ?_|refine bA ?_ _)); exact BK253.out⟩, ⟨by (try simp only [hl272000_43]); (try simp only [hl272001_43]); (try simp only [hl7_58]); (with_reducible repeat (first | refine bN ?_ _|refine bW ?_|refine bA ?_ _)); exact BK271.out⟩, ⟨by repeat (first | (with_reducible first | exact HB.out|apply wA|apply wN|apply wD |refine wS ?_ GE253.out |refine wS ?_ GE271.out) | exact HB.out)⟩⟩
                   case rest =>
                    clear HC80
                    try clear c1
                    try clear c2
                    try clear p2
                    try clear c3
                    try clear c4
                    try clear c5
                    try clear c6
                    try clear c7
                    try clear c7b0
                    try clear c7b2
                    try clear c8
                    try clear c14
                    try clear c16
                    try clear c18
                    try clear c19
                    try clear c20
                    try clear c21
                    try clear c22
                    try clear c27
                    try clear c28
                    try clear c33
                    try clear c42
                    try clear c45
                    try clear c48
                    try clear c48b0
                    try clear c48b2
                    try clear c50
                    try clear c56
                    try clear c62
                    try clear c62b0
                    try clear c62b2
                    try clear c64
                    try clear c64b0
                    try clear c64b1
                    try clear c64b2
                    try clear c68
                    try clear c75
                    try clear c81
                    try clear hcz13_0
                    try clear hcz13_1
                    try clear hcz18_0
                    try clear hcz18_1
                    try clear hcz23_0
                    try clear hcz23_1
                    try clear hcz46_0
                    try clear hcz46_1
                    try clear hcz5_0
                    try clear hcz5_1
                    try clear hcz69_0
                    try clear hcz69_1
                    try clear hfz13_0
                    try clear hfz13_1
                    try clear hfz18_0
                    try clear hfz18_1
                    try clear hfz23_0
                    try clear hfz23_1
                    try clear hfz46_0
                    try clear hfz46_1
                    try clear hfz5_0
                    try clear hfz5_1
                    try clear hfz69_0
                    try clear hfz69_1
                    try clear p2
                    obtain ⟨kq, HA, HJ79, HO_7, HO_272000, HO_272001, BK253, BK271, HB⟩ := hcut
                    cases kq with
                    | zero => exact absurd HA.out (by simp [laws_FnExactNetworkParts.j9])
                    | succ kj79 =>
                     have H := HA.out
                     clear HA
                     simp only [laws_FnExactNetworkParts.j9] at H
                     replace H := Option.bind_eq_some_iff.mp H
                     obtain ⟨t302, A820, H⟩ := H
                     replace H : (if t302 < 0 then (some false) else (if t302 = t288 then (some true) else (some false))) = some r := H
                     have A82 := Aside0.mk A820
                     clear A820
                     by_cases c83 : t302 < 0
                     ·rw [if_pos c83] at H
                      have c83b0 : decide (t302 < 0) = true := decide_eq_true c83
                      clear c83
                      obtain rfl := Option.some.inj H
                      go_wp2_with (first | ((with_reducible refine gate_callee (f := 22) rfl ?_); refine goesL_ (some 90) rfl rfl Try.func22 (by kernel_rfl) rfl #[.slice Ao60 t289.length co60, .int .i64 1] rfl (by (try simp only [List.map_toArray, List.map_cons, List.map_nil]); first | done | rfl | (simp only [List.length_drop, List.length_take]; rfl)) ?_; (with_reducible refine (laws_heldInt64S_.calls _ _ t289 1 t302 _ ?side1 ?side2 A82.out).mono ?_); (case side1 => repeat (first | exact (Kd.R_reads' HO_7.out).2.2 | (with_reducible first|refine Kd.C_alloc ?_ _|refine Kd.C_drewN ?_ _|refine Kd.C_drew ?_))); (case side2 => exact (Kd.R_reads' HO_7.out).2.1); rintro e w' ⟨rfl, ⟨nd, rfl⟩⟩; refine ⟨_, rfl, ?_⟩))
                      go_ret
                      exact ⟨by first | rfl | (simp [errW_none, errW_some] <;> rfl) | (simp [*, errW_none, errW_some] <;> rfl), by repeat (first | (with_reducible first | exact HB.out|apply wA|apply wN|apply wD |refine wS ?_ GE253.out |refine wS ?_ GE271.out) | exact HB.out)⟩
                     ·rw [if_neg c83] at H
                      have c83b0 : decide (t302 < 0) = false := decide_eq_false c83
                      clear c83
                      by_cases c84 : t302 = t288
                      ·rw [if_pos c84] at H
                       have c84b0 : (t302 == t288) = true := beq_iff_eq.mpr c84
                       have c84b1 : (t302 != t288) = false := bne_eq_false_iff_eq.mpr c84
                       clear c84
                       obtain rfl := Option.some.inj H
                       go_wp2_with (first | ((with_reducible refine gate_callee (f := 22) rfl ?_); refine goesL_ (some 90) rfl rfl Try.func22 (by kernel_rfl) rfl #[.slice Ao60 t289.length co60, .int .i64 1] rfl (by (try simp only [List.map_toArray, List.map_cons, List.map_nil]); first | done | rfl | (simp only [List.length_drop, List.length_take]; rfl)) ?_; (with_reducible refine (laws_heldInt64S_.calls _ _ t289 1 t302 _ ?side1 ?side2 A82.out).mono ?_); (case side1 => repeat (first | exact (Kd.R_reads' HO_7.out).2.2 | (with_reducible first|refine Kd.C_alloc ?_ _|refine Kd.C_drewN ?_ _|refine Kd.C_drew ?_))); (case side2 => exact (Kd.R_reads' HO_7.out).2.1); rintro e w' ⟨rfl, ⟨nd, rfl⟩⟩; refine ⟨_, rfl, ?_⟩))
                       go_ret
                       exact ⟨by first | rfl | (simp [errW_none, errW_some] <;> rfl) | (simp [*, errW_none, errW_some] <;> rfl), by repeat (first | (with_reducible first | exact HB.out|apply wA|apply wN|apply wD |refine wS ?_ GE253.out |refine wS ?_ GE271.out) | exact HB.out)⟩
                      ·rw [if_neg c84] at H
                       have c84b0 : (t302 == t288) = false := beq_eq_false_iff_ne.mpr c84
                       have c84b1 : (t302 != t288) = true := bne_iff_ne.mpr c84
                       obtain rfl := Option.some.inj H
                       go_wp2_with (first | ((with_reducible refine gate_callee (f := 22) rfl ?_); refine goesL_ (some 90) rfl rfl Try.func22 (by kernel_rfl) rfl #[.slice Ao60 t289.length co60, .int .i64 1] rfl (by (try simp only [List.map_toArray, List.map_cons, List.map_nil]); first | done | rfl | (simp only [List.length_drop, List.length_take]; rfl)) ?_; (with_reducible refine (laws_heldInt64S_.calls _ _ t289 1 t302 _ ?side1 ?side2 A82.out).mono ?_); (case side1 => repeat (first | exact (Kd.R_reads' HO_7.out).2.2 | (with_reducible first|refine Kd.C_alloc ?_ _|refine Kd.C_drewN ?_ _|refine Kd.C_drew ?_))); (case side2 => exact (Kd.R_reads' HO_7.out).2.1); rintro e w' ⟨rfl, ⟨nd, rfl⟩⟩; refine ⟨_, rfl, ?_⟩))
                       go_ret
                       exact ⟨by first | rfl | (simp [errW_none, errW_some] <;> rfl) | (simp [*, errW_none, errW_some] <;> rfl), by repeat (first | (with_reducible first | exact HB.out|apply wA|apply wN|apply wD |refine wS ?_ GE253.out |refine wS ?_ GE271.out) | exact HB.out)⟩

end Go.Proofs.Ytcgbagdpedpdpaa.PFnExactNetworkParts
