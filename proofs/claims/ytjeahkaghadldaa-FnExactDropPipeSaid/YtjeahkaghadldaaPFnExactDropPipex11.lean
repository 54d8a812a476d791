-- Printed by a program of this session (wip/hprint.sh: the kit's print with hand-proved contracts put in); not by print.sh itself.
import Derived.Test.YtjeahkaghadldaaPFnExactDropPipex0
import Derived.Test.YtjeahkaghadldaaPFnExactDropPipex1
import Derived.Test.YtjeahkaghadldaaPFnExactDropPipex3
import Derived.Test.YtjeahkaghadldaaPFnExactDropPipex6
import Derived.Test.YtjeahkaghadldaaPFnExactDropPipex7
import Derived.Test.YtjeahkaghadldaaPFnExactDropPipex8
import Derived.Test.YtjeahkaghadldaaPFnExactDropPipex10
namespace Go.Proofs.Ytjeahkaghadldaa.PFnExactDropPipe
open Go.RowKit Go.Proofs.YtjeahkaghadldaaW.PrintWords Go.Proofs.YtjeahkaghadldaaW.PrintLast Go.Proofs.YtjeahkaghadldaaW.PrintMore Go.Proofs.YtjeahkaghadldaaM
attribute [local go_sem] max2_int min2_int max_two min_two max_three min_three max_four min_four   -- for this text's walks alone
set_option linter.unusedVariables false
set_option linter.unusedSimpArgs false

/-! ### laws_FnExactDropPipe: function 3 -/
mutual
def laws_FnExactDropPipe.j0 : Nat → ByteArray → List Int → List (S52) → Option (Bool)
 | 0, _, _, _ => none
 | k + 1, x1, x238000, x238001 => (laws_szNetwork.f x238000 x238001 1048576).bind fun t238 => (if t238 < 0 then (some true) else (laws_FnExactDropPipe.j1 k x1 x238000 x238001))
def laws_FnExactDropPipe.j1 : Nat → ByteArray → List Int → List (S52) → Option (Bool)
 | 0, _, _, _ => none
 | k + 1, x1, x238000, x238001 => (laws_toNetwork.f x238000 x238001).bind fun bt239 => ((spec_DropPipe.f k bt239.1 bt239.2 x1).bind fun bt245 => ((laws_toNetwork.f x238000 x238001).bind fun bt253 => ((impl_DropPipe.f bt253.1 bt253.2 x1).bind fun bt260 => ((laws_eqNetwork.f bt260.1 bt260.2.1 bt245.1 bt245.2.1).bind fun t268 => (if t268 = true then (laws_FnExactDropPipe.j2 k x1 bt245.2.2 bt260.2.2 (bt260.2.2 != bt245.2.2) x238000 x238001 bt245.1 bt245.2.1 bt253.1 bt253.2 bt260.1 bt260.2.1) else (laws_FnExactDropPipe.j2 k x1 bt245.2.2 bt260.2.2 true x238000 x238001 bt245.1 bt245.2.1 bt253.1 bt253.2 bt260.1 bt260.2.1))))))
def laws_FnExactDropPipe.j2 : Nat → ByteArray → Int → Int → Bool → List Int → List (S52) → List Int → List (S42) → List Int → List (S42) → List Int → List (S42) → Option (Bool)
 | 0, _, _, _, _, _, _, _, _, _, _, _, _ => none
 | k + 1, x1, x7, x10, x47, x238000, x238001, x253000, x253001, x260000, x260001, x268000, x268001 => if x47 = true then (some false) else (laws_FnExactDropPipe.j3 k x1 x7 x10 x238000 x238001 x253000 x253001 x260000 x260001 x268000 x268001)
def laws_FnExactDropPipe.j3 : Nat → ByteArray → Int → Int → List Int → List (S52) → List Int → List (S42) → List Int → List (S42) → List Int → List (S42) → Option (Bool)
 | 0, _, _, _, _, _, _, _, _, _, _, _ => none
 | k + 1, x1, x7, x10, x238000, x238001, x253000, x253001, x260000, x260001, x268000, x268001 => (laws_toNetwork.f x238000 x238001).bind fun bt269 => ((laws_eqNetwork.f x260000 x260001 bt269.1 bt269.2).bind fun t275 => (if t275 = true then (laws_FnExactDropPipe.j4 k x1 x7 x10 x238000 x238001 x253000 x253001 x260000 x260001 x268000 x268001) else (some false)))
def laws_FnExactDropPipe.j4 : Nat → ByteArray → Int → Int → List Int → List (S52) → List Int → List (S42) → List Int → List (S42) → List Int → List (S42) → Option (Bool)
 | 0, _, _, _, _, _, _, _, _, _, _, _ => none
 | k + 1, x1, x7, x10, x238000, x238001, x253000, x253001, x260000, x260001, x268000, x268001 => (laws_markNetwork.f x260000 x260001 1).bind fun bt276 => (if bt276.1 < 0 then (laws_FnExactDropPipe.j5 k x1 x7 true x238000 x238001 x253000 x253001 x268000 x268001) else ((laws_eqNetwork.f x268000 x268001 x253000 x253001).bind fun t279 => (if t279 = true then (laws_FnExactDropPipe.j5 k x1 x7 (x10 != x7) x238000 x238001 x253000 x253001 x268000 x268001) else (laws_FnExactDropPipe.j5 k x1 x7 true x238000 x238001 x253000 x253001 x268000 x268001))))
def laws_FnExactDropPipe.j5 : Nat → ByteArray → Int → Bool → List Int → List (S52) → List Int → List (S42) → List Int → List (S42) → Option (Bool)
 | 0, _, _, _, _, _, _, _, _, _ => none
 | k + 1, x1, x7, x68, x238000, x238001, x253000, x253001, x268000, x268001 => if x68 = true then (some false) else (laws_FnExactDropPipe.j6 k x1 x7 x238000 x238001 x253000 x253001 x268000 x268001)
def laws_FnExactDropPipe.j6 : Nat → ByteArray → Int → List Int → List (S52) → List Int → List (S42) → List Int → List (S42) → Option (Bool)
 | 0, _, _, _, _, _, _, _, _ => none
 | k + 1, x1, x7, x238000, x238001, x253000, x253001, x268000, x268001 => (laws_markNetwork.f x268000 x268001 1).bind fun bt280 => ((laws_heldNetwork.f bt280.2.1 bt280.2.2 1).bind fun t283 => (if t283 < 0 then (some false) else (laws_FnExactDropPipe.j7 k x1 x7 bt280.1 t283 x238000 x238001 x253000 x253001 bt280.2.1 bt280.2.2)))
def laws_FnExactDropPipe.j7 : Nat → ByteArray → Int → Int → Int → List Int → List (S52) → List Int → List (S42) → List Int → List (S42) → Option (Bool)
 | 0, _, _, _, _, _, _, _, _, _, _ => none
 | k + 1, x1, x7, x12, x13, x238000, x238001, x253000, x253001, x268000, x268001 => if x13 = x12 then (laws_FnExactDropPipe.j8 k x1 x7 x12 x238000 x238001 x253000 x253001 x268000 x268001) else (some false)
def laws_FnExactDropPipe.j8 : Nat → ByteArray → Int → Int → List Int → List (S52) → List Int → List (S42) → List Int → List (S42) → Option (Bool)
 | 0, _, _, _, _, _, _, _, _, _ => none
 | k + 1, x1, x7, x12, x238000, x238001, x253000, x253001, x268000, x268001 => (laws_toNetwork.f x238000 x238001).bind fun bt284 => ((impl_DropPipe.f bt284.1 bt284.2 x1).bind fun bt290 => ((laws_eqNetwork.f bt290.1 bt290.2.1 x253000 x253001).bind fun t298 => (if t298 = true then (laws_FnExactDropPipe.j9 k x12 (bt290.2.2 != x7) x268000 x268001) else (laws_FnExactDropPipe.j9 k x12 true x268000 x268001))))
def laws_FnExactDropPipe.j9 : Nat → Int → Bool → List Int → List (S42) → Option (Bool)
 | 0, _, _, _, _ => none
 | k + 1, x12, x95, x268000, x268001 => if x95 = true then (some false) else (laws_FnExactDropPipe.j10 k x12 x268000 x268001)
def laws_FnExactDropPipe.j10 : Nat → Int → List Int → List (S42) → Option (Bool)
 | 0, _, _, _ => none
 | k + 1, x12, x268000, x268001 => (laws_heldNetwork.f x268000 x268001 1).bind fun t299 => (if t299 < 0 then (some false) else (if t299 = x12 then (some true) else (some false)))
end
def laws_FnExactDropPipe.f (k : Nat) (l0_0 : List Int) (l0_1 : List (S52)) (a1 : ByteArray) : Option (Bool) := if (a1.size : Int) > 1048576 then (some true) else (laws_FnExactDropPipe.j0 k a1 l0_0 l0_1)
theorem laws_FnExactDropPipe.mono_l : ∀ k, (∀ y0 y1 y2, LeO (laws_FnExactDropPipe.j0 k y0 y1 y2) (laws_FnExactDropPipe.j0 (k + 1) y0 y1 y2)) ∧ (∀ y0 y1 y2, LeO (laws_FnExactDropPipe.j1 k y0 y1 y2) (laws_FnExactDropPipe.j1 (k + 1) y0 y1 y2)) ∧ (∀ y0 y1 y2 y3 y4 y5 y6 y7 y8 y9 y10 y11, LeO (laws_FnExactDropPipe.j2 k y0 y1 y2 y3 y4 y5 y6 y7 y8 y9 y10 y11) (laws_FnExactDropPipe.j2 (k + 1) y0 y1 y2 y3 y4 y5 y6 y7 y8 y9 y10 y11)) ∧ (∀ y0 y1 y2 y3 y4 y5 y6 y7 y8 y9 y10, LeO (laws_FnExactDropPipe.j3 k y0 y1 y2 y3 y4 y5 y6 y7 y8 y9 y10) (laws_FnExactDropPipe.j3 (k + 1) y0 y1 y2 y3 y4 y5 y6 y7 y8 y9 y10)) ∧ (∀ y0 y1 y2 y3 y4 y5 y6 y7 y8 y9 y10, LeO (laws_FnExactDropPipe.j4 k y0 y1 y2 y3 y4 y5 y6 y7 y8 y9 y10) (laws_FnExactDropPipe.j4 (k + 1) y0 y1 y2 y3 y4 y5 y6 y7 y8 y9 y10)) ∧ (∀ y0 y1 y2 y3 y4 y5 y6 y7 y8, LeO (laws_FnExactDropPipe.j5 k y0 y1 y2 y3 y4 y5 y6 y7 y8) (laws_FnExactDropPipe.j5 (k + 1) y0 y1 y2 y3 y4 y5 y6 y7 y8)) ∧ (∀ y0 y1 y2 y3 y4 y5 y6 y7, LeO (laws_FnExactDropPipe.j6 k y0 y1 y2 y3 y4 y5 y6 y7) (laws_FnExactDropPipe.j6 (k + 1) y0 y1 y2 y3 y4 y5 y6 y7)) ∧ (∀ y0 y1 y2 y3 y4 y5 y6 y7 y8 y9, LeO (laws_FnExactDropPipe.j7 k y0 y1 y2 y3 y4 y5 y6 y7 y8 y9) (laws_FnExactDropPipe.j7 (k + 1) y0 y1 y2 y3 y4 y5 y6 y7 y8 y9)) ∧ (∀ y0 y1 y2 y3 y4 y5 y6 y7 y8, LeO (laws_FnExactDropPipe.j8 k y0 y1 y2 y3 y4 y5 y6 y7 y8) (laws_FnExactDropPipe.j8 (k + 1) y0 y1 y2 y3 y4 y5 y6 y7 y8)) ∧ (∀ y0 y1 y2 y3, LeO (laws_FnExactDropPipe.j9 k y0 y1 y2 y3) (laws_FnExactDropPipe.j9 (k + 1) y0 y1 y2 y3)) ∧ (∀ y0 y1 y2, LeO (laws_FnExactDropPipe.j10 k y0 y1 y2) (laws_FnExactDropPipe.j10 (k + 1) y0 y1 y2))
 | 0 => ⟨fun _ _ _ r h => by simp [laws_FnExactDropPipe.j0] at h, fun _ _ _ r h => by simp [laws_FnExactDropPipe.j1] at h, fun _ _ _ _ _ _ _ _ _ _ _ _ r h => by simp [laws_FnExactDropPipe.j2] at h, fun _ _ _ _ _ _ _ _ _ _ _ r h => by simp [laws_FnExactDropPipe.j3] at h, fun _ _ _ _ _ _ _ _ _ _ _ r h => by simp [laws_FnExactDropPipe.j4] at h, fun _ _ _ _ _ _ _ _ _ r h => by simp [laws_FnExactDropPipe.j5] at h, fun _ _ _ _ _ _ _ _ r h => by simp [laws_FnExactDropPipe.j6] at h, fun _ _ _ _ _ _ _ _ _ _ r h => by simp [laws_FnExactDropPipe.j7] at h, fun _ _ _ _ _ _ _ _ _ r h => by simp [laws_FnExactDropPipe.j8] at h, fun _ _ _ _ r h => by simp [laws_FnExactDropPipe.j9] at h, fun _ _ _ r h => by simp [laws_FnExactDropPipe.j10] at h⟩
 | k + 1 => by
  obtain ⟨ih0, ih1, ih2, ih3, ih4, ih5, ih6, ih7, ih8, ih9, ih10⟩ := laws_FnExactDropPipe.mono_l k
  refine ⟨?_, ?_, ?_, ?_, ?_, ?_, ?_, ?_, ?_, ?_, ?_⟩
  ·intro y0 y1 y2
   unfold laws_FnExactDropPipe.j0
   repeat' first
   | (with_reducible exact ih0 _ _ _)
   | (with_reducible exact ih1 _ _ _)
   | (with_reducible exact ih2 _ _ _ _ _ _ _ _ _ _ _ _)
   | (with_reducible exact ih3 _ _ _ _ _ _ _ _ _ _ _)
   | (with_reducible exact ih4 _ _ _ _ _ _ _ _ _ _ _)
   | (with_reducible exact ih5 _ _ _ _ _ _ _ _ _)
   | (with_reducible exact ih6 _ _ _ _ _ _ _ _)
   | (with_reducible exact ih7 _ _ _ _ _ _ _ _ _ _)
   | (with_reducible exact ih8 _ _ _ _ _ _ _ _ _)
   | (with_reducible exact ih9 _ _ _ _)
   | (with_reducible exact ih10 _ _ _)
   | (with_reducible exact spec_DropPipe.mono _ _ _ _)
   | (with_reducible exact LeO.refl _)
   | (with_reducible exact LeO.none _)
   | (with_reducible refine LeO.ite ?_ ?_)
   | (with_reducible refine LeO.bind ?_ (fun _ => ?_))
   | exact ih0 _ _ _
   | exact ih1 _ _ _
   | exact ih2 _ _ _ _ _ _ _ _ _ _ _ _
   | exact ih3 _ _ _ _ _ _ _ _ _ _ _
   | exact ih4 _ _ _ _ _ _ _ _ _ _ _
   | exact ih5 _ _ _ _ _ _ _ _ _
   | exact ih6 _ _ _ _ _ _ _ _
   | exact ih7 _ _ _ _ _ _ _ _ _ _
   | exact ih8 _ _ _ _ _ _ _ _ _
   | exact ih9 _ _ _ _
   | exact ih10 _ _ _
   | exact spec_DropPipe.mono _ _ _ _
   | exact LeO.none _
   | refine LeO.ite ?_ ?_
   | refine LeO.bind ?_ (fun _ => ?_)
  ·intro y0 y1 y2
   unfold laws_FnExactDropPipe.j1
   repeat' first
   | (with_reducible exact ih0 _ _ _)
   | (with_reducible exact ih1 _ _ _)
   | (with_reducible exact ih2 _ _ _ _ _ _ _ _ _ _ _ _)
   | (with_reducible exact ih3 _ _ _ _ _ _ _ _ _ _ _)
   | (with_reducible exact ih4 _ _ _ _ _ _ _ _ _ _ _)
   | (with_reducible exact ih5 _ _ _ _ _ _ _ _ _)
   | (with_reducible exact ih6 _ _ _ _ _ _ _ _)
   | (with_reducible exact ih7 _ _ _ _ _ _ _ _ _ _)
   | (with_reducible exact ih8 _ _ _ _ _ _ _ _ _)
   | (with_reducible exact ih9 _ _ _ _)
   | (with_reducible exact ih10 _ _ _)
   | (with_reducible exact spec_DropPipe.mono _ _ _ _)
   | (with_reducible exact LeO.refl _)
   | (with_reducible exact LeO.none _)
   | (with_reducible refine LeO.ite ?_ ?_)
   | (with_reducible refine LeO.bind ?_ (fun _ => ?_))
   | exact ih0 _ _ _
   | exact ih1 _ _ _
   | exact ih2 _ _ _ _ _ _ _ _ _ _ _ _
   | exact ih3 _ _ _ _ _ _ _ _ _ _ _
   | exact ih4 _ _ _ _ _ _ _ _ _ _ _
   | exact ih5 _ _ _ _ _ _ _ _ _
   | exact ih6 _ _ _ _ _ _ _ _
   | exact ih7 _ _ _ _ _ _ _ _ _ _
   | exact ih8 _ _ _ _ _ _ _ _ _
   | exact ih9 _ _ _ _
   | exact ih10 _ _ _
   | exact spec_DropPipe.mono _ _ _ _
   | exact LeO.none _
   | refine LeO.ite ?_ ?_
   | refine LeO.bind ?_ (fun _ => ?_)
  ·intro y0 y1 y2 y3 y4 y5 y6 y7 y8 y9 y10 y11
   unfold laws_FnExactDropPipe.j2
   repeat' first
   | (with_reducible exact ih0 _ _ _)
   | (with_reducible exact ih1 _ _ _)
   | (with_reducible exact ih2 _ _ _ _ _ _ _ _ _ _ _ _)
   | (with_reducible exact ih3 _ _ _ _ _ _ _ _ _ _ _)
   | (with_reducible exact ih4 _ _ _ _ _ _ _ _ _ _ _)
   | (with_reducible exact ih5 _ _ _ _ _ _ _ _ _)
   | (with_reducible exact ih6 _ _ _ _ _ _ _ _)
   | (with_reducible exact ih7 _ _ _ _ _ _ _ _ _ _)
   | (with_reducible exact ih8 _ _ _ _ _ _ _ _ _)
   | (with_reducible exact ih9 _ _ _ _)
   | (with_reducible exact ih10 _ _ _)
   | (with_reducible exact spec_DropPipe.mono _ _ _ _)
   | (with_reducible exact LeO.refl _)
   | (with_reducible exact LeO.none _)
   | (with_reducible refine LeO.ite ?_ ?_)
   | (with_reducible refine LeO.bind ?_ (fun _ => ?_))
   | exact ih0 _ _ _
   | exact ih1 _ _ _
   | exact ih2 _ _ _ _ _ _ _ _ _ _ _ _
   | exact ih3 _ _ _ _ _ _ _ _ _ _ _
   | exact ih4 _ _ _ _ _ _ _ _ _ _ _
   | exact ih5 _ _ _ _ _ _ _ _ _
   | exact ih6 _ _ _ _ _ _ _ _
   | exact ih7 _ _ _ _ _ _ _ _ _ _
   | exact ih8 _ _ _ _ _ _ _ _ _
   | exact ih9 _ _ _ _
   | exact ih10 _ _ _
   | exact spec_DropPipe.mono _ _ _ _
   | exact LeO.none _
   | refine LeO.ite ?_ ?_
   | refine LeO.bind ?_ (fun _ => ?_)
  ·intro y0 y1 y2 y3 y4 y5 y6 y7 y8 y9 y10
   unfold laws_FnExactDropPipe.j3
   repeat' first
   | (with_reducible exact ih0 _ _ _)
   | (with_reducible exact ih1 _ _ _)
   | (with_reducible exact ih2 _ _ _ _ _ _ _ _ _ _ _ _)
   | (with_reducible exact ih3 _ _ _ _ _ _ _ _ _ _ _)
   | (with_reducible exact ih4 _ _ _ _ _ _ _ _ _ _ _)
   | (with_reducible exact ih5 _ _ _ _ _ _ _ _ _)
   | (with_reducible exact ih6 _ _ _ _ _ _ _ _)
   | (with_reducible exact ih7 _ _ _ _ _ _ _ _ _ _)
   | (with_reducible exact ih8 _ _ _ _ _ _ _ _ _)
   | (with_reducible exact ih9 _ _ _ _)
   | (with_reducible exact ih10 _ _ _)
   | (with_reducible exact spec_DropPipe.mono _ _ _ _)
   | (with_reducible exact LeO.refl _)
   | (with_reducible exact LeO.none _)
   | (with_reducible refine LeO.ite ?_ ?_)
   | (with_reducible refine LeO.bind ?_ (fun _ => ?_))
   | exact ih0 _ _ _
   | exact ih1 _ _ _
   | exact ih2 _ _ _ _ _ _ _ _ _ _ _ _
   | exact ih3 _ _ _ _ _ _ _ _ _ _ _
   | exact ih4 _ _ _ _ _ _ _ _ _ _ _
   | exact ih5 _ _ _ _ _ _ _ _ _
   | exact ih6 _ _ _ _ _ _ _ _
   | exact ih7 _ _ _ _ _ _ _ _ _ _
   | exact ih8 _ _ _ _ _ _ _ _ _
   | exact ih9 _ _ _ _
   | exact ih10 _ _ _
   | exact spec_DropPipe.mono _ _ _ _
   | exact LeO.none _
   | refine LeO.ite ?_ ?_
   | refine LeO.bind ?_ (fun _ => ?_)
  ·intro y0 y1 y2 y3 y4 y5 y6 y7 y8 y9 y10
   unfold laws_FnExactDropPipe.j4
   repeat' first
   | (with_reducible exact ih0 _ _ _)
   | (with_reducible exact ih1 _ _ _)
   | (with_reducible exact ih2 _ _ _ _ _ _ _ _ _ _ _ _)
   | (with_reducible exact ih3 _ _ _ _ _ _ _ _ _ _ _)
   | (with_reducible exact ih4 _ _ _ _ _ _ _ _ _ _ _)
   | (with_reducible exact ih5 _ _ _ _ _ _ _ _ _)
   | (with_reducible exact ih6 _ _ _ _ _ _ _ _)
   | (with_reducible exact ih7 _ _ _ _ _ _ _ _ _ _)
   | (with_reducible exact ih8 _ _ _ _ _ _ _ _ _)
   | (with_reducible exact ih9 _ _ _ _)
   | (with_reducible exact ih10 _ _ _)
   | (with_reducible exact spec_DropPipe.mono _ _ _ _)
   | (with_reducible exact LeO.refl _)
   | (with_reducible exact LeO.none _)
   | (with_reducible refine LeO.ite ?_ ?_)
   | (with_reducible refine LeO.bind ?_ (fun _ => ?_))
   | exact ih0 _ _ _
   | exact ih1 _ _ _
   | exact ih2 _ _ _ _ _ _ _ _ _ _ _ _
   | exact ih3 _ _ _ _ _ _ _ _ _ _ _
   | exact ih4 _ _ _ _ _ _ _ _ _ _ _
   | exact ih5 _ _ _ _ _ _ _ _ _
   | exact ih6 _ _ _ _ _ _ _ _
   | exact ih7 _ _ _ _ _ _ _ _ _ _
   | exact ih8 _ _ _ _ _ _ _ _ _
   | exact ih9 _ _ _ _
   | exact ih10 _ _ _
   | exact spec_DropPipe.mono _ _ _ _
   | exact LeO.none _
   | refine LeO.ite ?_ ?_
   | refine LeO.bind ?_ (fun _ => ?_)
  ·intro y0 y1 y2 y3 y4 y5 y6 y7 y8
   unfold laws_FnExactDropPipe.j5
   repeat' first
   | (with_reducible exact ih0 _ _ _)
   | (with_reducible exact ih1 _ _ _)
   | (with_reducible exact ih2 _ _ _ _ _ _ _ _ _ _ _ _)
   | (with_reducible exact ih3 _ _ _ _ _ _ _ _ _ _ _)
   | (with_reducible exact ih4 _ _ _ _ _ _ _ _ _ _ _)
   | (with_reducible exact ih5 _ _ _ _ _ _ _ _ _)
   | (with_reducible exact ih6 _ _ _ _ _ _ _ _)
   | (with_reducible exact ih7 _ _ _ _ _ _ _ _ _ _)
   | (with_reducible exact ih8 _ _ _ _ _ _ _ _ _)
   | (with_reducible exact ih9 _ _ _ _)
   | (with_reducible exact ih10 _ _ _)
   | (with_reducible exact spec_DropPipe.mono _ _ _ _)
   | (with_reducible exact LeO.refl _)
   | (with_reducible exact LeO.none _)
   | (with_reducible refine LeO.ite ?_ ?_)
   | (with_reducible refine LeO.bind ?_ (fun _ => ?_))
   | exact ih0 _ _ _
   | exact ih1 _ _ _
   | exact ih2 _ _ _ _ _ _ _ _ _ _ _ _
   | exact ih3 _ _ _ _ _ _ _ _ _ _ _
   | exact ih4 _ _ _ _ _ _ _ _ _ _ _
   | exact ih5 _ _ _ _ _ _ _ _ _
   | exact ih6 _ _ _ _ _ _ _ _
   | exact ih7 _ _ _ _ _ _ _ _ _ _
   | exact ih8 _ _ _ _ _ _ _ _ _
   | exact ih9 _ _ _ _
   | exact ih10 _ _ _
   | exact spec_DropPipe.mono _ _ _ _
   | exact LeO.none _
   | refine LeO.ite ?_ ?_
   | refine LeO.bind ?_ (fun _ => ?_)
  ·intro y0 y1 y2 y3 y4 y5 y6 y7
   unfold laws_FnExactDropPipe.j6
   repeat' first
   | (with_reducible exact ih0 _ _ _)
   | (with_reducible exact ih1 _ _ _)
   | (with_reducible exact ih2 _ _ _ _ _ _ _ _ _ _ _ _)
   | (with_reducible exact ih3 _ _ _ _ _ _ _ _ _ _ _)
   | (with_reducible exact ih4 _ _ _ _ _ _ _ _ _ _ _)
   | (with_reducible exact ih5 _ _ _ _ _ _ _ _ _)
   | (with_reducible exact ih6 _ _ _ _ _ _ _ _)
   | (with_reducible exact ih7 _ _ _ _ _ _ _ _ _ _)
   | (with_reducible exact ih8 _ _ _ _ _ _ _ _ _)
   | (with_reducible exact ih9 _ _ _ _)
   | (with_reducible exact ih10 _ _ _)
   | (with_reducible exact spec_DropPipe.mono _ _ _ _)
   | (with_reducible exact LeO.refl _)
   | (with_reducible exact LeO.none _)
   | (with_reducible refine LeO.ite ?_ ?_)
   | (with_reducible refine LeO.bind ?_ (fun _ => ?_))
   | exact ih0 _ _ _
   | exact ih1 _ _ _
   | exact ih2 _ _ _ _ _ _ _ _ _ _ _ _
   | exact ih3 _ _ _ _ _ _ _ _ _ _ _
   | exact ih4 _ _ _ _ _ _ _ _ _ _ _
   | exact ih5 _ _ _ _ _ _ _ _ _
   | exact ih6 _ _ _ _ _ _ _ _
   | exact ih7 _ _ _ _ _ _ _ _ _ _
   | exact ih8 _ _ _ _ _ _ _ _ _
   | exact ih9 _ _ _ _
   | exact ih10 _ _ _
   | exact spec_DropPipe.mono _ _ _ _
   | exact LeO.none _
   | refine LeO.ite ?_ ?_
   | refine LeO.bind ?_ (fun _ => ?_)
  ·intro y0 y1 y2 y3 y4 y5 y6 y7 y8 y9
   unfold laws_FnExactDropPipe.j7
   repeat' first
   | (with_reducible exact ih0 _ _ _)
   | (with_reducible exact ih1 _ _ _)
   | (with_reducible exact ih2 _ _ _ _ _ _ _ _ _ _ _ _)
   | (with_reducible exact ih3 _ _ _ _ _ _ _ _ _ _ _)
   | (with_reducible exact ih4 _ _ _ _ _ _ _ _ _ _ _)
   | (with_reducible exact ih5 _ _ _ _ _ _ _ _ _)
   | (with_reducible exact ih6 _ _ _ _ _ _ _ _)
   | (with_reducible exact ih7 _ _ _ _ _ _ _ _ _ _)
   | (with_reducible exact ih8 _ _ _ _ _ _ _ _ _)
   | (with_reducible exact ih9 _ _ _ _)
   | (with_reducible exact ih10 _ _ _)
   | (with_reducible exact spec_DropPipe.mono _ _ _ _)
   | (with_reducible exact LeO.refl _)
   | (with_reducible exact LeO.none _)
   | (with_reducible refine LeO.ite ?_ ?_)
   | (with_reducible refine LeO.bind ?_ (fun _ => ?_))
   | exact ih0 _ _ _
   | exact ih1 _ _ _
   | exact ih2 _ _ _ _ _ _ _ _ _ _ _ _
   | exact ih3 _ _ _ _ _ _ _ _ _ _ _
   | exact ih4 _ _ _ _ _ _ _ _ _ _ _
   | exact ih5 _ _ _ _ _ _ _ _ _
   | exact ih6 _ _ _ _ _ _ _ _
   | exact ih7 _ _ _ _ _ _ _ _ _ _
   | exact ih8 _ _ _ _ _ _ _ _ _
   | exact ih9 _ _ _ _
   | exact ih10 _ _ _
   | exact spec_DropPipe.mono _ _ _ _
   | exact LeO.none _
   | refine LeO.ite ?_ ?_
   | refine LeO.bind ?_ (fun _ => ?_)
  ·intro y0 y1 y2 y3 y4 y5 y6 y7 y8
   unfold laws_FnExactDropPipe.j8
   repeat' first
   | (with_reducible exact ih0 _ _ _)
   | (with_reducible exact ih1 _ _ _)
   | (with_reducible exact ih2 _ _ _ _ _ _ _ _ _ _ _ _)
   | (with_reducible exact ih3 _ _ _ _ _ _ _ _ _ _ _)
   | (with_reducible exact ih4 _ _ _ _ _ _ _ _ _ _ _)
   | (with_reducible exact ih5 _ _ _ _ _ _ _ _ _)
   | (with_reducible exact ih6 _ _ _ _ _ _ _ _)
   | (with_reducible exact ih7 _ _ _ _ _ _ _ _ _ _)
   | (with_reducible exact ih8 _ _ _ _ _ _ _ _ _)
   | (with_reducible exact ih9 _ _ _ _)
   | (with_reducible exact ih10 _ _ _)
   | (with_reducible exact spec_DropPipe.mono _ _ _ _)
   | (with_reducible exact LeO.refl _)
   | (with_reducible exact LeO.none _)
   | (with_reducible refine LeO.ite ?_ ?_)
   | (with_reducible refine LeO.bind ?_ (fun _ => ?_))
   | exact ih0 _ _ _
   | exact ih1 _ _ _
   | exact ih2 _ _ _ _ _ _ _ _ _ _ _ _
   | exact ih3 _ _ _ _ _ _ _ _ _ _ _
   | exact ih4 _ _ _ _ _ _ _ _ _ _ _
   | exact ih5 _ _ _ _ _ _ _ _ _
   | exact ih6 _ _ _ _ _ _ _ _
   | exact ih7 _ _ _ _ _ _ _ _ _ _
   | exact ih8 _ _ _ _ _ _ _ _ _
   | exact ih9 _ _ _ _
   | exact ih10 _ _ _
   | exact spec_DropPipe.mono _ _ _ _
   | exact LeO.none _
   | refine LeO.ite ?_ ?_
   | refine LeO.bind ?_ (fun _ => ?_)
  ·intro y0 y1 y2 y3
   unfold laws_FnExactDropPipe.j9
   repeat' first
   | (with_reducible exact ih0 _ _ _)
   | (with_reducible exact ih1 _ _ _)
   | (with_reducible exact ih2 _ _ _ _ _ _ _ _ _ _ _ _)
   | (with_reducible exact ih3 _ _ _ _ _ _ _ _ _ _ _)
   | (with_reducible exact ih4 _ _ _ _ _ _ _ _ _ _ _)
   | (with_reducible exact ih5 _ _ _ _ _ _ _ _ _)
   | (with_reducible exact ih6 _ _ _ _ _ _ _ _)
   | (with_reducible exact ih7 _ _ _ _ _ _ _ _ _ _)
   | (with_reducible exact ih8 _ _ _ _ _ _ _ _ _)
   | (with_reducible exact ih9 _ _ _ _)
   | (with_reducible exact ih10 _ _ _)
   | (with_reducible exact spec_DropPipe.mono _ _ _ _)
   | (with_reducible exact LeO.refl _)
   | (with_reducible exact LeO.none _)
   | (with_reducible refine LeO.ite ?_ ?_)
   | (with_reducible refine LeO.bind ?_ (fun _ => ?_))
   | exact ih0 _ _ _
   | exact ih1 _ _ _
   | exact ih2 _ _ _ _ _ _ _ _ _ _ _ _
   | exact ih3 _ _ _ _ _ _ _ _ _ _ _
   | exact ih4 _ _ _ _ _ _ _ _ _ _ _
   | exact ih5 _ _ _ _ _ _ _ _ _
   | exact ih6 _ _ _ _ _ _ _ _
   | exact ih7 _ _ _ _ _ _ _ _ _ _
   | exact ih8 _ _ _ _ _ _ _ _ _
   | exact ih9 _ _ _ _
   | exact ih10 _ _ _
   | exact spec_DropPipe.mono _ _ _ _
   | exact LeO.none _
   | refine LeO.ite ?_ ?_
   | refine LeO.bind ?_ (fun _ => ?_)
  ·intro y0 y1 y2
   unfold laws_FnExactDropPipe.j10
   repeat' first
   | (with_reducible exact ih0 _ _ _)
   | (with_reducible exact ih1 _ _ _)
   | (with_reducible exact ih2 _ _ _ _ _ _ _ _ _ _ _ _)
   | (with_reducible exact ih3 _ _ _ _ _ _ _ _ _ _ _)
   | (with_reducible exact ih4 _ _ _ _ _ _ _ _ _ _ _)
   | (with_reducible exact ih5 _ _ _ _ _ _ _ _ _)
   | (with_reducible exact ih6 _ _ _ _ _ _ _ _)
   | (with_reducible exact ih7 _ _ _ _ _ _ _ _ _ _)
   | (with_reducible exact ih8 _ _ _ _ _ _ _ _ _)
   | (with_reducible exact ih9 _ _ _ _)
   | (with_reducible exact ih10 _ _ _)
   | (with_reducible exact spec_DropPipe.mono _ _ _ _)
   | (with_reducible exact LeO.refl _)
   | (with_reducible exact LeO.none _)
   | (with_reducible refine LeO.ite ?_ ?_)
   | (with_reducible refine LeO.bind ?_ (fun _ => ?_))
   | exact ih0 _ _ _
   | exact ih1 _ _ _
   | exact ih2 _ _ _ _ _ _ _ _ _ _ _ _
   | exact ih3 _ _ _ _ _ _ _ _ _ _ _
   | exact ih4 _ _ _ _ _ _ _ _ _ _ _
   | exact ih5 _ _ _ _ _ _ _ _ _
   | exact ih6 _ _ _ _ _ _ _ _
   | exact ih7 _ _ _ _ _ _ _ _ _ _
   | exact ih8 _ _ _ _ _ _ _ _ _
   | exact ih9 _ _ _ _
   | exact ih10 _ _ _
   | exact spec_DropPipe.mono _ _ _ _
   | exact LeO.none _
   | refine LeO.ite ?_ ?_
   | refine LeO.bind ?_ (fun _ => ?_)
theorem laws_FnExactDropPipe.mono : ∀ a0 a1 a2 k, LeO (laws_FnExactDropPipe.f k a0 a1 a2) (laws_FnExactDropPipe.f (k + 1) a0 a1 a2) := by
 intro a0 a1 a2 k
 obtain ⟨ih0, ih1, ih2, ih3, ih4, ih5, ih6, ih7, ih8, ih9, ih10⟩ := laws_FnExactDropPipe.mono_l k
 unfold laws_FnExactDropPipe.f
 repeat' first
   | (with_reducible exact ih0 _ _ _)
   | (with_reducible exact ih1 _ _ _)
   | (with_reducible exact ih2 _ _ _ _ _ _ _ _ _ _ _ _)
   | (with_reducible exact ih3 _ _ _ _ _ _ _ _ _ _ _)
   | (with_reducible exact ih4 _ _ _ _ _ _ _ _ _ _ _)
   | (with_reducible exact ih5 _ _ _ _ _ _ _ _ _)
   | (with_reducible exact ih6 _ _ _ _ _ _ _ _)
   | (with_reducible exact ih7 _ _ _ _ _ _ _ _ _ _)
   | (with_reducible exact ih8 _ _ _ _ _ _ _ _ _)
   | (with_reducible exact ih9 _ _ _ _)
   | (with_reducible exact ih10 _ _ _)
   | (with_reducible exact spec_DropPipe.mono _ _ _ _)
   | (with_reducible exact LeO.refl _)
   | (with_reducible exact LeO.none _)
   | (with_reducible refine LeO.ite ?_ ?_)
   | (with_reducible refine LeO.bind ?_ (fun _ => ?_))
   | exact ih0 _ _ _
   | exact ih1 _ _ _
   | exact ih2 _ _ _ _ _ _ _ _ _ _ _ _
   | exact ih3 _ _ _ _ _ _ _ _ _ _ _
   | exact ih4 _ _ _ _ _ _ _ _ _ _ _
   | exact ih5 _ _ _ _ _ _ _ _ _
   | exact ih6 _ _ _ _ _ _ _ _
   | exact ih7 _ _ _ _ _ _ _ _ _ _
   | exact ih8 _ _ _ _ _ _ _ _ _
   | exact ih9 _ _ _ _
   | exact ih10 _ _ _
   | exact spec_DropPipe.mono _ _ _ _
   | exact LeO.none _
   | refine LeO.ite ?_ ?_
   | refine LeO.bind ?_ (fun _ => ?_)
set_option maxHeartbeats 8000000 in
set_option maxRecDepth 100000 in
theorem laws_FnExactDropPipe.calls (k : Nat) (A0_0 : Option Addr) (c0_0 : Nat) (l0_0 : List Int) (A0_1 : Option Addr) (c0_1 : Nat) (l0_1 : List (S52)) (a1 : ByteArray) (r : Bool) (w : World) (hr0_0 : Kd.C (Kd.int .i64) w A0_0 l0_0.length l0_0) (hc0_0 : l0_0.length ≤ c0_0) (hr0_1 : Kd.C k52 w A0_1 l0_1.length l0_1) (hc0_1 : l0_1.length ≤ c0_1) (h : laws_FnExactDropPipe.f k l0_0 l0_1 a1 = some r) :
  Calls Try.prog 3 #[.agg #[.slice A0_0 l0_0.length c0_0, .slice A0_1 l0_1.length c0_1], .string a1] w fun e w' => e = .returned (.bool r) ∧ Below w.heap.size w w' := by
 have hu25 := Try.underlying25
 have hu29 := Try.underlying29
 have HR0_0 := Aside0.mk hr0_0
 have HC0_0 := Aside0.mk hc0_0
 clear hr0_0 hc0_0
 have HR0_1 := Aside0.mk hr0_1
 have HC0_1 := Aside0.mk hc0_1
 clear hr0_1 hc0_1
 have HB := Aside0.mk (Below.refl w.heap.size w)
 have H : (if (a1.size : Int) > 1048576 then (some true) else (laws_FnExactDropPipe.j0 k a1 l0_0 l0_1)) = some r := h
 clear h
 have HC3 := Aside0.mk H
 clear H
 go_enter Try.func3, Try.ntmps3
 go_upto_if 18 with (first | ((with_reducible refine gate_dst (N := 2) rfl ?_); refine box_event ?hg (N := 2) ?hd (cs := #[.slice A0_0 l0_0.length c0_0, .slice A0_1 l0_1.length c0_1]) (t := 25) ?hr ?_; (case hd => rfl); (case hg => rfl); (case hr => first | (go_simp; done) | (go_simp; rfl)); intro gb237 hg w4 hbox hb; have n0_ := Aside0.mk (below_step (by repeat (first | (with_reducible first | exact HB.out|apply wA|apply wN|apply wD) | exact HB.out)) hb); have n1_ := Aside0.mk (hbox); have n2_ := Aside0.mk ((by rw [hg]; exact (below_size (by repeat (first | (with_reducible first | exact HB.out|apply wA|apply wN|apply wD) | exact HB.out))) : w.heap.size ≤ gb237)); have n3_ := Aside0.mk ((by rw [hg]; exact (below_size (by repeat (first | (with_reducible first | exact HB.out|apply wA|apply wN|apply wD) | exact HB.out))) : w.heap.size ≤ gb237)); clear HB; have HB := n0_; have BK237 := n1_; have GW237 := n2_; have GE237 := n3_; clear n0_ n1_ n2_ n3_; clear hb hbox hg))
 (try simp only [Act.put, List.setIfInBounds_toArray, List.set_cons_zero, List.set_cons_succ])
 go_cut [] (fun wc => ∃ (kq : Nat), Aside0 (laws_FnExactDropPipe.j0 kq a1 l0_0 l0_1 = some r) ∧ Aside0 (kq ≤ k) ∧ Aside0 (wc.heap[gb237]? = some (.cells #[(.slice A0_0 l0_0.length c0_0), (.slice A0_1 l0_1.length c0_1)] 25 (0, 0))) ∧ Aside0 (Below w.heap.size w wc))
 case first =>
  have H := HC3.out
  clear HC3
  by_cases c5 : (a1.size : Int) > 1048576
  ·rw [if_pos c5] at H
   have c5b0 : decide (1048576 < (a1.size : Int)) = true := decide_eq_true c5
   have c5b1 : decide (1048576 < a1.size) = true := decide_eq_true (by omega)
   clear c5
   (first | rw [c5b0] | (simp only [i64_w, i32_w]; rw [c5b0]) | rw [c5b2] | skip)
   obtain rfl := Option.some.inj H
   go_wp2
   go_ret
   exact ⟨by first | rfl | (simp [errW_none, errW_some] <;> rfl) | (simp [*, errW_none, errW_some] <;> rfl), by repeat (first | (with_reducible first | exact HB.out|apply wA|apply wN|apply wD |refine wS ?_ GE237.out) | exact HB.out)⟩
  ·rw [if_neg c5] at H
   have c5b0 : decide (1048576 < (a1.size : Int)) = false := decide_eq_false c5
   have c5b1 : decide (1048576 < a1.size) = false := decide_eq_false (by omega)
   clear c5
   (first | rw [c5b0] | (simp only [i64_w, i32_w]; rw [c5b0]) | rw [c5b2] | skip)
   have H' := Aside0.mk H
   clear H
   go_wp2
   go_meet
   case rel => exact ⟨_, H', ⟨by first | omega | exact Nat.le_refl _⟩, ⟨by (with_reducible repeat (first | refine bN ?_ _|refine bW ?_|refine bA ?_ _)); exact BK237.out⟩, ⟨by repeat (first | (with_reducible first | exact HB.out|apply wA|apply wN|apply wD |refine wS ?_ GE237.out) | exact HB.out)⟩⟩
 case rest =>
  clear HC3
  try clear p2
  try clear c3
  try clear c5
  try clear c5b0
  try clear c5b1
  try clear c5b2
  obtain ⟨kq, HA, HJ2, BK237, HB⟩ := hcut
  cases kq with
  | zero => exact absurd HA.out (by simp [laws_FnExactDropPipe.j0])
  | succ kj2 =>
   have H := HA.out
   clear HA
   simp only [laws_FnExactDropPipe.j0] at H
   replace H := Option.bind_eq_some_iff.mp H
   obtain ⟨t238, A60, H⟩ := H
   replace H : (if t238 < 0 then (some true) else (laws_FnExactDropPipe.j1 kj2 a1 l0_0 l0_1)) = some r := H
   have A6 := Aside0.mk A60
   clear A60
   have HC7 := Aside0.mk H
   clear H
   have hcz8_0 : wc.cell? ⟨gb237, 0, none⟩ = some (.slice A0_0 l0_0.length c0_0) := (blk_cell BK237.out 0).trans rfl
   have hcz8_1 : wc.cell? ⟨gb237, 1, none⟩ = some (.slice A0_1 l0_1.length c0_1) := (blk_cell BK237.out 1).trans rfl
   have hfz8_0 := blk_frozen BK237.out 0
   have hfz8_1 := blk_frozen BK237.out 1
   go_upto_if 23 with (first | ((with_reducible refine gate_callee (f := 4) rfl ?_); refine goesL_ (some 21) rfl rfl Try.func4 (by kernel_rfl) rfl #[.agg #[.slice A0_0 l0_0.length c0_0, .slice A0_1 l0_1.length c0_1], .int .i64 1048576] rfl (by (try simp only [List.map_toArray, List.map_cons, List.map_nil]); first | done | rfl | (simp only [List.length_drop, List.length_take]; rfl)) ?_; (with_reducible refine (laws_szNetwork.calls _ _ l0_0 _ _ l0_1 1048576 t238 _ ?side1 ?side2 ?side3 ?side4 A6.out).mono ?_); (case side1 => repeat (first | exact (Kd.C_below HR0_0.out HB.out) | (with_reducible first|refine Kd.C_alloc ?_ _|refine Kd.C_drewN ?_ _|refine Kd.C_drew ?_))); (case side2 => exact HC0_0.out); (case side3 => repeat (first | exact (Kd.C_below HR0_1.out HB.out) | (with_reducible first|refine Kd.C_alloc ?_ _|refine Kd.C_drewN ?_ _|refine Kd.C_drew ?_))); (case side4 => exact HC0_1.out); rintro e w9 ⟨rfl, hb⟩; refine ⟨_, rfl, ?_⟩; have n0_ := Aside0.mk (blk_below (g := gb237) (o := .cells #[.slice A0_0 l0_0.length c0_0, .slice A0_1 l0_1.length c0_1] 25 (0, 0)) (by (with_reducible repeat (first | refine bN ?_ _|refine bW ?_|refine bA ?_ _)); exact BK237.out) hb); have n1_ := Aside0.mk (below_step (by repeat (first | (with_reducible first | exact HB.out|apply wA|apply wN|apply wD |refine wS ?_ GE237.out) | exact HB.out)) hb); clear BK237; clear HB; have BK237 := n0_; have HB := n1_; clear n0_ n1_; (try clear hb); (try clear hb2); (try clear hk); (try clear hi)))
   (try simp only [Act.put, List.setIfInBounds_toArray, List.set_cons_zero, List.set_cons_succ])
   go_cut [] (fun wc => ∃ (kq : Nat), Aside0 (laws_FnExactDropPipe.j1 kq a1 l0_0 l0_1 = some r) ∧ Aside0 (kq ≤ kj2) ∧ Aside0 (wc.heap[gb237]? = some (.cells #[(.slice A0_0 l0_0.length c0_0), (.slice A0_1 l0_1.length c0_1)] 25 (0, 0))) ∧ Aside0 (Below w.heap.size w wc))
   case first =>
    have H := HC7.out
    clear HC7
    by_cases c10 : t238 < 0
    ·rw [if_pos c10] at H
     have c10b0 : decide (t238 < 0) = true := decide_eq_true c10
     clear c10
     (first | rw [c10b0] | (simp only [i64_w, i32_w]; rw [c10b0]) | rw [c10b2] | skip)
     obtain rfl := Option.some.inj H
     go_wp2
     go_ret
     exact ⟨by first | rfl | (simp [errW_none, errW_some] <;> rfl) | (simp [*, errW_none, errW_some] <;> rfl), by repeat (first | (with_reducible first | exact HB.out|apply wA|apply wN|apply wD |refine wS ?_ GE237.out) | exact HB.out)⟩
    ·rw [if_neg c10] at H
     have c10b0 : decide (t238 < 0) = false := decide_eq_false c10
     clear c10
     (first | rw [c10b0] | (simp only [i64_w, i32_w]; rw [c10b0]) | rw [c10b2] | skip)
     have H' := Aside0.mk H
     clear H
     go_wp2
     go_meet
     case rel => exact ⟨_, H', ⟨by have := HJ2.out; first | omega | exact Nat.le_refl _⟩, ⟨by (with_reducible repeat (first | refine bN ?_ _|refine bW ?_|refine bA ?_ _)); exact BK237.out⟩, ⟨by repeat (first | (with_reducible first | exact HB.out|apply wA|apply wN|apply wD |refine wS ?_ GE237.out) | exact HB.out)⟩⟩
   case rest =>
    clear HC7
    try clear c1
    try clear p2
    try clear c3
    try clear c4
    try clear c5
    try clear c5b0
    try clear c5b1
    try clear c5b2
    try clear c10
    try clear c10b0
    try clear c10b2
    try clear hcz8_0
    try clear hcz8_1
    try clear hfz8_0
    try clear hfz8_1
    try clear p2
    obtain ⟨kq, HA, HJ6, BK237, HB⟩ := hcut
    cases kq with
    | zero => exact absurd HA.out (by simp [laws_FnExactDropPipe.j1])
    | succ kj6 =>
     have H := HA.out
     clear HA
     simp only [laws_FnExactDropPipe.j1] at H
     replace H := Option.bind_eq_some_iff.mp H
     obtain ⟨⟨t239, t242⟩, A110, H⟩ := H
     replace H : ((spec_DropPipe.f kj6 t239 t242 a1).bind fun bt245 => ((laws_toNetwork.f l0_0 l0_1).bind fun bt253 => ((impl_DropPipe.f bt253.1 bt253.2 a1).bind fun bt260 => ((laws_eqNetwork.f bt260.1 bt260.2.1 bt245.1 bt245.2.1).bind fun t268 => (if t268 = true then (laws_FnExactDropPipe.j2 kj6 a1 bt245.2.2 bt260.2.2 (bt260.2.2 != bt245.2.2) l0_0 l0_1 bt245.1 bt245.2.1 bt253.1 bt253.2 bt260.1 bt260.2.1) else (laws_FnExactDropPipe.j2 kj6 a1 bt245.2.2 bt260.2.2 true l0_0 l0_1 bt245.1 bt245.2.1 bt253.1 bt253.2 bt260.1 bt260.2.1)))))) = some r := H
     have A11 := Aside0.mk A110
     clear A110
     replace H := Option.bind_eq_some_iff.mp H
     obtain ⟨⟨t245, t248, t251⟩, A120, H⟩ := H
     replace H : ((laws_toNetwork.f l0_0 l0_1).bind fun bt253 => ((impl_DropPipe.f bt253.1 bt253.2 a1).bind fun bt260 => ((laws_eqNetwork.f bt260.1 bt260.2.1 t245 t248).bind fun t268 => (if t268 = true then (laws_FnExactDropPipe.j2 kj6 a1 t251 bt260.2.2 (bt260.2.2 != t251) l0_0 l0_1 t245 t248 bt253.1 bt253.2 bt260.1 bt260.2.1) else (laws_FnExactDropPipe.j2 kj6 a1 t251 bt260.2.2 true l0_0 l0_1 t245 t248 bt253.1 bt253.2 bt260.1 bt260.2.1))))) = some r := H
     have A12 := Aside0.mk A120
     clear A120
     replace H := Option.bind_eq_some_iff.mp H
     obtain ⟨⟨t253, t256⟩, A130, H⟩ := H
     replace H : ((impl_DropPipe.f t253 t256 a1).bind fun bt260 => ((laws_eqNetwork.f bt260.1 bt260.2.1 t245 t248).bind fun t268 => (if t268 = true then (laws_FnExactDropPipe.j2 kj6 a1 t251 bt260.2.2 (bt260.2.2 != t251) l0_0 l0_1 t245 t248 t253 t256 bt260.1 bt260.2.1) else (laws_FnExactDropPipe.j2 kj6 a1 t251 bt260.2.2 true l0_0 l0_1 t245 t248 t253 t256 bt260.1 bt260.2.1)))) = some r := H
     have A13 := Aside0.mk A130
     clear A130
     replace H := Option.bind_eq_some_iff.mp H
     obtain ⟨⟨t260, t263, t266⟩, A140, H⟩ := H
     replace H : ((laws_eqNetwork.f t260 t263 t245 t248).bind fun t268 => (if t268 = true then (laws_FnExactDropPipe.j2 kj6 a1 t251 t266 (t266 != t251) l0_0 l0_1 t245 t248 t253 t256 t260 t263) else (laws_FnExactDropPipe.j2 kj6 a1 t251 t266 true l0_0 l0_1 t245 t248 t253 t256 t260 t263))) = some r := H
     have A14 := Aside0.mk A140
     clear A140
     have HC15 := Aside0.mk H
     clear H
     have hcz16_0 : wc.cell? ⟨gb237, 0, none⟩ = some (.slice A0_0 l0_0.length c0_0) := (blk_cell BK237.out 0).trans rfl
     have hcz16_1 : wc.cell? ⟨gb237, 1, none⟩ = some (.slice A0_1 l0_1.length c0_1) := (blk_cell BK237.out 1).trans rfl
     have hfz16_0 := blk_frozen BK237.out 0
     have hfz16_1 := blk_frozen BK237.out 1
     go_upto_region 10 with (first | ((with_reducible refine gate_callee (f := 6) rfl ?_); refine goesL_ (some 26) rfl rfl Try.func6 (by kernel_rfl) rfl #[.agg #[.slice A0_0 l0_0.length c0_0, .slice A0_1 l0_1.length c0_1]] rfl (by (try simp only [List.map_toArray, List.map_cons, List.map_nil]); first | done | rfl | (simp only [List.length_drop, List.length_take]; rfl)) ?_; (with_reducible refine (laws_toNetwork.calls _ _ l0_0 _ _ l0_1 t239 t242 _ ?side1 ?side2 ?side3 ?side4 A11.out).mono ?_); (case side1 => repeat (first | exact (Kd.C_below HR0_0.out HB.out) | (with_reducible first|refine Kd.C_alloc ?_ _|refine Kd.C_drewN ?_ _|refine Kd.C_drew ?_))); (case side2 => exact HC0_0.out); (case side3 => repeat (first | exact (Kd.C_below HR0_1.out HB.out) | (with_reducible first|refine Kd.C_alloc ?_ _|refine Kd.C_drewN ?_ _|refine Kd.C_drew ?_))); (case side4 => exact HC0_1.out); rintro e w17 ⟨v240, v243, rfl, ho0, ho1, hb⟩; refine ⟨_, rfl, ?_⟩; have n0_ := Aside0.mk (Kd.R_lower ho0 (below_size (by repeat (first | (with_reducible first | exact HB.out|apply wA|apply wN|apply wD |refine wS ?_ GE237.out) | exact HB.out)))); have n1_ := Aside0.mk (Kd.R_lower ho1 (below_size (by repeat (first | (with_reducible first | exact HB.out|apply wA|apply wN|apply wD |refine wS ?_ GE237.out) | exact HB.out)))); have n2_ := Aside0.mk (blk_below (g := gb237) (o := .cells #[.slice A0_0 l0_0.length c0_0, .slice A0_1 l0_1.length c0_1] 25 (0, 0)) (by (with_reducible repeat (first | refine bN ?_ _|refine bW ?_|refine bA ?_ _)); exact BK237.out) hb); have n3_ := Aside0.mk (below_step (by repeat (first | (with_reducible first | exact HB.out|apply wA|apply wN|apply wD |refine wS ?_ GE237.out) | exact HB.out)) hb); clear BK237; clear HB; have HO241 := n0_; have HO244 := n1_; have BK237 := n2_; have HB := n3_; clear n0_ n1_ n2_ n3_; (try clear hb); (try clear hb2); (try clear hk); (try clear hi); (try clear ho0); (try clear ho1); obtain ⟨Ao18, co18, eo18⟩ := Kd.R_slice HO241.out; subst eo18; obtain ⟨Ao19, co19, eo19⟩ := Kd.R_slice HO244.out; subst eo19) | ((with_reducible refine gate_callee (f := 5) rfl ?_); refine goesL_ (some 28) rfl rfl Try.func5 (by kernel_rfl) rfl #[.agg #[.slice Ao18 t239.length co18, .slice Ao19 t242.length co19], .string a1] rfl (by (try simp only [List.map_toArray, List.map_cons, List.map_nil]); first | done | rfl | (simp only [List.length_drop, List.length_take]; rfl)) ?_; (with_reducible refine (spec_DropPipe.calls kj6 _ _ t239 _ _ t242 a1 t245 t248 t251 _ ?side1 ?side2 ?side3 ?side4 A12.out).mono ?_); (case side1 => repeat (first | exact (Kd.R_reads' HO241.out).2.2 | (with_reducible first|refine Kd.C_alloc ?_ _|refine Kd.C_drewN ?_ _|refine Kd.C_drew ?_))); (case side2 => exact (Kd.R_reads' HO241.out).2.1); (case side3 => repeat (first | exact (Kd.R_reads' HO244.out).2.2 | (with_reducible first|refine Kd.C_alloc ?_ _|refine Kd.C_drewN ?_ _|refine Kd.C_drew ?_))); (case side4 => exact (Kd.R_reads' HO244.out).2.1); rintro e w20 ⟨v246, v249, rfl, ho0, ho1, hb⟩; refine ⟨_, rfl, ?_⟩; have n0_ := Aside0.mk (Kd.R_elder' (by (with_reducible repeat (first | apply rA|apply rN|apply rW)); exact HO241.out) (Kd.R_base ho0) hb); have n1_ := Aside0.mk (Kd.R_elder' (by (with_reducible repeat (first | apply rA|apply rN|apply rW)); exact HO244.out) (Kd.R_base ho1) hb); have n2_ := Aside0.mk (Kd.R_lower (Kd.R_new' ho0 (Kd.R_lt (by (with_reducible repeat (first | apply rA|apply rN|apply rW)); exact HO241.out))) (below_size (by repeat (first | (with_reducible first | exact HB.out|apply wA|apply wN|apply wD |refine wS ?_ GE237.out) | exact HB.out)))); have n3_ := Aside0.mk (Kd.R_lower (Kd.R_new' ho1 (Kd.R_lt (by (with_reducible repeat (first | apply rA|apply rN|apply rW)); exact HO244.out))) (below_size (by repeat (first | (with_reducible first | exact HB.out|apply wA|apply wN|apply wD |refine wS ?_ GE237.out) | exact HB.out)))); have n4_ := Aside0.mk (blk_below (g := gb237) (o := .cells #[.slice A0_0 l0_0.length c0_0, .slice A0_1 l0_1.length c0_1] 25 (0, 0)) (by (with_reducible repeat (first | refine bN ?_ _|refine bW ?_|refine bA ?_ _)); exact BK237.out) hb); have n5_ := Aside0.mk (below_step (by repeat (first | (with_reducible first | exact HB.out|apply wA|apply wN|apply wD |refine wS ?_ GE237.out) | exact HB.out)) hb); clear HO241; clear HO244; clear BK237; clear HB; have HO241 := n0_; have HO244 := n1_; have HO247 := n2_; have HO250 := n3_; have BK237 := n4_; have HB := n5_; clear n0_ n1_ n2_ n3_ n4_ n5_; (try clear hb); (try clear hb2); (try clear hk); (try clear hi); (try clear ho0); (try clear ho1)) | ((with_reducible refine gate_dst (N := 6) rfl ?_); refine box_event ?hg (N := 6) ?hd (cs := #[.slice none 0 0, .slice none 0 0]) (t := 29) ?hr ?_; (case hd => rfl); (case hg => rfl); (case hr => first | (go_simp; done) | (go_simp; rfl)); intro gb252 hg w21 hbox hb; have n0_ := Aside0.mk (Kd.R_below (by (with_reducible repeat (first | apply rA|apply rN|apply rW)); exact HO241.out) hb); have n1_ := Aside0.mk (Kd.R_below (by (with_reducible repeat (first | apply rA|apply rN|apply rW)); exact HO244.out) hb); have n2_ := Aside0.mk (Kd.R_below (by (with_reducible repeat (first | apply rA|apply rN|apply rW)); exact HO247.out) hb); have n3_ := Aside0.mk (Kd.R_below (by (with_reducible repeat (first | apply rA|apply rN|apply rW)); exact HO250.out) hb); have n4_ := Aside0.mk (blk_below (g := gb237) (o := .cells #[.slice A0_0 l0_0.length c0_0, .slice A0_1 l0_1.length c0_1] 25 (0, 0)) (by (with_reducible repeat (first | refine bN ?_ _|refine bW ?_|refine bA ?_ _)); exact BK237.out) hb); have n5_ := Aside0.mk (below_step (by repeat (first | (with_reducible first | exact HB.out|apply wA|apply wN|apply wD |refine wS ?_ GE237.out) | exact HB.out)) hb); have n6_ := Aside0.mk (hbox); have n7_ := Aside0.mk ((by rw [hg]; exact (below_size (by repeat (first | (with_reducible first | exact HB.out|apply wA|apply wN|apply wD |refine wS ?_ GE237.out) | exact HB.out))) : w.heap.size ≤ gb252)); have n8_ := Aside0.mk ((by rw [hg]; exact (below_size (by repeat (first | (with_reducible first | exact HB.out|apply wA|apply wN|apply wD |refine wS ?_ GE237.out) | exact HB.out))) : w.heap.size ≤ gb252)); have n9_ := Aside0.mk ((by rw [hg]; exact Nat.ne_of_lt (blk_lt (g := gb237) (o := .cells #[.slice A0_0 l0_0.length c0_0, .slice A0_1 l0_1.length c0_1] 25 (0, 0)) (by (with_reducible repeat (first | refine bN ?_ _|refine bW ?_|refine bA ?_ _)); exact BK237.out)) : gb237 ≠ gb252)); have n10_ := Aside0.mk ((by rw [hg]; exact Nat.ne_of_gt (blk_lt (g := gb237) (o := .cells #[.slice A0_0 l0_0.length c0_0, .slice A0_1 l0_1.length c0_1] 25 (0, 0)) (by (with_reducible repeat (first | refine bN ?_ _|refine bW ?_|refine bA ?_ _)); exact BK237.out)) : gb252 ≠ gb237)); clear HO241; clear HO244; clear HO247; clear HO250; clear BK237; clear HB; have HO241 := n0_; have HO244 := n1_; have HO247 := n2_; have HO250 := n3_; have BK237 := n4_; have HB := n5_; have BK252 := n6_; have GW252 := n7_; have GE252 := n8_; have NB237_252 := n9_; have NB252_237 := n10_; clear n0_ n1_ n2_ n3_ n4_ n5_ n6_ n7_ n8_ n9_ n10_; clear hb hbox hg; obtain ⟨Ao22, co22, eo22⟩ := Kd.R_slice HO247.out; subst eo22; have hnb23 := NB252_237.out; have hnc23 := NB237_252.out; have hcz24_0 : w21.cell? ⟨gb252, 0, none⟩ = some (.slice none 0 0) := (blk_cell BK252.out 0).trans rfl; have hcz24_1 : w21.cell? ⟨gb252, 1, none⟩ = some (.slice none 0 0) := (blk_cell BK252.out 1).trans rfl; have hfz24_0 := blk_frozen BK252.out 0; have hfz24_1 := blk_frozen BK252.out 1; obtain ⟨Ao25, co25, eo25⟩ := Kd.R_slice HO250.out; subst eo25; have hcz26_0 : w21.cell? ⟨gb237, 0, none⟩ = some (.slice A0_0 l0_0.length c0_0) := (blk_cell BK237.out 0).trans rfl; have hcz26_1 : w21.cell? ⟨gb237, 1, none⟩ = some (.slice A0_1 l0_1.length c0_1) := (blk_cell BK237.out 1).trans rfl; have hfz26_0 := blk_frozen BK237.out 0; have hfz26_1 := blk_frozen BK237.out 1) | ((with_reducible refine gate_callee (f := 6) rfl ?_); refine goesL_ (some 32) rfl rfl Try.func6 (by kernel_rfl) rfl #[.agg #[.slice A0_0 l0_0.length c0_0, .slice A0_1 l0_1.length c0_1]] rfl (by (try simp only [List.map_toArray, List.map_cons, List.map_nil]); first | done | rfl | (simp only [List.length_drop, List.length_take]; rfl)) ?_; (with_reducible refine (laws_toNetwork.calls _ _ l0_0 _ _ l0_1 t253 t256 _ ?side1 ?side2 ?side3 ?side4 A13.out).mono ?_); (case side1 => exact Kd.C_below HR0_0.out (by repeat (first | (with_reducible first | exact HB.out|apply wA|apply wN|apply wD |refine wS ?_ GE237.out |refine wS ?_ GE252.out) | exact HB.out))); (case side2 => exact HC0_0.out); (case side3 => exact Kd.C_below HR0_1.out (by repeat (first | (with_reducible first | exact HB.out|apply wA|apply wN|apply wD |refine wS ?_ GE237.out |refine wS ?_ GE252.out) | exact HB.out))); (case side4 => exact HC0_1.out); rintro e w27 ⟨v254, v257, rfl, ho0, ho1, hb⟩; refine ⟨_, rfl, ?_⟩; have n0_ := Aside0.mk (Kd.R_elder' (by (with_reducible repeat (first | apply rA|apply rN|apply rW)); exact (Kd.R_mono (Kd.R_far (p := ⟨gb252, 1, none⟩) (Kd.R_far (p := ⟨gb252, 0, none⟩) (Kd.R_types HO241.out BK252.out (by decide)) (fun _ hk => hk.2) (.slice Ao22 t245.length co22)) (fun _ hk => hk.2) (.slice Ao25 t248.length co25)) (fun _ h_ => h_.1))) (Kd.R_base ho0) hb); have n1_ := Aside0.mk (Kd.R_elder' (by (with_reducible repeat (first | apply rA|apply rN|apply rW)); exact (Kd.R_mono (Kd.R_far (p := ⟨gb252, 1, none⟩) (Kd.R_far (p := ⟨gb252, 0, none⟩) (Kd.R_types HO244.out BK252.out (by decide)) (fun _ hk => hk.2) (.slice Ao22 t245.length co22)) (fun _ hk => hk.2) (.slice Ao25 t248.length co25)) (fun _ h_ => h_.1))) (Kd.R_base ho1) hb); have n2_ := Aside0.mk (Kd.R_elder' (by (with_reducible repeat (first | apply rA|apply rN|apply rW)); exact (Kd.R_mono (Kd.R_far (p := ⟨gb252, 1, none⟩) (Kd.R_far (p := ⟨gb252, 0, none⟩) (Kd.R_types HO247.out BK252.out (by decide)) (fun _ hk => hk.2) (.slice Ao22 t245.length co22)) (fun _ hk => hk.2) (.slice Ao25 t248.length co25)) (fun _ h_ => h_.1))) (Kd.R_base ho0) hb); have n3_ := Aside0.mk (Kd.R_elder' (by (with_reducible repeat (first | apply rA|apply rN|apply rW)); exact (Kd.R_mono (Kd.R_far (p := ⟨gb252, 1, none⟩) (Kd.R_far (p := ⟨gb252, 0, none⟩) (Kd.R_types HO250.out BK252.out (by decide)) (fun _ hk => hk.2) (.slice Ao22 t245.length co22)) (fun _ hk => hk.2) (.slice Ao25 t248.length co25)) (fun _ h_ => h_.1))) (Kd.R_base ho1) hb); have n4_ := Aside0.mk (Kd.R_lower (Kd.R_new' (Kd.R_new' ho0 (Kd.R_lt (by (with_reducible repeat (first | apply rA|apply rN|apply rW)); exact (Kd.R_mono (Kd.R_far (p := ⟨gb252, 1, none⟩) (Kd.R_far (p := ⟨gb252, 0, none⟩) (Kd.R_types HO241.out BK252.out (by decide)) (fun _ hk => hk.2) (.slice Ao22 t245.length co22)) (fun _ hk => hk.2) (.slice Ao25 t248.length co25)) (fun _ h_ => h_.1))))) (Kd.R_lt (by (with_reducible repeat (first | apply rA|apply rN|apply rW)); exact (Kd.R_mono (Kd.R_far (p := ⟨gb252, 1, none⟩) (Kd.R_far (p := ⟨gb252, 0, none⟩) (Kd.R_types HO247.out BK252.out (by decide)) (fun _ hk => hk.2) (.slice Ao22 t245.length co22)) (fun _ hk => hk.2) (.slice Ao25 t248.length co25)) (fun _ h_ => h_.1))))) (below_size (by repeat (first | (with_reducible first | exact HB.out|apply wA|apply wN|apply wD |refine wS ?_ GE237.out |refine wS ?_ GE252.out) | exact HB.out)))); have n5_ := Aside0.mk (Kd.R_lower (Kd.R_new' (Kd.R_new' ho1 (Kd.R_lt (by (with_reducible repeat (first | apply rA|apply rN|apply rW)); exact (Kd.R_mono (Kd.R_far (p := ⟨gb252, 1, none⟩) (Kd.R_far (p := ⟨gb252, 0, none⟩) (Kd.R_types HO244.out BK252.out (by decide)) (fun _ hk => hk.2) (.slice Ao22 t245.length co22)) (fun _ hk => hk.2) (.slice Ao25 t248.length co25)) (fun _ h_ => h_.1))))) (Kd.R_lt (by (with_reducible repeat (first | apply rA|apply rN|apply rW)); exact (Kd.R_mono (Kd.R_far (p := ⟨gb252, 1, none⟩) (Kd.R_far (p := ⟨gb252, 0, none⟩) (Kd.R_types HO250.out BK252.out (by decide)) (fun _ hk => hk.2) (.slice Ao22 t245.length co22)) (fun _ hk => hk.2) (.slice Ao25 t248.length co25)) (fun _ h_ => h_.1))))) (below_size (by repeat (first | (with_reducible first | exact HB.out|apply wA|apply wN|apply wD |refine wS ?_ GE237.out |refine wS ?_ GE252.out) | exact HB.out)))); have n6_ := Aside0.mk (blk_below (g := gb237) (o := .cells #[.slice A0_0 l0_0.length c0_0, .slice A0_1 l0_1.length c0_1] 25 (0, 0)) (by (with_reducible repeat (first | refine bN ?_ _|refine bW ?_|refine bA ?_ _)); refine blk_far ?_ NB237_252.out _; (with_reducible repeat (first | refine bN ?_ _|refine bW ?_|refine bA ?_ _)); refine blk_far ?_ NB237_252.out _; (with_reducible repeat (first | refine bN ?_ _|refine bW ?_|refine bA ?_ _)); exact BK237.out) hb); have n7_ := Aside0.mk (blk_below (g := gb252) (o := .cells #[.slice Ao22 t245.length co22, .slice Ao25 t248.length co25] 29 (0, 0)) (by (with_reducible repeat (first | refine bN ?_ _|refine bW ?_|refine bA ?_ _)); refine blk_put (cs := #[.slice Ao22 t245.length co22, .slice none 0 0]) ?_ 1 _ rfl; (with_reducible repeat (first | refine bN ?_ _|refine bW ?_|refine bA ?_ _)); refine blk_put (cs := #[.slice none 0 0, .slice none 0 0]) ?_ 0 _ rfl; (with_reducible repeat (first | refine bN ?_ _|refine bW ?_|refine bA ?_ _)); exact BK252.out) hb); have n8_ := Aside0.mk (below_step (by repeat (first | (with_reducible first | exact HB.out|apply wA|apply wN|apply wD |refine wS ?_ GE237.out |refine wS ?_ GE252.out) | exact HB.out)) hb); clear HO241; clear HO244; clear HO247; clear HO250; clear BK237; clear BK252; clear HB; have HO241 := n0_; have HO244 := n1_; have HO247 := n2_; have HO250 := n3_; have HO255 := n4_; have HO258 := n5_; have BK237 := n6_; have BK252 := n7_; have HB := n8_; clear n0_ n1_ n2_ n3_ n4_ n5_ n6_ n7_ n8_; (try clear hb); (try clear hb2); (try clear hk); (try clear hi); (try clear ho0); (try clear ho1)) | ((with_reducible refine gate_dst (N := 8) rfl ?_); refine box_event ?hg (N := 8) ?hd (cs := #[.slice none 0 0, .slice none 0 0]) (t := 29) ?hr ?_; (case hd => rfl); (case hg => rfl); (case hr => first | (go_simp; done) | (go_simp; rfl)); intro gb259 hg w28 hbox hb; have n0_ := Aside0.mk (Kd.R_below (by (with_reducible repeat (first | apply rA|apply rN|apply rW)); exact HO241.out) hb); have n1_ := Aside0.mk (Kd.R_below (by (with_reducible repeat (first | apply rA|apply rN|apply rW)); exact HO244.out) hb); have n2_ := Aside0.mk (Kd.R_below (by (with_reducible repeat (first | apply rA|apply rN|apply rW)); exact HO247.out) hb); have n3_ := Aside0.mk (Kd.R_below (by (with_reducible repeat (first | apply rA|apply rN|apply rW)); exact HO250.out) hb); have n4_ := Aside0.mk (Kd.R_below (by (with_reducible repeat (first | apply rA|apply rN|apply rW)); exact HO255.out) hb); have n5_ := Aside0.mk (Kd.R_below (by (with_reducible repeat (first | apply rA|apply rN|apply rW)); exact HO258.out) hb); have n6_ := Aside0.mk (blk_below (g := gb237) (o := .cells #[.slice A0_0 l0_0.length c0_0, .slice A0_1 l0_1.length c0_1] 25 (0, 0)) (by (with_reducible repeat (first | refine bN ?_ _|refine bW ?_|refine bA ?_ _)); exact BK237.out) hb); have n7_ := Aside0.mk (blk_below (g := gb252) (o := .cells #[.slice Ao22 t245.length co22, .slice Ao25 t248.length co25] 29 (0, 0)) (by (with_reducible repeat (first | refine bN ?_ _|refine bW ?_|refine bA ?_ _)); exact BK252.out) hb); have n8_ := Aside0.mk (below_step (by repeat (first | (with_reducible first | exact HB.out|apply wA|apply wN|apply wD |refine wS ?_ GE237.out |refine wS ?_ GE252.out) | exact HB.out)) hb); have n9_ := Aside0.mk (hbox); have n10_ := Aside0.mk ((by rw [hg]; exact (below_size (by repeat (first | (with_reducible first | exact HB.out|apply wA|apply wN|apply wD |refine wS ?_ GE237.out |refine wS ?_ GE252.out) | exact HB.out))) : w.heap.size ≤ gb259)); have n11_ := Aside0.mk ((by rw [hg]; exact (below_size (by repeat (first | (with_reducible first | exact HB.out|apply wA|apply wN|apply wD |refine wS ?_ GE237.out |refine wS ?_ GE252.out) | exact HB.out))) : w.heap.size ≤ gb259)); have n12_ := Aside0.mk ((by rw [hg]; exact Nat.ne_of_lt (blk_lt (g := gb237) (o := .cells #[.slice A0_0 l0_0.length c0_0, .slice A0_1 l0_1.length c0_1] 25 (0, 0)) (by (with_reducible repeat (first | refine bN ?_ _|refine bW ?_|refine bA ?_ _)); exact BK237.out)) : gb237 ≠ gb259)); have n13_ := Aside0.mk ((by rw [hg]; exact Nat.ne_of_gt (blk_lt (g := gb237) (o := .cells #[.slice A0_0 l0_0.length c0_0, .slice A0_1 l0_1.length c0_1] 25 (0, 0)) (by (with_reducible repeat (first | refine bN ?_ _|refine bW ?_|refine bA ?_ _)); exact BK237.out)) : gb259 ≠ gb237)); have n14_ := Aside0.mk ((by rw [hg]; exact Nat.ne_of_lt (blk_lt (g := gb252) (o := .cells #[.slice Ao22 t245.length co22, .slice Ao25 t248.length co25] 29 (0, 0)) (by (with_reducible repeat (first | refine bN ?_ _|refine bW ?_|refine bA ?_ _)); exact BK252.out)) : gb252 ≠ gb259)); have n15_ := Aside0.mk ((by rw [hg]; exact Nat.ne_of_gt (blk_lt (g := gb252) (o := .cells #[.slice Ao22 t245.length co22, .slice Ao25 t248.length co25] 29 (0, 0)) (by (with_reducible repeat (first | refine bN ?_ _|refine bW ?_|refine bA ?_ _)); exact BK252.out)) : gb259 ≠ gb252)); clear HO241; clear HO244; clear HO247; clear HO250; clear HO255; clear HO258; clear BK237; clear BK252; clear HB; have HO241 := n0_; have HO244 := n1_; have HO247 := n2_; have HO250 := n3_; have HO255 := n4_; have HO258 := n5_; have BK237 := n6_; have BK252 := n7_; have HB := n8_; have BK259 := n9_; have GW259 := n10_; have GE259 := n11_; have NB237_259 := n12_; have NB259_237 := n13_; have NB252_259 := n14_; have NB259_252 := n15_; clear n0_ n1_ n2_ n3_ n4_ n5_ n6_ n7_ n8_ n9_ n10_ n11_ n12_ n13_ n14_ n15_; clear hb hbox hg; obtain ⟨Ao29, co29, eo29⟩ := Kd.R_slice HO255.out; subst eo29; have hnb30 := NB259_237.out; have hnc30 := NB237_259.out; have hnb31 := NB259_252.out; have hnc31 := NB252_259.out; have hcz32_0 : w28.cell? ⟨gb259, 0, none⟩ = some (.slice none 0 0) := (blk_cell BK259.out 0).trans rfl; have hcz32_1 : w28.cell? ⟨gb259, 1, none⟩ = some (.slice none 0 0) := (blk_cell BK259.out 1).trans rfl; have hfz32_0 := blk_frozen BK259.out 0; have hfz32_1 := blk_frozen BK259.out 1; obtain ⟨Ao33, co33, eo33⟩ := Kd.R_slice HO258.out; subst eo33) | ((with_reducible refine gate_callee (f := 7) rfl ?_); refine goesL_ (some 36) rfl rfl Try.func7 (by kernel_rfl) rfl #[.agg #[.slice Ao29 t253.length co29, .slice Ao33 t256.length co33], .string a1] rfl (by (try simp only [List.map_toArray, List.map_cons, List.map_nil]); first | done | rfl | (simp only [List.length_drop, List.length_take]; rfl)) ?_; (with_reducible refine (impl_DropPipe.calls _ _ t253 _ _ t256 a1 t260 t263 t266 _ ?side1 ?side2 ?side3 ?side4 A14.out).mono ?_); (case side1 => refine (Kd.R_reads' (e := 2) (base := w.heap.size) (ok := fun k_ => ((True ∧ some k_ ≠ (.slice Ao18 t239.length co18 : Value).ownBlock) ∧ some k_ ≠ (.slice Ao22 t245.length co22 : Value).ownBlock)) (n := t253.length) (c := co29) ?_).2.2; exact (by (with_reducible repeat (first | apply rA|apply rN|apply rW)); exact (Kd.R_mono (Kd.R_far (p := ⟨gb259, 1, none⟩) (Kd.R_far (p := ⟨gb259, 0, none⟩) (Kd.R_types HO255.out BK259.out (by decide)) (fun _ hk => hk.2) (.slice Ao29 t253.length co29)) (fun _ hk => hk.2) (.slice Ao33 t256.length co33)) (fun _ h_ => h_.1)))); (case side2 => exact (Kd.R_reads' HO255.out).2.1); (case side3 => refine (Kd.R_reads' (e := 42) (base := w.heap.size) (ok := fun k_ => ((True ∧ some k_ ≠ (.slice Ao19 t242.length co19 : Value).ownBlock) ∧ some k_ ≠ (.slice Ao25 t248.length co25 : Value).ownBlock)) (n := t256.length) (c := co33) ?_).2.2; exact (by (with_reducible repeat (first | apply rA|apply rN|apply rW)); exact (Kd.R_mono (Kd.R_far (p := ⟨gb259, 1, none⟩) (Kd.R_far (p := ⟨gb259, 0, none⟩) (Kd.R_types HO258.out BK259.out (by decide)) (fun _ hk => hk.2) (.slice Ao29 t253.length co29)) (fun _ hk => hk.2) (.slice Ao33 t256.length co33)) (fun _ h_ => h_.1)))); (case side4 => exact (Kd.R_reads' HO258.out).2.1); rintro e w34 ⟨v261, v264, rfl, ho0, ho1, hb⟩; refine ⟨_, rfl, ?_⟩; have n0_ := Aside0.mk (Kd.R_elder' (by (with_reducible repeat (first | apply rA|apply rN|apply rW)); exact (Kd.R_mono (Kd.R_far (p := ⟨gb259, 1, none⟩) (Kd.R_far (p := ⟨gb259, 0, none⟩) (Kd.R_types HO241.out BK259.out (by decide)) (fun _ hk => hk.2) (.slice Ao29 t253.length co29)) (fun _ hk => hk.2) (.slice Ao33 t256.length co33)) (fun _ h_ => h_.1))) (Kd.R_base ho0) hb); have n1_ := Aside0.mk (Kd.R_elder' (by (with_reducible repeat (first | apply rA|apply rN|apply rW)); exact (Kd.R_mono (Kd.R_far (p := ⟨gb259, 1, none⟩) (Kd.R_far (p := ⟨gb259, 0, none⟩) (Kd.R_types HO244.out BK259.out (by decide)) (fun _ hk => hk.2) (.slice Ao29 t253.length co29)) (fun _ hk => hk.2) (.slice Ao33 t256.length co33)) (fun _ h_ => h_.1))) (Kd.R_base ho1) hb); have n2_ := Aside0.mk (Kd.R_elder' (by (with_reducible repeat (first | apply rA|apply rN|apply rW)); exact (Kd.R_mono (Kd.R_far (p := ⟨gb259, 1, none⟩) (Kd.R_far (p := ⟨gb259, 0, none⟩) (Kd.R_types HO247.out BK259.out (by decide)) (fun _ hk => hk.2) (.slice Ao29 t253.length co29)) (fun _ hk => hk.2) (.slice Ao33 t256.length co33)) (fun _ h_ => h_.1))) (Kd.R_base ho0) hb); have n3_ := Aside0.mk (Kd.R_elder' (by (with_reducible repeat (first | apply rA|apply rN|apply rW)); exact (Kd.R_mono (Kd.R_far (p := ⟨gb259, 1, none⟩) (Kd.R_far (p := ⟨gb259, 0, none⟩) (Kd.R_types HO250.out BK259.out (by decide)) (fun _ hk => hk.2) (.slice Ao29 t253.length co29)) (fun _ hk => hk.2) (.slice Ao33 t256.length co33)) (fun _ h_ => h_.1))) (Kd.R_base ho1) hb); have n4_ := Aside0.mk (Kd.R_elder' (by (with_reducible repeat (first | apply rA|apply rN|apply rW)); exact (Kd.R_mono (Kd.R_far (p := ⟨gb259, 1, none⟩) (Kd.R_far (p := ⟨gb259, 0, none⟩) (Kd.R_types HO255.out BK259.out (by decide)) (fun _ hk => hk.2) (.slice Ao29 t253.length co29)) (fun _ hk => hk.2) (.slice Ao33 t256.length co33)) (fun _ h_ => h_.1))) (Kd.R_base ho0) hb); have n5_ := Aside0.mk (Kd.R_elder' (by (with_reducible repeat (first | apply rA|apply rN|apply rW)); exact (Kd.R_mono (Kd.R_far (p := ⟨gb259, 1, none⟩) (Kd.R_far (p := ⟨gb259, 0, none⟩) (Kd.R_types HO258.out BK259.out (by decide)) (fun _ hk => hk.2) (.slice Ao29 t253.length co29)) (fun _ hk => hk.2) (.slice Ao33 t256.length co33)) (fun _ h_ => h_.1))) (Kd.R_base ho1) hb); have n6_ := Aside0.mk (Kd.R_lower (Kd.R_new' (Kd.R_new' (Kd.R_new' ho0 (Kd.R_lt (by (with_reducible repeat (first | apply rA|apply rN|apply rW)); exact (Kd.R_mono (Kd.R_far (p := ⟨gb259, 1, none⟩) (Kd.R_far (p := ⟨gb259, 0, none⟩) (Kd.R_types HO241.out BK259.out (by decide)) (fun _ hk => hk.2) (.slice Ao29 t253.length co29)) (fun _ hk => hk.2) (.slice Ao33 t256.length co33)) (fun _ h_ => h_.1))))) (Kd.R_lt (by (with_reducible repeat (first | apply rA|apply rN|apply rW)); exact (Kd.R_mono (Kd.R_far (p := ⟨gb259, 1, none⟩) (Kd.R_far (p := ⟨gb259, 0, none⟩) (Kd.R_types HO247.out BK259.out (by decide)) (fun _ hk => hk.2) (.slice Ao29 t253.length co29)) (fun _ hk => hk.2) (.slice Ao33 t256.length co33)) (fun _ h_ => h_.1))))) (Kd.R_lt (by (with_reducible repeat (first | apply rA|apply rN|apply rW)); exact (Kd.R_mono (Kd.R_far (p := ⟨gb259, 1, none⟩) (Kd.R_far (p := ⟨gb259, 0, none⟩) (Kd.R_types HO255.out BK259.out (by decide)) (fun _ hk => hk.2) (.slice Ao29 t253.length co29)) (fun _ hk => hk.2) (.slice Ao33 t256.length co33)) (fun _ h_ => h_.1))))) (below_size (by repeat (first | (with_reducible first | exact HB.out|apply wA|apply wN|apply wD |refine wS ?_ GE237.out |refine wS ?_ GE252.out |refine wS ?_ GE259.out) | exact HB.out)))); have n7_ := Aside0.mk (Kd.R_lower (Kd.R_new' (Kd.R_new' (Kd.R_new' ho1 (Kd.R_lt (by (with_reducible repeat (first | apply rA|apply rN|apply rW)); exact (Kd.R_mono (Kd.R_far (p := ⟨gb259, 1, none⟩) (Kd.R_far (p := ⟨gb259, 0, none⟩) (Kd.R_types HO244.out BK259.out (by decide)) (fun _ hk => hk.2) (.slice Ao29 t253.length co29)) (fun _ hk => hk.2) (.slice Ao33 t256.length co33)) (fun _ h_ => h_.1))))) (Kd.R_lt (by (with_reducible repeat (first | apply rA|apply rN|apply rW)); exact (Kd.R_mono (Kd.R_far (p := ⟨gb259, 1, none⟩) (Kd.R_far (p := ⟨gb259, 0, none⟩) (Kd.R_types HO250.out BK259.out (by decide)) (fun _ hk => hk.2) (.slice Ao29 t253.length co29)) (fun _ hk => hk.2) (.slice Ao33 t256.length co33)) (fun _ h_ => h_.1))))) (Kd.R_lt (by (with_reducible repeat (first | apply rA|apply rN|apply rW)); exact (Kd.R_mono (Kd.R_far (p := ⟨gb259, 1, none⟩) (Kd.R_far (p := ⟨gb259, 0, none⟩) (Kd.R_types HO258.out BK259.out (by decide)) (fun _ hk => hk.2) (.slice Ao29 t253.length co29)) (fun _ hk => hk.2) (.slice Ao33 t256.length co33)) (fun _ h_ => h_.1))))) (below_size (by repeat (first | (with_reducible first | exact HB.out|apply wA|apply wN|apply wD |refine wS ?_ GE237.out |refine wS ?_ GE252.out |refine wS ?_ GE259.out) | exact HB.out)))); have n8_ := Aside0.mk (blk_below (g := gb237) (o := .cells #[.slice A0_0 l0_0.length c0_0, .slice A0_1 l0_1.length c0_1] 25 (0, 0)) (by (with_reducible repeat (first | refine bN ?_ _|refine bW ?_|refine bA ?_ _)); refine blk_far ?_ NB237_259.out _; (with_reducible repeat (first | refine bN ?_ _|refine bW ?_|refine bA ?_ _)); refine blk_far ?_ NB237_259.out _; (with_reducible repeat (first | refine bN ?_ _|refine bW ?_|refine bA ?_ _)); exact BK237.out) hb); have n9_ := Aside0.mk (blk_below (g := gb252) (o := .cells #[.slice Ao22 t245.length co22, .slice Ao25 t248.length co25] 29 (0, 0)) (by (with_reducible repeat (first | refine bN ?_ _|refine bW ?_|refine bA ?_ _)); refine blk_far ?_ NB252_259.out _; (with_reducible repeat (first | refine bN ?_ _|refine bW ?_|refine bA ?_ _)); refine blk_far ?_ NB252_259.out _; (with_reducible repeat (first | refine bN ?_ _|refine bW ?_|refine bA ?_ _)); exact BK252.out) hb); have n10_ := Aside0.mk (blk_below (g := gb259) (o := .cells #[.slice Ao29 t253.length co29, .slice Ao33 t256.length co33] 29 (0, 0)) (by (with_reducible repeat (first | refine bN ?_ _|refine bW ?_|refine bA ?_ _)); refine blk_put (cs := #[.slice Ao29 t253.length co29, .slice none 0 0]) ?_ 1 _ rfl; (with_reducible repeat (first | refine bN ?_ _|refine bW ?_|refine bA ?_ _)); refine blk_put (cs := #[.slice none 0 0, .slice none 0 0]) ?_ 0 _ rfl; (with_reducible repeat (first | refine bN ?_ _|refine bW ?_|refine bA ?_ _)); exact BK259.out) hb); have n11_ := Aside0.mk (below_step (by repeat (first | (with_reducible first | exact HB.out|apply wA|apply wN|apply wD |refine wS ?_ GE237.out |refine wS ?_ GE252.out |refine wS ?_ GE259.out) | exact HB.out)) hb); clear HO241; clear HO244; clear HO247; clear HO250; clear HO255; clear HO258; clear BK237; clear BK252; clear BK259; clear HB; have HO241 := n0_; have HO244 := n1_; have HO247 := n2_; have HO250 := n3_; have HO255 := n4_; have HO258 := n5_; have HO262 := n6_; have HO265 := n7_; have BK237 := n8_; have BK252 := n9_; have BK259 := n10_; have HB := n11_; clear n0_ n1_ n2_ n3_ n4_ n5_ n6_ n7_ n8_ n9_ n10_ n11_; (try clear hb); (try clear hb2); (try clear hk); (try clear hi); (try clear ho0); (try clear ho1)) | ((with_reducible refine gate_dst (N := 9) rfl ?_); refine box_event ?hg (N := 9) ?hd (cs := #[.slice none 0 0, .slice none 0 0]) (t := 29) ?hr ?_; (case hd => rfl); (case hg => rfl); (case hr => first | (go_simp; done) | (go_simp; rfl)); intro gb267 hg w35 hbox hb; have n0_ := Aside0.mk (Kd.R_below (by (with_reducible repeat (first | apply rA|apply rN|apply rW)); exact HO241.out) hb); have n1_ := Aside0.mk (Kd.R_below (by (with_reducible repeat (first | apply rA|apply rN|apply rW)); exact HO244.out) hb); have n2_ := Aside0.mk (Kd.R_below (by (with_reducible repeat (first | apply rA|apply rN|apply rW)); exact HO247.out) hb); have n3_ := Aside0.mk (Kd.R_below (by (with_reducible repeat (first | apply rA|apply rN|apply rW)); exact HO250.out) hb); have n4_ := Aside0.mk (Kd.R_below (by (with_reducible repeat (first | apply rA|apply rN|apply rW)); exact HO255.out) hb); have n5_ := Aside0.mk (Kd.R_below (by (with_reducible repeat (first | apply rA|apply rN|apply rW)); exact HO258.out) hb); have n6_ := Aside0.mk (Kd.R_below (by (with_reducible repeat (first | apply rA|apply rN|apply rW)); exact HO262.out) hb); have n7_ := Aside0.mk (Kd.R_below (by (with_reducible repeat (first | apply rA|apply rN|apply rW)); exact HO265.out) hb); have n8_ := Aside0.mk (blk_below (g := gb237) (o := .cells #[.slice A0_0 l0_0.length c0_0, .slice A0_1 l0_1.length c0_1] 25 (0, 0)) (by (with_reducible repeat (first | refine bN ?_ _|refine bW ?_|refine bA ?_ _)); exact BK237.out) hb); have n9_ := Aside0.mk (blk_below (g := gb252) (o := .cells #[.slice Ao22 t245.length co22, .slice Ao25 t248.length co25] 29 (0, 0)) (by (with_reducible repeat (first | refine bN ?_ _|refine bW ?_|refine bA ?_ _)); exact BK252.out) hb); have n10_ := Aside0.mk (blk_below (g := gb259) (o := .cells #[.slice Ao29 t253.length co29, .slice Ao33 t256.length co33] 29 (0, 0)) (by (with_reducible repeat (first | refine bN ?_ _|refine bW ?_|refine bA ?_ _)); exact BK259.out) hb); have n11_ := Aside0.mk (below_step (by repeat (first | (with_reducible first | exact HB.out|apply wA|apply wN|apply wD |refine wS ?_ GE237.out |refine wS ?_ GE252.out |refine wS ?_ GE259.out) | exact HB.out)) hb); have n12_ := Aside0.mk (hbox); have n13_ := Aside0.mk ((by rw [hg]; exact (below_size (by repeat (first | (with_reducible first | exact HB.out|apply wA|apply wN|apply wD |refine wS ?_ GE237.out |refine wS ?_ GE252.out |refine wS ?_ GE259.out) | exact HB.out))) : w.heap.size ≤ gb267)); have n14_ := Aside0.mk ((by rw [hg]; exact (below_size (by repeat (first | (with_reducible first | exact HB.out|apply wA|apply wN|apply wD |refine wS ?_ GE237.out |refine wS ?_ GE252.out |refine wS ?_ GE259.out) | exact HB.out))) : w.heap.size ≤ gb267)); have n15_ := Aside0.mk ((by rw [hg]; exact Nat.ne_of_lt (blk_lt (g := gb237) (o := .cells #[.slice A0_0 l0_0.length c0_0, .slice A0_1 l0_1.length c0_1] 25 (0, 0)) (by (with_reducible repeat (first | refine bN ?_ _|refine bW ?_|refine bA ?_ _)); exact BK237.out)) : gb237 ≠ gb267)); have n16_ := Aside0.mk ((by rw [hg]; exact Nat.ne_of_gt (blk_lt (g := gb237) (o := .cells #[.slice A0_0 l0_0.length c0_0, .slice A0_1 l0_1.length c0_1] 25 (0, 0)) (by (with_reducible repeat (first | refine bN ?_ _|refine bW ?_|refine bA ?_ _)); exact BK237.out)) : gb267 ≠ gb237)); have n17_ := Aside0.mk ((by rw [hg]; exact Nat.ne_of_lt (blk_lt (g := gb252) (o := .cells #[.slice Ao22 t245.length co22, .slice Ao25 t248.length co25] 29 (0, 0)) (by (with_reducible repeat (first | refine bN ?_ _|refine bW ?_|refine bA ?_ _)); exact BK252.out)) : gb252 ≠ gb267)); have n18_ := Aside0.mk ((by rw [hg]; exact Nat.ne_of_gt (blk_lt (g := gb252) (o := .cells #[.slice Ao22 t245.length co22, .slice Ao25 t248.length co25] 29 (0, 0)) (by (with_reducible repeat (first | refine bN ?_ _|refine bW ?_|refine bA ?_ _)); exact BK252.out)) : gb267 ≠ gb252)); have n19_ := Aside0.mk ((by rw [hg]; exact Nat.ne_of_lt (blk_lt (g := gb259) (o := .cells #[.slice Ao29 t253.length co29, .slice Ao33 t256.length co33] 29 (0, 0)) (by (with_reducible repeat (first | refine bN ?_ _|refine bW ?_|refine bA ?_ _)); exact BK259.out)) : gb259 ≠ gb267)); have n20_ := Aside0.mk ((by rw [hg]; exact Nat.ne_of_gt (blk_lt (g := gb259) (o := .cells #[.slice Ao29 t253.length co29, .slice Ao33 t256.length co33] 29 (0, 0)) (by (with_reducible repeat (first | refine bN ?_ _|refine bW ?_|refine bA ?_ _)); exact BK259.out)) : gb267 ≠ gb259)); clear HO241; clear HO244; clear HO247; clear HO250; clear HO255; clear HO258; clear HO262; clear HO265; clear BK237; clear BK252; clear BK259; clear HB; have HO241 := n0_; have HO244 := n1_; have HO247 := n2_; have HO250 := n3_; have HO255 := n4_; have HO258 := n5_; have HO262 := n6_; have HO265 := n7_; have BK237 := n8_; have BK252 := n9_; have BK259 := n10_; have HB := n11_; have BK267 := n12_; have GW267 := n13_; have GE267 := n14_; have NB237_267 := n15_; have NB267_237 := n16_; have NB252_267 := n17_; have NB267_252 := n18_; have NB259_267 := n19_; have NB267_259 := n20_; clear n0_ n1_ n2_ n3_ n4_ n5_ n6_ n7_ n8_ n9_ n10_ n11_ n12_ n13_ n14_ n15_ n16_ n17_ n18_ n19_ n20_; clear hb hbox hg; obtain ⟨Ao36, co36, eo36⟩ := Kd.R_slice HO262.out; subst eo36; have hnb37 := NB267_237.out; have hnc37 := NB237_267.out; have hnb38 := NB267_252.out; have hnc38 := NB252_267.out; have hnb39 := NB267_259.out; have hnc39 := NB259_267.out; have hcz40_0 : w35.cell? ⟨gb267, 0, none⟩ = some (.slice none 0 0) := (blk_cell BK267.out 0).trans rfl; have hcz40_1 : w35.cell? ⟨gb267, 1, none⟩ = some (.slice none 0 0) := (blk_cell BK267.out 1).trans rfl; have hfz40_0 := blk_frozen BK267.out 0; have hfz40_1 := blk_frozen BK267.out 1; obtain ⟨Ao41, co41, eo41⟩ := Kd.R_slice HO265.out; subst eo41))
     (try simp only [Act.put, List.setIfInBounds_toArray, List.set_cons_zero, List.set_cons_succ])
     go_cut [47] (fun v47 wc => ∃ (kq : Nat) (x47_14 : Bool), v47 = .bool x47_14 ∧ Aside0 (laws_FnExactDropPipe.j2 kq a1 t251 t266 x47_14 l0_0 l0_1 t245 t248 t253 t256 t260 t263 = some r) ∧ Aside0 (kq ≤ kj6) ∧ Aside0 (Kd.R (Kd.int .i64) 2 wc w.heap.size (fun k_ => some k_ ≠ ((.slice Ao29 t253.length co29) : Value).ownBlock ∧ some k_ ≠ ((.slice Ao36 t260.length co36) : Value).ownBlock) (.slice Ao22 t245.length co22) t245) ∧ Aside0 (Kd.R k42 42 wc w.heap.size (fun k_ => some k_ ≠ ((.slice Ao33 t256.length co33) : Value).ownBlock ∧ some k_ ≠ ((.slice Ao41 t263.length co41) : Value).ownBlock) (.slice Ao25 t248.length co25) t248) ∧ Aside0 (Kd.R (Kd.int .i64) 2 wc w.heap.size (fun k_ => some k_ ≠ ((.slice Ao22 t245.length co22) : Value).ownBlock ∧ some k_ ≠ ((.slice Ao36 t260.length co36) : Value).ownBlock) (.slice Ao29 t253.length co29) t253) ∧ Aside0 (Kd.R k42 42 wc w.heap.size (fun k_ => some k_ ≠ ((.slice Ao25 t248.length co25) : Value).ownBlock ∧ some k_ ≠ ((.slice Ao41 t263.length co41) : Value).ownBlock) (.slice Ao33 t256.length co33) t256) ∧ Aside0 (Kd.R (Kd.int .i64) 2 wc w.heap.size (fun k_ => some k_ ≠ ((.slice Ao22 t245.length co22) : Value).ownBlock ∧ some k_ ≠ ((.slice Ao29 t253.length co29) : Value).ownBlock) (.slice Ao36 t260.length co36) t260) ∧ Aside0 (Kd.R k42 42 wc w.heap.size (fun k_ => some k_ ≠ ((.slice Ao25 t248.length co25) : Value).ownBlock ∧ some k_ ≠ ((.slice Ao33 t256.length co33) : Value).ownBlock) (.slice Ao41 t263.length co41) t263) ∧ Aside0 (wc.heap[gb237]? = some (.cells #[(.slice A0_0 l0_0.length c0_0), (.slice A0_1 l0_1.length c0_1)] 25 (0, 0))) ∧ Aside0 (wc.heap[gb252]? = some (.cells #[(.slice Ao22 t245.length co22), (.slice Ao25 t248.length co25)] 29 (0, 0))) ∧ Aside0 (wc.heap[gb259]? = some (.cells #[(.slice Ao29 t253.length co29), (.slice Ao33 t256.length co33)] 29 (0, 0))) ∧ Aside0 (wc.heap[gb267]? = some (.cells #[(.slice Ao36 t260.length co36), (.slice Ao41 t263.length co41)] 29 (0, 0))) ∧ Aside0 (Below w.heap.size w wc))
     case first =>
      have H := HC15.out
      clear HC15
      replace H := Option.bind_eq_some_iff.mp H
      obtain ⟨t268, A420, H⟩ := H
      replace H : (if t268 = true then (laws_FnExactDropPipe.j2 kj6 a1 t251 t266 (t266 != t251) l0_0 l0_1 t245 t248 t253 t256 t260 t263) else (laws_FnExactDropPipe.j2 kj6 a1 t251 t266 true l0_0 l0_1 t245 t248 t253 t256 t260 t263)) = some r := H
      have A42 := Aside0.mk A420
      clear A420
      by_cases c43 : t268 = true
      ·subst c43
       have H1 : (laws_FnExactDropPipe.j2 kj6 a1 t251 t266 (t266 != t251) l0_0 l0_1 t245 t248 t253 t256 t260 t263) = some r := by rw [if_pos rfl] at H; exact H
       clear H
       have H := H1
       clear H1
       have H' := Aside0.mk H
       clear H
       have hnb44 := NB267_237.out
       have hnc44 := NB237_267.out
       have hnb45 := NB267_252.out
       have hnc45 := NB252_267.out
       have hnb46 := NB267_259.out
       have hnc46 := NB259_267.out
       have hcz47_0 : w35.cell? ⟨gb267, 0, none⟩ = some (.slice none 0 0) := (blk_cell BK267.out 0).trans rfl
       have hcz47_1 : w35.cell? ⟨gb267, 1, none⟩ = some (.slice none 0 0) := (blk_cell BK267.out 1).trans rfl
       have hfz47_0 := blk_frozen BK267.out 0
       have hfz47_1 := blk_frozen BK267.out 1
       have hnb48 := NB252_237.out
       have hnc48 := NB237_252.out
       have hnb49 := NB252_259.out
       have hnc49 := NB259_252.out
       have hcz50_0 : w35.cell? ⟨gb252, 0, none⟩ = some (.slice Ao22 t245.length co22) := (blk_cell BK252.out 0).trans rfl
       have hcz50_1 : w35.cell? ⟨gb252, 1, none⟩ = some (.slice Ao25 t248.length co25) := (blk_cell BK252.out 1).trans rfl
       have hfz50_0 := blk_frozen BK252.out 0
       have hfz50_1 := blk_frozen BK252.out 1
       go_wp2_with (first | ((with_reducible refine gate_callee (f := 8) rfl ?_); refine goesL_ (some 41) rfl rfl Try.func8 (by kernel_rfl) rfl #[.agg #[.slice Ao36 t260.length co36, .slice Ao41 t263.length co41], .agg #[.slice Ao22 t245.length co22, .slice Ao25 t248.length co25]] rfl (by (try simp only [List.map_toArray, List.map_cons, List.map_nil]); first | done | rfl | (simp only [List.length_drop, List.length_take]; rfl)) ?_; (with_reducible refine (laws_eqNetwork.calls _ _ t260 _ _ t263 _ _ t245 _ _ t248 true _ ?side1 ?side2 ?side3 ?side4 ?side5 ?side6 ?side7 ?side8 A42.out).mono ?_); (case side1 => refine (Kd.R_reads' (e := 2) (base := w.heap.size) (ok := fun k_ => (((True ∧ some k_ ≠ (.slice Ao18 t239.length co18 : Value).ownBlock) ∧ some k_ ≠ (.slice Ao22 t245.length co22 : Value).ownBlock) ∧ some k_ ≠ (.slice Ao29 t253.length co29 : Value).ownBlock)) (n := t260.length) (c := co36) ?_).2.2; exact (by (with_reducible repeat (first | apply rA|apply rN|apply rW)); exact (Kd.R_mono (Kd.R_far (p := ⟨gb267, 1, none⟩) (Kd.R_far (p := ⟨gb267, 0, none⟩) (Kd.R_types HO262.out BK267.out (by decide)) (fun _ hk => hk.2) (.slice Ao36 t260.length co36)) (fun _ hk => hk.2) (.slice Ao41 t263.length co41)) (fun _ h_ => h_.1)))); (case side2 => exact (Kd.R_reads' HO262.out).2.1); (case side3 => refine (Kd.R_reads' (e := 42) (base := w.heap.size) (ok := fun k_ => (((True ∧ some k_ ≠ (.slice Ao19 t242.length co19 : Value).ownBlock) ∧ some k_ ≠ (.slice Ao25 t248.length co25 : Value).ownBlock) ∧ some k_ ≠ (.slice Ao33 t256.length co33 : Value).ownBlock)) (n := t263.length) (c := co41) ?_).2.2; exact (by (with_reducible repeat (first | apply rA|apply rN|apply rW)); exact (Kd.R_mono (Kd.R_far (p := ⟨gb267, 1, none⟩) (Kd.R_far (p := ⟨gb267, 0, none⟩) (Kd.R_types HO265.out BK267.out (by decide)) (fun _ hk => hk.2) (.slice Ao36 t260.length co36)) (fun _ hk => hk.2) (.slice Ao41 t263.length co41)) (fun _ h_ => h_.1)))); (case side4 => exact (Kd.R_reads' HO265.out).2.1); (case side5 => refine (Kd.R_reads' (e := 2) (base := w.heap.size) (ok := fun k_ => (((True ∧ some k_ ≠ (.slice Ao18 t239.length co18 : Value).ownBlock) ∧ some k_ ≠ (.slice Ao29 t253.length co29 : Value).ownBlock) ∧ some k_ ≠ (.slice Ao36 t260.length co36 : Value).ownBlock)) (n := t245.length) (c := co22) ?_).2.2; exact (by (with_reducible repeat (first | apply rA|apply rN|apply rW)); exact (Kd.R_mono (Kd.R_far (p := ⟨gb267, 1, none⟩) (Kd.R_far (p := ⟨gb267, 0, none⟩) (Kd.R_types HO247.out BK267.out (by decide)) (fun _ hk => hk.2) (.slice Ao36 t260.length co36)) (fun _ hk => hk.2) (.slice Ao41 t263.length co41)) (fun _ h_ => h_.1)))); (case side6 => exact (Kd.R_reads' HO247.out).2.1); (case side7 => refine (Kd.R_reads' (e := 42) (base := w.heap.size) (ok := fun k_ => (((True ∧ some k_ ≠ (.slice Ao19 t242.length co19 : Value).ownBlock) ∧ some k_ ≠ (.slice Ao33 t256.length co33 : Value).ownBlock) ∧ some k_ ≠ (.slice Ao41 t263.length co41 : Value).ownBlock)) (n := t248.length) (c := co25) ?_).2.2; exact (by (with_reducible repeat (first | apply rA|apply rN|apply rW)); exact (Kd.R_mono (Kd.R_far (p := ⟨gb267, 1, none⟩) (Kd.R_far (p := ⟨gb267, 0, none⟩) (Kd.R_types HO250.out BK267.out (by decide)) (fun _ hk => hk.2) (.slice Ao36 t260.length co36)) (fun _ hk => hk.2) (.slice Ao41 t263.length co41)) (fun _ h_ => h_.1)))); (case side8 => exact (Kd.R_reads' HO250.out).2.1); rintro e w51 ⟨rfl, hb⟩; refine ⟨_, rfl, ?_⟩; have n0_ := Aside0.mk (Kd.R_below (by (with_reducible repeat (first | apply rA|apply rN|apply rW)); exact (Kd.R_mono (Kd.R_far (p := ⟨gb267, 1, none⟩) (Kd.R_far (p := ⟨gb267, 0, none⟩) (Kd.R_types HO241.out BK267.out (by decide)) (fun _ hk => hk.2) (.slice Ao36 t260.length co36)) (fun _ hk => hk.2) (.slice Ao41 t263.length co41)) (fun _ h_ => h_.1))) hb); have n1_ := Aside0.mk (Kd.R_below (by (with_reducible repeat (first | apply rA|apply rN|apply rW)); exact (Kd.R_mono (Kd.R_far (p := ⟨gb267, 1, none⟩) (Kd.R_far (p := ⟨gb267, 0, none⟩) (Kd.R_types HO244.out BK267.out (by decide)) (fun _ hk => hk.2) (.slice Ao36 t260.length co36)) (fun _ hk => hk.2) (.slice Ao41 t263.length co41)) (fun _ h_ => h_.1))) hb); have n2_ := Aside0.mk (Kd.R_below (by (with_reducible repeat (first | apply rA|apply rN|apply rW)); exact (Kd.R_mono (Kd.R_far (p := ⟨gb267, 1, none⟩) (Kd.R_far (p := ⟨gb267, 0, none⟩) (Kd.R_types HO247.out BK267.out (by decide)) (fun _ hk => hk.2) (.slice Ao36 t260.length co36)) (fun _ hk => hk.2) (.slice Ao41 t263.length co41)) (fun _ h_ => h_.1))) hb); have n3_ := Aside0.mk (Kd.R_below (by (with_reducible repeat (first | apply rA|apply rN|apply rW)); exact (Kd.R_mono (Kd.R_far (p := ⟨gb267, 1, none⟩) (Kd.R_far (p := ⟨gb267, 0, none⟩) (Kd.R_types HO250.out BK267.out (by decide)) (fun _ hk => hk.2) (.slice Ao36 t260.length co36)) (fun _ hk => hk.2) (.slice Ao41 t263.length co41)) (fun _ h_ => h_.1))) hb); have n4_ := Aside0.mk (Kd.R_below (by (with_reducible repeat (first | apply rA|apply rN|apply rW)); exact (Kd.R_mono (Kd.R_far (p := ⟨gb267, 1, none⟩) (Kd.R_far (p := ⟨gb267, 0, none⟩) (Kd.R_types HO255.out BK267.out (by decide)) (fun _ hk => hk.2) (.slice Ao36 t260.length co36)) (fun _ hk => hk.2) (.slice Ao41 t263.length co41)) (fun _ h_ => h_.1))) hb); have n5_ := Aside0.mk (Kd.R_below (by (with_reducible repeat (first | apply rA|apply rN|apply rW)); exact (Kd.R_mono (Kd.R_far (p := ⟨gb267, 1, none⟩) (Kd.R_far (p := ⟨gb267, 0, none⟩) (Kd.R_types HO258.out BK267.out (by decide)) (fun _ hk => hk.2) (.slice Ao36 t260.length co36)) (fun _ hk => hk.2) (.slice Ao41 t263.length co41)) (fun _ h_ => h_.1))) hb); have n6_ := Aside0.mk (Kd.R_below (by (with_reducible repeat (first | apply rA|apply rN|apply rW)); exact (Kd.R_mono (Kd.R_far (p := ⟨gb267, 1, none⟩) (Kd.R_far (p := ⟨gb267, 0, none⟩) (Kd.R_types HO262.out BK267.out (by decide)) (fun _ hk => hk.2) (.slice Ao36 t260.length co36)) (fun _ hk => hk.2) (.slice Ao41 t263.length co41)) (fun _ h_ => h_.1))) hb); have n7_ := Aside0.mk (Kd.R_below (by (with_reducible repeat (first | apply rA|apply rN|apply rW)); exact (Kd.R_mono (Kd.R_far (p := ⟨gb267, 1, none⟩) (Kd.R_far (p := ⟨gb267, 0, none⟩) (Kd.R_types HO265.out BK267.out (by decide)) (fun _ hk => hk.2) (.slice Ao36 t260.length co36)) (fun _ hk => hk.2) (.slice Ao41 t263.length co41)) (fun _ h_ => h_.1))) hb); have n8_ := Aside0.mk (blk_below (g := gb237) (o := .cells #[.slice A0_0 l0_0.length c0_0, .slice A0_1 l0_1.length c0_1] 25 (0, 0)) (by (with_reducible repeat (first | refine bN ?_ _|refine bW ?_|refine bA ?_ _)); refine blk_far ?_ NB237_267.out _; (with_reducible repeat (first | refine bN ?_ _|refine bW ?_|refine bA ?_ _)); refine blk_far ?_ NB237_267.out _; (with_reducible repeat (first | refine bN ?_ _|refine bW ?_|refine bA ?_ _)); exact BK237.out) hb); have n9_ := Aside0.mk (blk_below (g := gb252) (o := .cells #[.slice Ao22 t245.length co22, .slice Ao25 t248.length co25] 29 (0, 0)) (by (with_reducible repeat (first | refine bN ?_ _|refine bW ?_|refine bA ?_ _)); refine blk_far ?_ NB252_267.out _; (with_reducible repeat (first | refine bN ?_ _|refine bW ?_|refine bA ?_ _)); refine blk_far ?_ NB252_267.out _; (with_reducible repeat (first | refine bN ?_ _|refine bW ?_|refine bA ?_ _)); exact BK252.out) hb); have n10_ := Aside0.mk (blk_below (g := gb259) (o := .cells #[.slice Ao29 t253.length co29, .slice Ao33 t256.length co33] 29 (0, 0)) (by (with_reducible repeat (first | refine bN ?_ _|refine bW ?_|refine bA ?_ _)); refine blk_far ?_ NB259_267.out _; (with_reducible repeat (first | refine bN ?_ _|refine bW ?_|refine bA ?_ _)); refine blk_far ?_ NB259_267.out _; (with_reducible repeat (first | refine bN ?_ _|refine bW ?_|refine bA ?_ _)); exact BK259.out) hb); have n11_ := Aside0.mk (blk_below (g := gb267) (o := .cells #[.slice Ao36 t260.length co36, .slice Ao41 t263.length co41] 29 (0, 0)) (by (with_reducible repeat (first | refine bN ?_ _|refine bW ?_|refine bA ?_ _)); refine blk_put (cs := #[.slice Ao36 t260.length co36, .slice none 0 0]) ?_ 1 _ rfl; (with_reducible repeat (first | refine bN ?_ _|refine bW ?_|refine bA ?_ _)); refine blk_put (cs := #[.slice none 0 0, .slice none 0 0]) ?_ 0 _ rfl; (with_reducible repeat (first | refine bN ?_ _|refine bW ?_|refine bA ?_ _)); exact BK267.out) hb); have n12_ := Aside0.mk (below_step (by repeat (first | (with_reducible first | exact HB.out|apply wA|apply wN|apply wD |refine wS ?_ GE237.out |refine wS ?_ GE252.out |refine wS ?_ GE259.out |refine wS ?_ GE267.out) | exact HB.out)) hb); clear HO241; clear HO244; clear HO247; clear HO250; clear HO255; clear HO258; clear HO262; clear HO265; clear BK237; clear BK252; clear BK259; clear BK267; clear HB; have HO241 := n0_; have HO244 := n1_; have HO247 := n2_; have HO250 := n3_; have HO255 := n4_; have HO258 := n5_; have HO262 := n6_; have HO265 := n7_; have BK237 := n8_; have BK252 := n9_; have BK259 := n10_; have BK267 := n11_; have HB := n12_; clear n0_ n1_ n2_ n3_ n4_ n5_ n6_ n7_ n8_ n9_ n10_ n11_ n12_; (try clear hb); (try clear hb2); (try clear hk); (try clear hi)))
       go_meet
       case rel => exact ⟨_, ((t266 != t251)), (by first | rfl | (simp; done) | (simp [*]; done)), H', ⟨by have := HJ2.out; have := HJ6.out; first | omega | exact Nat.le_refl _⟩, ⟨by (with_reducible repeat (first | apply rA|apply rN|apply rW)); exact Kd.R_mono HO247.out (fun _ hk => ⟨hk.1.2, hk.2⟩)⟩, ⟨by (with_reducible repeat (first | apply rA|apply rN|apply rW)); exact Kd.R_mono HO250.out (fun _ hk => ⟨hk.1.2, hk.2⟩)⟩, ⟨by (with_reducible repeat (first | apply rA|apply rN|apply rW)); exact Kd.R_mono HO255.out (fun _ hk => ⟨hk.1.2, hk.2⟩)⟩, ⟨by (with_reducible repeat (first | apply rA|apply rN|apply rW)); exact Kd.R_mono HO258.out (fun _ hk => ⟨hk.1.2, hk.2⟩)⟩, ⟨by (with_reducible repeat (first | apply rA|apply rN|apply rW)); exact Kd.R_mono HO262.out (fun _ hk => ⟨hk.1.2, hk.2⟩)⟩, ⟨by (with_reducible repeat (first | apply rA|apply rN|apply rW)); exact Kd.R_mono HO265.out (fun _ hk => ⟨hk.1.2, hk.2⟩)⟩, ⟨by (with_reducible repeat (first | refine bN ?_ _|refine bW ?_|refine bA ?_ _)); exact BK237.out⟩, ⟨by (with_reducible repeat (first | refine bN ?_ _|refine bW ?_|refine bA ?_ _)); exact BK252.out⟩, ⟨by (with_reducible repeat (first | refine bN ?_ _|refine bW ?_|refine bA ?_ _)); exact BK259.out⟩, ⟨by (with_reducible repeat (first | refine bN ?_ _|refine bW ?_|refine bA ?_ _)); exact BK267.out⟩, ⟨by repeat (first | (with_reducible first | exact HB.out|apply wA|apply wN|apply wD |refine wS ?_ GE237.out |refine wS ?_ GE252.out |refine wS ?_ GE259.out |refine wS ?_ GE267.out) | exact HB.out)⟩⟩
      ·replace c43 := Bool.eq_false_iff.mpr c43
       subst c43
       have H1 : (laws_FnExactDropPipe.j2 kj6 a1 t251 t266 true l0_0 l0_1 t245 t248 t253 t256 t260 t263) = some r := by rw [if_neg (show ¬ (false = true) by decide)] at H; exact H
       clear H
       have H := H1
       clear H1
       have H' := Aside0.mk H
       clear H
       have hnb52 := NB267_237.out
       have hnc52 := NB237_267.out
       have hnb53 := NB267_252.out
       have hnc53 := NB252_267.out
       have hnb54 := NB267_259.out
       have hnc54 := NB259_267.out
       have hcz55_0 : w35.cell? ⟨gb267, 0, none⟩ = some (.slice none 0 0) := (blk_cell BK267.out 0).trans rfl
       have hcz55_1 : w35.cell? ⟨gb267, 1, none⟩ = some (.slice none 0 0) := (blk_cell BK267.out 1).trans rfl
       have hfz55_0 := blk_frozen BK267.out 0
       have hfz55_1 := blk_frozen BK267.out 1
       have hnb56 := NB252_237.out
       have hnc56 := NB237_252.out
       have hnb57 := NB252_259.out
       have hnc57 := NB259_252.out
       have hcz58_0 : w35.cell? ⟨gb252, 0, none⟩ = some (.slice Ao22 t245.length co22) := (blk_cell BK252.out 0).trans rfl
       have hcz58_1 : w35.cell? ⟨gb252, 1, none⟩ = some (.slice Ao25 t248.length co25) := (blk_cell BK252.out 1).trans rfl
       have hfz58_0 := blk_frozen BK252.out 0
       have hfz58_1 := blk_frozen BK252.out 1
       go_wp2_with (first | ((with_reducible refine gate_callee (f := 8) rfl ?_); refine goesL_ (some 41) rfl rfl Try.func8 (by kernel_rfl) rfl #[.agg #[.slice Ao36 t260.length co36, .slice Ao41 t263.length co41], .agg #[.slice Ao22 t245.length co22, .slice Ao25 t248.length co25]] rfl (by (try simp only [List.map_toArray, List.map_cons, List.map_nil]); first | done | rfl | (simp only [List.length_drop, List.length_take]; rfl)) ?_; (with_reducible refine (laws_eqNetwork.calls _ _ t260 _ _ t263 _ _ t245 _ _ t248 false _ ?side1 ?side2 ?side3 ?side4 ?side5 ?side6 ?side7 ?side8 A42.out).mono ?_); (case side1 => refine (Kd.R_reads' (e := 2) (base := w.heap.size) (ok := fun k_ => (((True ∧ some k_ ≠ (.slice Ao18 t239.length co18 : Value).ownBlock) ∧ some k_ ≠ (.slice Ao22 t245.length co22 : Value).ownBlock) ∧ some k_ ≠ (.slice Ao29 t253.length co29 : Value).ownBlock)) (n := t260.length) (c := co36) ?_).2.2; exact (by (with_reducible repeat (first | apply rA|apply rN|apply rW)); exact (Kd.R_mono (Kd.R_far (p := ⟨gb267, 1, none⟩) (Kd.R_far (p := ⟨gb267, 0, none⟩) (Kd.R_types HO262.out BK267.out (by decide)) (fun _ hk => hk.2) (.slice Ao36 t260.length co36)) (fun _ hk => hk.2) (.slice Ao41 t263.length co41)) (fun _ h_ => h_.1)))); (case side2 => exact (Kd.R_reads' HO262.out).2.1); (case side3 => refine (Kd.R_reads' (e := 42) (base := w.heap.size) (ok := fun k_ => (((True ∧ some k_ ≠ (.slice Ao19 t242.length co19 : Value).ownBlock) ∧ some k_ ≠ (.slice Ao25 t248.length co25 : Value).ownBlock) ∧ some k_ ≠ (.slice Ao33 t256.length co33 : Value).ownBlock)) (n := t263.length) (c := co41) ?_).2.2; exact (by (with_reducible repeat (first | apply rA|apply rN|apply rW)); exact (Kd.R_mono (Kd.R_far (p := ⟨gb267, 1, none⟩) (Kd.R_far (p := ⟨gb267, 0, none⟩) (Kd.R_types HO265.out BK267.out (by decide)) (fun _ hk => hk.2) (.slice Ao36 t260.length co36)) (fun _ hk => hk.2) (.slice Ao41 t263.length co41)) (fun _ h_ => h_.1)))); (case side4 => exact (Kd.R_reads' HO265.out).2.1); (case side5 => refine (Kd.R_reads' (e := 2) (base := w.heap.size) (ok := fun k_ => (((True ∧ some k_ ≠ (.slice Ao18 t239.length co18 : Value).ownBlock) ∧ some k_ ≠ (.slice Ao29 t253.length co29 : Value).ownBlock) ∧ some k_ ≠ (.slice Ao36 t260.length co36 : Value).ownBlock)) (n := t245.length) (c := co22) ?_).2.2; exact (by (with_reducible repeat (first | apply rA|apply rN|apply rW)); exact (Kd.R_mono (Kd.R_far (p := ⟨gb267, 1, none⟩) (Kd.R_far (p := ⟨gb267, 0, none⟩) (Kd.R_types HO247.out BK267.out (by decide)) (fun _ hk => hk.2) (.slice Ao36 t260.length co36)) (fun _ hk => hk.2) (.slice Ao41 t263.length co41)) (fun _ h_ => h_.1)))); (case side6 => exact (Kd.R_reads' HO247.out).2.1); (case side7 => refine (Kd.R_reads' (e := 42) (base := w.heap.size) (ok := fun k_ => (((True ∧ some k_ ≠ (.slice Ao19 t242.length co19 : Value).ownBlock) ∧ some k_ ≠ (.slice Ao33 t256.length co33 : Value).ownBlock) ∧ some k_ ≠ (.slice Ao41 t263.length co41 : Value).ownBlock)) (n := t248.length) (c := co25) ?_).2.2; exact (by (with_reducible repeat (first | apply rA|apply rN|apply rW)); exact (Kd.R_mono (Kd.R_far (p := ⟨gb267, 1, none⟩) (Kd.R_far (p := ⟨gb267, 0, none⟩) (Kd.R_types HO250.out BK267.out (by decide)) (fun _ hk => hk.2) (.slice Ao36 t260.length co36)) (fun _ hk => hk.2) (.slice Ao41 t263.length co41)) (fun _ h_ => h_.1)))); (case side8 => exact (Kd.R_reads' HO250.out).2.1); rintro e w59 ⟨rfl, hb⟩; refine ⟨_, rfl, ?_⟩; have n0_ := Aside0.mk (Kd.R_below (by (with_reducible repeat (first | apply rA|apply rN|apply rW)); exact (Kd.R_mono (Kd.R_far (p := ⟨gb267, 1, none⟩) (Kd.R_far (p := ⟨gb267, 0, none⟩) (Kd.R_types HO241.out BK267.out (by decide)) (fun _ hk => hk.2) (.slice Ao36 t260.length co36)) (fun _ hk => hk.2) (.slice Ao41 t263.length co41)) (fun _ h_ => h_.1))) hb); have n1_ := Aside0.mk (Kd.R_below (by (with_reducible repeat (first | apply rA|apply rN|apply rW)); exact (Kd.R_mono (Kd.R_far (p := ⟨gb267, 1, none⟩) (Kd.R_far (p := ⟨gb267, 0, none⟩) (Kd.R_types HO244.out BK267.out (by decide)) (fun _ hk => hk.2) (.slice Ao36 t260.length co36)) (fun _ hk => hk.2) (.slice Ao41 t263.length co41)) (fun _ h_ => h_.1))) hb); have n2_ := Aside0.mk (Kd.R_below (by (with_reducible repeat (first | apply rA|apply rN|apply rW)); exact (Kd.R_mono (Kd.R_far (p := ⟨gb267, 1, none⟩) (Kd.R_far (p := ⟨gb267, 0, none⟩) (Kd.R_types HO247.out BK267.out (by decide)) (fun _ hk => hk.2) (.slice Ao36 t260.length co36)) (fun _ hk => hk.2) (.slice Ao41 t263.length co41)) (fun _ h_ => h_.1))) hb); have n3_ := Aside0.mk (Kd.R_below (by (with_reducible repeat (first | apply rA|apply rN|apply rW)); exact (Kd.R_mono (Kd.R_far (p := ⟨gb267, 1, none⟩) (Kd.R_far (p := ⟨gb267, 0, none⟩) (Kd.R_types HO250.out BK267.out (by decide)) (fun _ hk => hk.2) (.slice Ao36 t260.length co36)) (fun _ hk => hk.2) (.slice Ao41 t263.length co41)) (fun _ h_ => h_.1))) hb); have n4_ := Aside0.mk (Kd.R_below (by (with_reducible repeat (first | apply rA|apply rN|apply rW)); exact (Kd.R_mono (Kd.R_far (p := ⟨gb267, 1, none⟩) (Kd.R_far (p := ⟨gb267, 0, none⟩) (Kd.R_types HO255.out BK267.out (by decide)) (fun _ hk => hk.2) (.slice Ao36 t260.length co36)) (fun _ hk => hk.2) (.slice Ao41 t263.length co41)) (fun _ h_ => h_.1))) hb); have n5_ := Aside0.mk (Kd.R_below (by (with_reducible repeat (first | apply rA|apply rN|apply rW)); exact (Kd.R_mono (Kd.R_far (p := ⟨gb267, 1, none⟩) (Kd.R_far (p := ⟨gb267, 0, none⟩) (Kd.R_types HO258.out BK267.out (by decide)) (fun _ hk => hk.2) (.slice Ao36 t260.length co36)) (fun _ hk => hk.2) (.slice Ao41 t263.length co41)) (fun _ h_ => h_.1))) hb); have n6_ := Aside0.mk (Kd.R_below (by (with_reducible repeat (first | apply rA|apply rN|apply rW)); exact (Kd.R_mono (Kd.R_far (p := ⟨gb267, 1, none⟩) (Kd.R_far (p := ⟨gb267, 0, none⟩) (Kd.R_types HO262.out BK267.out (by decide)) (fun _ hk => hk.2) (.slice Ao36 t260.length co36)) (fun _ hk => hk.2) (.slice Ao41 t263.length co41)) (fun _ h_ => h_.1))) hb); have n7_ := Aside0.mk (Kd.R_below (by (with_reducible repeat (first | apply rA|apply rN|apply rW)); exact (Kd.R_mono (Kd.R_far (p := ⟨gb267, 1, none⟩) (Kd.R_far (p := ⟨gb267, 0, none⟩) (Kd.R_types HO265.out BK267.out (by decide)) (fun _ hk => hk.2) (.slice Ao36 t260.length co36)) (fun _ hk => hk.2) (.slice Ao41 t263.length co41)) (fun _ h_ => h_.1))) hb); have n8_ := Aside0.mk (blk_below (g := gb237) (o := .cells #[.slice A0_0 l0_0.length c0_0, .slice A0_1 l0_1.length c0_1] 25 (0, 0)) (by (with_reducible repeat (first | refine bN ?_ _|refine bW ?_|refine bA ?_ _)); refine blk_far ?_ NB237_267.out _; (with_reducible repeat (first | refine bN ?_ _|refine bW ?_|refine bA ?_ _)); refine blk_far ?_ NB237_267.out _; (with_reducible repeat (first | refine bN ?_ _|refine bW ?_|refine bA ?_ _)); exact BK237.out) hb); have n9_ := Aside0.mk (blk_below (g := gb252) (o := .cells #[.slice Ao22 t245.length co22, .slice Ao25 t248.length co25] 29 (0, 0)) (by (with_reducible repeat (first | refine bN ?_ _|refine bW ?_|refine bA ?_ _)); refine blk_far ?_ NB252_267.out _; (with_reducible repeat (first | refine bN ?_ _|refine bW ?_|refine bA ?_ _)); refine blk_far ?_ NB252_267.out _; (with_reducible repeat (first | refine bN ?_ _|refine bW ?_|refine bA ?_ _)); exact BK252.out) hb); have n10_ := Aside0.mk (blk_below (g := gb259) (o := .cells #[.slice Ao29 t253.length co29, .slice Ao33 t256.length co33] 29 (0, 0)) (by (with_reducible repeat (first | refine bN ?_ _|refine bW ?_|refine bA ?_ _)); refine blk_far ?_ NB259_267.out _; (with_reducible repeat (first | refine bN ?_ _|refine bW ?_|refine bA ?_ _)); refine blk_far ?_ NB259_267.out _; (with_reducible repeat (first | refine bN ?_ _|refine bW ?_|refine bA ?_ _)); exact BK259.out) hb); have n11_ := Aside0.mk (blk_below (g := gb267) (o := .cells #[.slice Ao36 t260.length co36, .slice Ao41 t263.length co41] 29 (0, 0)) (by (with_reducible repeat (first | refine bN ?_ _|refine bW ?_|refine bA ?_ _)); refine blk_put (cs := #[.slice Ao36 t260.length co36, .slice none 0 0]) ?_ 1 _ rfl; (with_reducible repeat (first | refine bN ?_ _|refine bW ?_|refine bA ?_ _)); refine blk_put (cs := #[.slice none 0 0, .slice none 0 0]) ?_ 0 _ rfl; (with_reducible repeat (first | refine bN ?_ _|refine bW ?_|refine bA ?_ _)); exact BK267.out) hb); have n12_ := Aside0.mk (below_step (by repeat (first | (with_reducible first | exact HB.out|apply wA|apply wN|apply wD |refine wS ?_ GE237.out |refine wS ?_ GE252.out |refine wS ?_ GE259.out |refine wS ?_ GE267.out) | exact HB.out)) hb); clear HO241; clear HO244; clear HO247; clear HO250; clear HO255; clear HO258; clear HO262; clear HO265; clear BK237; clear BK252; clear BK259; clear BK267; clear HB; have HO241 := n0_; have HO244 := n1_; have HO247 := n2_; have HO250 := n3_; have HO255 := n4_; have HO258 := n5_; have HO262 := n6_; have HO265 := n7_; have BK237 := n8_; have BK252 := n9_; have BK259 := n10_; have BK267 := n11_; have HB := n12_; clear n0_ n1_ n2_ n3_ n4_ n5_ n6_ n7_ n8_ n9_ n10_ n11_ n12_; (try clear hb); (try clear hb2); (try clear hk); (try clear hi)))
       go_meet
       case rel => exact ⟨_, (true), (by first | rfl | (simp; done) | (simp [*]; done)), H', ⟨by have := HJ2.out; have := HJ6.out; first | omega | exact Nat.le_refl _⟩, ⟨by (with_reducible repeat (first | apply rA|apply rN|apply rW)); exact Kd.R_mono HO247.out (fun _ hk => ⟨hk.1.2, hk.2⟩)⟩, ⟨by (with_reducible repeat (first | apply rA|apply rN|apply rW)); exact Kd.R_mono HO250.out (fun _ hk => ⟨hk.1.2, hk.2⟩)⟩, ⟨by (with_reducible repeat (first | apply rA|apply rN|apply rW)); exact Kd.R_mono HO255.out (fun _ hk => ⟨hk.1.2, hk.2⟩)⟩, ⟨by (with_reducible repeat (first | apply rA|apply rN|apply rW)); exact Kd.R_mono HO258.out (fun _ hk => ⟨hk.1.2, hk.2⟩)⟩, ⟨by (with_reducible repeat (first | apply rA|apply rN|apply rW)); exact Kd.R_mono HO262.out (fun _ hk => ⟨hk.1.2, hk.2⟩)⟩, ⟨by (with_reducible repeat (first | apply rA|apply rN|apply rW)); exact Kd.R_mono HO265.out (fun _ hk => ⟨hk.1.2, hk.2⟩)⟩, ⟨by (with_reducible repeat (first | refine bN ?_ _|refine bW ?_|refine bA ?_ _)); exact BK237.out⟩, ⟨by (with_reducible repeat (first | refine bN ?_ _|refine bW ?_|refine bA ?_ _)); exact BK252.out⟩, ⟨by (with_reducible repeat (first | refine bN ?_ _|refine bW ?_|refine bA ?_ _)); exact BK259.out⟩, ⟨by (with_reducible repeat (first | refine bN ?_ _|refine bW ?_|refine bA ?_ _)); exact BK267.out⟩, ⟨by repeat (first | (with_reducible first | exact HB.out|apply wA|apply wN|apply wD |refine wS ?_ GE237.out |refine wS ?_ GE252.out |refine wS ?_ GE259.out |refine wS ?_ GE267.out) | exact HB.out)⟩⟩
     case rest =>
      clear HC15
      try clear c1
      try clear c2
      try clear p2
      try clear c3
      try clear c4
      try clear c5
      try clear c5b0
      try clear c5b1
      try clear c5b2
      try clear c6
      try clear c7
      try clear c8
      try clear c10
      try clear c10b0
      try clear c10b2
      try clear c23
      try clear c30
      try clear c31
      try clear c37
      try clear c38
      try clear c39
      try clear c43
      try clear c44
      try clear c45
      try clear c46
      try clear c48
      try clear c49
      try clear c52
      try clear c53
      try clear c54
      try clear c56
      try clear c57
      try clear hcz16_0
      try clear hcz16_1
      try clear hcz24_0
      try clear hcz24_1
      try clear hcz26_0
      try clear hcz26_1
      try clear hcz32_0
      try clear hcz32_1
      try clear hcz40_0
      try clear hcz40_1
      try clear hcz47_0
      try clear hcz47_1
      try clear hcz50_0
      try clear hcz50_1
      try clear hcz55_0
      try clear hcz55_1
      try clear hcz58_0
      try clear hcz58_1
      try clear hcz8_0
      try clear hcz8_1
      try clear hfz16_0
      try clear hfz16_1
      try clear hfz24_0
      try clear hfz24_1
      try clear hfz26_0
      try clear hfz26_1
      try clear hfz32_0
      try clear hfz32_1
      try clear hfz40_0
      try clear hfz40_1
      try clear hfz47_0
      try clear hfz47_1
      try clear hfz50_0
      try clear hfz50_1
      try clear hfz55_0
      try clear hfz55_1
      try clear hfz58_0
      try clear hfz58_1
      try clear hfz8_0
      try clear hfz8_1
      try clear p2
      obtain ⟨kq, x47_14, rfl, HA, HJ14, HO_253000, HO_253001, HO_260000, HO_260001, HO_268000, HO_268001, BK237, BK252, BK259, BK267, HB⟩ := hcut
      cases kq with
      | zero => exact absurd HA.out (by simp [laws_FnExactDropPipe.j2])
      | succ kj14 =>
       have H := HA.out
       clear HA
       simp only [laws_FnExactDropPipe.j2] at H
       have HC60 := Aside0.mk H
       clear H
       go_upto_if 47 with (fail)
       go_cut [] (fun wc => ∃ (kq : Nat), Aside0 (laws_FnExactDropPipe.j3 kq a1 t251 t266 l0_0 l0_1 t245 t248 t253 t256 t260 t263 = some r) ∧ Aside0 (kq ≤ kj14) ∧ Aside0 (Kd.R (Kd.int .i64) 2 wc w.heap.size (fun k_ => some k_ ≠ ((.slice Ao29 t253.length co29) : Value).ownBlock ∧ some k_ ≠ ((.slice Ao36 t260.length co36) : Value).ownBlock) (.slice Ao22 t245.length co22) t245) ∧ Aside0 (Kd.R k42 42 wc w.heap.size (fun k_ => some k_ ≠ ((.slice Ao33 t256.length co33) : Value).ownBlock ∧ some k_ ≠ ((.slice Ao41 t263.length co41) : Value).ownBlock) (.slice Ao25 t248.length co25) t248) ∧ Aside0 (Kd.R (Kd.int .i64) 2 wc w.heap.size (fun k_ => some k_ ≠ ((.slice Ao22 t245.length co22) : Value).ownBlock ∧ some k_ ≠ ((.slice Ao36 t260.length co36) : Value).ownBlock) (.slice Ao29 t253.length co29) t253) ∧ Aside0 (Kd.R k42 42 wc w.heap.size (fun k_ => some k_ ≠ ((.slice Ao25 t248.length co25) : Value).ownBlock ∧ some k_ ≠ ((.slice Ao41 t263.length co41) : Value).ownBlock) (.slice Ao33 t256.length co33) t256) ∧ Aside0 (Kd.R (Kd.int .i64) 2 wc w.heap.size (fun k_ => some k_ ≠ ((.slice Ao22 t245.length co22) : Value).ownBlock ∧ some k_ ≠ ((.slice Ao29 t253.length co29) : Value).ownBlock) (.slice Ao36 t260.length co36) t260) ∧ Aside0 (Kd.R k42 42 wc w.heap.size (fun k_ => some k_ ≠ ((.slice Ao25 t248.length co25) : Value).ownBlock ∧ some k_ ≠ ((.slice Ao33 t256.length co33) : Value).ownBlock) (.slice Ao41 t263.length co41) t263) ∧ Aside0 (wc.heap[gb237]? = some (.cells #[(.slice A0_0 l0_0.length c0_0), (.slice A0_1 l0_1.length c0_1)] 25 (0, 0))) ∧ Aside0 (wc.heap[gb252]? = some (.cells #[(.slice Ao22 t245.length co22), (.slice Ao25 t248.length co25)] 29 (0, 0))) ∧ Aside0 (wc.heap[gb259]? = some (.cells #[(.slice Ao29 t253.length co29), (.slice Ao33 t256.length co33)] 29 (0, 0))) ∧ Aside0 (wc.heap[gb267]? = some (.cells #[(.slice Ao36 t260.length co36), (.slice Ao41 t263.length co41)] 29 (0, 0))) ∧ Aside0 (Below w.heap.size w wc))
       case first =>
        have H := HC60.out
        clear HC60
        by_cases c61 : x47_14 = true
        ·subst c61
         have H1 : (some false) = some r := by rw [if_pos rfl] at H; exact H
         clear H
         have H := H1
         clear H1
         obtain rfl := Option.some.inj H
         go_wp2
         go_ret
         exact ⟨by first | rfl | (simp [errW_none, errW_some] <;> rfl) | (simp [*, errW_none, errW_some] <;> rfl), by repeat (first | (with_reducible first | exact HB.out|apply wA|apply wN|apply wD |refine wS ?_ GE237.out |refine wS ?_ GE252.out |refine wS ?_ GE259.out |refine wS ?_ GE267.out) | exact HB.out)⟩
        ·replace c61 := Bool.eq_false_iff.mpr c61
         subst c61
         have H1 : (laws_FnExactDropPipe.j3 kj14 a1 t251 t266 l0_0 l0_1 t245 t248 t253 t256 t260 t263) = some r := by rw [if_neg (show ¬ (false = true) by decide)] at H; exact H
         clear H
         have H := H1
         clear H1
         have H' := Aside0.mk H
         clear H
         go_wp2
         go_meet
         case rel => exact ⟨_, H', ⟨by have := HJ2.out; have := HJ6.out; have := HJ14.out; first | omega | exact Nat.le_refl _⟩, ⟨by (with_reducible repeat (first | apply rA|apply rN|apply rW)); exact HO_253000.out⟩, ⟨by (with_reducible repeat (first | apply rA|apply rN|apply rW)); exact HO_253001.out⟩, ⟨by (with_reducible repeat (first | apply rA|apply rN|apply rW)); exact HO_260000.out⟩, ⟨by (with_reducible repeat (first | apply rA|apply rN|apply rW)); exact HO_260001.out⟩, ⟨by (with_reducible repeat (first | apply rA|apply rN|apply rW)); exact HO_268000.out⟩, ⟨by (with_reducible repeat (first | apply rA|apply rN|apply rW)); exact HO_268001.out⟩, ⟨by (with_reducible repeat (first | refine bN ?_ _|refine bW ?_|refine bA ?_ _)); exact BK237.out⟩, ⟨by (with_reducible repeat (first | refine bN ?_ _|refine bW ?_|refine bA ?_ _)); exact BK252.out⟩, ⟨by (with_reducible repeat (first | refine bN ?_ _|refine bW ?_|refine bA ?_ _)); exact BK259.out⟩, ⟨by (with_reducible repeat (first | refine bN ?_ _|refine bW ?_|refine bA ?_ _)); exact BK267.out⟩, ⟨by repeat (first | (with_reducible first | exact HB.out|apply wA|apply wN|apply wD |refine wS ?_ GE237.out |refine wS ?_ GE252.out |refine wS ?_ GE259.out |refine wS ?_ GE267.out) | exact HB.out)⟩⟩
       case rest =>
        clear HC60
        try clear c1
        try clear c2
        try clear p2
        try clear c3
        try clear c4
        try clear c5
        try clear c5b0
        try clear c5b1
        try clear c5b2
        try clear c6
        try clear c7
        try clear c8
        try clear c10
        try clear c10b0
        try clear c10b2
        try clear c23
        try clear c30
        try clear c31
        try clear c37
        try clear c38
        try clear c39
        try clear c43
        try clear c44
        try clear c45
        try clear c46
        try clear c48
        try clear c49
        try clear c52
        try clear c53
        try clear c54
        try clear c56
        try clear c57
        try clear c61
        try clear hcz16_0
        try clear hcz16_1
        try clear hcz24_0
        try clear hcz24_1
        try clear hcz26_0
        try clear hcz26_1
        try clear hcz32_0
        try clear hcz32_1
        try clear hcz40_0
        try clear hcz40_1
        try clear hcz47_0
        try clear hcz47_1
        try clear hcz50_0
        try clear hcz50_1
        try clear hcz55_0
        try clear hcz55_1
        try clear hcz58_0
        try clear hcz58_1
        try clear hcz8_0
        try clear hcz8_1
        try clear hfz16_0
        try clear hfz16_1
        try clear hfz24_0
        try clear hfz24_1
        try clear hfz26_0
        try clear hfz26_1
        try clear hfz32_0
        try clear hfz32_1
        try clear hfz40_0
        try clear hfz40_1
        try clear hfz47_0
        try clear hfz47_1
        try clear hfz50_0
        try clear hfz50_1
        try clear hfz55_0
        try clear hfz55_1
        try clear hfz58_0
        try clear hfz58_1
        try clear hfz8_0
        try clear hfz8_1
        try clear p2
        obtain ⟨kq, HA, HJ59, HO_253000, HO_253001, HO_260000, HO_260001, HO_268000, HO_268001, BK237, BK252, BK259, BK267, HB⟩ := hcut
        cases kq with
        | zero => exact absurd HA.out (by simp [laws_FnExactDropPipe.j3])
        | succ kj59 =>
         have H := HA.out
         clear HA
         simp only [laws_FnExactDropPipe.j3] at H
         replace H := Option.bind_eq_some_iff.mp H
         obtain ⟨⟨t269, t272⟩, A620, H⟩ := H
         replace H : ((laws_eqNetwork.f t253 t256 t269 t272).bind fun t275 => (if t275 = true then (laws_FnExactDropPipe.j4 kj59 a1 t251 t266 l0_0 l0_1 t245 t248 t253 t256 t260 t263) else (some false))) = some r := H
         have A62 := Aside0.mk A620
         clear A620
         replace H := Option.bind_eq_some_iff.mp H
         obtain ⟨t275, A630, H⟩ := H
         replace H : (if t275 = true then (laws_FnExactDropPipe.j4 kj59 a1 t251 t266 l0_0 l0_1 t245 t248 t253 t256 t260 t263) else (some false)) = some r := H
         have A63 := Aside0.mk A630
         clear A630
         have HC64 := Aside0.mk H
         clear H
         try go_wp2
         have n0_ := Aside0.mk (Kd.R_drew HO_253000.out)
         have n1_ := Aside0.mk (Kd.R_drew HO_253001.out)
         have n2_ := Aside0.mk (Kd.R_drew HO_260000.out)
         have n3_ := Aside0.mk (Kd.R_drew HO_260001.out)
         have n4_ := Aside0.mk (Kd.R_drew HO_268000.out)
         have n5_ := Aside0.mk (Kd.R_drew HO_268001.out)
         have n6_ := Aside0.mk (blk_drew BK237.out)
         have n7_ := Aside0.mk (blk_drew BK252.out)
         have n8_ := Aside0.mk (blk_drew BK259.out)
         have n9_ := Aside0.mk (blk_drew BK267.out)
         have n10_ := Aside0.mk (below_drew1 HB.out)
         clear HO_253000
         clear HO_253001
         clear HO_260000
         clear HO_260001
         clear HO_268000
         clear HO_268001
         clear BK237
         clear BK252
         clear BK259
         clear BK267
         clear HB
         have HO_253000 := n0_
         have HO_253001 := n1_
         have HO_260000 := n2_
         have HO_260001 := n3_
         have HO_268000 := n4_
         have HO_268001 := n5_
         have BK237 := n6_
         have BK252 := n7_
         have BK259 := n8_
         have BK267 := n9_
         have HB := n10_
         clear n0_ n1_ n2_ n3_ n4_ n5_ n6_ n7_ n8_ n9_ n10_
         refine start_ (n := 5) (S := fun w' => w'.cell? ⟨gb259, 0, none⟩ = some (.slice Ao29 t253.length co29) ∧ w'.cell? ⟨gb259, 1, none⟩ = some (.slice Ao33 t256.length co33) ∧ w'.cell? ⟨gb237, 0, none⟩ = some (.slice A0_0 l0_0.length c0_0) ∧ w'.cell? ⟨gb237, 1, none⟩ = some (.slice A0_1 l0_1.length c0_1)) (ds := []) #[J,J,J,J,J] (by kernel_rfl) rfl rfl ⟨(blk_cell BK259.out 0).trans rfl, (blk_cell BK259.out 1).trans rfl, (blk_cell BK237.out 0).trans rfl, (blk_cell BK237.out 1).trans rfl⟩ (fun hHeld => ?_)
         generalize wc.drew = w65 at HO_253000 HO_253001 HO_260000 HO_260001 HO_268000 HO_268001 BK237 BK252 BK259 BK267 HB hHeld ⊢
         refine take_ (i := 0) (N := some 48) (v := ?_) (a' := ?_) #[Y,J,J,J,J] rfl rfl (by kernel_rfl) (fun _ _ _ h => h) (Or.inl ⟨by rfl, ?_⟩) hHeld ?_ ?_; rotate_left
         ·rintro w' ⟨s0, s1, s2, s3⟩; go_simp; with_reducible rfl
         rotate_left
         ·simp only [pU,pN,sB,sZ,sS,i64_w,i32_w]; rfl
         refine take_ (i := 1) (N := some 49) (v := ?_) (a' := ?_) #[Y,Y,J,J,J] rfl rfl (by kernel_rfl) (fun _ _ _ h => h) (Or.inl ⟨by rfl, ?_⟩) hHeld ?_ ?_; rotate_left
         ·rintro w' ⟨s0, s1, s2, s3⟩; go_simp; with_reducible rfl
         rotate_left
         ·simp only [pU,pN,sB,sZ,sS,i64_w,i32_w]; rfl
         refine one_ (i := 2) (N := some 50) #[Y,Y,Y,J,J] rfl rfl (by kernel_rfl) (by decide) (fun K hK => ?_)
         refine goes_ Try.func6 (by kernel_rfl) rfl #[.agg #[.slice A0_0 l0_0.length c0_0, .slice A0_1 l0_1.length c0_1]] (by rfl) rfl rfl (by (try simp only [List.map_toArray, List.map_cons, List.map_nil]); first | done | rfl | (simp only [List.length_drop, List.length_take]; rfl)) ?_
         with_reducible refine (laws_toNetwork.calls _ _ l0_0 _ _ l0_1 t269 t272 _ ?side1 ?side2 ?side3 ?side4 A62.out).mono ?_
         (case side1 => repeat (first | exact (Kd.C_below HR0_0.out HB.out) | (with_reducible first|refine Kd.C_alloc ?_ _|refine Kd.C_drewN ?_ _|refine Kd.C_drew ?_)))
         (case side2 => exact HC0_0.out)
         (case side3 => repeat (first | exact (Kd.C_below HR0_1.out HB.out) | (with_reducible first|refine Kd.C_alloc ?_ _|refine Kd.C_drewN ?_ _|refine Kd.C_drew ?_)))
         (case side4 => exact HC0_1.out)
         rintro e w66 ⟨v270, v273, rfl, ho0, ho1, hb⟩
         refine ⟨_, rfl, ?_⟩
         have n0_ := Aside0.mk (Kd.R_elder' (by (with_reducible repeat (first | apply rA|apply rN|apply rW)); exact HO_253000.out) (Kd.R_base ho0) hb)
         have n1_ := Aside0.mk (Kd.R_elder' (by (with_reducible repeat (first | apply rA|apply rN|apply rW)); exact HO_253001.out) (Kd.R_base ho1) hb)
         have n2_ := Aside0.mk (Kd.R_elder' (by (with_reducible repeat (first | apply rA|apply rN|apply rW)); exact HO_260000.out) (Kd.R_base ho0) hb)
         have n3_ := Aside0.mk (Kd.R_elder' (by (with_reducible repeat (first | apply rA|apply rN|apply rW)); exact HO_260001.out) (Kd.R_base ho1) hb)
         have n4_ := Aside0.mk (Kd.R_elder' (by (with_reducible repeat (first | apply rA|apply rN|apply rW)); exact HO_268000.out) (Kd.R_base ho0) hb)
         have n5_ := Aside0.mk (Kd.R_elder' (by (with_reducible repeat (first | apply rA|apply rN|apply rW)); exact HO_268001.out) (Kd.R_base ho1) hb)
         have n6_ := Aside0.mk (Kd.R_lower (Kd.R_new' (Kd.R_new' (Kd.R_new' ho0 (Kd.R_lt (by (with_reducible repeat (first | apply rA|apply rN|apply rW)); exact HO_253000.out))) (Kd.R_lt (by (with_reducible repeat (first | apply rA|apply rN|apply rW)); exact HO_260000.out))) (Kd.R_lt (by (with_reducible repeat (first | apply rA|apply rN|apply rW)); exact HO_268000.out))) (below_size (by repeat (first | (with_reducible first | exact HB.out|apply wA|apply wN|apply wD |refine wS ?_ GE237.out |refine wS ?_ GE252.out |refine wS ?_ GE259.out |refine wS ?_ GE267.out) | exact HB.out))))
         have n7_ := Aside0.mk (Kd.R_lower (Kd.R_new' (Kd.R_new' (Kd.R_new' ho1 (Kd.R_lt (by (with_reducible repeat (first | apply rA|apply rN|apply rW)); exact HO_253001.out))) (Kd.R_lt (by (with_reducible repeat (first | apply rA|apply rN|apply rW)); exact HO_260001.out))) (Kd.R_lt (by (with_reducible repeat (first | apply rA|apply rN|apply rW)); exact HO_268001.out))) (below_size (by repeat (first | (with_reducible first | exact HB.out|apply wA|apply wN|apply wD |refine wS ?_ GE237.out |refine wS ?_ GE252.out |refine wS ?_ GE259.out |refine wS ?_ GE267.out) | exact HB.out))))
         have n8_ := Aside0.mk (blk_below (g := gb237) (o := .cells #[.slice A0_0 l0_0.length c0_0, .slice A0_1 l0_1.length c0_1] 25 (0, 0)) (by (with_reducible repeat (first | refine bN ?_ _|refine bW ?_|refine bA ?_ _)); exact BK237.out) hb)
         have n9_ := Aside0.mk (blk_below (g := gb252) (o := .cells #[.slice Ao22 t245.length co22, .slice Ao25 t248.length co25] 29 (0, 0)) (by (with_reducible repeat (first | refine bN ?_ _|refine bW ?_|refine bA ?_ _)); exact BK252.out) hb)
         have n10_ := Aside0.mk (blk_below (g := gb259) (o := .cells #[.slice Ao29 t253.length co29, .slice Ao33 t256.length co33] 29 (0, 0)) (by (with_reducible repeat (first | refine bN ?_ _|refine bW ?_|refine bA ?_ _)); exact BK259.out) hb)
         have n11_ := Aside0.mk (blk_below (g := gb267) (o := .cells #[.slice Ao36 t260.length co36, .slice Ao41 t263.length co41] 29 (0, 0)) (by (with_reducible repeat (first | refine bN ?_ _|refine bW ?_|refine bA ?_ _)); exact BK267.out) hb)
         have n12_ := Aside0.mk (below_step (by repeat (first | (with_reducible first | exact HB.out|apply wA|apply wN|apply wD |refine wS ?_ GE237.out |refine wS ?_ GE252.out |refine wS ?_ GE259.out |refine wS ?_ GE267.out) | exact HB.out)) hb)
         clear HO_253000
         clear HO_253001
         clear HO_260000
         clear HO_260001
         clear HO_268000
         clear HO_268001
         clear BK237
         clear BK252
         clear BK259
         clear BK267
         clear HB
         have HO_253000 := n0_
         have HO_253001 := n1_
         have HO_260000 := n2_
         have HO_260001 := n3_
         have HO_268000 := n4_
         have HO_268001 := n5_
         have HO271 := n6_
         have HO274 := n7_
         have BK237 := n8_
         have BK252 := n9_
         have BK259 := n10_
         have BK267 := n11_
         have HB := n12_
         clear n0_ n1_ n2_ n3_ n4_ n5_ n6_ n7_ n8_ n9_ n10_ n11_ n12_
         (try clear hb)
         (try clear hb2)
         (try clear hk)
         (try clear hi)
         (try clear ho0)
         (try clear ho1)
         obtain ⟨Ao67, co67, eo67⟩ := Kd.R_slice HO271.out
         (first | subst eo67 | (injection eo67 with f1_ f2_ f3_; have f4_ := f1_.symm; have f5_ := f3_.symm; clear f1_ f2_ f3_; subst f4_; subst f5_))
         obtain ⟨Ao68, co68, eo68⟩ := Kd.R_slice HO274.out
         (first | subst eo68 | (injection eo68 with f1_ f2_ f3_; have f4_ := f1_.symm; have f5_ := f3_.symm; clear f1_ f2_ f3_; subst f4_; subst f5_))
         refine hK.out _ _ ⟨(blk_cell BK259.out 0).trans rfl, (blk_cell BK259.out 1).trans rfl, (blk_cell BK237.out 0).trans rfl, (blk_cell BK237.out 1).trans rfl⟩ (fun hHeld => ?_)
         clear hK K
         refine norm_ (a' := ?_) ?_ ?_
         rotate_left
         ·show Act.put _ (some 50) _ = _
          simp only [pU,pN,sB,sZ,sS,i64_w,i32_w]
          rfl
         refine one_ (i := 3) (N := some 51) #[Y,Y,Y,Y,J] rfl rfl (by kernel_rfl) (by decide) (fun K hK => ?_)
         refine goes_ Try.func8 (by kernel_rfl) rfl #[.agg #[.slice Ao29 t253.length co29, .slice Ao33 t256.length co33], .agg #[.slice Ao67 t269.length co67, .slice Ao68 t272.length co68]] (by rfl) rfl rfl (by (try simp only [List.map_toArray, List.map_cons, List.map_nil]); first | done | rfl | (simp only [List.length_drop, List.length_take]; rfl)) ?_
         with_reducible refine (laws_eqNetwork.calls _ _ t253 _ _ t256 _ _ t269 _ _ t272 t275 _ ?side1 ?side2 ?side3 ?side4 ?side5 ?side6 ?side7 ?side8 A63.out).mono ?_
         (case side1 => repeat (first | exact (Kd.R_reads' HO_260000.out).2.2 | (with_reducible first|refine Kd.C_alloc ?_ _|refine Kd.C_drewN ?_ _|refine Kd.C_drew ?_)))
         (case side2 => exact (Kd.R_reads' HO_260000.out).2.1)
         (case side3 => repeat (first | exact (Kd.R_reads' HO_260001.out).2.2 | (with_reducible first|refine Kd.C_alloc ?_ _|refine Kd.C_drewN ?_ _|refine Kd.C_drew ?_)))
         (case side4 => exact (Kd.R_reads' HO_260001.out).2.1)
         (case side5 => repeat (first | exact (Kd.R_reads' HO271.out).2.2 | (with_reducible first|refine Kd.C_alloc ?_ _|refine Kd.C_drewN ?_ _|refine Kd.C_drew ?_)))
         (case side6 => exact (Kd.R_reads' HO271.out).2.1)
         (case side7 => repeat (first | exact (Kd.R_reads' HO274.out).2.2 | (with_reducible first|refine Kd.C_alloc ?_ _|refine Kd.C_drewN ?_ _|refine Kd.C_drew ?_)))
         (case side8 => exact (Kd.R_reads' HO274.out).2.1)
         rintro e w69 ⟨rfl, hb⟩
         refine ⟨_, rfl, ?_⟩
         have n0_ := Aside0.mk (Kd.R_below (by (with_reducible repeat (first | apply rA|apply rN|apply rW)); exact HO_253000.out) hb)
         have n1_ := Aside0.mk (Kd.R_below (by (with_reducible repeat (first | apply rA|apply rN|apply rW)); exact HO_253001.out) hb)
         have n2_ := Aside0.mk (Kd.R_below (by (with_reducible repeat (first | apply rA|apply rN|apply rW)); exact HO_260000.out) hb)
         have n3_ := Aside0.mk (Kd.R_below (by (with_reducible repeat (first | apply rA|apply rN|apply rW)); exact HO_260001.out) hb)
         have n4_ := Aside0.mk (Kd.R_below (by (with_reducible repeat (first | apply rA|apply rN|apply rW)); exact HO_268000.out) hb)
         have n5_ := Aside0.mk (Kd.R_below (by (with_reducible repeat (first | apply rA|apply rN|apply rW)); exact HO_268001.out) hb)
         have n6_ := Aside0.mk (Kd.R_below (by (with_reducible repeat (first | apply rA|apply rN|apply rW)); exact HO271.out) hb)
         have n7_ := Aside0.mk (Kd.R_below (by (with_reducible repeat (first | apply rA|apply rN|apply rW)); exact HO274.out) hb)
         have n8_ := Aside0.mk (blk_below (g := gb237) (o := .cells #[.slice A0_0 l0_0.length c0_0, .slice A0_1 l0_1.length c0_1] 25 (0, 0)) (by (with_reducible repeat (first | refine bN ?_ _|refine bW ?_|refine bA ?_ _)); exact BK237.out) hb)
         have n9_ := Aside0.mk (blk_below (g := gb252) (o := .cells #[.slice Ao22 t245.length co22, .slice Ao25 t248.length co25] 29 (0, 0)) (by (with_reducible repeat (first | refine bN ?_ _|refine bW ?_|refine bA ?_ _)); exact BK252.out) hb)
         have n10_ := Aside0.mk (blk_below (g := gb259) (o := .cells #[.slice Ao29 t253.length co29, .slice Ao33 t256.length co33] 29 (0, 0)) (by (with_reducible repeat (first | refine bN ?_ _|refine bW ?_|refine bA ?_ _)); exact BK259.out) hb)
         have n11_ := Aside0.mk (blk_below (g := gb267) (o := .cells #[.slice Ao36 t260.length co36, .slice Ao41 t263.length co41] 29 (0, 0)) (by (with_reducible repeat (first | refine bN ?_ _|refine bW ?_|refine bA ?_ _)); exact BK267.out) hb)
         have n12_ := Aside0.mk (below_step (by repeat (first | (with_reducible first | exact HB.out|apply wA|apply wN|apply wD |refine wS ?_ GE237.out |refine wS ?_ GE252.out |refine wS ?_ GE259.out |refine wS ?_ GE267.out) | exact HB.out)) hb)
         clear HO_253000
         clear HO_253001
         clear HO_260000
         clear HO_260001
         clear HO_268000
         clear HO_268001
         clear HO271
         clear HO274
         clear BK237
         clear BK252
         clear BK259
         clear BK267
         clear HB
         have HO_253000 := n0_
         have HO_253001 := n1_
         have HO_260000 := n2_
         have HO_260001 := n3_
         have HO_268000 := n4_
         have HO_268001 := n5_
         have HO271 := n6_
         have HO274 := n7_
         have BK237 := n8_
         have BK252 := n9_
         have BK259 := n10_
         have BK267 := n11_
         have HB := n12_
         clear n0_ n1_ n2_ n3_ n4_ n5_ n6_ n7_ n8_ n9_ n10_ n11_ n12_
         (try clear hb)
         (try clear hb2)
         (try clear hk)
         (try clear hi)
         refine hK.out _ _ ⟨(blk_cell BK259.out 0).trans rfl, (blk_cell BK259.out 1).trans rfl, (blk_cell BK237.out 0).trans rfl, (blk_cell BK237.out 1).trans rfl⟩ (fun hHeld => ?_)
         clear hK K
         refine norm_ (a' := ?_) ?_ ?_
         rotate_left
         ·show Act.put _ (some 51) _ = _
          simp only [pU,pN,sB,sZ,sS,i64_w,i32_w]
          rfl
         refine pure_ (i := 4) (N := some 52) (v := ?_) (a' := ?_) #[Y,Y,Y,Y,Y] rfl rfl (by kernel_rfl) (fun _ _ _ h => h) (Or.inl ⟨by rfl, ?_⟩) ?_ ?_; rotate_left
         ·intro w'; go_simp; with_reducible rfl
         rotate_left
         ·simp only [pU,pN,sB,sZ,sS,i64_w,i32_w]; rfl
         refine done_ (by kernel_rfl) ?_
         go_upto_if 52 with (fail)
         go_cut [] (fun wc => ∃ (kq : Nat), Aside0 (laws_FnExactDropPipe.j4 kq a1 t251 t266 l0_0 l0_1 t245 t248 t253 t256 t260 t263 = some r) ∧ Aside0 (kq ≤ kj59) ∧ Aside0 (Kd.R (Kd.int .i64) 2 wc w.heap.size (fun k_ => some k_ ≠ ((.slice Ao29 t253.length co29) : Value).ownBlock ∧ some k_ ≠ ((.slice Ao36 t260.length co36) : Value).ownBlock) (.slice Ao22 t245.length co22) t245) ∧ Aside0 (Kd.R k42 42 wc w.heap.size (fun k_ => some k_ ≠ ((.slice Ao33 t256.length co33) : Value).ownBlock ∧ some k_ ≠ ((.slice Ao41 t263.length co41) : Value).ownBlock) (.slice Ao25 t248.length co25) t248) ∧ Aside0 (Kd.R (Kd.int .i64) 2 wc w.heap.size (fun k_ => some k_ ≠ ((.slice Ao22 t245.length co22) : Value).ownBlock ∧ some k_ ≠ ((.slice Ao36 t260.length co36) : Value).ownBlock) (.slice Ao29 t253.length co29) t253) ∧ Aside0 (Kd.R k42 42 wc w.heap.size (fun k_ => some k_ ≠ ((.slice Ao25 t248.length co25) : Value).ownBlock ∧ some k_ ≠ ((.slice Ao41 t263.length co41) : Value).ownBlock) (.slice Ao33 t256.length co33) t256) ∧ Aside0 (Kd.R (Kd.int .i64) 2 wc w.heap.size (fun k_ => some k_ ≠ ((.slice Ao22 t245.length co22) : Value).ownBlock ∧ some k_ ≠ ((.slice Ao29 t253.length co29) : Value).ownBlock) (.slice Ao36 t260.length co36) t260) ∧ Aside0 (Kd.R k42 42 wc w.heap.size (fun k_ => some k_ ≠ ((.slice Ao25 t248.length co25) : Value).ownBlock ∧ some k_ ≠ ((.slice Ao33 t256.length co33) : Value).ownBlock) (.slice Ao41 t263.length co41) t263) ∧ Aside0 (wc.heap[gb237]? = some (.cells #[(.slice A0_0 l0_0.length c0_0), (.slice A0_1 l0_1.length c0_1)] 25 (0, 0))) ∧ Aside0 (wc.heap[gb252]? = some (.cells #[(.slice Ao22 t245.length co22), (.slice Ao25 t248.length co25)] 29 (0, 0))) ∧ Aside0 (wc.heap[gb259]? = some (.cells #[(.slice Ao29 t253.length co29), (.slice Ao33 t256.length co33)] 29 (0, 0))) ∧ Aside0 (wc.heap[gb267]? = some (.cells #[(.slice Ao36 t260.length co36), (.slice Ao41 t263.length co41)] 29 (0, 0))) ∧ Aside0 (Below w.heap.size w wc))
         case first =>
          have H := HC64.out
          clear HC64
          by_cases c70 : t275 = true
          ·subst c70
           have H1 : (laws_FnExactDropPipe.j4 kj59 a1 t251 t266 l0_0 l0_1 t245 t248 t253 t256 t260 t263) = some r := by rw [if_pos rfl] at H; exact H
           clear H
           have H := H1
           clear H1
           have H' := Aside0.mk H
           clear H
           go_wp2
           go_meet
           case rel => exact ⟨_, H', ⟨by have := HJ2.out; have := HJ6.out; have := HJ14.out; have := HJ59.out; first | omega | exact Nat.le_refl _⟩, ⟨by (with_reducible repeat (first | apply rA|apply rN|apply rW)); exact Kd.R_mono HO_253000.out (fun _ hk => ⟨hk.1.1, hk.1.2⟩)⟩, ⟨by (with_reducible repeat (first | apply rA|apply rN|apply rW)); exact Kd.R_mono HO_253001.out (fun _ hk => ⟨hk.1.1, hk.1.2⟩)⟩, ⟨by (with_reducible repeat (first | apply rA|apply rN|apply rW)); exact Kd.R_mono HO_260000.out (fun _ hk => ⟨hk.1.1, hk.1.2⟩)⟩, ⟨by (with_reducible repeat (first | apply rA|apply rN|apply rW)); exact Kd.R_mono HO_260001.out (fun _ hk => ⟨hk.1.1, hk.1.2⟩)⟩, ⟨by (with_reducible repeat (first | apply rA|apply rN|apply rW)); exact Kd.R_mono HO_268000.out (fun _ hk => ⟨hk.1.1, hk.1.2⟩)⟩, ⟨by (with_reducible repeat (first | apply rA|apply rN|apply rW)); exact Kd.R_mono HO_268001.out (fun _ hk => ⟨hk.1.1, hk.1.2⟩)⟩, ⟨by (with_reducible repeat (first | refine bN ?_ _|refine bW ?_|refine bA ?_ _)); exact BK237.out⟩, ⟨by (with_reducible repeat (first | refine bN ?_ _|refine bW ?_|refine bA ?_ _)); exact BK252.out⟩, ⟨by (with_reducible repeat (first | refine bN ?_ _|refine bW ?_|refine bA ?_ _)); exact BK259.out⟩, ⟨by (with_reducible repeat (first | refine bN ?_ _|refine bW ?_|refine bA ?_ _)); exact BK267.out⟩, ⟨by repeat (first | (with_reducible first | exact HB.out|apply wA|apply wN|apply wD |refine wS ?_ GE237.out |refine wS ?_ GE252.out |refine wS ?_ GE259.out |refine wS ?_ GE267.out) | exact HB.out)⟩⟩
          ·replace c70 := Bool.eq_false_iff.mpr c70
           subst c70
           have H1 : (some false) = some r := by rw [if_neg (show ¬ (false = true) by decide)] at H; exact H
           clear H
           have H := H1
           clear H1
           obtain rfl := Option.some.inj H
           go_wp2
           go_ret
           exact ⟨by first | rfl | (simp [errW_none, errW_some] <;> rfl) | (simp [*, errW_none, errW_some] <;> rfl), by repeat (first | (with_reducible first | exact HB.out|apply wA|apply wN|apply wD |refine wS ?_ GE237.out |refine wS ?_ GE252.out |refine wS ?_ GE259.out |refine wS ?_ GE267.out) | exact HB.out)⟩
         case rest =>
          clear HC64
          try clear c1
          try clear c2
          try clear p2
          try clear c3
          try clear c4
          try clear c5
          try clear c5b0
          try clear c5b1
          try clear c5b2
          try clear c6
          try clear c7
          try clear c8
          try clear c10
          try clear c10b0
          try clear c10b2
          try clear c23
          try clear c30
          try clear c31
          try clear c37
          try clear c38
          try clear c39
          try clear c43
          try clear c44
          try clear c45
          try clear c46
          try clear c48
          try clear c49
          try clear c52
          try clear c53
          try clear c54
          try clear c56
          try clear c57
          try clear c61
          try clear c70
          try clear hcz16_0
          try clear hcz16_1
          try clear hcz24_0
          try clear hcz24_1
          try clear hcz26_0
          try clear hcz26_1
          try clear hcz32_0
          try clear hcz32_1
          try clear hcz40_0
          try clear hcz40_1
          try clear hcz47_0
          try clear hcz47_1
          try clear hcz50_0
          try clear hcz50_1
          try clear hcz55_0
          try clear hcz55_1
          try clear hcz58_0
          try clear hcz58_1
          try clear hcz8_0
          try clear hcz8_1
          try clear hfz16_0
          try clear hfz16_1
          try clear hfz24_0
          try clear hfz24_1
          try clear hfz26_0
          try clear hfz26_1
          try clear hfz32_0
          try clear hfz32_1
          try clear hfz40_0
          try clear hfz40_1
          try clear hfz47_0
          try clear hfz47_1
          try clear hfz50_0
          try clear hfz50_1
          try clear hfz55_0
          try clear hfz55_1
          try clear hfz58_0
          try clear hfz58_1
          try clear hfz8_0
          try clear hfz8_1
          try clear p2
          obtain ⟨kq, HA, HJ63, HO_253000, HO_253001, HO_260000, HO_260001, HO_268000, HO_268001, BK237, BK252, BK259, BK267, HB⟩ := hcut
          cases kq with
          | zero => exact absurd HA.out (by simp [laws_FnExactDropPipe.j4])
          | succ kj63 =>
           have H := HA.out
           clear HA
           simp only [laws_FnExactDropPipe.j4] at H
           replace H := Option.bind_eq_some_iff.mp H
           obtain ⟨⟨t276, t277, t278⟩, A710, H⟩ := H
           replace H : (if t276 < 0 then (laws_FnExactDropPipe.j5 kj63 a1 t251 true l0_0 l0_1 t245 t248 t260 t263) else ((laws_eqNetwork.f t260 t263 t245 t248).bind fun t279 => (if t279 = true then (laws_FnExactDropPipe.j5 kj63 a1 t251 (t266 != t251) l0_0 l0_1 t245 t248 t260 t263) else (laws_FnExactDropPipe.j5 kj63 a1 t251 true l0_0 l0_1 t245 t248 t260 t263)))) = some r := H
           have A71 := Aside0.mk A710
           clear A710
           have HC72 := Aside0.mk H
           clear H
           have hnb73 := NB259_237.out
           have hnc73 := NB237_259.out
           have hnb74 := NB259_252.out
           have hnc74 := NB252_259.out
           have hnb75 := NB259_267.out
           have hnc75 := NB267_259.out
           have hcz76_0 : wc.cell? ⟨gb259, 0, none⟩ = some (.slice Ao29 t253.length co29) := (blk_cell BK259.out 0).trans rfl
           have hcz76_1 : wc.cell? ⟨gb259, 1, none⟩ = some (.slice Ao33 t256.length co33) := (blk_cell BK259.out 1).trans rfl
           have hfz76_0 := blk_frozen BK259.out 0
           have hfz76_1 := blk_frozen BK259.out 1
           go_upto_region 16 with (first | ((with_reducible refine gate_callee (f := 9) rfl ?_); refine goesL_ (some 55) rfl rfl Try.func9 (by kernel_rfl) rfl #[.agg #[.slice Ao29 t253.length co29, .slice Ao33 t256.length co33], .int .i64 1] rfl (by (try simp only [List.map_toArray, List.map_cons, List.map_nil]); first | done | rfl | (simp only [List.length_drop, List.length_take]; rfl)) ?_; (with_reducible refine (laws_markNetwork.calls (fun k_ => some k_ = (.slice Ao29 t253.length co29 : Value).ownBlock) (.slice Ao29 t253.length co29) t253 (fun k_ => some k_ = (.slice Ao33 t256.length co33 : Value).ownBlock) (.slice Ao33 t256.length co33) t256 1 t276 t277 t278 w _ ?side1 ?side2 ?side3 A71.out).mono ?_); (case side1 => repeat (first | (with_reducible first | exact HB.out|apply wA|apply wN|apply wD |refine wS ?_ GE237.out |refine wS ?_ GE252.out |refine wS ?_ GE259.out |refine wS ?_ GE267.out) | exact HB.out)); (case side2 => exact Kd.R_tight rfl HO_260000.out); (case side3 => exact Kd.R_tight rfl HO_260001.out); rintro e w77 ⟨rfl, hy0, hy1, hb, hkp⟩; refine ⟨_, rfl, ?_⟩; have n0_ := Aside0.mk (Kd.R_mono (ok' := fun k_ => some k_ ≠ (.slice Ao29 t253.length co29 : Value).ownBlock ∧ some k_ ≠ (.slice Ao36 t260.length co36 : Value).ownBlock) (Kd.R_keptB ((Kd.R_apart' HO_253000.out (Kd.R_typed HO_260001.out) (by decide))) hkp (fun k_ hk_ hs_ => Or.elim hs_ (fun e_ => (hk_.1.1) e_) (fun e_ => (hk_.2) e_))) (fun k_ hk_ => ⟨hk_.1.1.1, hk_.1.1.2⟩)); have n1_ := Aside0.mk (Kd.R_mono (ok' := fun k_ => some k_ ≠ (.slice Ao33 t256.length co33 : Value).ownBlock ∧ some k_ ≠ (.slice Ao41 t263.length co41 : Value).ownBlock) (Kd.R_keptB ((Kd.R_apart' HO_253001.out (Kd.R_typed HO_260000.out) (by decide))) hkp (fun k_ hk_ hs_ => Or.elim hs_ (fun e_ => (hk_.2) e_) (fun e_ => (hk_.1.1) e_))) (fun k_ hk_ => ⟨hk_.1.1.1, hk_.1.1.2⟩)); have n2_ := Aside0.mk (Kd.R_reok rfl hy0 (fun k_ e_ => HO_260000.out.1 k_ e_)); have n3_ := Aside0.mk (Kd.R_reok rfl hy1 (fun k_ e_ => HO_260001.out.1 k_ e_)); have n4_ := Aside0.mk (Kd.R_mono (ok' := fun k_ => some k_ ≠ (.slice Ao22 t245.length co22 : Value).ownBlock ∧ some k_ ≠ (.slice Ao29 t253.length co29 : Value).ownBlock) (Kd.R_keptB ((Kd.R_apart' HO_268000.out (Kd.R_typed HO_260001.out) (by decide))) hkp (fun k_ hk_ hs_ => Or.elim hs_ (fun e_ => (hk_.1.2) e_) (fun e_ => (hk_.2) e_))) (fun k_ hk_ => ⟨hk_.1.1.1, hk_.1.1.2⟩)); have n5_ := Aside0.mk (Kd.R_mono (ok' := fun k_ => some k_ ≠ (.slice Ao25 t248.length co25 : Value).ownBlock ∧ some k_ ≠ (.slice Ao33 t256.length co33 : Value).ownBlock) (Kd.R_keptB ((Kd.R_apart' HO_268001.out (Kd.R_typed HO_260000.out) (by decide))) hkp (fun k_ hk_ hs_ => Or.elim hs_ (fun e_ => (hk_.2) e_) (fun e_ => (hk_.1.2) e_))) (fun k_ hk_ => ⟨hk_.1.1.1, hk_.1.1.2⟩)); have n6_ := Aside0.mk (blk_kept (by (with_reducible repeat (first | refine bN ?_ _|refine bW ?_|refine bA ?_ _)); exact BK237.out) hkp (fun hs_ => Or.elim hs_ (fun e_ => (fun e_ => (Kd.R_ne HO_260000.out BK237.out (by decide)) e_) e_) (fun e_ => (fun e_ => (Kd.R_ne HO_260001.out BK237.out (by decide)) e_) e_))); have n7_ := Aside0.mk (blk_kept (by (with_reducible repeat (first | refine bN ?_ _|refine bW ?_|refine bA ?_ _)); exact BK252.out) hkp (fun hs_ => Or.elim hs_ (fun e_ => (fun e_ => (Kd.R_ne HO_260000.out BK252.out (by decide)) e_) e_) (fun e_ => (fun e_ => (Kd.R_ne HO_260001.out BK252.out (by decide)) e_) e_))); have n8_ := Aside0.mk (blk_kept (by (with_reducible repeat (first | refine bN ?_ _|refine bW ?_|refine bA ?_ _)); exact BK259.out) hkp (fun hs_ => Or.elim hs_ (fun e_ => (fun e_ => (Kd.R_ne HO_260000.out BK259.out (by decide)) e_) e_) (fun e_ => (fun e_ => (Kd.R_ne HO_260001.out BK259.out (by decide)) e_) e_))); have n9_ := Aside0.mk (blk_kept (by (with_reducible repeat (first | refine bN ?_ _|refine bW ?_|refine bA ?_ _)); exact BK267.out) hkp (fun hs_ => Or.elim hs_ (fun e_ => (fun e_ => (Kd.R_ne HO_260000.out BK267.out (by decide)) e_) e_) (fun e_ => (fun e_ => (Kd.R_ne HO_260001.out BK267.out (by decide)) e_) e_))); have n10_ := Aside0.mk (hb); clear HO_253000; clear HO_253001; clear HO_260000; clear HO_260001; clear HO_268000; clear HO_268001; clear BK237; clear BK252; clear BK259; clear BK267; clear HB; have HO_253000 := n0_; have HO_253001 := n1_; have HO_260000 := n2_; have HO_260001 := n3_; have HO_268000 := n4_; have HO_268001 := n5_; have BK237 := n6_; have BK252 := n7_; have BK259 := n8_; have BK267 := n9_; have HB := n10_; clear n0_ n1_ n2_ n3_ n4_ n5_ n6_ n7_ n8_ n9_ n10_; (try clear hb); (try clear hkp); (try clear hy0); (try clear hy1)))
           (try simp only [Act.put, List.setIfInBounds_toArray, List.set_cons_zero, List.set_cons_succ])
           go_cut [68] (fun v68 wc => ∃ (kq : Nat) (x68_71 : Bool), v68 = .bool x68_71 ∧ Aside0 (laws_FnExactDropPipe.j5 kq a1 t251 x68_71 l0_0 l0_1 t245 t248 t260 t263 = some r) ∧ Aside0 (kq ≤ kj63) ∧ Aside0 (Kd.R (Kd.int .i64) 2 wc w.heap.size (fun k_ => some k_ ≠ ((.slice Ao29 t253.length co29) : Value).ownBlock ∧ some k_ ≠ ((.slice Ao36 t260.length co36) : Value).ownBlock) (.slice Ao22 t245.length co22) t245) ∧ Aside0 (Kd.R k42 42 wc w.heap.size (fun k_ => some k_ ≠ ((.slice Ao33 t256.length co33) : Value).ownBlock ∧ some k_ ≠ ((.slice Ao41 t263.length co41) : Value).ownBlock) (.slice Ao25 t248.length co25) t248) ∧ Aside0 (Kd.R (Kd.int .i64) 2 wc w.heap.size (fun k_ => some k_ ≠ ((.slice Ao22 t245.length co22) : Value).ownBlock ∧ some k_ ≠ ((.slice Ao36 t260.length co36) : Value).ownBlock) (.slice Ao29 t253.length co29) t277) ∧ Aside0 (Kd.R k42 42 wc w.heap.size (fun k_ => some k_ ≠ ((.slice Ao25 t248.length co25) : Value).ownBlock ∧ some k_ ≠ ((.slice Ao41 t263.length co41) : Value).ownBlock) (.slice Ao33 t256.length co33) t278) ∧ Aside0 (Kd.R (Kd.int .i64) 2 wc w.heap.size (fun k_ => some k_ ≠ ((.slice Ao22 t245.length co22) : Value).ownBlock ∧ some k_ ≠ ((.slice Ao29 t253.length co29) : Value).ownBlock) (.slice Ao36 t260.length co36) t260) ∧ Aside0 (Kd.R k42 42 wc w.heap.size (fun k_ => some k_ ≠ ((.slice Ao25 t248.length co25) : Value).ownBlock ∧ some k_ ≠ ((.slice Ao33 t256.length co33) : Value).ownBlock) (.slice Ao41 t263.length co41) t263) ∧ Aside0 (wc.heap[gb237]? = some (.cells #[(.slice A0_0 l0_0.length c0_0), (.slice A0_1 l0_1.length c0_1)] 25 (0, 0))) ∧ Aside0 (wc.heap[gb252]? = some (.cells #[(.slice Ao22 t245.length co22), (.slice Ao25 t248.length co25)] 29 (0, 0))) ∧ Aside0 (wc.heap[gb259]? = some (.cells #[(.slice Ao29 t253.length co29), (.slice Ao33 t256.length co33)] 29 (0, 0))) ∧ Aside0 (wc.heap[gb267]? = some (.cells #[(.slice Ao36 t260.length co36), (.slice Ao41 t263.length co41)] 29 (0, 0))) ∧ Aside0 (Below w.heap.size w wc))
           case first =>
            have H := HC72.out
            clear HC72
            by_cases c78 : t276 < 0
            ·rw [if_pos c78] at H
             have c78b0 : decide (t276 < 0) = true := decide_eq_true c78
             clear c78
             (first | rw [c78b0] | (simp only [i64_w, i32_w]; rw [c78b0]) | rw [c78b2] | skip)
             have H' := Aside0.mk H
             clear H
             go_wp2
             go_meet
             case rel => exact ⟨_, (true), (by first | rfl | (simp; done) | (simp [*]; done)), H', ⟨by have := HJ2.out; have := HJ6.out; have := HJ14.out; have := HJ59.out; have := HJ63.out; first | omega | exact Nat.le_refl _⟩, ⟨by (with_reducible repeat (first | apply rA|apply rN|apply rW)); exact HO_253000.out⟩, ⟨by (with_reducible repeat (first | apply rA|apply rN|apply rW)); exact HO_253001.out⟩, ⟨by (with_reducible repeat (first | apply rA|apply rN|apply rW)); exact HO_260000.out⟩, ⟨by (with_reducible repeat (first | apply rA|apply rN|apply rW)); exact HO_260001.out⟩, ⟨by (with_reducible repeat (first | apply rA|apply rN|apply rW)); exact HO_268000.out⟩, ⟨by (with_reducible repeat (first | apply rA|apply rN|apply rW)); exact HO_268001.out⟩, ⟨by (with_reducible repeat (first | refine bN ?_ _|refine bW ?_|refine bA ?_ _)); exact BK237.out⟩, ⟨by (with_reducible repeat (first | refine bN ?_ _|refine bW ?_|refine bA ?_ _)); exact BK252.out⟩, ⟨by (with_reducible repeat (first | refine bN ?_ _|refine bW ?_|refine bA ?_ _)); exact BK259.out⟩, ⟨by (with_reducible repeat (first | refine bN ?_ _|refine bW ?_|refine bA ?_ _)); exact BK267.out⟩, ⟨by repeat (first | (with_reducible first | exact HB.out|apply wA|apply wN|apply wD |refine wS ?_ GE237.out |refine wS ?_ GE252.out |refine wS ?_ GE259.out |refine wS ?_ GE267.out) | exact HB.out)⟩⟩
            ·rw [if_neg c78] at H
             have c78b0 : decide (t276 < 0) = false := decide_eq_false c78
             clear c78
             (first | rw [c78b0] | (simp only [i64_w, i32_w]; rw [c78b0]) | rw [c78b2] | skip)
             replace H := Option.bind_eq_some_iff.mp H
             obtain ⟨t279, A790, H⟩ := H
             replace H : (if t279 = true then (laws_FnExactDropPipe.j5 kj63 a1 t251 (t266 != t251) l0_0 l0_1 t245 t248 t260 t263) else (laws_FnExactDropPipe.j5 kj63 a1 t251 true l0_0 l0_1 t245 t248 t260 t263)) = some r := H
             have A79 := Aside0.mk A790
             clear A790
             by_cases c80 : t279 = true
             ·subst c80
              have H1 : (laws_FnExactDropPipe.j5 kj63 a1 t251 (t266 != t251) l0_0 l0_1 t245 t248 t260 t263) = some r := by rw [if_pos rfl] at H; exact H
              clear H
              have H := H1
              clear H1
              have H' := Aside0.mk H
              clear H
              have hnb81 := NB267_237.out
              have hnc81 := NB237_267.out
              have hnb82 := NB267_252.out
              have hnc82 := NB252_267.out
              have hnb83 := NB267_259.out
              have hnc83 := NB259_267.out
              have hcz84_0 : w77.cell? ⟨gb267, 0, none⟩ = some (.slice Ao36 t260.length co36) := (blk_cell BK267.out 0).trans rfl
              have hcz84_1 : w77.cell? ⟨gb267, 1, none⟩ = some (.slice Ao41 t263.length co41) := (blk_cell BK267.out 1).trans rfl
              have hfz84_0 := blk_frozen BK267.out 0
              have hfz84_1 := blk_frozen BK267.out 1
              have hnb85 := NB252_237.out
              have hnc85 := NB237_252.out
              have hnb86 := NB252_259.out
              have hnc86 := NB259_252.out
              have hcz87_0 : w77.cell? ⟨gb252, 0, none⟩ = some (.slice Ao22 t245.length co22) := (blk_cell BK252.out 0).trans rfl
              have hcz87_1 : w77.cell? ⟨gb252, 1, none⟩ = some (.slice Ao25 t248.length co25) := (blk_cell BK252.out 1).trans rfl
              have hfz87_0 := blk_frozen BK252.out 0
              have hfz87_1 := blk_frozen BK252.out 1
              go_wp2_with (first | (go_at_call 8; (with_reducible refine (laws_eqNetwork.calls _ _ t260 _ _ t263 _ _ t245 _ _ t248 true _ ?side1 ?side2 ?side3 ?side4 ?side5 ?side6 ?side7 ?side8 A79.out).mono ?_); (case side1 => repeat (first | exact (Kd.R_reads' HO_268000.out).2.2 | (with_reducible first|refine Kd.C_alloc ?_ _|refine Kd.C_drewN ?_ _|refine Kd.C_drew ?_))); (case side2 => exact (Kd.R_reads' HO_268000.out).2.1); (case side3 => repeat (first | exact (Kd.R_reads' HO_268001.out).2.2 | (with_reducible first|refine Kd.C_alloc ?_ _|refine Kd.C_drewN ?_ _|refine Kd.C_drew ?_))); (case side4 => exact (Kd.R_reads' HO_268001.out).2.1); (case side5 => repeat (first | exact (Kd.R_reads' HO_253000.out).2.2 | (with_reducible first|refine Kd.C_alloc ?_ _|refine Kd.C_drewN ?_ _|refine Kd.C_drew ?_))); (case side6 => exact (Kd.R_reads' HO_253000.out).2.1); (case side7 => repeat (first | exact (Kd.R_reads' HO_253001.out).2.2 | (with_reducible first|refine Kd.C_alloc ?_ _|refine Kd.C_drewN ?_ _|refine Kd.C_drew ?_))); (case side8 => exact (Kd.R_reads' HO_253001.out).2.1); rintro e w88 ⟨rfl, hb⟩; have n0_ := Aside0.mk (Kd.R_below (by (with_reducible repeat (first | apply rA|apply rN|apply rW)); exact HO_253000.out) hb); have n1_ := Aside0.mk (Kd.R_below (by (with_reducible repeat (first | apply rA|apply rN|apply rW)); exact HO_253001.out) hb); have n2_ := Aside0.mk (Kd.R_below (by (with_reducible repeat (first | apply rA|apply rN|apply rW)); exact HO_260000.out) hb); have n3_ := Aside0.mk (Kd.R_below (by (with_reducible repeat (first | apply rA|apply rN|apply rW)); exact HO_260001.out) hb); have n4_ := Aside0.mk (Kd.R_below (by (with_reducible repeat (first | apply rA|apply rN|apply rW)); exact HO_268000.out) hb); have n5_ := Aside0.mk (Kd.R_below (by (with_reducible repeat (first | apply rA|apply rN|apply rW)); exact HO_268001.out) hb); have n6_ := Aside0.mk (blk_below (g := gb237) (o := .cells #[.slice A0_0 l0_0.length c0_0, .slice A0_1 l0_1.length c0_1] 25 (0, 0)) (by (with_reducible repeat (first | refine bN ?_ _|refine bW ?_|refine bA ?_ _)); exact BK237.out) hb); have n7_ := Aside0.mk (blk_below (g := gb252) (o := .cells #[.slice Ao22 t245.length co22, .slice Ao25 t248.length co25] 29 (0, 0)) (by (with_reducible repeat (first | refine bN ?_ _|refine bW ?_|refine bA ?_ _)); exact BK252.out) hb); have n8_ := Aside0.mk (blk_below (g := gb259) (o := .cells #[.slice Ao29 t253.length co29, .slice Ao33 t256.length co33] 29 (0, 0)) (by (with_reducible repeat (first | refine bN ?_ _|refine bW ?_|refine bA ?_ _)); exact BK259.out) hb); have n9_ := Aside0.mk (blk_below (g := gb267) (o := .cells #[.slice Ao36 t260.length co36, .slice Ao41 t263.length co41] 29 (0, 0)) (by (with_reducible repeat (first | refine bN ?_ _|refine bW ?_|refine bA ?_ _)); exact BK267.out) hb); have n10_ := Aside0.mk (below_step (by repeat (first | (with_reducible first | exact HB.out|apply wA|apply wN|apply wD |refine wS ?_ GE237.out |refine wS ?_ GE252.out |refine wS ?_ GE259.out |refine wS ?_ GE267.out) | exact HB.out)) hb); clear HO_253000; clear HO_253001; clear HO_260000; clear HO_260001; clear HO_268000; clear HO_268001; clear BK237; clear BK252; clear BK259; clear BK267; clear HB; have HO_253000 := n0_; have HO_253001 := n1_; have HO_260000 := n2_; have HO_260001 := n3_; have HO_268000 := n4_; have HO_268001 := n5_; have BK237 := n6_; have BK252 := n7_; have BK259 := n8_; have BK267 := n9_; have HB := n10_; clear n0_ n1_ n2_ n3_ n4_ n5_ n6_ n7_ n8_ n9_ n10_; (try clear hb); (try clear hb2); (try clear hk); (try clear hi)))
              go_meet
              case rel => exact ⟨_, ((t266 != t251)), (by first | rfl | (simp; done) | (simp [*]; done)), H', ⟨by have := HJ2.out; have := HJ6.out; have := HJ14.out; have := HJ59.out; have := HJ63.out; first | omega | exact Nat.le_refl _⟩, ⟨by (with_reducible repeat (first | apply rA|apply rN|apply rW)); exact HO_253000.out⟩, ⟨by (with_reducible repeat (first | apply rA|apply rN|apply rW)); exact HO_253001.out⟩, ⟨by (with_reducible repeat (first | apply rA|apply rN|apply rW)); exact HO_260000.out⟩, ⟨by (with_reducible repeat (first | apply rA|apply rN|apply rW)); exact HO_260001.out⟩, ⟨by (with_reducible repeat (first | apply rA|apply rN|apply rW)); exact HO_268000.out⟩, ⟨by (with_reducible repeat (first | apply rA|apply rN|apply rW)); exact HO_268001.out⟩, ⟨by (with_reducible repeat (first | refine bN ?_ _|refine bW ?_|refine bA ?_ _)); exact BK237.out⟩, ⟨by (with_reducible repeat (first | refine bN ?_ _|refine bW ?_|refine bA ?_ _)); exact BK252.out⟩, ⟨by (with_reducible repeat (first | refine bN ?_ _|refine bW ?_|refine bA ?_ _)); exact BK259.out⟩, ⟨by (with_reducible repeat (first | refine bN ?_ _|refine bW ?_|refine bA ?_ _)); exact BK267.out⟩, ⟨by repeat (first | (with_reducible first | exact HB.out|apply wA|apply wN|apply wD |refine wS ?_ GE237.out |refine wS ?_ GE252.out |refine wS ?_ GE259.out |refine wS ?_ GE267.out) | exact HB.out)⟩⟩
             ·replace c80 := Bool.eq_false_iff.mpr c80
              subst c80
              have H1 : (laws_FnExactDropPipe.j5 kj63 a1 t251 true l0_0 l0_1 t245 t248 t260 t263) = some r := by rw [if_neg (show ¬ (false = true) by decide)] at H; exact H
              clear H
              have H := H1
              clear H1
              have H' := Aside0.mk H
              clear H
              have hnb89 := NB267_237.out
              have hnc89 := NB237_267.out
              have hnb90 := NB267_252.out
              have hnc90 := NB252_267.out
              have hnb91 := NB267_259.out
              have hnc91 := NB259_267.out
              have hcz92_0 : w77.cell? ⟨gb267, 0, none⟩ = some (.slice Ao36 t260.length co36) := (blk_cell BK267.out 0).trans rfl
              have hcz92_1 : w77.cell? ⟨gb267, 1, none⟩ = some (.slice Ao41 t263.length co41) := (blk_cell BK267.out 1).trans rfl
              have hfz92_0 := blk_frozen BK267.out 0
              have hfz92_1 := blk_frozen BK267.out 1
              have hnb93 := NB252_237.out
              have hnc93 := NB237_252.out
              have hnb94 := NB252_259.out
              have hnc94 := NB259_252.out
              have hcz95_0 : w77.cell? ⟨gb252, 0, none⟩ = some (.slice Ao22 t245.length co22) := (blk_cell BK252.out 0).trans rfl
              have hcz95_1 : w77.cell? ⟨gb252, 1, none⟩ = some (.slice Ao25 t248.length co25) := (blk_cell BK252.out 1).trans rfl
              have hfz95_0 := blk_frozen BK252.out 0
              have hfz95_1 := blk_frozen BK252.out 1
              go_wp2_with (first | (go_at_call 8; (with_reducible refine (laws_eqNetwork.calls _ _ t260 _ _ t263 _ _ t245 _ _ t248 false _ ?side1 ?side2 ?side3 ?side4 ?side5 ?side6 ?side7 ?side8 A79.out).mono ?_); (case side1 => repeat (first | exact (Kd.R_reads' HO_268000.out).2.2 | (with_reducible first|refine Kd.C_alloc ?_ _|refine Kd.C_drewN ?_ _|refine Kd.C_drew ?_))); (case side2 => exact (Kd.R_reads' HO_268000.out).2.1); (case side3 => repeat (first | exact (Kd.R_reads' HO_268001.out).2.2 | (with_reducible first|refine Kd.C_alloc ?_ _|refine Kd.C_drewN ?_ _|refine Kd.C_drew ?_))); (case side4 => exact (Kd.R_reads' HO_268001.out).2.1); (case side5 => repeat (first | exact (Kd.R_reads' HO_253000.out).2.2 | (with_reducible first|refine Kd.C_alloc ?_ _|refine Kd.C_drewN ?_ _|refine Kd.C_drew ?_))); (case side6 => exact (Kd.R_reads' HO_253000.out).2.1); (case side7 => repeat (first | exact (Kd.R_reads' HO_253001.out).2.2 | (with_reducible first|refine Kd.C_alloc ?_ _|refine Kd.C_drewN ?_ _|refine Kd.C_drew ?_))); (case side8 => exact (Kd.R_reads' HO_253001.out).2.1); rintro e w96 ⟨rfl, hb⟩; have n0_ := Aside0.mk (Kd.R_below (by (with_reducible repeat (first | apply rA|apply rN|apply rW)); exact HO_253000.out) hb); have n1_ := Aside0.mk (Kd.R_below (by (with_reducible repeat (first | apply rA|apply rN|apply rW)); exact HO_253001.out) hb); have n2_ := Aside0.mk (Kd.R_below (by (with_reducible repeat (first | apply rA|apply rN|apply rW)); exact HO_260000.out) hb); have n3_ := Aside0.mk (Kd.R_below (by (with_reducible repeat (first | apply rA|apply rN|apply rW)); exact HO_260001.out) hb); have n4_ := Aside0.mk (Kd.R_below (by (with_reducible repeat (first | apply rA|apply rN|apply rW)); exact HO_268000.out) hb); have n5_ := Aside0.mk (Kd.R_below (by (with_reducible repeat (first | apply rA|apply rN|apply rW)); exact HO_268001.out) hb); have n6_ := Aside0.mk (blk_below (g := gb237) (o := .cells #[.slice A0_0 l0_0.length c0_0, .slice A0_1 l0_1.length c0_1] 25 (0, 0)) (by (with_reducible repeat (first | refine bN ?_ _|refine bW ?_|refine bA ?_ _)); exact BK237.out) hb); have n7_ := Aside0.mk (blk_below (g := gb252) (o := .cells #[.slice Ao22 t245.length co22, .slice Ao25 t248.length co25] 29 (0, 0)) (by (with_reducible repeat (first | refine bN ?_ _|refine bW ?_|refine bA ?_ _)); exact BK252.out) hb); have n8_ := Aside0.mk (blk_below (g := gb259) (o := .cells #[.slice Ao29 t253.length co29, .slice Ao33 t256.length co33] 29 (0, 0)) (by (with_reducible repeat (first | refine bN ?_ _|refine bW ?_|refine bA ?_ _)); exact BK259.out) hb); have n9_ := Aside0.mk (blk_below (g := gb267) (o := .cells #[.slice Ao36 t260.length co36, .slice Ao41 t263.length co41] 29 (0, 0)) (by (with_reducible repeat (first | refine bN ?_ _|refine bW ?_|refine bA ?_ _)); exact BK267.out) hb); have n10_ := Aside0.mk (below_step (by repeat (first | (with_reducible first | exact HB.out|apply wA|apply wN|apply wD |refine wS ?_ GE237.out |refine wS ?_ GE252.out |refine wS ?_ GE259.out |refine wS ?_ GE267.out) | exact HB.out)) hb); clear HO_253000; clear HO_253001; clear HO_260000; clear HO_260001; clear HO_268000; clear HO_268001; clear BK237; clear BK252; clear BK259; clear BK267; clear HB; have HO_253000 := n0_; have HO_253001 := n1_; have HO_260000 := n2_; have HO_260001 := n3_; have HO_268000 := n4_; have HO_268001 := n5_; have BK237 := n6_; have BK252 := n7_; have BK259 := n8_; have BK267 := n9_; have HB := n10_; clear n0_ n1_ n2_ n3_ n4_ n5_ n6_ n7_ n8_ n9_ n10_; (try clear hb); (try clear hb2); (try clear hk); (try clear hi)))
              go_meet
              case rel => exact ⟨_, (true), (by first | rfl | (simp; done) | (simp [*]; done)), H', ⟨by have := HJ2.out; have := HJ6.out; have := HJ14.out; have := HJ59.out; have := HJ63.out; first | omega | exact Nat.le_refl _⟩, ⟨by (with_reducible repeat (first | apply rA|apply rN|apply rW)); exact HO_253000.out⟩, ⟨by (with_reducible repeat (first | apply rA|apply rN|apply rW)); exact HO_253001.out⟩, ⟨by (with_reducible repeat (first | apply rA|apply rN|apply rW)); exact HO_260000.out⟩, ⟨by (with_reducible repeat (first | apply rA|apply rN|apply rW)); exact HO_260001.out⟩, ⟨by (with_reducible repeat (first | apply rA|apply rN|apply rW)); exact HO_268000.out⟩, ⟨by (with_reducible repeat (first | apply rA|apply rN|apply rW)); exact HO_268001.out⟩, ⟨by (with_reducible repeat (first | refine bN ?_ _|refine bW ?_|refine bA ?_ _)); exact BK237.out⟩, ⟨by (with_reducible repeat (first | refine bN ?_ _|refine bW ?_|refine bA ?_ _)); exact BK252.out⟩, ⟨by (with_reducible repeat (first | refine bN ?_ _|refine bW ?_|refine bA ?_ _)); exact BK259.out⟩, ⟨by (with_reducible repeat (first | refine bN ?_ _|refine bW ?_|refine bA ?_ _)); exact BK267.out⟩, ⟨by repeat (first | (with_reducible first | exact HB.out|apply wA|apply wN|apply wD |refine wS ?_ GE237.out |refine wS ?_ GE252.out |refine wS ?_ GE259.out |refine wS ?_ GE267.out) | exact HB.out)⟩⟩
           case rest =>
            clear HC72
            try clear c1
            try clear c2
            try clear p2
            try clear c3
            try clear c4
            try clear c5
            try clear c5b0
            try clear c5b1
            try clear c5b2
            try clear c6
            try clear c7
            try clear c8
            try clear c9
            try clear c10
            try clear c10b0
            try clear c10b2
            try clear c23
            try clear c30
            try clear c31
            try clear c37
            try clear c38
            try clear c39
            try clear c43
            try clear c44
            try clear c45
            try clear c46
            try clear c48
            try clear c49
            try clear c52
            try clear c53
            try clear c54
            try clear c56
            try clear c57
            try clear c61
            try clear c70
            try clear c73
            try clear c74
            try clear c75
            try clear c78
            try clear c78b0
            try clear c78b2
            try clear c80
            try clear c81
            try clear c82
            try clear c83
            try clear c85
            try clear c86
            try clear c89
            try clear c90
            try clear c91
            try clear c93
            try clear c94
            try clear hcz16_0
            try clear hcz16_1
            try clear hcz24_0
            try clear hcz24_1
            try clear hcz26_0
            try clear hcz26_1
            try clear hcz32_0
            try clear hcz32_1
            try clear hcz40_0
            try clear hcz40_1
            try clear hcz47_0
            try clear hcz47_1
            try clear hcz50_0
            try clear hcz50_1
            try clear hcz55_0
            try clear hcz55_1
            try clear hcz58_0
            try clear hcz58_1
            try clear hcz76_0
            try clear hcz76_1
            try clear hcz84_0
            try clear hcz84_1
            try clear hcz87_0
            try clear hcz87_1
            try clear hcz8_0
            try clear hcz8_1
            try clear hcz92_0
            try clear hcz92_1
            try clear hcz95_0
            try clear hcz95_1
            try clear hfz16_0
            try clear hfz16_1
            try clear hfz24_0
            try clear hfz24_1
            try clear hfz26_0
            try clear hfz26_1
            try clear hfz32_0
            try clear hfz32_1
            try clear hfz40_0
            try clear hfz40_1
            try clear hfz47_0
            try clear hfz47_1
            try clear hfz50_0
            try clear hfz50_1
            try clear hfz55_0
            try clear hfz55_1
            try clear hfz58_0
            try clear hfz58_1
            try clear hfz76_0
            try clear hfz76_1
            try clear hfz84_0
            try clear hfz84_1
            try clear hfz87_0
            try clear hfz87_1
            try clear hfz8_0
            try clear hfz8_1
            try clear hfz92_0
            try clear hfz92_1
            try clear hfz95_0
            try clear hfz95_1
            try clear p2
            obtain ⟨kq, x68_71, rfl, HA, HJ71, HO_253000, HO_253001, HO_260000, HO_260001, HO_268000, HO_268001, BK237, BK252, BK259, BK267, HB⟩ := hcut
            have hl260000_71 := (Kd.R_reads' HO_260000.out).1
            rw [hl260000_71] at HO_260000
            (try simp only [hl260000_71])
            (try simp only [hl260000_71] at BK237)
            (try simp only [hl260000_71] at BK252)
            (try simp only [hl260000_71] at BK259)
            (try simp only [hl260000_71] at BK267)
            (try simp only [hl260000_71] at HO_253000)
            (try simp only [hl260000_71] at HO_253001)
            (try simp only [hl260000_71] at HO_260001)
            (try simp only [hl260000_71] at HO_268000)
            (try simp only [hl260000_71] at HO_268001)
            have hl260001_71 := (Kd.R_reads' HO_260001.out).1
            rw [hl260001_71] at HO_260001
            (try simp only [hl260001_71])
            (try simp only [hl260001_71] at BK237)
            (try simp only [hl260001_71] at BK252)
            (try simp only [hl260001_71] at BK259)
            (try simp only [hl260001_71] at BK267)
            (try simp only [hl260001_71] at HO_253000)
            (try simp only [hl260001_71] at HO_253001)
            (try simp only [hl260001_71] at HO_260000)
            (try simp only [hl260001_71] at HO_268000)
            (try simp only [hl260001_71] at HO_268001)
            cases kq with
            | zero => exact absurd HA.out (by simp [laws_FnExactDropPipe.j5])
            | succ kj71 =>
             have H := HA.out
             clear HA
             simp only [laws_FnExactDropPipe.j5] at H
             have HC97 := Aside0.mk H
             clear H
             go_upto_if 68 with (fail)
             go_cut [] (fun wc => ∃ (kq : Nat), Aside0 (laws_FnExactDropPipe.j6 kq a1 t251 l0_0 l0_1 t245 t248 t260 t263 = some r) ∧ Aside0 (kq ≤ kj71) ∧ Aside0 (Kd.R (Kd.int .i64) 2 wc w.heap.size (fun k_ => some k_ ≠ ((.slice Ao29 t277.length co29) : Value).ownBlock ∧ some k_ ≠ ((.slice Ao36 t260.length co36) : Value).ownBlock) (.slice Ao22 t245.length co22) t245) ∧ Aside0 (Kd.R k42 42 wc w.heap.size (fun k_ => some k_ ≠ ((.slice Ao33 t278.length co33) : Value).ownBlock ∧ some k_ ≠ ((.slice Ao41 t263.length co41) : Value).ownBlock) (.slice Ao25 t248.length co25) t248) ∧ Aside0 (Kd.R (Kd.int .i64) 2 wc w.heap.size (fun k_ => some k_ ≠ ((.slice Ao22 t245.length co22) : Value).ownBlock ∧ some k_ ≠ ((.slice Ao36 t260.length co36) : Value).ownBlock) (.slice Ao29 t277.length co29) t277) ∧ Aside0 (Kd.R k42 42 wc w.heap.size (fun k_ => some k_ ≠ ((.slice Ao25 t248.length co25) : Value).ownBlock ∧ some k_ ≠ ((.slice Ao41 t263.length co41) : Value).ownBlock) (.slice Ao33 t278.length co33) t278) ∧ Aside0 (Kd.R (Kd.int .i64) 2 wc w.heap.size (fun k_ => some k_ ≠ ((.slice Ao22 t245.length co22) : Value).ownBlock ∧ some k_ ≠ ((.slice Ao29 t277.length co29) : Value).ownBlock) (.slice Ao36 t260.length co36) t260) ∧ Aside0 (Kd.R k42 42 wc w.heap.size (fun k_ => some k_ ≠ ((.slice Ao25 t248.length co25) : Value).ownBlock ∧ some k_ ≠ ((.slice Ao33 t278.length co33) : Value).ownBlock) (.slice Ao41 t263.length co41) t263) ∧ Aside0 (wc.heap[gb237]? = some (.cells #[(.slice A0_0 l0_0.length c0_0), (.slice A0_1 l0_1.length c0_1)] 25 (0, 0))) ∧ Aside0 (wc.heap[gb252]? = some (.cells #[(.slice Ao22 t245.length co22), (.slice Ao25 t248.length co25)] 29 (0, 0))) ∧ Aside0 (wc.heap[gb259]? = some (.cells #[(.slice Ao29 t277.length co29), (.slice Ao33 t278.length co33)] 29 (0, 0))) ∧ Aside0 (wc.heap[gb267]? = some (.cells #[(.slice Ao36 t260.length co36), (.slice Ao41 t263.length co41)] 29 (0, 0))) ∧ Aside0 (Below w.heap.size w wc))
             case first =>
              have H := HC97.out
              clear HC97
              by_cases c98 : x68_71 = true
              ·subst c98
               have H1 : (some false) = some r := by rw [if_pos rfl] at H; exact H
               clear H
               have H := H1
               clear H1
               obtain rfl := Option.some.inj H
               go_wp2
               go_ret
               exact ⟨by first | rfl | (simp [errW_none, errW_some] <;> rfl) | (simp [*, errW_none, errW_some] <;> rfl), by repeat (first | (with_reducible first | exact HB.out|apply wA|apply wN|apply wD |refine wS ?_ GE237.out |refine wS ?_ GE252.out |refine wS ?_ GE259.out |refine wS ?_ GE267.out) | exact HB.out)⟩
              ·replace c98 := Bool.eq_false_iff.mpr c98
               subst c98
               have H1 : (laws_FnExactDropPipe.j6 kj71 a1 t251 l0_0 l0_1 t245 t248 t260 t263) = some r := by rw [if_neg (show ¬ (false = true) by decide)] at H; exact H
               clear H
               have H := H1
               clear H1
               have H' := Aside0.mk H
               clear H
               go_wp2
               go_meet
               case rel => exact ⟨_, H', ⟨by have := HJ2.out; have := HJ6.out; have := HJ14.out; have := HJ59.out; have := HJ63.out; have := HJ71.out; first | omega | exact Nat.le_refl _⟩, ⟨by (try simp only [hl260000_71]); (try simp only [hl260001_71]); (with_reducible repeat (first | apply rA|apply rN|apply rW)); exact HO_253000.out⟩, ⟨by (try simp only [hl260000_71]); (try simp only [hl260001_71]); (with_reducible repeat (first | apply rA|apply rN|apply rW)); exact HO_253001.out⟩, ⟨by (try simp only [hl260000_71]); (try simp only [hl260001_71]); (with_reducible repeat (first | apply rA|apply rN|apply rW)); exact HO_260000.out⟩, ⟨by (try simp only [hl260000_71]); (try simp only [hl260001_71]); (with_reducible repeat (first | apply rA|apply rN|apply rW)); exact HO_260001.out⟩, ⟨by (try simp only [hl260000_71]); (try simp only [hl260001_71]); (with_reducible repeat (first | apply rA|apply rN|apply rW)); exact HO_268000.out⟩, ⟨by (try simp only [hl260000_71]); (try simp only [hl260001_71]); (with_reducible repeat (first | apply rA|apply rN|apply rW)); exact HO_268001.out⟩, ⟨by (try simp only [hl260000_71]); (try simp only [hl260001_71]); (with_reducible repeat (first | refine bN ?_ _|refine bW ?_|refine bA ?_ _)); exact BK237.out⟩, ⟨by (try simp only [hl260000_71]); (try simp only [hl260001_71]); (with_reducible repeat (first | refine bN ?_ _|refine bW ?_|refine bA ?_ _)); exact BK252.out⟩, ⟨by (try simp only [hl260000_71]); (try simp only [hl260001_71]); (with_reducible repeat (first | refine bN ?_ _|refine bW ?_|refine bA ?_ _)); exact BK259.out⟩, ⟨by (try simp only [hl260000_71]); (try simp only [hl260001_71]); (with_reducible repeat (first | refine bN ?_ _|refine bW ?_|refine bA ?_ _)); exact BK267.out⟩, ⟨by repeat (first | (with_reducible first | exact HB.out|apply wA|apply wN|apply wD |refine wS ?_ GE237.out |refine wS ?_ GE252.out |refine wS ?_ GE259.out |refine wS ?_ GE267.out) | exact HB.out)⟩⟩
             case rest =>
              clear HC97
              try clear c1
              try clear c2
              try clear p2
              try clear c3
              try clear c4
              try clear c5
              try clear c5b0
              try clear c5b1
              try clear c5b2
              try clear c6
              try clear c7
              try clear c8
              try clear c9
              try clear c10
              try clear c10b0
              try clear c10b2
              try clear c23
              try clear c30
              try clear c31
              try clear c37
              try clear c38
              try clear c39
              try clear c43
              try clear c44
              try clear c45
              try clear c46
              try clear c48
              try clear c49
              try clear c52
              try clear c53
              try clear c54
              try clear c56
              try clear c57
              try clear c61
              try clear c70
              try clear c73
              try clear c74
              try clear c75
              try clear c78
              try clear c78b0
              try clear c78b2
              try clear c80
              try clear c81
              try clear c82
              try clear c83
              try clear c85
              try clear c86
              try clear c89
              try clear c90
              try clear c91
              try clear c93
              try clear c94
              try clear c98
              try clear hcz16_0
              try clear hcz16_1
              try clear hcz24_0
              try clear hcz24_1
              try clear hcz26_0
              try clear hcz26_1
              try clear hcz32_0
              try clear hcz32_1
              try clear hcz40_0
              try clear hcz40_1
              try clear hcz47_0
              try clear hcz47_1
              try clear hcz50_0
              try clear hcz50_1
              try clear hcz55_0
              try clear hcz55_1
              try clear hcz58_0
              try clear hcz58_1
              try clear hcz76_0
              try clear hcz76_1
              try clear hcz84_0
              try clear hcz84_1
              try clear hcz87_0
              try clear hcz87_1
              try clear hcz8_0
              try clear hcz8_1
              try clear hcz92_0
              try clear hcz92_1
              try clear hcz95_0
              try clear hcz95_1
              try clear hfz16_0
              try clear hfz16_1
              try clear hfz24_0
              try clear hfz24_1
              try clear hfz26_0
              try clear hfz26_1
              try clear hfz32_0
              try clear hfz32_1
              try clear hfz40_0
              try clear hfz40_1
              try clear hfz47_0
              try clear hfz47_1
              try clear hfz50_0
              try clear hfz50_1
              try clear hfz55_0
              try clear hfz55_1
              try clear hfz58_0
              try clear hfz58_1
              try clear hfz76_0
              try clear hfz76_1
              try clear hfz84_0
              try clear hfz84_1
              try clear hfz87_0
              try clear hfz87_1
              try clear hfz8_0
              try clear hfz8_1
              try clear hfz92_0
              try clear hfz92_1
              try clear hfz95_0
              try clear hfz95_1
              try clear p2
              obtain ⟨kq, HA, HJ96, HO_253000, HO_253001, HO_260000, HO_260001, HO_268000, HO_268001, BK237, BK252, BK259, BK267, HB⟩ := hcut
              cases kq with
              | zero => exact absurd HA.out (by simp [laws_FnExactDropPipe.j6])
              | succ kj96 =>
               have H := HA.out
               clear HA
               simp only [laws_FnExactDropPipe.j6] at H
               replace H := Option.bind_eq_some_iff.mp H
               obtain ⟨⟨t280, t281, t282⟩, A990, H⟩ := H
               replace H : ((laws_heldNetwork.f t281 t282 1).bind fun t283 => (if t283 < 0 then (some false) else (laws_FnExactDropPipe.j7 kj96 a1 t251 t280 t283 l0_0 l0_1 t245 t248 t281 t282))) = some r := H
               have A99 := Aside0.mk A990
               clear A990
               replace H := Option.bind_eq_some_iff.mp H
               obtain ⟨t283, A1000, H⟩ := H
               replace H : (if t283 < 0 then (some false) else (laws_FnExactDropPipe.j7 kj96 a1 t251 t280 t283 l0_0 l0_1 t245 t248 t281 t282)) = some r := H
               have A100 := Aside0.mk A1000
               clear A1000
               have HC101 := Aside0.mk H
               clear H
               have hnb102 := NB267_237.out
               have hnc102 := NB237_267.out
               have hnb103 := NB267_252.out
               have hnc103 := NB252_267.out
               have hnb104 := NB267_259.out
               have hnc104 := NB259_267.out
               have hcz105_0 : wc.cell? ⟨gb267, 0, none⟩ = some (.slice Ao36 t260.length co36) := (blk_cell BK267.out 0).trans rfl
               have hcz105_1 : wc.cell? ⟨gb267, 1, none⟩ = some (.slice Ao41 t263.length co41) := (blk_cell BK267.out 1).trans rfl
               have hfz105_0 := blk_frozen BK267.out 0
               have hfz105_1 := blk_frozen BK267.out 1
               go_upto_if 76 with (first | ((with_reducible refine gate_callee (f := 9) rfl ?_); refine goesL_ (some 71) rfl rfl Try.func9 (by kernel_rfl) rfl #[.agg #[.slice Ao36 t260.length co36, .slice Ao41 t263.length co41], .int .i64 1] rfl (by (try simp only [List.map_toArray, List.map_cons, List.map_nil]); first | done | rfl | (simp only [List.length_drop, List.length_take]; rfl)) ?_; (with_reducible refine (laws_markNetwork.calls (fun k_ => some k_ = (.slice Ao36 t260.length co36 : Value).ownBlock) (.slice Ao36 t260.length co36) t260 (fun k_ => some k_ = (.slice Ao41 t263.length co41 : Value).ownBlock) (.slice Ao41 t263.length co41) t263 1 t280 t281 t282 w _ ?side1 ?side2 ?side3 A99.out).mono ?_); (case side1 => repeat (first | (with_reducible first | exact HB.out|apply wA|apply wN|apply wD |refine wS ?_ GE237.out |refine wS ?_ GE252.out |refine wS ?_ GE259.out |refine wS ?_ GE267.out) | exact HB.out)); (case side2 => exact Kd.R_tight rfl HO_268000.out); (case side3 => exact Kd.R_tight rfl HO_268001.out); rintro e w106 ⟨rfl, hy0, hy1, hb, hkp⟩; refine ⟨_, rfl, ?_⟩; have n0_ := Aside0.mk (Kd.R_mono (ok' := fun k_ => some k_ ≠ (.slice Ao29 t277.length co29 : Value).ownBlock ∧ some k_ ≠ (.slice Ao36 t260.length co36 : Value).ownBlock) (Kd.R_keptB ((Kd.R_apart' HO_253000.out (Kd.R_typed HO_268001.out) (by decide))) hkp (fun k_ hk_ hs_ => Or.elim hs_ (fun e_ => (hk_.1.2) e_) (fun e_ => (hk_.2) e_))) (fun k_ hk_ => ⟨hk_.1.1.1, hk_.1.1.2⟩)); have n1_ := Aside0.mk (Kd.R_mono (ok' := fun k_ => some k_ ≠ (.slice Ao33 t278.length co33 : Value).ownBlock ∧ some k_ ≠ (.slice Ao41 t263.length co41 : Value).ownBlock) (Kd.R_keptB ((Kd.R_apart' HO_253001.out (Kd.R_typed HO_268000.out) (by decide))) hkp (fun k_ hk_ hs_ => Or.elim hs_ (fun e_ => (hk_.2) e_) (fun e_ => (hk_.1.2) e_))) (fun k_ hk_ => ⟨hk_.1.1.1, hk_.1.1.2⟩)); have n2_ := Aside0.mk (Kd.R_mono (ok' := fun k_ => some k_ ≠ (.slice Ao22 t245.length co22 : Value).ownBlock ∧ some k_ ≠ (.slice Ao36 t260.length co36 : Value).ownBlock) (Kd.R_keptB ((Kd.R_apart' HO_260000.out (Kd.R_typed HO_268001.out) (by decide))) hkp (fun k_ hk_ hs_ => Or.elim hs_ (fun e_ => (hk_.1.2) e_) (fun e_ => (hk_.2) e_))) (fun k_ hk_ => ⟨hk_.1.1.1, hk_.1.1.2⟩)); have n3_ := Aside0.mk (Kd.R_mono (ok' := fun k_ => some k_ ≠ (.slice Ao25 t248.length co25 : Value).ownBlock ∧ some k_ ≠ (.slice Ao41 t263.length co41 : Value).ownBlock) (Kd.R_keptB ((Kd.R_apart' HO_260001.out (Kd.R_typed HO_268000.out) (by decide))) hkp (fun k_ hk_ hs_ => Or.elim hs_ (fun e_ => (hk_.2) e_) (fun e_ => (hk_.1.2) e_))) (fun k_ hk_ => ⟨hk_.1.1.1, hk_.1.1.2⟩)); have n4_ := Aside0.mk (Kd.R_reok rfl hy0 (fun k_ e_ => HO_268000.out.1 k_ e_)); have n5_ := Aside0.mk (Kd.R_reok rfl hy1 (fun k_ e_ => HO_268001.out.1 k_ e_)); have n6_ := Aside0.mk (blk_kept (by (with_reducible repeat (first | refine bN ?_ _|refine bW ?_|refine bA ?_ _)); exact BK237.out) hkp (fun hs_ => Or.elim hs_ (fun e_ => (fun e_ => (Kd.R_ne HO_268000.out BK237.out (by decide)) e_) e_) (fun e_ => (fun e_ => (Kd.R_ne HO_268001.out BK237.out (by decide)) e_) e_))); have n7_ := Aside0.mk (blk_kept (by (with_reducible repeat (first | refine bN ?_ _|refine bW ?_|refine bA ?_ _)); exact BK252.out) hkp (fun hs_ => Or.elim hs_ (fun e_ => (fun e_ => (Kd.R_ne HO_268000.out BK252.out (by decide)) e_) e_) (fun e_ => (fun e_ => (Kd.R_ne HO_268001.out BK252.out (by decide)) e_) e_))); have n8_ := Aside0.mk (blk_kept (by (with_reducible repeat (first | refine bN ?_ _|refine bW ?_|refine bA ?_ _)); exact BK259.out) hkp (fun hs_ => Or.elim hs_ (fun e_ => (fun e_ => (Kd.R_ne HO_268000.out BK259.out (by decide)) e_) e_) (fun e_ => (fun e_ => (Kd.R_ne HO_268001.out BK259.out (by decide)) e_) e_))); have n9_ := Aside0.mk (blk_kept (by (with_reducible repeat (first | refine bN ?_ _|refine bW ?_|refine bA ?_ _)); exact BK267.out) hkp (fun hs_ => Or.elim hs_ (fun e_ => (fun e_ => (Kd.R_ne HO_268000.out BK267.out (by decide)) e_) e_) (fun e_ => (fun e_ => (Kd.R_ne HO_268001.out BK267.out (by decide)) e_) e_))); have n10_ := Aside0.mk (hb); clear HO_253000; clear HO_253001; clear HO_260000; clear HO_260001; clear HO_268000; clear HO_268001; clear BK237; clear BK252; clear BK259; clear BK267; clear HB; have HO_253000 := n0_; have HO_253001 := n1_; have HO_260000 := n2_; have HO_260001 := n3_; have HO_268000 := n4_; have HO_268001 := n5_; have BK237 := n6_; have BK252 := n7_; have BK259 := n8_; have BK267 := n9_; have HB := n10_; clear n0_ n1_ n2_ n3_ n4_ n5_ n6_ n7_ n8_ n9_ n10_; (try clear hb); (try clear hkp); (try clear hy0); (try clear hy1); have hcz107_0 : w106.cell? ⟨gb267, 0, none⟩ = some (.slice Ao36 t260.length co36) := (blk_cell BK267.out 0).trans rfl; have hcz107_1 : w106.cell? ⟨gb267, 1, none⟩ = some (.slice Ao41 t263.length co41) := (blk_cell BK267.out 1).trans rfl; have hfz107_0 := blk_frozen BK267.out 0; have hfz107_1 := blk_frozen BK267.out 1) | ((with_reducible refine gate_callee (f := 10) rfl ?_); refine goesL_ (some 74) rfl rfl Try.func10 (by kernel_rfl) rfl #[.agg #[.slice Ao36 t281.length co36, .slice Ao41 t282.length co41], .int .i64 1] rfl (by (try simp only [List.map_toArray, List.map_cons, List.map_nil]); first | done | (rw [show t281.length = t260.length from (Kd.R_reads' HO_268000.out).1.symm, show t282.length = t263.length from (Kd.R_reads' HO_268001.out).1.symm] <;> rfl) | rfl | (simp only [List.length_drop, List.length_take]; rfl)) ?_; (with_reducible refine (laws_heldNetwork.calls _ _ t281 _ _ t282 1 t283 _ ?side1 ?side2 ?side3 ?side4 A100.out).mono ?_); (case side1 => repeat (first | exact (Kd.R_reads' HO_268000.out).2.2 | (with_reducible first|refine Kd.C_alloc ?_ _|refine Kd.C_drewN ?_ _|refine Kd.C_drew ?_))); (case side2 => rw [show t281.length = t260.length from (Kd.R_reads' HO_268000.out).1.symm]; exact (Kd.R_reads' HO_268000.out).2.1); (case side3 => repeat (first | exact (Kd.R_reads' HO_268001.out).2.2 | (with_reducible first|refine Kd.C_alloc ?_ _|refine Kd.C_drewN ?_ _|refine Kd.C_drew ?_))); (case side4 => rw [show t282.length = t263.length from (Kd.R_reads' HO_268001.out).1.symm]; exact (Kd.R_reads' HO_268001.out).2.1); rintro e w108 ⟨rfl, hb⟩; refine ⟨_, rfl, ?_⟩; have n0_ := Aside0.mk (Kd.R_below (by (with_reducible repeat (first | apply rA|apply rN|apply rW)); exact HO_253000.out) hb); have n1_ := Aside0.mk (Kd.R_below (by (with_reducible repeat (first | apply rA|apply rN|apply rW)); exact HO_253001.out) hb); have n2_ := Aside0.mk (Kd.R_below (by (with_reducible repeat (first | apply rA|apply rN|apply rW)); exact HO_260000.out) hb); have n3_ := Aside0.mk (Kd.R_below (by (with_reducible repeat (first | apply rA|apply rN|apply rW)); exact HO_260001.out) hb); have n4_ := Aside0.mk (Kd.R_below (by (with_reducible repeat (first | apply rA|apply rN|apply rW)); exact HO_268000.out) hb); have n5_ := Aside0.mk (Kd.R_below (by (with_reducible repeat (first | apply rA|apply rN|apply rW)); exact HO_268001.out) hb); have n6_ := Aside0.mk (blk_below (g := gb237) (o := .cells #[.slice A0_0 l0_0.length c0_0, .slice A0_1 l0_1.length c0_1] 25 (0, 0)) (by (with_reducible repeat (first | refine bN ?_ _|refine bW ?_|refine bA ?_ _)); exact BK237.out) hb); have n7_ := Aside0.mk (blk_below (g := gb252) (o := .cells #[.slice Ao22 t245.length co22, .slice Ao25 t248.length co25] 29 (0, 0)) (by (with_reducible repeat (first | refine bN ?_ _|refine bW ?_|refine bA ?_ _)); exact BK252.out) hb); have n8_ := Aside0.mk (blk_below (g := gb259) (o := .cells #[.slice Ao29 t277.length co29, .slice Ao33 t278.length co33] 29 (0, 0)) (by (with_reducible repeat (first | refine bN ?_ _|refine bW ?_|refine bA ?_ _)); exact BK259.out) hb); have n9_ := Aside0.mk (blk_below (g := gb267) (o := .cells #[.slice Ao36 t260.length co36, .slice Ao41 t263.length co41] 29 (0, 0)) (by (with_reducible repeat (first | refine bN ?_ _|refine bW ?_|refine bA ?_ _)); exact BK267.out) hb); have n10_ := Aside0.mk (below_step (by repeat (first | (with_reducible first | exact HB.out|apply wA|apply wN|apply wD |refine wS ?_ GE237.out |refine wS ?_ GE252.out |refine wS ?_ GE259.out |refine wS ?_ GE267.out) | exact HB.out)) hb); clear HO_253000; clear HO_253001; clear HO_260000; clear HO_260001; clear HO_268000; clear HO_268001; clear BK237; clear BK252; clear BK259; clear BK267; clear HB; have HO_253000 := n0_; have HO_253001 := n1_; have HO_260000 := n2_; have HO_260001 := n3_; have HO_268000 := n4_; have HO_268001 := n5_; have BK237 := n6_; have BK252 := n7_; have BK259 := n8_; have BK267 := n9_; have HB := n10_; clear n0_ n1_ n2_ n3_ n4_ n5_ n6_ n7_ n8_ n9_ n10_; (try clear hb); (try clear hb2); (try clear hk); (try clear hi)))
               (try simp only [Act.put, List.setIfInBounds_toArray, List.set_cons_zero, List.set_cons_succ])
               go_cut [] (fun wc => ∃ (kq : Nat), Aside0 (laws_FnExactDropPipe.j7 kq a1 t251 t280 t283 l0_0 l0_1 t245 t248 t281 t282 = some r) ∧ Aside0 (kq ≤ kj96) ∧ Aside0 (Kd.R (Kd.int .i64) 2 wc w.heap.size (fun k_ => some k_ ≠ ((.slice Ao29 t277.length co29) : Value).ownBlock ∧ some k_ ≠ ((.slice Ao36 t260.length co36) : Value).ownBlock) (.slice Ao22 t245.length co22) t245) ∧ Aside0 (Kd.R k42 42 wc w.heap.size (fun k_ => some k_ ≠ ((.slice Ao33 t278.length co33) : Value).ownBlock ∧ some k_ ≠ ((.slice Ao41 t263.length co41) : Value).ownBlock) (.slice Ao25 t248.length co25) t248) ∧ Aside0 (Kd.R (Kd.int .i64) 2 wc w.heap.size (fun k_ => some k_ ≠ ((.slice Ao22 t245.length co22) : Value).ownBlock ∧ some k_ ≠ ((.slice Ao36 t260.length co36) : Value).ownBlock) (.slice Ao29 t277.length co29) t277) ∧ Aside0 (Kd.R k42 42 wc w.heap.size (fun k_ => some k_ ≠ ((.slice Ao25 t248.length co25) : Value).ownBlock ∧ some k_ ≠ ((.slice Ao41 t263.length co41) : Value).ownBlock) (.slice Ao33 t278.length co33) t278) ∧ Aside0 (Kd.R (Kd.int .i64) 2 wc w.heap.size (fun k_ => some k_ ≠ ((.slice Ao22 t245.length co22) : Value).ownBlock ∧ some k_ ≠ ((.slice Ao29 t277.length co29) : Value).ownBlock) (.slice Ao36 t260.length co36) t281) ∧ Aside0 (Kd.R k42 42 wc w.heap.size (fun k_ => some k_ ≠ ((.slice Ao25 t248.length co25) : Value).ownBlock ∧ some k_ ≠ ((.slice Ao33 t278.length co33) : Value).ownBlock) (.slice Ao41 t263.length co41) t282) ∧ Aside0 (wc.heap[gb237]? = some (.cells #[(.slice A0_0 l0_0.length c0_0), (.slice A0_1 l0_1.length c0_1)] 25 (0, 0))) ∧ Aside0 (wc.heap[gb252]? = some (.cells #[(.slice Ao22 t245.length co22), (.slice Ao25 t248.length co25)] 29 (0, 0))) ∧ Aside0 (wc.heap[gb259]? = some (.cells #[(.slice Ao29 t277.length co29), (.slice Ao33 t278.length co33)] 29 (0, 0))) ∧ Aside0 (wc.heap[gb267]? = some (.cells #[(.slice Ao36 t260.length co36), (.slice Ao41 t263.length co41)] 29 (0, 0))) ∧ Aside0 (Below w.heap.size w wc))
               case first =>
                have H := HC101.out
                clear HC101
                by_cases c109 : t283 < 0
                ·rw [if_pos c109] at H
                 have c109b0 : decide (t283 < 0) = true := decide_eq_true c109
                 clear c109
                 (first | rw [c109b0] | (simp only [i64_w, i32_w]; rw [c109b0]) | rw [c109b2] | skip)
                 obtain rfl := Option.some.inj H
                 go_wp2
                 go_ret
                 exact ⟨by first | rfl | (simp [errW_none, errW_some] <;> rfl) | (simp [*, errW_none, errW_some] <;> rfl), by repeat (first | (with_reducible first | exact HB.out|apply wA|apply wN|apply wD |refine wS ?_ GE237.out |refine wS ?_ GE252.out |refine wS ?_ GE259.out |refine wS ?_ GE267.out) | exact HB.out)⟩
                ·rw [if_neg c109] at H
                 have c109b0 : decide (t283 < 0) = false := decide_eq_false c109
                 clear c109
                 (first | rw [c109b0] | (simp only [i64_w, i32_w]; rw [c109b0]) | rw [c109b2] | skip)
                 have H' := Aside0.mk H
                 clear H
                 go_wp2
                 go_meet
                 case rel => exact ⟨_, H', ⟨by have := HJ2.out; have := HJ6.out; have := HJ14.out; have := HJ59.out; have := HJ63.out; have := HJ71.out; have := HJ96.out; first | omega | exact Nat.le_refl _⟩, ⟨by (try simp only [hl260000_71]); (try simp only [hl260001_71]); (with_reducible repeat (first | apply rA|apply rN|apply rW)); exact HO_253000.out⟩, ⟨by (try simp only [hl260000_71]); (try simp only [hl260001_71]); (with_reducible repeat (first | apply rA|apply rN|apply rW)); exact HO_253001.out⟩, ⟨by (try simp only [hl260000_71]); (try simp only [hl260001_71]); (with_reducible repeat (first | apply rA|apply rN|apply rW)); exact HO_260000.out⟩, ⟨by (try simp only [hl260000_71]); (try simp only [hl260001_71]); (with_reducible repeat (first | apply rA|apply rN|apply rW)); exact HO_260001.out⟩, ⟨by (try simp only [hl260000_71]); (try simp only [hl260001_71]); (with_reducible repeat (first | apply rA|apply rN|apply rW)); exact HO_268000.out⟩, ⟨by (try simp only [hl260000_71]); (try simp only [hl260001_71]); (with_reducible repeat (first | apply rA|apply rN|apply rW)); exact HO_268001.out⟩, ⟨by (try simp only [hl260000_71]); (try simp only [hl260001_71]); (with_reducible repeat (first | refine bN ?_ _|refine bW ?_|refine bA ?_ _)); exact BK237.out⟩, ⟨by (try simp only [hl260000_71]); (try simp only [hl260001_71]); (with_reducible repeat (first | refine bN ?_ _|refine bW ?_|refine bA ?_ _)); exact BK252.out⟩, ⟨by (try simp only [hl260000_71]); (try simp only [hl260001_71]); (with_reducible repeat (first | refine bN ?_ _|refine bW ?_|refine bA ?_ _)); exact BK259.out⟩, ⟨by (try simp only [hl260000_71]); (try simp only [hl260001_71]); (with_reducible repeat (first | refine bN ?_ _|refine bW ?_|refine bA ?_ _)); exact BK267.out⟩, ⟨by repeat (first | (with_reducible first | exact HB.out|apply wA|apply wN|apply wD |refine wS ?_ GE237.out |refine wS ?_ GE252.out |refine wS ?_ GE259.out |refine wS ?_ GE267.out) | exact HB.out)⟩⟩
               case rest =>
                clear HC101
                try clear c1
                try clear c2
                try clear p2
                try clear c3
                try clear c4
                try clear c5
                try clear c5b0
                try clear c5b1
                try clear c5b2
                try clear c6
                try clear c7
                try clear c8
                try clear c9
                try clear c10
                try clear c10b0
                try clear c10b2
                try clear c23
                try clear c30
                try clear c31
                try clear c37
                try clear c38
                try clear c39
                try clear c43
                try clear c44
                try clear c45
                try clear c46
                try clear c48
                try clear c49
                try clear c52
                try clear c53
                try clear c54
                try clear c56
                try clear c57
                try clear c61
                try clear c70
                try clear c73
                try clear c74
                try clear c75
                try clear c78
                try clear c78b0
                try clear c78b2
                try clear c80
                try clear c81
                try clear c82
                try clear c83
                try clear c85
                try clear c86
                try clear c89
                try clear c90
                try clear c91
                try clear c93
                try clear c94
                try clear c98
                try clear c102
                try clear c103
                try clear c104
                try clear c109
                try clear c109b0
                try clear c109b2
                try clear hcz105_0
                try clear hcz105_1
                try clear hcz107_0
                try clear hcz107_1
                try clear hcz16_0
                try clear hcz16_1
                try clear hcz24_0
                try clear hcz24_1
                try clear hcz26_0
                try clear hcz26_1
                try clear hcz32_0
                try clear hcz32_1
                try clear hcz40_0
                try clear hcz40_1
                try clear hcz47_0
                try clear hcz47_1
                try clear hcz50_0
                try clear hcz50_1
                try clear hcz55_0
                try clear hcz55_1
                try clear hcz58_0
                try clear hcz58_1
                try clear hcz76_0
                try clear hcz76_1
                try clear hcz84_0
                try clear hcz84_1
                try clear hcz87_0
                try clear hcz87_1
                try clear hcz8_0
                try clear hcz8_1
                try clear hcz92_0
                try clear hcz92_1
                try clear hcz95_0
                try clear hcz95_1
                try clear hfz105_0
                try clear hfz105_1
                try clear hfz107_0
                try clear hfz107_1
                try clear hfz16_0
                try clear hfz16_1
                try clear hfz24_0
                try clear hfz24_1
                try clear hfz26_0
                try clear hfz26_1
                try clear hfz32_0
                try clear hfz32_1
                try clear hfz40_0
                try clear hfz40_1
                try clear hfz47_0
                try clear hfz47_1
                try clear hfz50_0
                try clear hfz50_1
                try clear hfz55_0
                try clear hfz55_1
                try clear hfz58_0
                try clear hfz58_1
                try clear hfz76_0
                try clear hfz76_1
                try clear hfz84_0
                try clear hfz84_1
                try clear hfz87_0
                try clear hfz87_1
                try clear hfz8_0
                try clear hfz8_1
                try clear hfz92_0
                try clear hfz92_1
                try clear hfz95_0
                try clear hfz95_1
                try clear p2
                obtain ⟨kq, HA, HJ100, HO_253000, HO_253001, HO_260000, HO_260001, HO_268000, HO_268001, BK237, BK252, BK259, BK267, HB⟩ := hcut
                have hl268000_100 := (Kd.R_reads' HO_268000.out).1
                rw [hl268000_100] at HO_268000
                (try simp only [hl268000_100])
                (try simp only [hl268000_100] at BK237)
                (try simp only [hl268000_100] at BK252)
                (try simp only [hl268000_100] at BK259)
                (try simp only [hl268000_100] at BK267)
                (try simp only [hl268000_100] at HO_253000)
                (try simp only [hl268000_100] at HO_253001)
                (try simp only [hl268000_100] at HO_260000)
                (try simp only [hl268000_100] at HO_260001)
                (try simp only [hl268000_100] at HO_268001)
                have hl268001_100 := (Kd.R_reads' HO_268001.out).1
                rw [hl268001_100] at HO_268001
                (try simp only [hl268001_100])
                (try simp only [hl268001_100] at BK237)
                (try simp only [hl268001_100] at BK252)
                (try simp only [hl268001_100] at BK259)
                (try simp only [hl268001_100] at BK267)
                (try simp only [hl268001_100] at HO_253000)
                (try simp only [hl268001_100] at HO_253001)
                (try simp only [hl268001_100] at HO_260000)
                (try simp only [hl268001_100] at HO_260001)
                (try simp only [hl268001_100] at HO_268000)
                cases kq with
                | zero => exact absurd HA.out (by simp [laws_FnExactDropPipe.j7])
                | succ kj100 =>
                 have H := HA.out
                 clear HA
                 simp only [laws_FnExactDropPipe.j7] at H
                 have HC110 := Aside0.mk H
                 clear H
                 go_upto_if 79 with (fail)
                 go_cut [] (fun wc => ∃ (kq : Nat), Aside0 (laws_FnExactDropPipe.j8 kq a1 t251 t280 l0_0 l0_1 t245 t248 t281 t282 = some r) ∧ Aside0 (kq ≤ kj100) ∧ Aside0 (Kd.R (Kd.int .i64) 2 wc w.heap.size (fun k_ => some k_ ≠ ((.slice Ao29 t277.length co29) : Value).ownBlock ∧ some k_ ≠ ((.slice Ao36 t281.length co36) : Value).ownBlock) (.slice Ao22 t245.length co22) t245) ∧ Aside0 (Kd.R k42 42 wc w.heap.size (fun k_ => some k_ ≠ ((.slice Ao33 t278.length co33) : Value).ownBlock ∧ some k_ ≠ ((.slice Ao41 t282.length co41) : Value).ownBlock) (.slice Ao25 t248.length co25) t248) ∧ Aside0 (Kd.R (Kd.int .i64) 2 wc w.heap.size (fun k_ => some k_ ≠ ((.slice Ao22 t245.length co22) : Value).ownBlock ∧ some k_ ≠ ((.slice Ao36 t281.length co36) : Value).ownBlock) (.slice Ao29 t277.length co29) t277) ∧ Aside0 (Kd.R k42 42 wc w.heap.size (fun k_ => some k_ ≠ ((.slice Ao25 t248.length co25) : Value).ownBlock ∧ some k_ ≠ ((.slice Ao41 t282.length co41) : Value).ownBlock) (.slice Ao33 t278.length co33) t278) ∧ Aside0 (Kd.R (Kd.int .i64) 2 wc w.heap.size (fun k_ => some k_ ≠ ((.slice Ao22 t245.length co22) : Value).ownBlock ∧ some k_ ≠ ((.slice Ao29 t277.length co29) : Value).ownBlock) (.slice Ao36 t281.length co36) t281) ∧ Aside0 (Kd.R k42 42 wc w.heap.size (fun k_ => some k_ ≠ ((.slice Ao25 t248.length co25) : Value).ownBlock ∧ some k_ ≠ ((.slice Ao33 t278.length co33) : Value).ownBlock) (.slice Ao41 t282.length co41) t282) ∧ Aside0 (wc.heap[gb237]? = some (.cells #[(.slice A0_0 l0_0.length c0_0), (.slice A0_1 l0_1.length c0_1)] 25 (0, 0))) ∧ Aside0 (wc.heap[gb252]? = some (.cells #[(.slice Ao22 t245.length co22), (.slice Ao25 t248.length co25)] 29 (0, 0))) ∧ Aside0 (wc.heap[gb259]? = some (.cells #[(.slice Ao29 t277.length co29), (.slice Ao33 t278.length co33)] 29 (0, 0))) ∧ Aside0 (wc.heap[gb267]? = some (.cells #[(.slice Ao36 t281.length co36), (.slice Ao41 t282.length co41)] 29 (0, 0))) ∧ Aside0 (Below w.heap.size w wc))
                 case first =>
                  have H := HC110.out
                  clear HC110
                  by_cases c111 : t283 = t280
                  ·rw [if_pos c111] at H
                   have c111b0 : (t283 == t280) = true := beq_iff_eq.mpr c111
                   have c111b1 : (t283 != t280) = false := bne_eq_false_iff_eq.mpr c111
                   clear c111
                   (first | rw [c111b0] | (simp only [i64_w, i32_w]; rw [c111b0]) | rw [c111b2] | skip)
                   have H' := Aside0.mk H
                   clear H
                   go_wp2
                   go_meet
                   case rel => exact ⟨_, H', ⟨by have := HJ2.out; have := HJ6.out; have := HJ14.out; have := HJ59.out; have := HJ63.out; have := HJ71.out; have := HJ96.out; have := HJ100.out; first | omega | exact Nat.le_refl _⟩, ⟨by (try simp only [hl260000_71]); (try simp only [hl260001_71]); (try simp only [hl268000_100]); (try simp only [hl268001_100]); (with_reducible repeat (first | apply rA|apply rN|apply rW)); exact HO_253000.out⟩, ⟨by (try simp only [hl260000_71]); (try simp only [hl260001_71]); (try simp only [hl268000_100]); (try simp only [hl268001_100]); (with_reducible repeat (first | apply rA|apply rN|apply rW)); exact HO_253001.out⟩, ⟨by (try simp only [hl260000_71]); (try simp only [hl260001_71]); (try simp only [hl268000_100]); (try simp only [hl268001_100]); (with_reducible repeat (first | apply rA|apply rN|apply rW)); exact HO_260000.out⟩, ⟨by (try simp only [hl260000_71]); (try simp only [hl260001_71]); (try simp only [hl268000_100]); (try simp only [hl268001_100]); (with_reducible repeat (first | apply rA|apply rN|apply rW)); exact HO_260001.out⟩, ⟨by (try simp only [hl260000_71]); (try simp only [hl260001_71]); (try simp only [hl268000_100]); (try simp only [hl268001_100]); (with_reducible repeat (first | apply rA|apply rN|apply rW)); exact HO_268000.out⟩, ⟨by (try simp only [hl260000_71]); (try simp only [hl260001_71]); (try simp only [hl268000_100]); (try simp only [hl268001_100]); (with_reducible repeat (first | apply rA|apply rN|apply rW)); exact HO_268001.out⟩, ⟨by (try simp only [hl260000_71]); (try simp only [hl260001_71]); (try simp only [hl268000_100]); (try simp only [hl268001_100]); (with_reducible repeat (first | refine bN ?_ _|refine bW ?_|refine bA ?_ _)); exact BK237.out⟩, ⟨by (try simp only [hl260000_71]); (try simp only [hl260001_71]); (try simp only [hl268000_100]); (try simp only [hl268001_100]); (with_reducible repeat (first | refine bN ?_ _|refine bW ?_|refine bA ?_ _)); exact BK252.out⟩, ⟨by (try simp only [hl260000_71]); (try simp only [hl260001_71]); (try simp only [hl268000_100]); (try simp only [hl268001_100]); (with_reducible repeat (first | refine bN ?_ _|refine bW ?_|refine bA ?_ _)); exact BK259.out⟩, ⟨by (try simp only [hl260000_71]); (try simp only [hl260001_71]); (try simp only [hl268000_100]); (try simp only [hl268001_100]); (with_reducible repeat (first | refine bN ?_ _|refine bW ?_|refine bA ?_ _)); exact BK267.out⟩, ⟨by repeat (first | (with_reducible first | exact HB.out|apply wA|apply wN|apply wD |refine wS ?_ GE237.out |refine wS ?_ GE252.out |refine wS ?_ GE259.out |refine wS ?_ GE267.out) | exact HB.out)⟩⟩
                  ·rw [if_neg c111] at H
                   have c111b0 : (t283 == t280) = false := beq_eq_false_iff_ne.mpr c111
                   have c111b1 : (t283 != t280) = true := bne_iff_ne.mpr c111
                   (first | rw [c111b0] | (simp only [i64_w, i32_w]; rw [c111b0]) | rw [c111b2] | skip)
                   obtain rfl := Option.some.inj H
                   go_wp2
                   go_ret
                   exact ⟨by first | rfl | (simp [errW_none, errW_some] <;> rfl) | (simp [*, errW_none, errW_some] <;> rfl), by repeat (first | (with_reducible first | exact HB.out|apply wA|apply wN|apply wD |refine wS ?_ GE237.out |refine wS ?_ GE252.out |refine wS ?_ GE259.out |refine wS ?_ GE267.out) | exact HB.out)⟩
                 case rest =>
                  clear HC110
                  try clear c1
                  try clear c2
                  try clear p2
                  try clear c3
                  try clear c4
                  try clear c5
                  try clear c5b0
                  try clear c5b1
                  try clear c5b2
                  try clear c6
                  try clear c7
                  try clear c8
                  try clear c9
                  try clear c10
                  try clear c10b0
                  try clear c10b2
                  try clear c11
                  try clear c23
                  try clear c30
                  try clear c31
                  try clear c37
                  try clear c38
                  try clear c39
                  try clear c43
                  try clear c44
                  try clear c45
                  try clear c46
                  try clear c48
                  try clear c49
                  try clear c52
                  try clear c53
                  try clear c54
                  try clear c56
                  try clear c57
                  try clear c61
                  try clear c70
                  try clear c73
                  try clear c74
                  try clear c75
                  try clear c78
                  try clear c78b0
                  try clear c78b2
                  try clear c80
                  try clear c81
                  try clear c82
                  try clear c83
                  try clear c85
                  try clear c86
                  try clear c89
                  try clear c90
                  try clear c91
                  try clear c93
                  try clear c94
                  try clear c98
                  try clear c102
                  try clear c103
                  try clear c104
                  try clear c109
                  try clear c109b0
                  try clear c109b2
                  try clear c111
                  try clear c111b0
                  try clear c111b1
                  try clear c111b2
                  try clear hcz105_0
                  try clear hcz105_1
                  try clear hcz107_0
                  try clear hcz107_1
                  try clear hcz16_0
                  try clear hcz16_1
                  try clear hcz24_0
                  try clear hcz24_1
                  try clear hcz26_0
                  try clear hcz26_1
                  try clear hcz32_0
                  try clear hcz32_1
                  try clear hcz40_0
                  try clear hcz40_1
                  try clear hcz47_0
                  try clear hcz47_1
                  try clear hcz50_0
                  try clear hcz50_1
                  try clear hcz55_0
                  try clear hcz55_1
                  try clear hcz58_0
                  try clear hcz58_1
                  try clear hcz76_0
                  try clear hcz76_1
                  try clear hcz84_0
                  try clear hcz84_1
                  try clear hcz87_0
                  try clear hcz87_1
                  try clear hcz8_0
                  try clear hcz8_1
                  try clear hcz92_0
                  try clear hcz92_1
                  try clear hcz95_0
                  try clear hcz95_1
                  try clear hfz105_0
                  try clear hfz105_1
                  try clear hfz107_0
                  try clear hfz107_1
                  try clear hfz16_0
                  try clear hfz16_1
                  try clear hfz24_0
                  try clear hfz24_1
                  try clear hfz26_0
                  try clear hfz26_1
                  try clear hfz32_0
                  try clear hfz32_1
                  try clear hfz40_0
                  try clear hfz40_1
                  try clear hfz47_0
                  try clear hfz47_1
                  try clear hfz50_0
                  try clear hfz50_1
                  try clear hfz55_0
                  try clear hfz55_1
                  try clear hfz58_0
                  try clear hfz58_1
                  try clear hfz76_0
                  try clear hfz76_1
                  try clear hfz84_0
                  try clear hfz84_1
                  try clear hfz87_0
                  try clear hfz87_1
                  try clear hfz8_0
                  try clear hfz8_1
                  try clear hfz92_0
                  try clear hfz92_1
                  try clear hfz95_0
                  try clear hfz95_1
                  try clear p2
                  obtain ⟨kq, HA, HJ109, HO_253000, HO_253001, HO_260000, HO_260001, HO_268000, HO_268001, BK237, BK252, BK259, BK267, HB⟩ := hcut
                  cases kq with
                  | zero => exact absurd HA.out (by simp [laws_FnExactDropPipe.j8])
                  | succ kj109 =>
                   have H := HA.out
                   clear HA
                   simp only [laws_FnExactDropPipe.j8] at H
                   replace H := Option.bind_eq_some_iff.mp H
                   obtain ⟨⟨t284, t287⟩, A1120, H⟩ := H
                   replace H : ((impl_DropPipe.f t284 t287 a1).bind fun bt290 => ((laws_eqNetwork.f bt290.1 bt290.2.1 t245 t248).bind fun t298 => (if t298 = true then (laws_FnExactDropPipe.j9 kj109 t280 (bt290.2.2 != t251) t281 t282) else (laws_FnExactDropPipe.j9 kj109 t280 true t281 t282)))) = some r := H
                   have A112 := Aside0.mk A1120
                   clear A1120
                   replace H := Option.bind_eq_some_iff.mp H
                   obtain ⟨⟨t290, t293, t296⟩, A1130, H⟩ := H
                   replace H : ((laws_eqNetwork.f t290 t293 t245 t248).bind fun t298 => (if t298 = true then (laws_FnExactDropPipe.j9 kj109 t280 (t296 != t251) t281 t282) else (laws_FnExactDropPipe.j9 kj109 t280 true t281 t282))) = some r := H
                   have A113 := Aside0.mk A1130
                   clear A1130
                   have HC114 := Aside0.mk H
                   clear H
                   have hnb115 := NB237_252.out
                   have hnc115 := NB252_237.out
                   have hnb116 := NB237_259.out
                   have hnc116 := NB259_237.out
                   have hnb117 := NB237_267.out
                   have hnc117 := NB267_237.out
                   have hcz118_0 : wc.cell? ⟨gb237, 0, none⟩ = some (.slice A0_0 l0_0.length c0_0) := (blk_cell BK237.out 0).trans rfl
                   have hcz118_1 : wc.cell? ⟨gb237, 1, none⟩ = some (.slice A0_1 l0_1.length c0_1) := (blk_cell BK237.out 1).trans rfl
                   have hfz118_0 := blk_frozen BK237.out 0
                   have hfz118_1 := blk_frozen BK237.out 1
                   go_upto_region 27 with (first | ((with_reducible refine gate_callee (f := 6) rfl ?_); refine goesL_ (some 82) rfl rfl Try.func6 (by kernel_rfl) rfl #[.agg #[.slice A0_0 l0_0.length c0_0, .slice A0_1 l0_1.length c0_1]] rfl (by (try simp only [List.map_toArray, List.map_cons, List.map_nil]); first | done | rfl | (simp only [List.length_drop, List.length_take]; rfl)) ?_; (with_reducible refine (laws_toNetwork.calls _ _ l0_0 _ _ l0_1 t284 t287 _ ?side1 ?side2 ?side3 ?side4 A112.out).mono ?_); (case side1 => repeat (first | exact (Kd.C_below HR0_0.out HB.out) | (with_reducible first|refine Kd.C_alloc ?_ _|refine Kd.C_drewN ?_ _|refine Kd.C_drew ?_))); (case side2 => exact HC0_0.out); (case side3 => repeat (first | exact (Kd.C_below HR0_1.out HB.out) | (with_reducible first|refine Kd.C_alloc ?_ _|refine Kd.C_drewN ?_ _|refine Kd.C_drew ?_))); (case side4 => exact HC0_1.out); rintro e w119 ⟨v285, v288, rfl, ho0, ho1, hb⟩; refine ⟨_, rfl, ?_⟩; have n0_ := Aside0.mk (Kd.R_elder' (by (with_reducible repeat (first | apply rA|apply rN|apply rW)); exact HO_253000.out) (Kd.R_base ho0) hb); have n1_ := Aside0.mk (Kd.R_elder' (by (with_reducible repeat (first | apply rA|apply rN|apply rW)); exact HO_253001.out) (Kd.R_base ho1) hb); have n2_ := Aside0.mk (Kd.R_elder' (by (with_reducible repeat (first | apply rA|apply rN|apply rW)); exact HO_260000.out) (Kd.R_base ho0) hb); have n3_ := Aside0.mk (Kd.R_elder' (by (with_reducible repeat (first | apply rA|apply rN|apply rW)); exact HO_260001.out) (Kd.R_base ho1) hb); have n4_ := Aside0.mk (Kd.R_elder' (by (with_reducible repeat (first | apply rA|apply rN|apply rW)); exact HO_268000.out) (Kd.R_base ho0) hb); have n5_ := Aside0.mk (Kd.R_elder' (by (with_reducible repeat (first | apply rA|apply rN|apply rW)); exact HO_268001.out) (Kd.R_base ho1) hb); have n6_ := Aside0.mk (Kd.R_lower (Kd.R_new' (Kd.R_new' (Kd.R_new' ho0 (Kd.R_lt (by (with_reducible repeat (first | apply rA|apply rN|apply rW)); exact HO_253000.out))) (Kd.R_lt (by (with_reducible repeat (first | apply rA|apply rN|apply rW)); exact HO_260000.out))) (Kd.R_lt (by (with_reducible repeat (first | apply rA|apply rN|apply rW)); exact HO_268000.out))) (below_size (by repeat (first | (with_reducible first | exact HB.out|apply wA|apply wN|apply wD |refine wS ?_ GE237.out |refine wS ?_ GE252.out |refine wS ?_ GE259.out |refine wS ?_ GE267.out) | exact HB.out)))); have n7_ := Aside0.mk (Kd.R_lower (Kd.R_new' (Kd.R_new' (Kd.R_new' ho1 (Kd.R_lt (by (with_reducible repeat (first | apply rA|apply rN|apply rW)); exact HO_253001.out))) (Kd.R_lt (by (with_reducible repeat (first | apply rA|apply rN|apply rW)); exact HO_260001.out))) (Kd.R_lt (by (with_reducible repeat (first | apply rA|apply rN|apply rW)); exact HO_268001.out))) (below_size (by repeat (first | (with_reducible first | exact HB.out|apply wA|apply wN|apply wD |refine wS ?_ GE237.out |refine wS ?_ GE252.out |refine wS ?_ GE259.out |refine wS ?_ GE267.out) | exact HB.out)))); have n8_ := Aside0.mk (blk_below (g := gb237) (o := .cells #[.slice A0_0 l0_0.length c0_0, .slice A0_1 l0_1.length c0_1] 25 (0, 0)) (by (with_reducible repeat (first | refine bN ?_ _|refine bW ?_|refine bA ?_ _)); exact BK237.out) hb); have n9_ := Aside0.mk (blk_below (g := gb252) (o := .cells #[.slice Ao22 t245.length co22, .slice Ao25 t248.length co25] 29 (0, 0)) (by (with_reducible repeat (first | refine bN ?_ _|refine bW ?_|refine bA ?_ _)); exact BK252.out) hb); have n10_ := Aside0.mk (blk_below (g := gb259) (o := .cells #[.slice Ao29 t277.length co29, .slice Ao33 t278.length co33] 29 (0, 0)) (by (with_reducible repeat (first | refine bN ?_ _|refine bW ?_|refine bA ?_ _)); exact BK259.out) hb); have n11_ := Aside0.mk (blk_below (g := gb267) (o := .cells #[.slice Ao36 t281.length co36, .slice Ao41 t282.length co41] 29 (0, 0)) (by (with_reducible repeat (first | refine bN ?_ _|refine bW ?_|refine bA ?_ _)); exact BK267.out) hb); have n12_ := Aside0.mk (below_step (by repeat (first | (with_reducible first | exact HB.out|apply wA|apply wN|apply wD |refine wS ?_ GE237.out |refine wS ?_ GE252.out |refine wS ?_ GE259.out |refine wS ?_ GE267.out) | exact HB.out)) hb); clear HO_253000; clear HO_253001; clear HO_260000; clear HO_260001; clear HO_268000; clear HO_268001; clear BK237; clear BK252; clear BK259; clear BK267; clear HB; have HO_253000 := n0_; have HO_253001 := n1_; have HO_260000 := n2_; have HO_260001 := n3_; have HO_268000 := n4_; have HO_268001 := n5_; have HO286 := n6_; have HO289 := n7_; have BK237 := n8_; have BK252 := n9_; have BK259 := n10_; have BK267 := n11_; have HB := n12_; clear n0_ n1_ n2_ n3_ n4_ n5_ n6_ n7_ n8_ n9_ n10_ n11_ n12_; (try clear hb); (try clear hb2); (try clear hk); (try clear hi); (try clear ho0); (try clear ho1); obtain ⟨Ao120, co120, eo120⟩ := Kd.R_slice HO286.out; subst eo120; obtain ⟨Ao121, co121, eo121⟩ := Kd.R_slice HO289.out; subst eo121) | ((with_reducible refine gate_callee (f := 7) rfl ?_); refine goesL_ (some 84) rfl rfl Try.func7 (by kernel_rfl) rfl #[.agg #[.slice Ao120 t284.length co120, .slice Ao121 t287.length co121], .string a1] rfl (by (try simp only [List.map_toArray, List.map_cons, List.map_nil]); first | done | rfl | (simp only [List.length_drop, List.length_take]; rfl)) ?_; (with_reducible refine (impl_DropPipe.calls _ _ t284 _ _ t287 a1 t290 t293 t296 _ ?side1 ?side2 ?side3 ?side4 A113.out).mono ?_); (case side1 => repeat (first | exact (Kd.R_reads' HO286.out).2.2 | (with_reducible first|refine Kd.C_alloc ?_ _|refine Kd.C_drewN ?_ _|refine Kd.C_drew ?_))); (case side2 => exact (Kd.R_reads' HO286.out).2.1); (case side3 => repeat (first | exact (Kd.R_reads' HO289.out).2.2 | (with_reducible first|refine Kd.C_alloc ?_ _|refine Kd.C_drewN ?_ _|refine Kd.C_drew ?_))); (case side4 => exact (Kd.R_reads' HO289.out).2.1); rintro e w122 ⟨v291, v294, rfl, ho0, ho1, hb⟩; refine ⟨_, rfl, ?_⟩; have n0_ := Aside0.mk (Kd.R_elder' (by (with_reducible repeat (first | apply rA|apply rN|apply rW)); exact HO_253000.out) (Kd.R_base ho0) hb); have n1_ := Aside0.mk (Kd.R_elder' (by (with_reducible repeat (first | apply rA|apply rN|apply rW)); exact HO_253001.out) (Kd.R_base ho1) hb); have n2_ := Aside0.mk (Kd.R_elder' (by (with_reducible repeat (first | apply rA|apply rN|apply rW)); exact HO_260000.out) (Kd.R_base ho0) hb); have n3_ := Aside0.mk (Kd.R_elder' (by (with_reducible repeat (first | apply rA|apply rN|apply rW)); exact HO_260001.out) (Kd.R_base ho1) hb); have n4_ := Aside0.mk (Kd.R_elder' (by (with_reducible repeat (first | apply rA|apply rN|apply rW)); exact HO_268000.out) (Kd.R_base ho0) hb); have n5_ := Aside0.mk (Kd.R_elder' (by (with_reducible repeat (first | apply rA|apply rN|apply rW)); exact HO_268001.out) (Kd.R_base ho1) hb); have n6_ := Aside0.mk (Kd.R_elder' (by (with_reducible repeat (first | apply rA|apply rN|apply rW)); exact HO286.out) (Kd.R_base ho0) hb); have n7_ := Aside0.mk (Kd.R_elder' (by (with_reducible repeat (first | apply rA|apply rN|apply rW)); exact HO289.out) (Kd.R_base ho1) hb); have n8_ := Aside0.mk (Kd.R_lower (Kd.R_new' (Kd.R_new' (Kd.R_new' (Kd.R_new' ho0 (Kd.R_lt (by (with_reducible repeat (first | apply rA|apply rN|apply rW)); exact HO_253000.out))) (Kd.R_lt (by (with_reducible repeat (first | apply rA|apply rN|apply rW)); exact HO_260000.out))) (Kd.R_lt (by (with_reducible repeat (first | apply rA|apply rN|apply rW)); exact HO_268000.out))) (Kd.R_lt (by (with_reducible repeat (first | apply rA|apply rN|apply rW)); exact HO286.out))) (below_size (by repeat (first | (with_reducible first | exact HB.out|apply wA|apply wN|apply wD |refine wS ?_ GE237.out |refine wS ?_ GE252.out |refine wS ?_ GE259.out |refine wS ?_ GE267.out) | exact HB.out)))); have n9_ := Aside0.mk (Kd.R_lower (Kd.R_new' (Kd.R_new' (Kd.R_new' (Kd.R_new' ho1 (Kd.R_lt (by (with_reducible repeat (first | apply rA|apply rN|apply rW)); exact HO_253001.out))) (Kd.R_lt (by (with_reducible repeat (first | apply rA|apply rN|apply rW)); exact HO_260001.out))) (Kd.R_lt (by (with_reducible repeat (first | apply rA|apply rN|apply rW)); exact HO_268001.out))) (Kd.R_lt (by (with_reducible repeat (first | apply rA|apply rN|apply rW)); exact HO289.out))) (below_size (by repeat (first | (with_reducible first | exact HB.out|apply wA|apply wN|apply wD |refine wS ?_ GE237.out |refine wS ?_ GE252.out |refine wS ?_ GE259.out |refine wS ?_ GE267.out) | exact HB.out)))); have n10_ := Aside0.mk (blk_below (g := gb237) (o := .cells #[.slice A0_0 l0_0.length c0_0, .slice A0_1 l0_1.length c0_1] 25 (0, 0)) (by (with_reducible repeat (first | refine bN ?_ _|refine bW ?_|refine bA ?_ _)); exact BK237.out) hb); have n11_ := Aside0.mk (blk_below (g := gb252) (o := .cells #[.slice Ao22 t245.length co22, .slice Ao25 t248.length co25] 29 (0, 0)) (by (with_reducible repeat (first | refine bN ?_ _|refine bW ?_|refine bA ?_ _)); exact BK252.out) hb); have n12_ := Aside0.mk (blk_below (g := gb259) (o := .cells #[.slice Ao29 t277.length co29, .slice Ao33 t278.length co33] 29 (0, 0)) (by (with_reducible repeat (first | refine bN ?_ _|refine bW ?_|refine bA ?_ _)); exact BK259.out) hb); have n13_ := Aside0.mk (blk_below (g := gb267) (o := .cells #[.slice Ao36 t281.length co36, .slice Ao41 t282.length co41] 29 (0, 0)) (by (with_reducible repeat (first | refine bN ?_ _|refine bW ?_|refine bA ?_ _)); exact BK267.out) hb); have n14_ := Aside0.mk (below_step (by repeat (first | (with_reducible first | exact HB.out|apply wA|apply wN|apply wD |refine wS ?_ GE237.out |refine wS ?_ GE252.out |refine wS ?_ GE259.out |refine wS ?_ GE267.out) | exact HB.out)) hb); clear HO_253000; clear HO_253001; clear HO_260000; clear HO_260001; clear HO_268000; clear HO_268001; clear HO286; clear HO289; clear BK237; clear BK252; clear BK259; clear BK267; clear HB; have HO_253000 := n0_; have HO_253001 := n1_; have HO_260000 := n2_; have HO_260001 := n3_; have HO_268000 := n4_; have HO_268001 := n5_; have HO286 := n6_; have HO289 := n7_; have HO292 := n8_; have HO295 := n9_; have BK237 := n10_; have BK252 := n11_; have BK259 := n12_; have BK267 := n13_; have HB := n14_; clear n0_ n1_ n2_ n3_ n4_ n5_ n6_ n7_ n8_ n9_ n10_ n11_ n12_ n13_ n14_; (try clear hb); (try clear hb2); (try clear hk); (try clear hi); (try clear ho0); (try clear ho1)) | ((with_reducible refine gate_dst (N := 14) rfl ?_); refine box_event ?hg (N := 14) ?hd (cs := #[.slice none 0 0, .slice none 0 0]) (t := 29) ?hr ?_; (case hd => rfl); (case hg => rfl); (case hr => first | (go_simp; done) | (go_simp; rfl)); intro gb297 hg w123 hbox hb; have n0_ := Aside0.mk (Kd.R_below (by (with_reducible repeat (first | apply rA|apply rN|apply rW)); exact HO_253000.out) hb); have n1_ := Aside0.mk (Kd.R_below (by (with_reducible repeat (first | apply rA|apply rN|apply rW)); exact HO_253001.out) hb); have n2_ := Aside0.mk (Kd.R_below (by (with_reducible repeat (first | apply rA|apply rN|apply rW)); exact HO_260000.out) hb); have n3_ := Aside0.mk (Kd.R_below (by (with_reducible repeat (first | apply rA|apply rN|apply rW)); exact HO_260001.out) hb); have n4_ := Aside0.mk (Kd.R_below (by (with_reducible repeat (first | apply rA|apply rN|apply rW)); exact HO_268000.out) hb); have n5_ := Aside0.mk (Kd.R_below (by (with_reducible repeat (first | apply rA|apply rN|apply rW)); exact HO_268001.out) hb); have n6_ := Aside0.mk (Kd.R_below (by (with_reducible repeat (first | apply rA|apply rN|apply rW)); exact HO286.out) hb); have n7_ := Aside0.mk (Kd.R_below (by (with_reducible repeat (first | apply rA|apply rN|apply rW)); exact HO289.out) hb); have n8_ := Aside0.mk (Kd.R_below (by (with_reducible repeat (first | apply rA|apply rN|apply rW)); exact HO292.out) hb); have n9_ := Aside0.mk (Kd.R_below (by (with_reducible repeat (first | apply rA|apply rN|apply rW)); exact HO295.out) hb); have n10_ := Aside0.mk (blk_below (g := gb237) (o := .cells #[.slice A0_0 l0_0.length c0_0, .slice A0_1 l0_1.length c0_1] 25 (0, 0)) (by (with_reducible repeat (first | refine bN ?_ _|refine bW ?_|refine bA ?_ _)); exact BK237.out) hb); have n11_ := Aside0.mk (blk_below (g := gb252) (o := .cells #[.slice Ao22 t245.length co22, .slice Ao25 t248.length co25] 29 (0, 0)) (by (with_reducible repeat (first | refine bN ?_ _|refine bW ?_|refine bA ?_ _)); exact BK252.out) hb); have n12_ := Aside0.mk (blk_below (g := gb259) (o := .cells #[.slice Ao29 t277.length co29, .slice Ao33 t278.length co33] 29 (0, 0)) (by (with_reducible repeat (first | refine bN ?_ _|refine bW ?_|refine bA ?_ _)); exact BK259.out) hb); have n13_ := Aside0.mk (blk_below (g := gb267) (o := .cells #[.slice Ao36 t281.length co36, .slice Ao41 t282.length co41] 29 (0, 0)) (by (with_reducible repeat (first | refine bN ?_ _|refine bW ?_|refine bA ?_ _)); exact BK267.out) hb); have n14_ := Aside0.mk (below_step (by repeat (first | (with_reducible first | exact HB.out|apply wA|apply wN|apply wD |refine wS ?_ GE237.out |refine wS ?_ GE252.out |refine wS ?_ GE259.out |refine wS ?_ GE267.out) | exact HB.out)) hb); have n15_ := Aside0.mk (hbox); have n16_ := Aside0.mk ((by rw [hg]; exact (below_size (by repeat (first | (with_reducible first | exact HB.out|apply wA|apply wN|apply wD |refine wS ?_ GE237.out |refine wS ?_ GE252.out |refine wS ?_ GE259.out |refine wS ?_ GE267.out) | exact HB.out))) : w.heap.size ≤ gb297)); have n17_ := Aside0.mk ((by rw [hg]; exact (below_size (by repeat (first | (with_reducible first | exact HB.out|apply wA|apply wN|apply wD |refine wS ?_ GE237.out |refine wS ?_ GE252.out |refine wS ?_ GE259.out |refine wS ?_ GE267.out) | exact HB.out))) : w.heap.size ≤ gb297)); have n18_ := Aside0.mk ((by rw [hg]; exact Nat.ne_of_lt (blk_lt (g := gb237) (o := .cells #[.slice A0_0 l0_0.length c0_0, .slice A0_1 l0_1.length c0_1] 25 (0, 0)) (by (with_reducible repeat (first | refine bN ?_ _|refine bW ?_|refine bA ?_ _)); exact BK237.out)) : gb237 ≠ gb297)); have n19_ := Aside0.mk ((by rw [hg]; exact Nat.ne_of_gt (blk_lt (g := gb237) (o := .cells #[.slice A0_0 l0_0.length c0_0, .slice A0_1 l0_1.length c0_1] 25 (0, 0)) (by (with_reducible repeat (first | refine bN ?_ _|refine bW ?_|refine bA ?_ _)); exact BK237.out)) : gb297 ≠ gb237)); have n20_ := Aside0.mk ((by rw [hg]; exact Nat.ne_of_lt (blk_lt (g := gb252) (o := .cells #[.slice Ao22 t245.length co22, .slice Ao25 t248.length co25] 29 (0, 0)) (by (with_reducible repeat (first | refine bN ?_ _|refine bW ?_|refine bA ?_ _)); exact BK252.out)) : gb252 ≠ gb297)); have n21_ := Aside0.mk ((by rw [hg]; exact Nat.ne_of_gt (blk_lt (g := gb252) (o := .cells #[.slice Ao22 t245.length co22, .slice Ao25 t248.length co25] 29 (0, 0)) (by (with_reducible repeat (first | refine bN ?_ _|refine bW ?_|refine bA ?_ _)); exact BK252.out)) : gb297 ≠ gb252)); have n22_ := Aside0.mk ((by rw [hg]; exact Nat.ne_of_lt (blk_lt (g := gb259) (o := .cells #[.slice Ao29 t277.length co29, .slice Ao33 t278.length co33] 29 (0, 0)) (by (with_reducible repeat (first | refine bN ?_ _|refine bW ?_|refine bA ?_ _)); exact BK259.out)) : gb259 ≠ gb297)); have n23_ := Aside0.mk ((by rw [hg]; exact Nat.ne_of_gt (blk_lt (g := gb259) (o := .cells #[.slice Ao29 t277.length co29, .slice Ao33 t278.length co33] 29 (0, 0)) (by (with_reducible repeat (first | refine bN ?_ _|refine bW ?_|refine bA ?_ _)); exact BK259.out)) : gb297 ≠ gb259)); have n24_ := Aside0.mk ((by rw [hg]; exact Nat.ne_of_lt (blk_lt (g := gb267) (o := .cells #[.slice Ao36 t281.length co36, .slice Ao41 t282.length co41] 29 (0, 0)) (by (with_reducible repeat (first | refine bN ?_ _|refine bW ?_|refine bA ?_ _)); exact BK267.out)) : gb267 ≠ gb297)); have n25_ := Aside0.mk ((by rw [hg]; exact Nat.ne_of_gt (blk_lt (g := gb267) (o := .cells #[.slice Ao36 t281.length co36, .slice Ao41 t282.length co41] 29 (0, 0)) (by (with_reducible repeat (first | refine bN ?_ _|refine bW ?_|refine bA ?_ _)); exact BK267.out)) : gb297 ≠ gb267)); clear HO_253000; clear HO_253001; clear HO_260000; clear HO_260001; clear HO_268000; clear HO_268001; clear HO286; clear HO289; clear HO292; clear HO295; clear BK237; clear BK252; clear BK259; clear BK267; clear HB; have HO_253000 := n0_; have HO_253001 := n1_; have HO_260000 := n2_; have HO_260001 := n3_; have HO_268000 := n4_; have HO_268001 := n5_; have HO286 := n6_; have HO289 := n7_; have HO292 := n8_; have HO295 := n9_; have BK237 := n10_; have BK252 := n11_; have BK259 := n12_; have BK267 := n13_; have HB := n14_; have BK297 := n15_; have GW297 := n16_; have GE297 := n17_; have NB237_297 := n18_; have NB297_237 := n19_; have NB252_297 := n20_; have NB297_252 := n21_; have NB259_297 := n22_; have NB297_259 := n23_; have NB267_297 := n24_; have NB297_267 := n25_; clear n0_ n1_ n2_ n3_ n4_ n5_ n6_ n7_ n8_ n9_ n10_ n11_ n12_ n13_ n14_ n15_ n16_ n17_ n18_ n19_ n20_ n21_ n22_ n23_ n24_ n25_; clear hb hbox hg; obtain ⟨Ao124, co124, eo124⟩ := Kd.R_slice HO292.out; subst eo124; have hnb125 := NB297_237.out; have hnc125 := NB237_297.out; have hnb126 := NB297_252.out; have hnc126 := NB252_297.out; have hnb127 := NB297_259.out; have hnc127 := NB259_297.out; have hnb128 := NB297_267.out; have hnc128 := NB267_297.out; have hcz129_0 : w123.cell? ⟨gb297, 0, none⟩ = some (.slice none 0 0) := (blk_cell BK297.out 0).trans rfl; have hcz129_1 : w123.cell? ⟨gb297, 1, none⟩ = some (.slice none 0 0) := (blk_cell BK297.out 1).trans rfl; have hfz129_0 := blk_frozen BK297.out 0; have hfz129_1 := blk_frozen BK297.out 1; obtain ⟨Ao130, co130, eo130⟩ := Kd.R_slice HO295.out; subst eo130))
                   (try simp only [Act.put, List.setIfInBounds_toArray, List.set_cons_zero, List.set_cons_succ])
                   go_cut [95] (fun v95 wc => ∃ (kq : Nat) (x95_113 : Bool), v95 = .bool x95_113 ∧ Aside0 (laws_FnExactDropPipe.j9 kq t280 x95_113 t281 t282 = some r) ∧ Aside0 (kq ≤ kj109) ∧ Aside0 (Kd.R (Kd.int .i64) 2 wc w.heap.size (fun k_ => some k_ ≠ ((.slice Ao29 t277.length co29) : Value).ownBlock ∧ some k_ ≠ ((.slice Ao36 t281.length co36) : Value).ownBlock ∧ some k_ ≠ ((.slice Ao124 t290.length co124) : Value).ownBlock) (.slice Ao22 t245.length co22) t245) ∧ Aside0 (Kd.R k42 42 wc w.heap.size (fun k_ => some k_ ≠ ((.slice Ao33 t278.length co33) : Value).ownBlock ∧ some k_ ≠ ((.slice Ao41 t282.length co41) : Value).ownBlock ∧ some k_ ≠ ((.slice Ao130 t293.length co130) : Value).ownBlock) (.slice Ao25 t248.length co25) t248) ∧ Aside0 (Kd.R (Kd.int .i64) 2 wc w.heap.size (fun k_ => some k_ ≠ ((.slice Ao22 t245.length co22) : Value).ownBlock ∧ some k_ ≠ ((.slice Ao36 t281.length co36) : Value).ownBlock ∧ some k_ ≠ ((.slice Ao124 t290.length co124) : Value).ownBlock) (.slice Ao29 t277.length co29) t277) ∧ Aside0 (Kd.R k42 42 wc w.heap.size (fun k_ => some k_ ≠ ((.slice Ao25 t248.length co25) : Value).ownBlock ∧ some k_ ≠ ((.slice Ao41 t282.length co41) : Value).ownBlock ∧ some k_ ≠ ((.slice Ao130 t293.length co130) : Value).ownBlock) (.slice Ao33 t278.length co33) t278) ∧ Aside0 (Kd.R (Kd.int .i64) 2 wc w.heap.size (fun k_ => some k_ ≠ ((.slice Ao22 t245.length co22) : Value).ownBlock ∧ some k_ ≠ ((.slice Ao29 t277.length co29) : Value).ownBlock ∧ some k_ ≠ ((.slice Ao124 t290.length co124) : Value).ownBlock) (.slice Ao36 t281.length co36) t281) ∧ Aside0 (Kd.R k42 42 wc w.heap.size (fun k_ => some k_ ≠ ((.slice Ao25 t248.length co25) : Value).ownBlock ∧ some k_ ≠ ((.slice Ao33 t278.length co33) : Value).ownBlock ∧ some k_ ≠ ((.slice Ao130 t293.length co130) : Value).ownBlock) (.slice Ao41 t282.length co41) t282) ∧ Aside0 (Kd.R (Kd.int .i64) 2 wc w.heap.size (fun k_ => some k_ ≠ ((.slice Ao22 t245.length co22) : Value).ownBlock ∧ some k_ ≠ ((.slice Ao29 t277.length co29) : Value).ownBlock ∧ some k_ ≠ ((.slice Ao36 t281.length co36) : Value).ownBlock) (.slice Ao124 t290.length co124) t290) ∧ Aside0 (Kd.R k42 42 wc w.heap.size (fun k_ => some k_ ≠ ((.slice Ao25 t248.length co25) : Value).ownBlock ∧ some k_ ≠ ((.slice Ao33 t278.length co33) : Value).ownBlock ∧ some k_ ≠ ((.slice Ao41 t282.length co41) : Value).ownBlock) (.slice Ao130 t293.length co130) t293) ∧ Aside0 (wc.heap[gb237]? = some (.cells #[(.slice A0_0 l0_0.length c0_0), (.slice A0_1 l0_1.length c0_1)] 25 (0, 0))) ∧ Aside0 (wc.heap[gb252]? = some (.cells #[(.slice Ao22 t245.length co22), (.slice Ao25 t248.length co25)] 29 (0, 0))) ∧ Aside0 (wc.heap[gb259]? = some (.cells #[(.slice Ao29 t277.length co29), (.slice Ao33 t278.length co33)] 29 (0, 0))) ∧ Aside0 (wc.heap[gb267]? = some (.cells #[(.slice Ao36 t281.length co36), (.slice Ao41 t282.length co41)] 29 (0, 0))) ∧ Aside0 (wc.heap[gb297]? = some (.cells #[(.slice Ao124 t290.length co124), (.slice Ao130 t293.length co130)] 29 (0, 0))) ∧ Aside0 (Below w.heap.size w wc))
                   case first =>
                    have H := HC114.out
                    clear HC114
                    replace H := Option.bind_eq_some_iff.mp H
                    obtain ⟨t298, A1310, H⟩ := H
                    replace H : (if t298 = true then (laws_FnExactDropPipe.j9 kj109 t280 (t296 != t251) t281 t282) else (laws_FnExactDropPipe.j9 kj109 t280 true t281 t282)) = some r := H
                    have A131 := Aside0.mk A1310
                    clear A1310
                    by_cases c132 : t298 = true
                    ·subst c132
                     have H1 : (laws_FnExactDropPipe.j9 kj109 t280 (t296 != t251) t281 t282) = some r := by rw [if_pos rfl] at H; exact H
                     clear H
                     have H := H1
                     clear H1
                     have H' := Aside0.mk H
                     clear H
                     have hnb133 := NB297_237.out
                     have hnc133 := NB237_297.out
                     have hnb134 := NB297_252.out
                     have hnc134 := NB252_297.out
                     have hnb135 := NB297_259.out
                     have hnc135 := NB259_297.out
                     have hnb136 := NB297_267.out
                     have hnc136 := NB267_297.out
                     have hcz137_0 : w123.cell? ⟨gb297, 0, none⟩ = some (.slice none 0 0) := (blk_cell BK297.out 0).trans rfl
                     have hcz137_1 : w123.cell? ⟨gb297, 1, none⟩ = some (.slice none 0 0) := (blk_cell BK297.out 1).trans rfl
                     have hfz137_0 := blk_frozen BK297.out 0
                     have hfz137_1 := blk_frozen BK297.out 1
                     have hnb138 := NB252_237.out
                     have hnc138 := NB237_252.out
                     have hnb139 := NB252_259.out
                     have hnc139 := NB259_252.out
                     have hnb140 := NB252_267.out
                     have hnc140 := NB267_252.out
                     have hcz141_0 : w123.cell? ⟨gb252, 0, none⟩ = some (.slice Ao22 t245.length co22) := (blk_cell BK252.out 0).trans rfl
                     have hcz141_1 : w123.cell? ⟨gb252, 1, none⟩ = some (.slice Ao25 t248.length co25) := (blk_cell BK252.out 1).trans rfl
                     have hfz141_0 := blk_frozen BK252.out 0
                     have hfz141_1 := blk_frozen BK252.out 1
                     go_wp2_with (first | ((with_reducible refine gate_callee (f := 8) rfl ?_); refine goesL_ (some 89) rfl rfl Try.func8 (by kernel_rfl) rfl #[.agg #[.slice Ao124 t290.length co124, .slice Ao130 t293.length co130], .agg #[.slice Ao22 t245.length co22, .slice Ao25 t248.length co25]] rfl (by (try simp only [List.map_toArray, List.map_cons, List.map_nil]); first | done | rfl | (simp only [List.length_drop, List.length_take]; rfl)) ?_; (with_reducible refine (laws_eqNetwork.calls _ _ t290 _ _ t293 _ _ t245 _ _ t248 true _ ?side1 ?side2 ?side3 ?side4 ?side5 ?side6 ?side7 ?side8 A131.out).mono ?_); (case side1 => refine (Kd.R_reads' (e := 2) (base := w.heap.size) (ok := fun k_ => ((((True ∧ some k_ ≠ (.slice Ao22 t245.length co22 : Value).ownBlock) ∧ some k_ ≠ (.slice Ao29 t277.length co29 : Value).ownBlock) ∧ some k_ ≠ (.slice Ao36 t281.length co36 : Value).ownBlock) ∧ some k_ ≠ (.slice Ao120 t284.length co120 : Value).ownBlock)) (n := t290.length) (c := co124) ?_).2.2; exact (by (with_reducible repeat (first | apply rA|apply rN|apply rW)); exact (Kd.R_mono (Kd.R_far (p := ⟨gb297, 1, none⟩) (Kd.R_far (p := ⟨gb297, 0, none⟩) (Kd.R_types HO292.out BK297.out (by decide)) (fun _ hk => hk.2) (.slice Ao124 t290.length co124)) (fun _ hk => hk.2) (.slice Ao130 t293.length co130)) (fun _ h_ => h_.1)))); (case side2 => exact (Kd.R_reads' HO292.out).2.1); (case side3 => refine (Kd.R_reads' (e := 42) (base := w.heap.size) (ok := fun k_ => ((((True ∧ some k_ ≠ (.slice Ao25 t248.length co25 : Value).ownBlock) ∧ some k_ ≠ (.slice Ao33 t278.length co33 : Value).ownBlock) ∧ some k_ ≠ (.slice Ao41 t282.length co41 : Value).ownBlock) ∧ some k_ ≠ (.slice Ao121 t287.length co121 : Value).ownBlock)) (n := t293.length) (c := co130) ?_).2.2; exact (by (with_reducible repeat (first | apply rA|apply rN|apply rW)); exact (Kd.R_mono (Kd.R_far (p := ⟨gb297, 1, none⟩) (Kd.R_far (p := ⟨gb297, 0, none⟩) (Kd.R_types HO295.out BK297.out (by decide)) (fun _ hk => hk.2) (.slice Ao124 t290.length co124)) (fun _ hk => hk.2) (.slice Ao130 t293.length co130)) (fun _ h_ => h_.1)))); (case side4 => exact (Kd.R_reads' HO295.out).2.1); (case side5 => refine (Kd.R_reads' (e := 2) (base := w.heap.size) (ok := fun k_ => (((some k_ ≠ (.slice Ao29 t277.length co29 : Value).ownBlock ∧ some k_ ≠ (.slice Ao36 t281.length co36 : Value).ownBlock) ∧ some k_ ≠ (.slice Ao120 t284.length co120 : Value).ownBlock) ∧ some k_ ≠ (.slice Ao124 t290.length co124 : Value).ownBlock)) (n := t245.length) (c := co22) ?_).2.2; exact (by (with_reducible repeat (first | apply rA|apply rN|apply rW)); exact (Kd.R_mono (Kd.R_far (p := ⟨gb297, 1, none⟩) (Kd.R_far (p := ⟨gb297, 0, none⟩) (Kd.R_types HO_253000.out BK297.out (by decide)) (fun _ hk => hk.2) (.slice Ao124 t290.length co124)) (fun _ hk => hk.2) (.slice Ao130 t293.length co130)) (fun _ h_ => h_.1)))); (case side6 => exact (Kd.R_reads' HO_253000.out).2.1); (case side7 => refine (Kd.R_reads' (e := 42) (base := w.heap.size) (ok := fun k_ => (((some k_ ≠ (.slice Ao33 t278.length co33 : Value).ownBlock ∧ some k_ ≠ (.slice Ao41 t282.length co41 : Value).ownBlock) ∧ some k_ ≠ (.slice Ao121 t287.length co121 : Value).ownBlock) ∧ some k_ ≠ (.slice Ao130 t293.length co130 : Value).ownBlock)) (n := t248.length) (c := co25) ?_).2.2; exact (by (with_reducible repeat (first | apply rA|apply rN|apply rW)); exact (Kd.R_mono (Kd.R_far (p := ⟨gb297, 1, none⟩) (Kd.R_far (p := ⟨gb297, 0, none⟩) (Kd.R_types HO_253001.out BK297.out (by decide)) (fun _ hk => hk.2) (.slice Ao124 t290.length co124)) (fun _ hk => hk.2) (.slice Ao130 t293.length co130)) (fun _ h_ => h_.1)))); (case side8 => exact (Kd.R_reads' HO_253001.out).2.1); rintro e w142 ⟨rfl, hb⟩; refine ⟨_, rfl, ?_⟩; have n0_ := Aside0.mk (Kd.R_below (by (with_reducible repeat (first | apply rA|apply rN|apply rW)); exact (Kd.R_mono (Kd.R_far (p := ⟨gb297, 1, none⟩) (Kd.R_far (p := ⟨gb297, 0, none⟩) (Kd.R_types HO_253000.out BK297.out (by decide)) (fun _ hk => hk.2) (.slice Ao124 t290.length co124)) (fun _ hk => hk.2) (.slice Ao130 t293.length co130)) (fun _ h_ => h_.1))) hb); have n1_ := Aside0.mk (Kd.R_below (by (with_reducible repeat (first | apply rA|apply rN|apply rW)); exact (Kd.R_mono (Kd.R_far (p := ⟨gb297, 1, none⟩) (Kd.R_far (p := ⟨gb297, 0, none⟩) (Kd.R_types HO_253001.out BK297.out (by decide)) (fun _ hk => hk.2) (.slice Ao124 t290.length co124)) (fun _ hk => hk.2) (.slice Ao130 t293.length co130)) (fun _ h_ => h_.1))) hb); have n2_ := Aside0.mk (Kd.R_below (by (with_reducible repeat (first | apply rA|apply rN|apply rW)); exact (Kd.R_mono (Kd.R_far (p := ⟨gb297, 1, none⟩) (Kd.R_far (p := ⟨gb297, 0, none⟩) (Kd.R_types HO_260000.out BK297.out (by decide)) (fun _ hk => hk.2) (.slice Ao124 t290.length co124)) (fun _ hk => hk.2) (.slice Ao130 t293.length co130)) (fun _ h_ => h_.1))) hb); have n3_ := Aside0.mk (Kd.R_below (by (with_reducible repeat (first | apply rA|apply rN|apply rW)); exact (Kd.R_mono (Kd.R_far (p := ⟨gb297, 1, none⟩) (Kd.R_far (p := ⟨gb297, 0, none⟩) (Kd.R_types HO_260001.out BK297.out (by decide)) (fun _ hk => hk.2) (.slice Ao124 t290.length co124)) (fun _ hk => hk.2) (.slice Ao130 t293.length co130)) (fun _ h_ => h_.1))) hb); have n4_ := Aside0.mk (Kd.R_below (by (with_reducible repeat (first | apply rA|apply rN|apply rW)); exact (Kd.R_mono (Kd.R_far (p := ⟨gb297, 1, none⟩) (Kd.R_far (p := ⟨gb297, 0, none⟩) (Kd.R_types HO_268000.out BK297.out (by decide)) (fun _ hk => hk.2) (.slice Ao124 t290.length co124)) (fun _ hk => hk.2) (.slice Ao130 t293.length co130)) (fun _ h_ => h_.1))) hb); have n5_ := Aside0.mk (Kd.R_below (by (with_reducible repeat (first | apply rA|apply rN|apply rW)); exact (Kd.R_mono (Kd.R_far (p := ⟨gb297, 1, none⟩) (Kd.R_far (p := ⟨gb297, 0, none⟩) (Kd.R_types HO_268001.out BK297.out (by decide)) (fun _ hk => hk.2) (.slice Ao124 t290.length co124)) (fun _ hk => hk.2) (.slice Ao130 t293.length co130)) (fun _ h_ => h_.1))) hb); have n6_ := Aside0.mk (Kd.R_below (by (with_reducible repeat (first | apply rA|apply rN|apply rW)); exact (Kd.R_mono (Kd.R_far (p := ⟨gb297, 1, none⟩) (Kd.R_far (p := ⟨gb297, 0, none⟩) (Kd.R_types HO286.out BK297.out (by decide)) (fun _ hk => hk.2) (.slice Ao124 t290.length co124)) (fun _ hk => hk.2) (.slice Ao130 t293.length co130)) (fun _ h_ => h_.1))) hb); have n7_ := Aside0.mk (Kd.R_below (by (with_reducible repeat (first | apply rA|apply rN|apply rW)); exact (Kd.R_mono (Kd.R_far (p := ⟨gb297, 1, none⟩) (Kd.R_far (p := ⟨gb297, 0, none⟩) (Kd.R_types HO289.out BK297.out (by decide)) (fun _ hk => hk.2) (.slice Ao124 t290.length co124)) (fun _ hk => hk.2) (.slice Ao130 t293.length co130)) (fun _ h_ => h_.1))) hb); have n8_ := Aside0.mk (Kd.R_below (by (with_reducible repeat (first | apply rA|apply rN|apply rW)); exact (Kd.R_mono (Kd.R_far (p := ⟨gb297, 1, none⟩) (Kd.R_far (p := ⟨gb297, 0, none⟩) (Kd.R_types HO292.out BK297.out (by decide)) (fun _ hk => hk.2) (.slice Ao124 t290.length co124)) (fun _ hk => hk.2) (.slice Ao130 t293.length co130)) (fun _ h_ => h_.1))) hb); have n9_ := Aside0.mk (Kd.R_below (by (with_reducible repeat (first | apply rA|apply rN|apply rW)); exact (Kd.R_mono (Kd.R_far (p := ⟨gb297, 1, none⟩) (Kd.R_far (p := ⟨gb297, 0, none⟩) (Kd.R_types HO295.out BK297.out (by decide)) (fun _ hk => hk.2) (.slice Ao124 t290.length co124)) (fun _ hk => hk.2) (.slice Ao130 t293.length co130)) (fun _ h_ => h_.1))) hb); have n10_ := Aside0.mk (blk_below (g := gb237) (o := .cells #[.slice A0_0 l0_0.length c0_0, .slice A0_1 l0_1.length c0_1] 25 (0, 0)) (by (with_reducible repeat (first | refine bN ?_ _|refine bW ?_|refine bA ?_ _)); refine blk_far ?_ NB237_297.out _; (with_reducible repeat (first | refine bN ?_ _|refine bW ?_|refine bA ?_ _)); refine blk_far ?_ NB237_297.out _; (with_reducible repeat (first | refine bN ?_ _|refine bW ?_|refine bA ?_ _)); exact BK237.out) hb); have n11_ := Aside0.mk (blk_below (g := gb252) (o := .cells #[.slice Ao22 t245.length co22, .slice Ao25 t248.length co25] 29 (0, 0)) (by (with_reducible repeat (first | refine bN ?_ _|refine bW ?_|refine bA ?_ _)); refine blk_far ?_ NB252_297.out _; (with_reducible repeat (first | refine bN ?_ _|refine bW ?_|refine bA ?_ _)); refine blk_far ?_ NB252_297.out _; (with_reducible repeat (first | refine bN ?_ _|refine bW ?_|refine bA ?_ _)); exact BK252.out) hb); have n12_ := Aside0.mk (blk_below (g := gb259) (o := .cells #[.slice Ao29 t277.length co29, .slice Ao33 t278.length co33] 29 (0, 0)) (by (with_reducible repeat (first | refine bN ?_ _|refine bW ?_|refine bA ?_ _)); refine blk_far ?_ NB259_297.out _; (with_reducible repeat (first | refine bN ?_ _|refine bW ?_|refine bA ?_ _)); refine blk_far ?_ NB259_297.out _; (with_reducible repeat (first | refine bN ?_ _|refine bW ?_|refine bA ?_ _)); exact BK259.out) hb); have n13_ := Aside0.mk (blk_below (g := gb267) (o := .cells #[.slice Ao36 t281.length co36, .slice Ao41 t282.length co41] 29 (0, 0)) (by (with_reducible repeat (first | refine bN ?_ _|refine bW ?_|refine bA ?_ _)); refine blk_far ?_ NB267_297.out _; (with_reducible repeat (first | refine bN ?_ _|refine bW ?_|refine bA ?_ _)); refine blk_far ?_ NB267_297.out _; (with_reducible repeat (first | refine bN ?_ _|refine bW ?_|refine bA ?_ _)); exact BK267.out) hb); have n14_ := Aside0.mk (blk_below (g := gb297) (o := .cells #[.slice Ao124 t290.length co124, .slice Ao130 t293.length co130] 29 (0, 0)) (by (with_reducible repeat (first | refine bN ?_ _|refine bW ?_|refine bA ?_ _)); refine blk_put (cs := #[.slice Ao124 t290.length co124, .slice none 0 0]) ?_ 1 _ rfl; (with_reducible repeat (first | refine bN ?_ _|refine bW ?_|refine bA ?_ _)); refine blk_put (cs := #[.slice none 0 0, .slice none 0 0]) ?_ 0 _ rfl; (with_reducible repeat (first | refine bN ?_ _|refine bW ?_|refine bA ?_ _)); exact BK297.out) hb); have n15_ := Aside0.mk (below_step (by repeat (first | (with_reducible first | exact HB.out|apply wA|apply wN|apply wD |refine wS ?_ GE237.out |refine wS ?_ GE252.out |refine wS ?_ GE259.out |refine wS ?_ GE267.out |refine wS ?_ GE297.out) | exact HB.out)) hb); clear HO_253000; clear HO_253001; clear HO_260000; clear HO_260001; clear HO_268000; clear HO_268001; clear HO286; clear HO289; clear HO292; clear HO295; clear BK237; clear BK252; clear BK259; clear BK267; clear BK297; clear HB; have HO_253000 := n0_; have HO_253001 := n1_; have HO_260000 := n2_; have HO_260001 := n3_; have HO_268000 := n4_; have HO_268001 := n5_; have HO286 := n6_; have HO289 := n7_; have HO292 := n8_; have HO295 := n9_; have BK237 := n10_; have BK252 := n11_; have BK259 := n12_; have BK267 := n13_; have BK297 := n14_; have HB := n15_; clear n0_ n1_ n2_ n3_ n4_ n5_ n6_ n7_ n8_ n9_ n10_ n11_ n12_ n13_ n14_ n15_; (try clear hb); (try clear hb2); (try clear hk); (try clear hi)))
                     go_meet
                     case rel => exact ⟨_, ((t296 != t251)), (by first | rfl | (simp; done) | (simp [*]; done)), H', ⟨by have := HJ2.out; have := HJ6.out; have := HJ14.out; have := HJ59.out; have := HJ63.out; have := HJ71.out; have := HJ96.out; have := HJ100.out; have := HJ109.out; first | omega | exact Nat.le_refl _⟩, ⟨by (try simp only [hl260000_71]); (try simp only [hl260001_71]); (try simp only [hl268000_100]); (try simp only [hl268001_100]); (with_reducible repeat (first | apply rA|apply rN|apply rW)); exact Kd.R_mono HO_253000.out (fun _ hk => ⟨hk.1.1.1, ⟨hk.1.1.2, hk.2⟩⟩)⟩, ⟨by (try simp only [hl260000_71]); (try simp only [hl260001_71]); (try simp only [hl268000_100]); (try simp only [hl268001_100]); (with_reducible repeat (first | apply rA|apply rN|apply rW)); exact Kd.R_mono HO_253001.out (fun _ hk => ⟨hk.1.1.1, ⟨hk.1.1.2, hk.2⟩⟩)⟩, ⟨by (try simp only [hl260000_71]); (try simp only [hl260001_71]); (try simp only [hl268000_100]); (try simp only [hl268001_100]); (with_reducible repeat (first | apply rA|apply rN|apply rW)); exact Kd.R_mono HO_260000.out (fun _ hk => ⟨hk.1.1.1, ⟨hk.1.1.2, hk.2⟩⟩)⟩, ⟨by (try simp only [hl260000_71]); (try simp only [hl260001_71]); (try simp only [hl268000_100]); (try simp only [hl268001_100]); (with_reducible repeat (first | apply rA|apply rN|apply rW)); exact Kd.R_mono HO_260001.out (fun _ hk => ⟨hk.1.1.1, ⟨hk.1.1.2, hk.2⟩⟩)⟩, ⟨by (try simp only [hl260000_71]); (try simp only [hl260001_71]); (try simp only [hl268000_100]); (try simp only [hl268001_100]); (with_reducible repeat (first | apply rA|apply rN|apply rW)); exact Kd.R_mono HO_268000.out (fun _ hk => ⟨hk.1.1.1, ⟨hk.1.1.2, hk.2⟩⟩)⟩, ⟨by (try simp only [hl260000_71]); (try simp only [hl260001_71]); (try simp only [hl268000_100]); (try simp only [hl268001_100]); (with_reducible repeat (first | apply rA|apply rN|apply rW)); exact Kd.R_mono HO_268001.out (fun _ hk => ⟨hk.1.1.1, ⟨hk.1.1.2, hk.2⟩⟩)⟩, ⟨by (try simp only [hl260000_71]); (try simp only [hl260001_71]); (try simp only [hl268000_100]); (try simp only [hl268001_100]); (with_reducible repeat (first | apply rA|apply rN|apply rW)); exact Kd.R_mono HO292.out (fun _ hk => ⟨hk.1.1.1.2, ⟨hk.1.1.2, hk.1.2⟩⟩)⟩, ⟨by (try simp only [hl260000_71]); (try simp only [hl260001_71]); (try simp only [hl268000_100]); (try simp only [hl268001_100]); (with_reducible repeat (first | apply rA|apply rN|apply rW)); exact Kd.R_mono HO295.out (fun _ hk => ⟨hk.1.1.1.2, ⟨hk.1.1.2, hk.1.2⟩⟩)⟩, ⟨by (try simp only [hl260000_71]); (try simp only [hl260001_71]); (try simp only [hl268000_100]); (try simp only [hl268001_100]); (with_reducible repeat (first | refine bN ?_ _|refine bW ?_|refine bA ?_ _)); exact BK237.out⟩, ⟨by (try simp only [hl260000_71]); (try simp only [hl260001_71]); (try simp only [hl268000_100]); (try simp only [hl268001_100]); (with_reducible repeat (first | refine bN ?_ _|refine bW ?_|refine bA ?_ _)); exact BK252.out⟩, ⟨by (try simp only [hl260000_71]); (try simp only [hl260001_71]); (try simp only [hl268000_100]); (try simp only [hl268001_100]); (with_reducible repeat (first | refine bN ?_ _|refine bW ?_|refine bA ?_ _)); exact BK259.out⟩, ⟨by (try simp only [hl260000_71]); (try simp only [hl260001_71]); (try simp only [hl268000_100]); (try simp only [hl268001_100]); (with_reducible repeat (first | refine bN ?_ _|refine bW ?_|refine bA ?_ _)); exact BK267.out⟩, ⟨by (try simp only [hl260000_71]); (try simp only [hl260001_71]); (try simp only [hl268000_100]); (try simp only [hl268001_100]); (with_reducible repeat (first | refine bN ?_ _|refine bW ?_|refine bA ?_ _)); exact BK297.out⟩, ⟨by repeat (first | (with_reducible first | exact HB.out|apply wA|apply wN|apply wD |refine wS ?_ GE237.out |refine wS ?_ GE252.out |refine wS ?_ GE259.out |refine wS ?_ GE267.out |refine wS ?_ GE297.out) | exact HB.out)⟩⟩
                    ·replace c132 := Bool.eq_false_iff.mpr c132
                     subst c132
                     have H1 : (laws_FnExactDropPipe.j9 kj109 t280 true t281 t282) = some r := by rw [if_neg (show ¬ (false = true) by decide)] at H; exact H
                     clear H
                     have H := H1
                     clear H1
                     have H' := Aside0.mk H
                     clear H
                     have hnb143 := NB297_237.out
                     have hnc143 := NB237_297.out
                     have hnb144 := NB297_252.out
                     have hnc144 := NB252_297.out
                     have hnb145 := NB297_259.out
                     have hnc145 := NB259_297.out
                     have hnb146 := NB297_267.out
                     have hnc146 := NB267_297.out
                     have hcz147_0 : w123.cell? ⟨gb297, 0, none⟩ = some (.slice none 0 0) := (blk_cell BK297.out 0).trans rfl
                     have hcz147_1 : w123.cell? ⟨gb297, 1, none⟩ = some (.slice none 0 0) := (blk_cell BK297.out 1).trans rfl
                     have hfz147_0 := blk_frozen BK297.out 0
                     have hfz147_1 := blk_frozen BK297.out 1
                     have hnb148 := NB252_237.out
                     have hnc148 := NB237_252.out
                     have hnb149 := NB252_259.out
                     have hnc149 := NB259_252.out
                     have hnb150 := NB252_267.out
                     have hnc150 := NB267_252.out
                     have hcz151_0 : w123.cell? ⟨gb252, 0, none⟩ = some (.slice Ao22 t245.length co22) := (blk_cell BK252.out 0).trans rfl
                     have hcz151_1 : w123.cell? ⟨gb252, 1, none⟩ = some (.slice Ao25 t248.length co25) := (blk_cell BK252.out 1).trans rfl
                     have hfz151_0 := blk_frozen BK252.out 0
                     have hfz151_1 := blk_frozen BK252.out 1
                     go_wp2_with (first | ((with_reducible refine gate_callee (f := 8) rfl ?_); refine goesL_ (some 89) rfl rfl Try.func8 (by kernel_rfl) rfl #[.agg #[.slice Ao124 t290.length co124, .slice Ao130 t293.length co130], .agg #[.slice Ao22 t245.length co22, .slice Ao25 t248.length co25]] rfl (by (try simp only [List.map_toArray, List.map_cons, List.map_nil]); first | done | rfl | (simp only [List.length_drop, List.length_take]; rfl)) ?_; (with_reducible refine (laws_eqNetwork.calls _ _ t290 _ _ t293 _ _ t245 _ _ t248 false _ ?side1 ?side2 ?side3 ?side4 ?side5 ?side6 ?side7 ?side8 A131.out).mono ?_); (case side1 => refine (Kd.R_reads' (e := 2) (base := w.heap.size) (ok := fun k_ => ((((True ∧ some k_ ≠ (.slice Ao22 t245.length co22 : Value).ownBlock) ∧ some k_ ≠ (.slice Ao29 t277.length co29 : Value).ownBlock) ∧ some k_ ≠ (.slice Ao36 t281.length co36 : Value).ownBlock) ∧ some k_ ≠ (.slice Ao120 t284.length co120 : Value).ownBlock)) (n := t290.length) (c := co124) ?_).2.2; exact (by (with_reducible repeat (first | apply rA|apply rN|apply rW)); exact (Kd.R_mono (Kd.R_far (p := ⟨gb297, 1, none⟩) (Kd.R_far (p := ⟨gb297, 0, none⟩) (Kd.R_types HO292.out BK297.out (by decide)) (fun _ hk => hk.2) (.slice Ao124 t290.length co124)) (fun _ hk => hk.2) (.slice Ao130 t293.length co130)) (fun _ h_ => h_.1)))); (case side2 => exact (Kd.R_reads' HO292.out).2.1); (case side3 => refine (Kd.R_reads' (e := 42) (base := w.heap.size) (ok := fun k_ => ((((True ∧ some k_ ≠ (.slice Ao25 t248.length co25 : Value).ownBlock) ∧ some k_ ≠ (.slice Ao33 t278.length co33 : Value).ownBlock) ∧ some k_ ≠ (.slice Ao41 t282.length co41 : Value).ownBlock) ∧ some k_ ≠ (.slice Ao121 t287.length co121 : Value).ownBlock)) (n := t293.length) (c := co130) ?_).2.2; exact (by (with_reducible repeat (first | apply rA|apply rN|apply rW)); exact (Kd.R_mono (Kd.R_far (p := ⟨gb297, 1, none⟩) (Kd.R_far (p := ⟨gb297, 0, none⟩) (Kd.R_types HO295.out BK297.out (by decide)) (fun _ hk => hk.2) (.slice Ao124 t290.length co124)) (fun _ hk => hk.2) (.slice Ao130 t293.length co130)) (fun _ h_ => h_.1)))); (case side4 => exact (Kd.R_reads' HO295.out).2.1); (case side5 => refine (Kd.R_reads' (e := 2) (base := w.heap.size) (ok := fun k_ => (((some k_ ≠ (.slice Ao29 t277.length co29 : Value).ownBlock ∧ some k_ ≠ (.slice Ao36 t281.length co36 : Value).ownBlock) ∧ some k_ ≠ (.slice Ao120 t284.length co120 : Value).ownBlock) ∧ some k_ ≠ (.slice Ao124 t290.length co124 : Value).ownBlock)) (n := t245.length) (c := co22) ?_).2.2; exact (by (with_reducible repeat (first | apply rA|apply rN|apply rW)); exact (Kd.R_mono (Kd.R_far (p := ⟨gb297, 1, none⟩) (Kd.R_far (p := ⟨gb297, 0, none⟩) (Kd.R_types HO_253000.out BK297.out (by decide)) (fun _ hk => hk.2) (.slice Ao124 t290.length co124)) (fun _ hk => hk.2) (.slice Ao130 t293.length co130)) (fun _ h_ => h_.1)))); (case side6 => exact (Kd.R_reads' HO_253000.out).2.1); (case side7 => refine (Kd.R_reads' (e := 42) (base := w.heap.size) (ok := fun k_ => (((some k_ ≠ (.slice Ao33 t278.length co33 : Value).ownBlock ∧ some k_ ≠ (.slice Ao41 t282.length co41 : Value).ownBlock) ∧ some k_ ≠ (.slice Ao121 t287.length co121 : Value).ownBlock) ∧ some k_ ≠ (.slice Ao130 t293.length co130 : Value).ownBlock)) (n := t248.length) (c := co25) ?_).2.2; exact (by (with_reducible repeat (first | apply rA|apply rN|apply rW)); exact (Kd.R_mono (Kd.R_far (p := ⟨gb297, 1, none⟩) (Kd.R_far (p := ⟨gb297, 0, none⟩) (Kd.R_types HO_253001.out BK297.out (by decide)) (fun _ hk => hk.2) (.slice Ao124 t290.length co124)) (fun _ hk => hk.2) (.slice Ao130 t293.length co130)) (fun _ h_ => h_.1)))); (case side8 => exact (Kd.R_reads' HO_253001.out).2.1); rintro e w152 ⟨rfl, hb⟩; refine ⟨_, rfl, ?_⟩; have n0_ := Aside0.mk (Kd.R_below (by (with_reducible repeat (first | apply rA|apply rN|apply rW)); exact (Kd.R_mono (Kd.R_far (p := ⟨gb297, 1, none⟩) (Kd.R_far (p := ⟨gb297, 0, none⟩) (Kd.R_types HO_253000.out BK297.out (by decide)) (fun _ hk => hk.2) (.slice Ao124 t290.length co124)) (fun _ hk => hk.2) (.slice Ao130 t293.length co130)) (fun _ h_ => h_.1))) hb); have n1_ := Aside0.mk (Kd.R_below (by (with_reducible repeat (first | apply rA|apply rN|apply rW)); exact (Kd.R_mono (Kd.R_far (p := ⟨gb297, 1, none⟩) (Kd.R_far (p := ⟨gb297, 0, none⟩) (Kd.R_types HO_253001.out BK297.out (by decide)) (fun _ hk => hk.2) (.slice Ao124 t290.length co124)) (fun _ hk => hk.2) (.slice Ao130 t293.length co130)) (fun _ h_ => h_.1))) hb); have n2_ := Aside0.mk (Kd.R_below (by (with_reducible repeat (first | apply rA|apply rN|apply rW)); exact (Kd.R_mono (Kd.R_far (p := ⟨gb297, 1, none⟩) (Kd.R_far (p := ⟨gb297, 0, none⟩) (Kd.R_types HO_260000.out BK297.out (by decide)) (fun _ hk => hk.2) (.slice Ao124 t290.length co124)) (fun _ hk => hk.2) (.slice Ao130 t293.length co130)) (fun _ h_ => h_.1))) hb); have n3_ := Aside0.mk (Kd.R_below (by (with_reducible repeat (first | apply rA|apply rN|apply rW)); exact (Kd.R_mono (Kd.R_far (p := ⟨gb297, 1, none⟩) (Kd.R_far (p := ⟨gb297, 0, none⟩) (Kd.R_types HO_260001.out BK297.out (by decide)) (fun _ hk => hk.2) (.slice Ao124 t290.length co124)) (fun _ hk => hk.2) (.slice Ao130 t293.length co130)) (fun _ h_ => h_.1))) hb); have n4_ := Aside0.mk (Kd.R_below (by (with_reducible repeat (first | apply rA|apply rN|apply rW)); exact (Kd.R_mono (Kd.R_far (p := ⟨gb297, 1, none⟩) (Kd.R_far (p := ⟨gb297, 0, none⟩) (Kd.R_types HO_268000.out BK297.out (by decide)) (fun _ hk => hk.2) (.slice Ao124 t290.length co124)) (fun _ hk => hk.2) (.slice Ao130 t293.length co130)) (fun _ h_ => h_.1))) hb); have n5_ := Aside0.mk (Kd.R_below (by (with_reducible repeat (first | apply rA|apply rN|apply rW)); exact (Kd.R_mono (Kd.R_far (p := ⟨gb297, 1, none⟩) (Kd.R_far (p := ⟨gb297, 0, none⟩) (Kd.R_types HO_268001.out BK297.out (by decide)) (fun _ hk => hk.2) (.slice Ao124 t290.length co124)) (fun _ hk => hk.2) (.slice Ao130 t293.length co130)) (fun _ h_ => h_.1))) hb); have n6_ := Aside0.mk (Kd.R_below (by (with_reducible repeat (first | apply rA|apply rN|apply rW)); exact (Kd.R_mono (Kd.R_far (p := ⟨gb297, 1, none⟩) (Kd.R_far (p := ⟨gb297, 0, none⟩) (Kd.R_types HO286.out BK297.out (by decide)) (fun _ hk => hk.2) (.slice Ao124 t290.length co124)) (fun _ hk => hk.2) (.slice Ao130 t293.length co130)) (fun _ h_ => h_.1))) hb); have n7_ := Aside0.mk (Kd.R_below (by (with_reducible repeat (first | apply rA|apply rN|apply rW)); exact (Kd.R_mono (Kd.R_far (p := ⟨gb297, 1, none⟩) (Kd.R_far (p := ⟨gb297, 0, none⟩) (Kd.R_types HO289.out BK297.out (by decide)) (fun _ hk => hk.2) (.slice Ao124 t290.length co124)) (fun _ hk => hk.2) (.slice Ao130 t293.length co130)) (fun _ h_ => h_.1))) hb); have n8_ := Aside0.mk (Kd.R_below (by (with_reducible repeat (first | apply rA|apply rN|apply rW)); exact (Kd.R_mono (Kd.R_far (p := ⟨gb297, 1, none⟩) (Kd.R_far (p := ⟨gb297, 0, none⟩) (Kd.R_types HO292.out BK297.out (by decide)) (fun _ hk => hk.2) (.slice Ao124 t290.length co124)) (fun _ hk => hk.2) (.slice Ao130 t293.length co130)) (fun _ h_ => h_.1))) hb); have n9_ := Aside0.mk (Kd.R_below (by (with_reducible repeat (first | apply rA|apply rN|apply rW)); exact (Kd.R_mono (Kd.R_far (p := ⟨gb297, 1, none⟩) (Kd.R_far (p := ⟨gb297, 0, none⟩) (Kd.R_types HO295.out BK297.out (by decide)) (fun _ hk => hk.2) (.slice Ao124 t290.length co124)) (fun _ hk => hk.2) (.slice Ao130 t293.length co130)) (fun _ h_ => h_.1))) hb); have n10_ := Aside0.mk (blk_below (g := gb237) (o := .cells #[.slice A0_0 l0_0.length c0_0, .slice A0_1 l0_1.length c0_1] 25 (0, 0)) (by (with_reducible repeat (first | refine bN ?_ _|refine bW ?_|refine bA ?_ _)); refine blk_far ?_ NB237_297.out _; (with_reducible repeat (first | refine bN ?_ _|refine bW ?_|refine bA ?_ _)); refine blk_far ?_ NB237_297.out _; (with_reducible repeat (first | refine bN ?_ _|refine bW ?_|refine bA ?_ _)); exact BK237.out) hb); have n11_ := Aside0.mk (blk_below (g := gb252) (o := .cells #[.slice Ao22 t245.length co22, .slice Ao25 t248.length co25] 29 (0, 0)) (by (with_reducible repeat (first | refine bN ?_ _|refine bW ?_|refine bA ?_ _)); refine blk_far ?_ NB252_297.out _; (with_reducible repeat (first | refine bN ?_ _|refine bW ?_|refine bA ?_ _)); refine blk_far ?_ NB252_297.out _; (with_reducible repeat (first | refine bN ?_ _|refine bW ?_|refine bA ?_ _)); exact BK252.out) hb); have n12_ := Aside0.mk (blk_below (g := gb259) (o := .cells #[.slice Ao29 t277.length co29, .slice Ao33 t278.length co33] 29 (0, 0)) (by (with_reducible repeat (first | refine bN ?_ _|refine bW ?_|refine bA ?_ _)); refine blk_far ?_ NB259_297.out _; (with_reducible repeat (first | refine bN ?_ _|refine bW ?_|refine bA ?_ _)); refine blk_far ?_ NB259_297.out _; (with_reducible repeat (first | refine bN ?_ _|refine bW ?_|refine bA ?_ _)); exact BK259.out) hb); have n13_ := Aside0.mk (blk_below (g := gb267) (o := .cells #[.slice Ao36 t281.length co36, .slice Ao41 t282.length co41] 29 (0, 0)) (by (with_reducible repeat (first | refine bN ?_ _|refine bW ?_|refine bA ?_ _)); refine blk_far ?_ NB267_297.out _; (with_reducible repeat (first | refine bN ?_ _|refine bW ?_|refine bA ?_ _)); refine blk_far ?_ NB267_297.out _; (with_reducible repeat (first | refine bN ?_ _|refine bW ?_|refine bA ?_ _)); exact BK267.out) hb); have n14_ := Aside0.mk (blk_below (g := gb297) (o := .cells #[.slice Ao124 t290.length co124, .slice Ao130 t293.length co130] 29 (0, 0)) (by (with_reducible repeat (first | refine bN ?_ _|refine bW ?_|refine bA ?_ _)); refine blk_put (cs := #[.slice Ao124 t290.length co124, .slice none 0 0]) ?_ 1 _ rfl; (with_reducible repeat (first | refine bN ?_ _|refine bW ?_|refine bA ?_ _)); refine blk_put (cs := #[.slice none 0 0, .slice none 0 0]) ?_ 0 _ rfl; (with_reducible repeat (first | refine bN ?_ _|refine bW ?_|refine bA ?_ _)); exact BK297.out) hb); have n15_ := Aside0.mk (below_step (by repeat (first | (with_reducible first | exact HB.out|apply wA|apply wN|apply wD |refine wS ?_ GE237.out |refine wS ?_ GE252.out |refine wS ?_ GE259.out |refine wS ?_ GE267.out |refine wS ?_ GE297.out) | exact HB.out)) hb); clear HO_253000; clear HO_253001; clear HO_260000; clear HO_260001; clear HO_268000; clear HO_268001; clear HO286; clear HO289; clear HO292; clear HO295; clear BK237; clear BK252; clear BK259; clear BK267; clear BK297; clear HB; have HO_253000 := n0_; have HO_253001 := n1_; have HO_260000 := n2_; have HO_260001 := n3_; have HO_268000 := n4_; have HO_268001 := n5_; have HO286 := n6_; have HO289 := n7_; have HO292 := n8_; have HO295 := n9_; have BK237 := n10_; have BK252 := n11_; have BK259 := n12_; have BK267 := n13_; have BK297 := n14_; have HB := n15_; clear n0_ n1_ n2_ n3_ n4_ n5_ n6_ n7_ n8_ n9_ n10_ n11_ n12_ n13_ n14_ n15_; (try clear hb); (try clear hb2); (try clear hk); (try clear hi)))
                     go_meet
                     case rel => exact ⟨_, (true), (by first | rfl | (simp; done) | (simp [*]; done)), H', ⟨by have := HJ2.out; have := HJ6.out; have := HJ14.out; have := HJ59.out; have := HJ63.out; have := HJ71.out; have := HJ96.out; have := HJ100.out; have := HJ109.out; first | omega | exact Nat.le_refl _⟩, ⟨by (try simp only [hl260000_71]); (try simp only [hl260001_71]); (try simp only [hl268000_100]); (try simp only [hl268001_100]); (with_reducible repeat (first | apply rA|apply rN|apply rW)); exact Kd.R_mono HO_253000.out (fun _ hk => ⟨hk.1.1.1, ⟨hk.1.1.2, hk.2⟩⟩)⟩, ⟨by (try simp only [hl260000_71]); (try simp only [hl260001_71]); (try simp only [hl268000_100]); (try simp only [hl268001_100]); (with_reducible repeat (first | apply rA|apply rN|apply rW)); exact Kd.R_mono HO_253001.out (fun _ hk => ⟨hk.1.1.1, ⟨hk.1.1.2, hk.2⟩⟩)⟩, ⟨by (try simp only [hl260000_71]); (try simp only [hl260001_71]); (try simp only [hl268000_100]); (try simp only [hl268001_100]); (with_reducible repeat (first | apply rA|apply rN|apply rW)); exact Kd.R_mono HO_260000.out (fun _ hk => ⟨hk.1.1.1, ⟨hk.1.1.2, hk.2⟩⟩)⟩, ⟨by (try simp only [hl260000_71]); (try simp only [hl260001_71]); (try simp only [hl268000_100]); (try simp only [hl268001_100]); (with_reducible repeat (first | apply rA|apply rN|apply rW)); exact Kd.R_mono HO_260001.out (fun _ hk => ⟨hk.1.1.1, ⟨hk.1.1.2, hk.2⟩⟩)⟩, ⟨by (try simp only [hl260000_71]); (try simp only [hl260001_71]); (try simp only [hl268000_100]); (try simp only [hl268001_100]); (with_reducible repeat (first | apply rA|apply rN|apply rW)); exact Kd.R_mono HO_268000.out (fun _ hk => ⟨hk.1.1.1, ⟨hk.1.1.2, hk.2⟩⟩)⟩, ⟨by (try simp only [hl260000_71]); (try simp only [hl260001_71]); (try simp only [hl268000_100]); (try simp only [hl268001_100]); (with_reducible repeat (first | apply rA|apply rN|apply rW)); exact Kd.R_mono HO_268001.out (fun _ hk => ⟨hk.1.1.1, ⟨hk.1.1.2, hk.2⟩⟩)⟩, ⟨by (try simp only [hl260000_71]); (try simp only [hl260001_71]); (try simp only [hl268000_100]); (try simp only [hl268001_100]); (with_reducible repeat (first | apply rA|apply rN|apply rW)); exact Kd.R_mono HO292.out (fun _ hk => ⟨hk.1.1.1.2, ⟨hk.1.1.2, hk.1.2⟩⟩)⟩, ⟨by (try simp only [hl260000_71]); (try simp only [hl260001_71]); (try simp only [hl268000_100]); (try simp only [hl268001_100]); (with_reducible repeat (first | apply rA|apply rN|apply rW)); exact Kd.R_mono HO295.out (fun _ hk => ⟨hk.1.1.1.2, ⟨hk.1.1.2, hk.1.2⟩⟩)⟩, ⟨by (try simp only [hl260000_71]); (try simp only [hl260001_71]); (try simp only [hl268000_100]); (try simp only [hl268001_100]); (with_reducible repeat (first | refine bN ?_ _|refine bW ?_|refine bA ?_ _)); exact BK237.out⟩, ⟨by (try simp only [hl260000_71]); (try simp only [hl260001_71]); (try simp only [hl268000_100]); (try simp only [hl268001_100]); (with_reducible repeat (first | refine bN ?_ _|refine bW ?_|refine bA ?_ _)); exact BK252.out⟩, ⟨by (try simp only [hl260000_71]); (try simp only [hl260001_71]); (try simp only [hl268000_100]); (try simp only [hl268001_100]); (with_reducible repeat (first | refine bN ?_ _|refine bW ?_|refine bA ?_ _)); exact BK259.out⟩, ⟨by (try simp only [hl260000_71]); (try simp only [hl260001_71]); (try simp only [hl268000_100]); (try simp only [hl268001_100]); (with_reducible repeat (first | refine bN ?_ _|refine bW ?_|refine bA ?_ _)); exact BK267.out⟩, ⟨by (try simp only [hl260000_71]); (try simp only [hl260001_71]); (try simp only [hl268000_100]); (try simp only [hl268001_100]); (with_reducible repeat (first | refine bN ?_ _|refine bW ?_|refine bA ?_ _)); exact BK297.out⟩, ⟨by repeat (first | (with_reducible first | exact HB.out|apply wA|apply wN|apply wD |refine wS ?_ GE237.out |refine wS ?_ GE252.out |refine wS ?_ GE259.out |refine wS ?_ GE267.out |refine wS ?_ GE297.out) | exact HB.out)⟩⟩
                   case rest =>
                    clear HC114
                    try clear c1
                    try clear c2
                    try clear p2
                    try clear c3
                    try clear c4
                    try clear c5
                    try clear c5b0
                    try clear c5b1
                    try clear c5b2
                    try clear c6
                    try clear c7
                    try clear c8
                    try clear c9
                    try clear c10
                    try clear c10b0
                    try clear c10b2
                    try clear c11
                    try clear c12
                    try clear c13
                    try clear c14
                    try clear c15
                    try clear c23
                    try clear c30
                    try clear c31
                    try clear c37
                    try clear c38
                    try clear c39
                    try clear c43
                    try clear c44
                    try clear c45
                    try clear c46
                    try clear c48
                    try clear c49
                    try clear c52
                    try clear c53
                    try clear c54
                    try clear c56
                    try clear c57
                    try clear c61
                    try clear c70
                    try clear c73
                    try clear c74
                    try clear c75
                    try clear c78
                    try clear c78b0
                    try clear c78b2
                    try clear c80
                    try clear c81
                    try clear c82
                    try clear c83
                    try clear c85
                    try clear c86
                    try clear c89
                    try clear c90
                    try clear c91
                    try clear c93
                    try clear c94
                    try clear c98
                    try clear c102
                    try clear c103
                    try clear c104
                    try clear c109
                    try clear c109b0
                    try clear c109b2
                    try clear c111
                    try clear c111b0
                    try clear c111b1
                    try clear c111b2
                    try clear c115
                    try clear c116
                    try clear c117
                    try clear c125
                    try clear c126
                    try clear c127
                    try clear c128
                    try clear c132
                    try clear c133
                    try clear c134
                    try clear c135
                    try clear c136
                    try clear c138
                    try clear c139
                    try clear c140
                    try clear c143
                    try clear c144
                    try clear c145
                    try clear c146
                    try clear c148
                    try clear c149
                    try clear c150
                    try clear hcz105_0
                    try clear hcz105_1
                    try clear hcz107_0
                    try clear hcz107_1
                    try clear hcz118_0
                    try clear hcz118_1
                    try clear hcz129_0
                    try clear hcz129_1
                    try clear hcz137_0
                    try clear hcz137_1
                    try clear hcz141_0
                    try clear hcz141_1
                    try clear hcz147_0
                    try clear hcz147_1
                    try clear hcz151_0
                    try clear hcz151_1
                    try clear hcz16_0
                    try clear hcz16_1
                    try clear hcz24_0
                    try clear hcz24_1
                    try clear hcz26_0
                    try clear hcz26_1
                    try clear hcz32_0
                    try clear hcz32_1
                    try clear hcz40_0
                    try clear hcz40_1
                    try clear hcz47_0
                    try clear hcz47_1
                    try clear hcz50_0
                    try clear hcz50_1
                    try clear hcz55_0
                    try clear hcz55_1
                    try clear hcz58_0
                    try clear hcz58_1
                    try clear hcz76_0
                    try clear hcz76_1
                    try clear hcz84_0
                    try clear hcz84_1
                    try clear hcz87_0
                    try clear hcz87_1
                    try clear hcz8_0
                    try clear hcz8_1
                    try clear hcz92_0
                    try clear hcz92_1
                    try clear hcz95_0
                    try clear hcz95_1
                    try clear hfz105_0
                    try clear hfz105_1
                    try clear hfz107_0
                    try clear hfz107_1
                    try clear hfz118_0
                    try clear hfz118_1
                    try clear hfz129_0
                    try clear hfz129_1
                    try clear hfz137_0
                    try clear hfz137_1
                    try clear hfz141_0
                    try clear hfz141_1
                    try clear hfz147_0
                    try clear hfz147_1
                    try clear hfz151_0
                    try clear hfz151_1
                    try clear hfz16_0
                    try clear hfz16_1
                    try clear hfz24_0
                    try clear hfz24_1
                    try clear hfz26_0
                    try clear hfz26_1
                    try clear hfz32_0
                    try clear hfz32_1
                    try clear hfz40_0
                    try clear hfz40_1
                    try clear hfz47_0
                    try clear hfz47_1
                    try clear hfz50_0
                    try clear hfz50_1
                    try clear hfz55_0
                    try clear hfz55_1
                    try clear hfz58_0
                    try clear hfz58_1
                    try clear hfz76_0
                    try clear hfz76_1
                    try clear hfz84_0
                    try clear hfz84_1
                    try clear hfz87_0
                    try clear hfz87_1
                    try clear hfz8_0
                    try clear hfz8_1
                    try clear hfz92_0
                    try clear hfz92_1
                    try clear hfz95_0
                    try clear hfz95_1
                    try clear p2
                    obtain ⟨kq, x95_113, rfl, HA, HJ113, HO_253000, HO_253001, HO_260000, HO_260001, HO_268000, HO_268001, HO_298000, HO_298001, BK237, BK252, BK259, BK267, BK297, HB⟩ := hcut
                    cases kq with
                    | zero => exact absurd HA.out (by simp [laws_FnExactDropPipe.j9])
                    | succ kj113 =>
                     have H := HA.out
                     clear HA
                     simp only [laws_FnExactDropPipe.j9] at H
                     have HC153 := Aside0.mk H
                     clear H
                     go_upto_if 95 with (fail)
                     go_cut [] (fun wc => ∃ (kq : Nat), Aside0 (laws_FnExactDropPipe.j10 kq t280 t281 t282 = some r) ∧ Aside0 (kq ≤ kj113) ∧ Aside0 (Kd.R (Kd.int .i64) 2 wc w.heap.size (fun k_ => some k_ ≠ ((.slice Ao29 t277.length co29) : Value).ownBlock ∧ some k_ ≠ ((.slice Ao36 t281.length co36) : Value).ownBlock ∧ some k_ ≠ ((.slice Ao124 t290.length co124) : Value).ownBlock) (.slice Ao22 t245.length co22) t245) ∧ Aside0 (Kd.R k42 42 wc w.heap.size (fun k_ => some k_ ≠ ((.slice Ao33 t278.length co33) : Value).ownBlock ∧ some k_ ≠ ((.slice Ao41 t282.length co41) : Value).ownBlock ∧ some k_ ≠ ((.slice Ao130 t293.length co130) : Value).ownBlock) (.slice Ao25 t248.length co25) t248) ∧ Aside0 (Kd.R (Kd.int .i64) 2 wc w.heap.size (fun k_ => some k_ ≠ ((.slice Ao22 t245.length co22) : Value).ownBlock ∧ some k_ ≠ ((.slice Ao36 t281.length co36) : Value).ownBlock ∧ some k_ ≠ ((.slice Ao124 t290.length co124) : Value).ownBlock) (.slice Ao29 t277.length co29) t277) ∧ Aside0 (Kd.R k42 42 wc w.heap.size (fun k_ => some k_ ≠ ((.slice Ao25 t248.length co25) : Value).ownBlock ∧ some k_ ≠ ((.slice Ao41 t282.length co41) : Value).ownBlock ∧ some k_ ≠ ((.slice Ao130 t293.length co130) : Value).ownBlock) (.slice Ao33 t278.length co33) t278) ∧ Aside0 (Kd.R (Kd.int .i64) 2 wc w.heap.size (fun k_ => some k_ ≠ ((.slice Ao22 t245.length co22) : Value).ownBlock ∧ some k_ ≠ ((.slice Ao29 t277.length co29) : Value).ownBlock ∧ some k_ ≠ ((.slice Ao124 t290.length co124) : Value).ownBlock) (.slice Ao36 t281.length co36) t281) ∧ Aside0 (Kd.R k42 42 wc w.heap.size (fun k_ => some k_ ≠ ((.slice Ao25 t248.length co25) : Value).ownBlock ∧ some k_ ≠ ((.slice Ao33 t278.length co33) : Value).ownBlock ∧ some k_ ≠ ((.slice Ao130 t293.length co130) : Value).ownBlock) (.slice Ao41 t282.length co41) t282) ∧ Aside0 (Kd.R (Kd.int .i64) 2 wc w.heap.size (fun k_ => some k_ ≠ ((.slice Ao22 t245.length co22) : Value).ownBlock ∧ some k_ ≠ ((.slice Ao29 t277.length co29) : Value).ownBlock ∧ some k_ ≠ ((.slice Ao36 t281.length co36) : Value).ownBlock) (.slice Ao124 t290.length co124) t290) ∧ Aside0 (Kd.R k42 42 wc w.heap.size (fun k_ => some k_ ≠ ((.slice Ao25 t248.length co25) : Value).ownBlock ∧ some k_ ≠ ((.slice Ao33 t278.length co33) : Value).ownBlock ∧ some k_ ≠ ((.slice Ao41 t282.length co41) : Value).ownBlock) (.slice Ao130 t293.length co130) t293) ∧ Aside0 (wc.heap[gb237]? = some (.cells #[(.slice A0_0 l0_0.length c0_0), (.slice A0_1 l0_1.length c0_1)] 25 (0, 0))) ∧ Aside0 (wc.heap[gb252]? = some (.cells #[(.slice Ao22 t245.length co22), (.slice Ao25 t248.length co25)] 29 (0, 0))) ∧ Aside0 (wc.heap[gb259]? = some (.cells #[(.slice Ao29 t277.length co29), (.slice Ao33 t278.length co33)] 29 (0, 0))) ∧ Aside0 (wc.heap[gb267]? = some (.cells #[(.slice Ao36 t281.length co36), (.slice Ao41 t282.length co41)] 29 (0, 0))) ∧ Aside0 (wc.heap[gb297]? = some (.cells #[(.slice Ao124 t290.length co124), (.slice Ao130 t293.length co130)] 29 (0, 0))) ∧ Aside0 (Below w.heap.size w wc))
                     case first =>
                      have H := HC153.out
                      clear HC153
                      by_cases c154 : x95_113 = true
                      ·subst c154
                       have H1 : (some false) = some r := by rw [if_pos rfl] at H; exact H
                       clear H
                       have H := H1
                       clear H1
                       obtain rfl := Option.some.inj H
                       go_wp2
                       go_ret
                       exact ⟨by first | rfl | (simp [errW_none, errW_some] <;> rfl) | (simp [*, errW_none, errW_some] <;> rfl), by repeat (first | (with_reducible first | exact HB.out|apply wA|apply wN|apply wD |refine wS ?_ GE237.out |refine wS ?_ GE252.out |refine wS ?_ GE259.out |refine wS ?_ GE267.out |refine wS ?_ GE297.out) | exact HB.out)⟩
                      ·replace c154 := Bool.eq_false_iff.mpr c154
                       subst c154
                       have H1 : (laws_FnExactDropPipe.j10 kj113 t280 t281 t282) = some r := by rw [if_neg (show ¬ (false = true) by decide)] at H; exact H
                       clear H
                       have H := H1
                       clear H1
                       have H' := Aside0.mk H
                       clear H
                       go_wp2
                       go_meet
                       case rel => exact ⟨_, H', ⟨by have := HJ2.out; have := HJ6.out; have := HJ14.out; have := HJ59.out; have := HJ63.out; have := HJ71.out; have := HJ96.out; have := HJ100.out; have := HJ109.out; have := HJ113.out; first | omega | exact Nat.le_refl _⟩, ⟨by (try simp only [hl260000_71]); (try simp only [hl260001_71]); (try simp only [hl268000_100]); (try simp only [hl268001_100]); (with_reducible repeat (first | apply rA|apply rN|apply rW)); exact HO_253000.out⟩, ⟨by (try simp only [hl260000_71]); (try simp only [hl260001_71]); (try simp only [hl268000_100]); (try simp only [hl268001_100]); (with_reducible repeat (first | apply rA|apply rN|apply rW)); exact HO_253001.out⟩, ⟨by (try simp only [hl260000_71]); (try simp only [hl260001_71]); (try simp only [hl268000_100]); (try simp only [hl268001_100]); (with_reducible repeat (first | apply rA|apply rN|apply rW)); exact HO_260000.out⟩, ⟨by (try simp only [hl260000_71]); (try simp only [hl260001_71]); (try simp only [hl268000_100]); (try simp only [hl268001_100]); (with_reducible repeat (first | apply rA|apply rN|apply rW)); exact HO_260001.out⟩, ⟨by (try simp only [hl260000_71]); (try simp only [hl260001_71]); (try simp only [hl268000_100]); (try simp only [hl268001_100]); (with_reducible repeat (first | apply rA|apply rN|apply rW)); exact HO_268000.out⟩, ⟨by (try simp only [hl260000_71]); (try simp only [hl260001_71]); (try simp only [hl268000_100]); (try simp only [hl268001_100]); (with_reducible repeat (first | apply rA|apply rN|apply rW)); exact HO_268001.out⟩, ⟨by (try simp only [hl260000_71]); (try simp only [hl260001_71]); (try simp only [hl268000_100]); (try simp only [hl268001_100]); (with_reducible repeat (first | apply rA|apply rN|apply rW)); exact HO_298000.out⟩, ⟨by (try simp only [hl260000_71]); (try simp only [hl260001_71]); (try simp only [hl268000_100]); (try simp only [hl268001_100]); (with_reducible repeat (first | apply rA|apply rN|apply rW)); exact HO_298001.out⟩, ⟨by (try simp only [hl260000_71]); (try simp only [hl260001_71]); (try simp only [hl268000_100]); (try simp only [hl268001_100]); (with_reducible repeat (first | refine bN ?_ _|refine bW ?_|refine bA ?_ _)); exact BK237.out⟩, ⟨by (try simp only [hl260000_71]); (try simp only [hl260001_71]); (try simp only [hl268000_100]); (try simp only [hl268001_100]); (with_reducible repeat (first | refine bN ?_ _|refine bW ?_|refine bA ?_ _)); exact BK252.out⟩, ⟨by (try simp only [hl260000_71]); (try simp only [hl260001_71]); (try simp only [hl268000_100]); (try simp only [hl268001_100]); (with_reducible repeat (first | refine bN ?_ _|refine bW ?_|refine bA ?_ _)); exact BK259.out⟩, ⟨by (try simp only [hl260000_71]); (try simp only [hl260001_71]); (try simp only [hl268000_100]); (try simp only [hl268001_100]); (with_reducible repeat (first | refine bN ?_ _|refine bW ?_|refine bA ?_ _)); exact BK267.out⟩, ⟨by (try simp only [hl260000_71]); (try simp only [hl260001_71]); (try simp only [hl268000_100]); (try simp only [hl268001_100]); (with_reducible repeat (first | refine bN ?_ _|refine bW ?_|refine bA ?_ _)); exact BK297.out⟩, ⟨by repeat (first | (with_reducible first | exact HB.out|apply wA|apply wN|apply wD |refine wS ?_ GE237.out |refine wS ?_ GE252.out |refine wS ?_ GE259.out |refine wS ?_ GE267.out |refine wS ?_ GE297.out) | exact HB.out)⟩⟩
                     case rest =>
                      clear HC153
                      try clear c1
                      try clear c2
                      try clear p2
                      try clear c3
                      try clear c4
                      try clear c5
                      try clear c5b0
                      try clear c5b1
                      try clear c5b2
                      try clear c6
                      try clear c7
                      try clear c8
                      try clear c9
                      try clear c10
                      try clear c10b0
                      try clear c10b2
                      try clear c11
                      try clear c12
                      try clear c13
                      try clear c14
                      try clear c15
                      try clear c23
                      try clear c30
                      try clear c31
                      try clear c37
                      try clear c38
                      try clear c39
                      try clear c43
                      try clear c44
                      try clear c45
                      try clear c46
                      try clear c48
                      try clear c49
                      try clear c52
                      try clear c53
                      try clear c54
                      try clear c56
                      try clear c57
                      try clear c61
                      try clear c70
                      try clear c73
                      try clear c74
                      try clear c75
                      try clear c78
                      try clear c78b0
                      try clear c78b2
                      try clear c80
                      try clear c81
                      try clear c82
                      try clear c83
                      try clear c85
                      try clear c86
                      try clear c89
                      try clear c90
                      try clear c91
                      try clear c93
                      try clear c94
                      try clear c98
                      try clear c102
                      try clear c103
                      try clear c104
                      try clear c109
                      try clear c109b0
                      try clear c109b2
                      try clear c111
                      try clear c111b0
                      try clear c111b1
                      try clear c111b2
                      try clear c115
                      try clear c116
                      try clear c117
                      try clear c125
                      try clear c126
                      try clear c127
                      try clear c128
                      try clear c132
                      try clear c133
                      try clear c134
                      try clear c135
                      try clear c136
                      try clear c138
                      try clear c139
                      try clear c140
                      try clear c143
                      try clear c144
                      try clear c145
                      try clear c146
                      try clear c148
                      try clear c149
                      try clear c150
                      try clear c154
                      try clear hcz105_0
                      try clear hcz105_1
                      try clear hcz107_0
                      try clear hcz107_1
                      try clear hcz118_0
                      try clear hcz118_1
                      try clear hcz129_0
                      try clear hcz129_1
                      try clear hcz137_0
                      try clear hcz137_1
                      try clear hcz141_0
                      try clear hcz141_1
                      try clear hcz147_0
                      try clear hcz147_1
                      try clear hcz151_0
                      try clear hcz151_1
                      try clear hcz16_0
                      try clear hcz16_1
                      try clear hcz24_0
                      try clear hcz24_1
                      try clear hcz26_0
                      try clear hcz26_1
                      try clear hcz32_0
                      try clear hcz32_1
                      try clear hcz40_0
                      try clear hcz40_1
                      try clear hcz47_0
                      try clear hcz47_1
                      try clear hcz50_0
                      try clear hcz50_1
                      try clear hcz55_0
                      try clear hcz55_1
                      try clear hcz58_0
                      try clear hcz58_1
                      try clear hcz76_0
                      try clear hcz76_1
                      try clear hcz84_0
                      try clear hcz84_1
                      try clear hcz87_0
                      try clear hcz87_1
                      try clear hcz8_0
                      try clear hcz8_1
                      try clear hcz92_0
                      try clear hcz92_1
                      try clear hcz95_0
                      try clear hcz95_1
                      try clear hfz105_0
                      try clear hfz105_1
                      try clear hfz107_0
                      try clear hfz107_1
                      try clear hfz118_0
                      try clear hfz118_1
                      try clear hfz129_0
                      try clear hfz129_1
                      try clear hfz137_0
                      try clear hfz137_1
                      try clear hfz141_0
                      try clear hfz141_1
                      try clear hfz147_0
                      try clear hfz147_1
                      try clear hfz151_0
                      try clear hfz151_1
                      try clear hfz16_0
                      try clear hfz16_1
                      try clear hfz24_0
                      try clear hfz24_1
                      try clear hfz26_0
                      try clear hfz26_1
                      try clear hfz32_0
                      try clear hfz32_1
                      try clear hfz40_0
                      try clear hfz40_1
                      try clear hfz47_0
                      try clear hfz47_1
                      try clear hfz50_0
                      try clear hfz50_1
                      try clear hfz55_0
                      try clear hfz55_1
                      try clear hfz58_0
                      try clear hfz58_1
                      try clear hfz76_0
                      try clear hfz76_1
                      try clear hfz84_0
                      try clear hfz84_1
                      try clear hfz87_0
                      try clear hfz87_1
                      try clear hfz8_0
                      try clear hfz8_1
                      try clear hfz92_0
                      try clear hfz92_1
                      try clear hfz95_0
                      try clear hfz95_1
                      try clear p2
                      obtain ⟨kq, HA, HJ152, HO_253000, HO_253001, HO_260000, HO_260001, HO_268000, HO_268001, HO_298000, HO_298001, BK237, BK252, BK259, BK267, BK297, HB⟩ := hcut
                      cases kq with
                      | zero => exact absurd HA.out (by simp [laws_FnExactDropPipe.j10])
                      | succ kj152 =>
                       have H := HA.out
                       clear HA
                       simp only [laws_FnExactDropPipe.j10] at H
                       replace H := Option.bind_eq_some_iff.mp H
                       obtain ⟨t299, A1550, H⟩ := H
                       replace H : (if t299 < 0 then (some false) else (if t299 = t280 then (some true) else (some false))) = some r := H
                       have A155 := Aside0.mk A1550
                       clear A1550
                       by_cases c156 : t299 < 0
                       ·rw [if_pos c156] at H
                        have c156b0 : decide (t299 < 0) = true := decide_eq_true c156
                        clear c156
                        obtain rfl := Option.some.inj H
                        have hnb157 := NB267_237.out
                        have hnc157 := NB237_267.out
                        have hnb158 := NB267_252.out
                        have hnc158 := NB252_267.out
                        have hnb159 := NB267_259.out
                        have hnc159 := NB259_267.out
                        have hnb160 := NB267_297.out
                        have hnc160 := NB297_267.out
                        have hcz161_0 : wc.cell? ⟨gb267, 0, none⟩ = some (.slice Ao36 t281.length co36) := (blk_cell BK267.out 0).trans rfl
                        have hcz161_1 : wc.cell? ⟨gb267, 1, none⟩ = some (.slice Ao41 t282.length co41) := (blk_cell BK267.out 1).trans rfl
                        have hfz161_0 := blk_frozen BK267.out 0
                        have hfz161_1 := blk_frozen BK267.out 1
                        go_wp2_with (first | ((with_reducible refine gate_callee (f := 10) rfl ?_); refine goesL_ (some 98) rfl rfl Try.func10 (by kernel_rfl) rfl #[.agg #[.slice Ao36 t281.length co36, .slice Ao41 t282.length co41], .int .i64 1] rfl (by (try simp only [List.map_toArray, List.map_cons, List.map_nil]); first | done | rfl | (simp only [List.length_drop, List.length_take]; rfl)) ?_; (with_reducible refine (laws_heldNetwork.calls _ _ t281 _ _ t282 1 t299 _ ?side1 ?side2 ?side3 ?side4 A155.out).mono ?_); (case side1 => repeat (first | exact (Kd.R_reads' HO_268000.out).2.2 | (with_reducible first|refine Kd.C_alloc ?_ _|refine Kd.C_drewN ?_ _|refine Kd.C_drew ?_))); (case side2 => exact (Kd.R_reads' HO_268000.out).2.1); (case side3 => repeat (first | exact (Kd.R_reads' HO_268001.out).2.2 | (with_reducible first|refine Kd.C_alloc ?_ _|refine Kd.C_drewN ?_ _|refine Kd.C_drew ?_))); (case side4 => exact (Kd.R_reads' HO_268001.out).2.1); rintro e w162 ⟨rfl, hb⟩; refine ⟨_, rfl, ?_⟩; have n0_ := Aside0.mk (Kd.R_below (by (with_reducible repeat (first | apply rA|apply rN|apply rW)); exact HO_253000.out) hb); have n1_ := Aside0.mk (Kd.R_below (by (with_reducible repeat (first | apply rA|apply rN|apply rW)); exact HO_253001.out) hb); have n2_ := Aside0.mk (Kd.R_below (by (with_reducible repeat (first | apply rA|apply rN|apply rW)); exact HO_260000.out) hb); have n3_ := Aside0.mk (Kd.R_below (by (with_reducible repeat (first | apply rA|apply rN|apply rW)); exact HO_260001.out) hb); have n4_ := Aside0.mk (Kd.R_below (by (with_reducible repeat (first | apply rA|apply rN|apply rW)); exact HO_268000.out) hb); have n5_ := Aside0.mk (Kd.R_below (by (with_reducible repeat (first | apply rA|apply rN|apply rW)); exact HO_268001.out) hb); have n6_ := Aside0.mk (Kd.R_below (by (with_reducible repeat (first | apply rA|apply rN|apply rW)); exact HO_298000.out) hb); have n7_ := Aside0.mk (Kd.R_below (by (with_reducible repeat (first | apply rA|apply rN|apply rW)); exact HO_298001.out) hb); have n8_ := Aside0.mk (blk_below (g := gb237) (o := .cells #[.slice A0_0 l0_0.length c0_0, .slice A0_1 l0_1.length c0_1] 25 (0, 0)) (by (with_reducible repeat (first | refine bN ?_ _|refine bW ?_|refine bA ?_ _)); exact BK237.out) hb); have n9_ := Aside0.mk (blk_below (g := gb252) (o := .cells #[.slice Ao22 t245.length co22, .slice Ao25 t248.length co25] 29 (0, 0)) (by (with_reducible repeat (first | refine bN ?_ _|refine bW ?_|refine bA ?_ _)); exact BK252.out) hb); have n10_ := Aside0.mk (blk_below (g := gb259) (o := .cells #[.slice Ao29 t277.length co29, .slice Ao33 t278.length co33] 29 (0, 0)) (by (with_reducible repeat (first | refine bN ?_ _|refine bW ?_|refine bA ?_ _)); exact BK259.out) hb); have n11_ := Aside0.mk (blk_below (g := gb267) (o := .cells #[.slice Ao36 t281.length co36, .slice Ao41 t282.length co41] 29 (0, 0)) (by (with_reducible repeat (first | refine bN ?_ _|refine bW ?_|refine bA ?_ _)); exact BK267.out) hb); have n12_ := Aside0.mk (blk_below (g := gb297) (o := .cells #[.slice Ao124 t290.length co124, .slice Ao130 t293.length co130] 29 (0, 0)) (by (with_reducible repeat (first | refine bN ?_ _|refine bW ?_|refine bA ?_ _)); exact BK297.out) hb); have n13_ := Aside0.mk (below_step (by repeat (first | (with_reducible first | exact HB.out|apply wA|apply wN|apply wD |refine wS ?_ GE237.out |refine wS ?_ GE252.out |refine wS ?_ GE259.out |refine wS ?_ GE267.out |refine wS ?_ GE297.out) | exact HB.out)) hb); clear HO_253000; clear HO_253001; clear HO_260000; clear HO_260001; clear HO_268000; clear HO_268001; clear HO_298000; clear HO_298001; clear BK237; clear BK252; clear BK259; clear BK267; clear BK297; clear HB; have HO_253000 := n0_; have HO_253001 := n1_; have HO_260000 := n2_; have HO_260001 := n3_; have HO_268000 := n4_; have HO_268001 := n5_; have HO_298000 := n6_; have HO_298001 := n7_; have BK237 := n8_; have BK252 := n9_; have BK259 := n10_; have BK267 := n11_; have BK297 := n12_; have HB := n13_; clear n0_ n1_ n2_ n3_ n4_ n5_ n6_ n7_ n8_ n9_ n10_ n11_ n12_ n13_; (try clear hb); (try clear hb2); (try clear hk); (try clear hi)))
                        go_ret
                        exact ⟨by first | rfl | (simp [errW_none, errW_some] <;> rfl) | (simp [*, errW_none, errW_some] <;> rfl), by repeat (first | (with_reducible first | exact HB.out|apply wA|apply wN|apply wD |refine wS ?_ GE237.out |refine wS ?_ GE252.out |refine wS ?_ GE259.out |refine wS ?_ GE267.out |refine wS ?_ GE297.out) | exact HB.out)⟩
                       ·rw [if_neg c156] at H
                        have c156b0 : decide (t299 < 0) = false := decide_eq_false c156
                        clear c156
                        by_cases c163 : t299 = t280
                        ·rw [if_pos c163] at H
                         have c163b0 : (t299 == t280) = true := beq_iff_eq.mpr c163
                         have c163b1 : (t299 != t280) = false := bne_eq_false_iff_eq.mpr c163
                         clear c163
                         obtain rfl := Option.some.inj H
                         have hnb164 := NB267_237.out
                         have hnc164 := NB237_267.out
                         have hnb165 := NB267_252.out
                         have hnc165 := NB252_267.out
                         have hnb166 := NB267_259.out
                         have hnc166 := NB259_267.out
                         have hnb167 := NB267_297.out
                         have hnc167 := NB297_267.out
                         have hcz168_0 : wc.cell? ⟨gb267, 0, none⟩ = some (.slice Ao36 t281.length co36) := (blk_cell BK267.out 0).trans rfl
                         have hcz168_1 : wc.cell? ⟨gb267, 1, none⟩ = some (.slice Ao41 t282.length co41) := (blk_cell BK267.out 1).trans rfl
                         have hfz168_0 := blk_frozen BK267.out 0
                         have hfz168_1 := blk_frozen BK267.out 1
                         go_wp2_with (first | ((with_reducible refine gate_callee (f := 10) rfl ?_); refine goesL_ (some 98) rfl rfl Try.func10 (by kernel_rfl) rfl #[.agg #[.slice Ao36 t281.length co36, .slice Ao41 t282.length co41], .int .i64 1] rfl (by (try simp only [List.map_toArray, List.map_cons, List.map_nil]); first | done | rfl | (simp only [List.length_drop, List.length_take]; rfl)) ?_; (with_reducible refine (laws_heldNetwork.calls _ _ t281 _ _ t282 1 t299 _ ?side1 ?side2 ?side3 ?side4 A155.out).mono ?_); (case side1 => repeat (first | exact (Kd.R_reads' HO_268000.out).2.2 | (with_reducible first|refine Kd.C_alloc ?_ _|refine Kd.C_drewN ?_ _|refine Kd.C_drew ?_))); (case side2 => exact (Kd.R_reads' HO_268000.out).2.1); (case side3 => repeat (first | exact (Kd.R_reads' HO_268001.out).2.2 | (with_reducible first|refine Kd.C_alloc ?_ _|refine Kd.C_drewN ?_ _|refine Kd.C_drew ?_))); (case side4 => exact (Kd.R_reads' HO_268001.out).2.1); rintro e w169 ⟨rfl, hb⟩; refine ⟨_, rfl, ?_⟩; have n0_ := Aside0.mk (Kd.R_below (by (with_reducible repeat (first | apply rA|apply rN|apply rW)); exact HO_253000.out) hb); have n1_ := Aside0.mk (Kd.R_below (by (with_reducible repeat (first | apply rA|apply rN|apply rW)); exact HO_253001.out) hb); have n2_ := Aside0.mk (Kd.R_below (by (with_reducible repeat (first | apply rA|apply rN|apply rW)); exact HO_260000.out) hb); have n3_ := Aside0.mk (Kd.R_below (by (with_reducible repeat (first | apply rA|apply rN|apply rW)); exact HO_260001.out) hb); have n4_ := Aside0.mk (Kd.R_below (by (with_reducible repeat (first | apply rA|apply rN|apply rW)); exact HO_268000.out) hb); have n5_ := Aside0.mk (Kd.R_below (by (with_reducible repeat (first | apply rA|apply rN|apply rW)); exact HO_268001.out) hb); have n6_ := Aside0.mk (Kd.R_below (by (with_reducible repeat (first | apply rA|apply rN|apply rW)); exact HO_298000.out) hb); have n7_ := Aside0.mk (Kd.R_below (by (with_reducible repeat (first | apply rA|apply rN|apply rW)); exact HO_298001.out) hb); have n8_ := Aside0.mk (blk_below (g := gb237) (o := .cells #[.slice A0_0 l0_0.length c0_0, .slice A0_1 l0_1.length c0_1] 25 (0, 0)) (by (with_reducible repeat (first | refine bN ?_ _|refine bW ?_|refine bA ?_ _)); exact BK237.out) hb); have n9_ := Aside0.mk (blk_below (g := gb252) (o := .cells #[.slice Ao22 t245.length co22, .slice Ao25 t248.length co25] 29 (0, 0)) (by (with_reducible repeat (first | refine bN ?_ _|refine bW ?_|refine bA ?_ _)); exact BK252.out) hb); have n10_ := Aside0.mk (blk_below (g := gb259) (o := .cells #[.slice Ao29 t277.length co29, .slice Ao33 t278.length co33] 29 (0, 0)) (by (with_reducible repeat (first | refine bN ?_ _|refine bW ?_|refine bA ?_ _)); exact BK259.out) hb); have n11_ := Aside0.mk (blk_below (g := gb267) (o := .cells #[.slice Ao36 t281.length co36, .slice Ao41 t282.length co41] 29 (0, 0)) (by (with_reducible repeat (first | refine bN ?_ _|refine bW ?_|refine bA ?_ _)); exact BK267.out) hb); have n12_ := Aside0.mk (blk_below (g := gb297) (o := .cells #[.slice Ao124 t290.length co124, .slice Ao130 t293.length co130] 29 (0, 0)) (by (with_reducible repeat (first | refine bN ?_ _|refine bW ?_|refine bA ?_ _)); exact BK297.out) hb); have n13_ := Aside0.mk (below_step (by repeat (first | (with_reducible first | exact HB.out|apply wA|apply wN|apply wD |refine wS ?_ GE237.out |refine wS ?_ GE252.out |refine wS ?_ GE259.out |refine wS ?_ GE267.out |refine wS ?_ GE297.out) | exact HB.out)) hb); clear HO_253000; clear HO_253001; clear HO_260000; clear HO_260001; clear HO_268000; clear HO_268001; clear HO_298000; clear HO_298001; clear BK237; clear BK252; clear BK259; clear BK267; clear BK297; clear HB; have HO_253000 := n0_; have HO_253001 := n1_; have HO_260000 := n2_; have HO_260001 := n3_; have HO_268000 := n4_; have HO_268001 := n5_; have HO_298000 := n6_; have HO_298001 := n7_; have BK237 := n8_; have BK252 := n9_; have BK259 := n10_; have BK267 := n11_; have BK297 := n12_; have HB := n13_; clear n0_ n1_ n2_ n3_ n4_ n5_ n6_ n7_ n8_ n9_ n10_ n11_ n12_ n13_; (try clear hb); (try clear hb2); (try clear hk); (try clear hi)))
                         go_ret
                         exact ⟨by first | rfl | (simp [errW_none, errW_some] <;> rfl) | (simp [*, errW_none, errW_some] <;> rfl), by repeat (first | (with_reducible first | exact HB.out|apply wA|apply wN|apply wD |refine wS ?_ GE237.out |refine wS ?_ GE252.out |refine wS ?_ GE259.out |refine wS ?_ GE267.out |refine wS ?_ GE297.out) | exact HB.out)⟩
                        ·rw [if_neg c163] at H
                         have c163b0 : (t299 == t280) = false := beq_eq_false_iff_ne.mpr c163
                         have c163b1 : (t299 != t280) = true := bne_iff_ne.mpr c163
                         obtain rfl := Option.some.inj H
                         have hnb170 := NB267_237.out
                         have hnc170 := NB237_267.out
                         have hnb171 := NB267_252.out
                         have hnc171 := NB252_267.out
                         have hnb172 := NB267_259.out
                         have hnc172 := NB259_267.out
                         have hnb173 := NB267_297.out
                         have hnc173 := NB297_267.out
                         have hcz174_0 : wc.cell? ⟨gb267, 0, none⟩ = some (.slice Ao36 t281.length co36) := (blk_cell BK267.out 0).trans rfl
                         have hcz174_1 : wc.cell? ⟨gb267, 1, none⟩ = some (.slice Ao41 t282.length co41) := (blk_cell BK267.out 1).trans rfl
                         have hfz174_0 := blk_frozen BK267.out 0
                         have hfz174_1 := blk_frozen BK267.out 1
                         go_wp2_with (first | ((with_reducible refine gate_callee (f := 10) rfl ?_); refine goesL_ (some 98) rfl rfl Try.func10 (by kernel_rfl) rfl #[.agg #[.slice Ao36 t281.length co36, .slice Ao41 t282.length co41], .int .i64 1] rfl (by (try simp only [List.map_toArray, List.map_cons, List.map_nil]); first | done | rfl | (simp only [List.length_drop, List.length_take]; rfl)) ?_; (with_reducible refine (laws_heldNetwork.calls _ _ t281 _ _ t282 1 t299 _ ?side1 ?side2 ?side3 ?side4 A155.out).mono ?_); (case side1 => repeat (first | exact (Kd.R_reads' HO_268000.out).2.2 | (with_reducible first|refine Kd.C_alloc ?_ _|refine Kd.C_drewN ?_ _|refine Kd.C_drew ?_))); (case side2 => exact (Kd.R_reads' HO_268000.out).2.1); (case side3 => repeat (first | exact (Kd.R_reads' HO_268001.out).2.2 | (with_reducible first|refine Kd.C_alloc ?_ _|refine Kd.C_drewN ?_ _|refine Kd.C_drew ?_))); (case side4 => exact (Kd.R_reads' HO_268001.out).2.1); rintro e w175 ⟨rfl, hb⟩; refine ⟨_, rfl, ?_⟩; have n0_ := Aside0.mk (Kd.R_below (by (with_reducible repeat (first | apply rA|apply rN|apply rW)); exact HO_253000.out) hb); have n1_ := Aside0.mk (Kd.R_below (by (with_reducible repeat (first | apply rA|apply rN|apply rW)); exact HO_253001.out) hb); have n2_ := Aside0.mk (Kd.R_below (by (with_reducible repeat (first | apply rA|apply rN|apply rW)); exact HO_260000.out) hb); have n3_ := Aside0.mk (Kd.R_below (by (with_reducible repeat (first | apply rA|apply rN|apply rW)); exact HO_260001.out) hb); have n4_ := Aside0.mk (Kd.R_below (by (with_reducible repeat (first | apply rA|apply rN|apply rW)); exact HO_268000.out) hb); have n5_ := Aside0.mk (Kd.R_below (by (with_reducible repeat (first | apply rA|apply rN|apply rW)); exact HO_268001.out) hb); have n6_ := Aside0.mk (Kd.R_below (by (with_reducible repeat (first | apply rA|apply rN|apply rW)); exact HO_298000.out) hb); have n7_ := Aside0.mk (Kd.R_below (by (with_reducible repeat (first | apply rA|apply rN|apply rW)); exact HO_298001.out) hb); have n8_ := Aside0.mk (blk_below (g := gb237) (o := .cells #[.slice A0_0 l0_0.length c0_0, .slice A0_1 l0_1.length c0_1] 25 (0, 0)) (by (with_reducible repeat (first | refine bN ?_ _|refine bW ?_|refine bA ?_ _)); exact BK237.out) hb); have n9_ := Aside0.mk (blk_below (g := gb252) (o := .cells #[.slice Ao22 t245.length co22, .slice Ao25 t248.length co25] 29 (0, 0)) (by (with_reducible repeat (first | refine bN ?_ _|refine bW ?_|refine bA ?_ _)); exact BK252.out) hb); have n10_ := Aside0.mk (blk_below (g := gb259) (o := .cells #[.slice Ao29 t277.length co29, .slice Ao33 t278.length co33] 29 (0, 0)) (by (with_reducible repeat (first | refine bN ?_ _|refine bW ?_|refine bA ?_ _)); exact BK259.out) hb); have n11_ := Aside0.mk (blk_below (g := gb267) (o := .cells #[.slice Ao36 t281.length co36, .slice Ao41 t282.length co41] 29 (0, 0)) (by (with_reducible repeat (first | refine bN ?_ _|refine bW ?_|refine bA ?_ _)); exact BK267.out) hb); have n12_ := Aside0.mk (blk_below (g := gb297) (o := .cells #[.slice Ao124 t290.length co124, .slice Ao130 t293.length co130] 29 (0, 0)) (by (with_reducible repeat (first | refine bN ?_ _|refine bW ?_|refine bA ?_ _)); exact BK297.out) hb); have n13_ := Aside0.mk (below_step (by repeat (first | (with_reducible first | exact HB.out|apply wA|apply wN|apply wD |refine wS ?_ GE237.out |refine wS ?_ GE252.out |refine wS ?_ GE259.out |refine wS ?_ GE267.out |refine wS ?_ GE297.out) | exact HB.out)) hb); clear HO_253000; clear HO_253001; clear HO_260000; clear HO_260001; clear HO_268000; clear HO_268001; clear HO_298000; clear HO_298001; clear BK237; clear BK252; clear BK259; clear BK267; clear BK297; clear HB; have HO_253000 := n0_; have HO_253001 := n1_; have HO_260000 := n2_; have HO_260001 := n3_; have HO_268000 := n4_; have HO_268001 := n5_; have HO_298000 := n6_; have HO_298001 := n7_; have BK237 := n8_; have BK252 := n9_; have BK259 := n10_; have BK267 := n11_; have BK297 := n12_; have HB := n13_; clear n0_ n1_ n2_ n3_ n4_ n5_ n6_ n7_ n8_ n9_ n10_ n11_ n12_ n13_; (try clear hb); (try clear hb2); (try clear hk); (try clear hi)))
                         go_ret
                         exact ⟨by first | rfl | (simp [errW_none, errW_some] <;> rfl) | (simp [*, errW_none, errW_some] <;> rfl), by repeat (first | (with_reducible first | exact HB.out|apply wA|apply wN|apply wD |refine wS ?_ GE237.out |refine wS ?_ GE252.out |refine wS ?_ GE259.out |refine wS ?_ GE267.out |refine wS ?_ GE297.out) | exact HB.out)⟩

end Go.Proofs.Ytjeahkaghadldaa.PFnExactDropPipe
