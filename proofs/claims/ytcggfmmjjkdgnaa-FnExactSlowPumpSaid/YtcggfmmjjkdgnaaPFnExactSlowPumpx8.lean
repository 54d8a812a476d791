-- Printed by a program of this session (wip/hprint.sh: the kit's print with hand-proved contracts put in); not by print.sh itself.
import Derived.Test.YtcggfmmjjkdgnaaPFnExactSlowPumpx0
import Derived.Test.YtcggfmmjjkdgnaaPFnExactSlowPumpx1
import Derived.Test.YtcggfmmjjkdgnaaPFnExactSlowPumpx3
import Derived.Test.YtcggfmmjjkdgnaaPFnExactSlowPumpx4
import Derived.Test.YtcggfmmjjkdgnaaPFnExactSlowPumpx6
import Derived.Test.YtcggfmmjjkdgnaaPFnExactSlowPumpx7
namespace Go.Proofs.Ytcggfmmjjkdgnaa.PFnExactSlowPump
open Go.RowKit Go.Proofs.YtcggfmmjjkdgnaaW.PrintWords Go.Proofs.YtcggfmmjjkdgnaaW.PrintLast Go.Proofs.YtcggfmmjjkdgnaaW.PrintMore Go.Proofs.YtcggfmmjjkdgnaaM
attribute [local go_sem] max2_int min2_int max_two min_two max_three min_three max_four min_four   -- for this text's walks alone
set_option linter.unusedVariables false
set_option linter.unusedSimpArgs false

theorem laws_heldPump.callsN (k : Nat) (a0_0 : ByteArray) (A0_1 : Option Addr) (c0_1 n : Nat) (l0_1 : List (List Int)) (a1 : Int) (r : Int) (w : World) (hr0_1 : Kd.C (Kd.slice 2 (Kd.int .i64)) w A0_1 l0_1.length l0_1) (hc0_1 : n ≤ c0_1) (hn : n = l0_1.length) (h : laws_heldPump.f k a0_0 l0_1 a1 = some r) :
  Calls Try.prog 10 #[.agg #[.string a0_0, .slice A0_1 n c0_1], .int .i64 a1] w fun e w' => e = .returned (.int .i64 r) ∧ Below w.heap.size w w' := by
  subst hn
  exact laws_heldPump.calls k a0_0 A0_1 c0_1 l0_1 a1 r w hr0_1 hc0_1 h
/-! ### laws_FnExactSlowPump: function 3 -/
mutual
def laws_FnExactSlowPump.j0 : Nat → Int → ByteArray → List (List Int) → Option (Bool)
 | 0, _, _, _ => none
 | k + 1, x1, x227000, x227001 => (laws_toPump.f x227000 x227001).bind fun bt228 => ((spec_SlowPump.f k bt228.1 bt228.2 x1).bind fun bt232 => ((laws_toPump.f x227000 x227001).bind fun bt238 => ((impl_SlowPump.f k bt238.1 bt238.2 x1).bind fun bt243 => ((laws_eqPump.f bt243.1 bt243.2.1 bt232.1 bt232.2.1).bind fun t249 => (if t249 = true then (laws_FnExactSlowPump.j1 k x1 bt232.2.2 bt243.2.2 (bt243.2.2 != bt232.2.2) x227000 x227001 bt232.1 bt232.2.1 bt238.1 bt238.2 bt243.1 bt243.2.1) else (laws_FnExactSlowPump.j1 k x1 bt232.2.2 bt243.2.2 true x227000 x227001 bt232.1 bt232.2.1 bt238.1 bt238.2 bt243.1 bt243.2.1))))))
def laws_FnExactSlowPump.j1 : Nat → Int → Int → Int → Bool → ByteArray → List (List Int) → ByteArray → List (List Int) → ByteArray → List (List Int) → ByteArray → List (List Int) → Option (Bool)
 | 0, _, _, _, _, _, _, _, _, _, _, _, _ => none
 | k + 1, x1, x7, x10, x44, x227000, x227001, x238000, x238001, x243000, x243001, x249000, x249001 => if x44 = true then (some false) else (laws_FnExactSlowPump.j2 k x1 x7 x10 x227000 x227001 x238000 x238001 x243000 x243001 x249000 x249001)
def laws_FnExactSlowPump.j2 : Nat → Int → Int → Int → ByteArray → List (List Int) → ByteArray → List (List Int) → ByteArray → List (List Int) → ByteArray → List (List Int) → Option (Bool)
 | 0, _, _, _, _, _, _, _, _, _, _, _ => none
 | k + 1, x1, x7, x10, x227000, x227001, x238000, x238001, x243000, x243001, x249000, x249001 => (laws_toPump.f x227000 x227001).bind fun bt250 => ((laws_eqPump.f x243000 x243001 bt250.1 bt250.2).bind fun t254 => (if t254 = true then (laws_FnExactSlowPump.j3 k x1 x7 x10 x227000 x227001 x238000 x238001 x243000 x243001 x249000 x249001) else (some false)))
def laws_FnExactSlowPump.j3 : Nat → Int → Int → Int → ByteArray → List (List Int) → ByteArray → List (List Int) → ByteArray → List (List Int) → ByteArray → List (List Int) → Option (Bool)
 | 0, _, _, _, _, _, _, _, _, _, _, _ => none
 | k + 1, x1, x7, x10, x227000, x227001, x238000, x238001, x243000, x243001, x249000, x249001 => (laws_markPump.f x243000 x243001 1).bind fun t255 => (if t255 < 0 then (laws_FnExactSlowPump.j4 k x1 x7 true x227000 x227001 x238000 x238001 x249000 x249001) else ((laws_eqPump.f x249000 x249001 x238000 x238001).bind fun t256 => (if t256 = true then (laws_FnExactSlowPump.j4 k x1 x7 (x10 != x7) x227000 x227001 x238000 x238001 x249000 x249001) else (laws_FnExactSlowPump.j4 k x1 x7 true x227000 x227001 x238000 x238001 x249000 x249001))))
def laws_FnExactSlowPump.j4 : Nat → Int → Int → Bool → ByteArray → List (List Int) → ByteArray → List (List Int) → ByteArray → List (List Int) → Option (Bool)
 | 0, _, _, _, _, _, _, _, _, _ => none
 | k + 1, x1, x7, x65, x227000, x227001, x238000, x238001, x249000, x249001 => if x65 = true then (some false) else (laws_FnExactSlowPump.j5 k x1 x7 x227000 x227001 x238000 x238001 x249000 x249001)
def laws_FnExactSlowPump.j5 : Nat → Int → Int → ByteArray → List (List Int) → ByteArray → List (List Int) → ByteArray → List (List Int) → Option (Bool)
 | 0, _, _, _, _, _, _, _, _ => none
 | k + 1, x1, x7, x227000, x227001, x238000, x238001, x249000, x249001 => (laws_markPump.f x249000 x249001 1).bind fun t257 => ((laws_heldPump.f k x249000 (ssMark x249001 1) 1).bind fun t258 => (if t258 < 0 then (some false) else (laws_FnExactSlowPump.j6 k x1 x7 t257 t258 x227000 x227001 x238000 x238001 x249000 x249001)))
def laws_FnExactSlowPump.j6 : Nat → Int → Int → Int → Int → ByteArray → List (List Int) → ByteArray → List (List Int) → ByteArray → List (List Int) → Option (Bool)
 | 0, _, _, _, _, _, _, _, _, _, _ => none
 | k + 1, x1, x7, x12, x13, x227000, x227001, x238000, x238001, x249000, x249001 => if x13 = x12 then (laws_FnExactSlowPump.j7 k x1 x7 x12 x227000 x227001 x238000 x238001 x249000 x249001) else (some false)
def laws_FnExactSlowPump.j7 : Nat → Int → Int → Int → ByteArray → List (List Int) → ByteArray → List (List Int) → ByteArray → List (List Int) → Option (Bool)
 | 0, _, _, _, _, _, _, _, _, _ => none
 | k + 1, x1, x7, x12, x227000, x227001, x238000, x238001, x249000, x249001 => (laws_toPump.f x227000 x227001).bind fun bt259 => ((impl_SlowPump.f k bt259.1 bt259.2 x1).bind fun bt263 => ((laws_eqPump.f bt263.1 bt263.2.1 x238000 x238001).bind fun t269 => (if t269 = true then (laws_FnExactSlowPump.j8 k x12 (bt263.2.2 != x7) x249000 x249001) else (laws_FnExactSlowPump.j8 k x12 true x249000 x249001))))
def laws_FnExactSlowPump.j8 : Nat → Int → Bool → ByteArray → List (List Int) → Option (Bool)
 | 0, _, _, _, _ => none
 | k + 1, x12, x92, x249000, x249001 => if x92 = true then (some false) else (laws_FnExactSlowPump.j9 k x12 x249000 x249001)
def laws_FnExactSlowPump.j9 : Nat → Int → ByteArray → List (List Int) → Option (Bool)
 | 0, _, _, _ => none
 | k + 1, x12, x249000, x249001 => (laws_heldPump.f k x249000 (ssMark x249001 1) 1).bind fun t270 => (if t270 < 0 then (some false) else (if t270 = x12 then (some true) else (some false)))
end
def laws_FnExactSlowPump.f (k : Nat) (a0_0 : ByteArray) (l0_1 : List (List Int)) (a1 : Int) : Option (Bool) := (laws_szPump.f a0_0 l0_1 1048576).bind fun t227 => (if t227 < 0 then (some true) else (laws_FnExactSlowPump.j0 k a1 a0_0 l0_1))
theorem laws_FnExactSlowPump.mono_l : ∀ k, (∀ y0 y1 y2, LeO (laws_FnExactSlowPump.j0 k y0 y1 y2) (laws_FnExactSlowPump.j0 (k + 1) y0 y1 y2)) ∧ (∀ y0 y1 y2 y3 y4 y5 y6 y7 y8 y9 y10 y11, LeO (laws_FnExactSlowPump.j1 k y0 y1 y2 y3 y4 y5 y6 y7 y8 y9 y10 y11) (laws_FnExactSlowPump.j1 (k + 1) y0 y1 y2 y3 y4 y5 y6 y7 y8 y9 y10 y11)) ∧ (∀ y0 y1 y2 y3 y4 y5 y6 y7 y8 y9 y10, LeO (laws_FnExactSlowPump.j2 k y0 y1 y2 y3 y4 y5 y6 y7 y8 y9 y10) (laws_FnExactSlowPump.j2 (k + 1) y0 y1 y2 y3 y4 y5 y6 y7 y8 y9 y10)) ∧ (∀ y0 y1 y2 y3 y4 y5 y6 y7 y8 y9 y10, LeO (laws_FnExactSlowPump.j3 k y0 y1 y2 y3 y4 y5 y6 y7 y8 y9 y10) (laws_FnExactSlowPump.j3 (k + 1) y0 y1 y2 y3 y4 y5 y6 y7 y8 y9 y10)) ∧ (∀ y0 y1 y2 y3 y4 y5 y6 y7 y8, LeO (laws_FnExactSlowPump.j4 k y0 y1 y2 y3 y4 y5 y6 y7 y8) (laws_FnExactSlowPump.j4 (k + 1) y0 y1 y2 y3 y4 y5 y6 y7 y8)) ∧ (∀ y0 y1 y2 y3 y4 y5 y6 y7, LeO (laws_FnExactSlowPump.j5 k y0 y1 y2 y3 y4 y5 y6 y7) (laws_FnExactSlowPump.j5 (k + 1) y0 y1 y2 y3 y4 y5 y6 y7)) ∧ (∀ y0 y1 y2 y3 y4 y5 y6 y7 y8 y9, LeO (laws_FnExactSlowPump.j6 k y0 y1 y2 y3 y4 y5 y6 y7 y8 y9) (laws_FnExactSlowPump.j6 (k + 1) y0 y1 y2 y3 y4 y5 y6 y7 y8 y9)) ∧ (∀ y0 y1 y2 y3 y4 y5 y6 y7 y8, LeO (laws_FnExactSlowPump.j7 k y0 y1 y2 y3 y4 y5 y6 y7 y8) (laws_FnExactSlowPump.j7 (k + 1) y0 y1 y2 y3 y4 y5 y6 y7 y8)) ∧ (∀ y0 y1 y2 y3, LeO (laws_FnExactSlowPump.j8 k y0 y1 y2 y3) (laws_FnExactSlowPump.j8 (k + 1) y0 y1 y2 y3)) ∧ (∀ y0 y1 y2, LeO (laws_FnExactSlowPump.j9 k y0 y1 y2) (laws_FnExactSlowPump.j9 (k + 1) y0 y1 y2))
 | 0 => ⟨fun _ _ _ r h => by simp [laws_FnExactSlowPump.j0] at h, fun _ _ _ _ _ _ _ _ _ _ _ _ r h => by simp [laws_FnExactSlowPump.j1] at h, fun _ _ _ _ _ _ _ _ _ _ _ r h => by simp [laws_FnExactSlowPump.j2] at h, fun _ _ _ _ _ _ _ _ _ _ _ r h => by simp [laws_FnExactSlowPump.j3] at h, fun _ _ _ _ _ _ _ _ _ r h => by simp [laws_FnExactSlowPump.j4] at h, fun _ _ _ _ _ _ _ _ r h => by simp [laws_FnExactSlowPump.j5] at h, fun _ _ _ _ _ _ _ _ _ _ r h => by simp [laws_FnExactSlowPump.j6] at h, fun _ _ _ _ _ _ _ _ _ r h => by simp [laws_FnExactSlowPump.j7] at h, fun _ _ _ _ r h => by simp [laws_FnExactSlowPump.j8] at h, fun _ _ _ r h => by simp [laws_FnExactSlowPump.j9] at h⟩
 | k + 1 => by
  obtain ⟨ih0, ih1, ih2, ih3, ih4, ih5, ih6, ih7, ih8, ih9⟩ := laws_FnExactSlowPump.mono_l k
  refine ⟨?_, ?_, ?_, ?_, ?_, ?_, ?_, ?_, ?_, ?_⟩
  ·intro y0 y1 y2
   unfold laws_FnExactSlowPump.j0
   repeat' first
   | (with_reducible exact ih0 _ _ _)
   | (with_reducible exact ih1 _ _ _ _ _ _ _ _ _ _ _ _)
   | (with_reducible exact ih2 _ _ _ _ _ _ _ _ _ _ _)
   | (with_reducible exact ih3 _ _ _ _ _ _ _ _ _ _ _)
   | (with_reducible exact ih4 _ _ _ _ _ _ _ _ _)
   | (with_reducible exact ih5 _ _ _ _ _ _ _ _)
   | (with_reducible exact ih6 _ _ _ _ _ _ _ _ _ _)
   | (with_reducible exact ih7 _ _ _ _ _ _ _ _ _)
   | (with_reducible exact ih8 _ _ _ _)
   | (with_reducible exact ih9 _ _ _)
   | (with_reducible exact impl_SlowPump.mono _ _ _ _)
   | (with_reducible exact laws_heldPump.mono _ _ _ _)
   | (with_reducible exact spec_SlowPump.mono _ _ _ _)
   | (with_reducible exact LeO.refl _)
   | (with_reducible exact LeO.none _)
   | (with_reducible refine LeO.ite ?_ ?_)
   | (with_reducible refine LeO.bind ?_ (fun _ => ?_))
   | exact ih0 _ _ _
   | exact ih1 _ _ _ _ _ _ _ _ _ _ _ _
   | exact ih2 _ _ _ _ _ _ _ _ _ _ _
   | exact ih3 _ _ _ _ _ _ _ _ _ _ _
   | exact ih4 _ _ _ _ _ _ _ _ _
   | exact ih5 _ _ _ _ _ _ _ _
   | exact ih6 _ _ _ _ _ _ _ _ _ _
   | exact ih7 _ _ _ _ _ _ _ _ _
   | exact ih8 _ _ _ _
   | exact ih9 _ _ _
   | exact impl_SlowPump.mono _ _ _ _
   | exact laws_heldPump.mono _ _ _ _
   | exact spec_SlowPump.mono _ _ _ _
   | exact LeO.none _
   | refine LeO.ite ?_ ?_
   | refine LeO.bind ?_ (fun _ => ?_)
  ·intro y0 y1 y2 y3 y4 y5 y6 y7 y8 y9 y10 y11
   unfold laws_FnExactSlowPump.j1
   repeat' first
   | (with_reducible exact ih0 _ _ _)
   | (with_reducible exact ih1 _ _ _ _ _ _ _ _ _ _ _ _)
   | (with_reducible exact ih2 _ _ _ _ _ _ _ _ _ _ _)
   | (with_reducible exact ih3 _ _ _ _ _ _ _ _ _ _ _)
   | (with_reducible exact ih4 _ _ _ _ _ _ _ _ _)
   | (with_reducible exact ih5 _ _ _ _ _ _ _ _)
   | (with_reducible exact ih6 _ _ _ _ _ _ _ _ _ _)
   | (with_reducible exact ih7 _ _ _ _ _ _ _ _ _)
   | (with_reducible exact ih8 _ _ _ _)
   | (with_reducible exact ih9 _ _ _)
   | (with_reducible exact impl_SlowPump.mono _ _ _ _)
   | (with_reducible exact laws_heldPump.mono _ _ _ _)
   | (with_reducible exact spec_SlowPump.mono _ _ _ _)
   | (with_reducible exact LeO.refl _)
   | (with_reducible exact LeO.none _)
   | (with_reducible refine LeO.ite ?_ ?_)
   | (with_reducible refine LeO.bind ?_ (fun _ => ?_))
   | exact ih0 _ _ _
   | exact ih1 _ _ _ _ _ _ _ _ _ _ _ _
   | exact ih2 _ _ _ _ _ _ _ _ _ _ _
   | exact ih3 _ _ _ _ _ _ _ _ _ _ _
   | exact ih4 _ _ _ _ _ _ _ _ _
   | exact ih5 _ _ _ _ _ _ _ _
   | exact ih6 _ _ _ _ _ _ _ _ _ _
   | exact ih7 _ _ _ _ _ _ _ _ _
   | exact ih8 _ _ _ _
   | exact ih9 _ _ _
   | exact impl_SlowPump.mono _ _ _ _
   | exact laws_heldPump.mono _ _ _ _
   | exact spec_SlowPump.mono _ _ _ _
   | exact LeO.none _
   | refine LeO.ite ?_ ?_
   | refine LeO.bind ?_ (fun _ => ?_)
  ·intro y0 y1 y2 y3 y4 y5 y6 y7 y8 y9 y10
   unfold laws_FnExactSlowPump.j2
   repeat' first
   | (with_reducible exact ih0 _ _ _)
   | (with_reducible exact ih1 _ _ _ _ _ _ _ _ _ _ _ _)
   | (with_reducible exact ih2 _ _ _ _ _ _ _ _ _ _ _)
   | (with_reducible exact ih3 _ _ _ _ _ _ _ _ _ _ _)
   | (with_reducible exact ih4 _ _ _ _ _ _ _ _ _)
   | (with_reducible exact ih5 _ _ _ _ _ _ _ _)
   | (with_reducible exact ih6 _ _ _ _ _ _ _ _ _ _)
   | (with_reducible exact ih7 _ _ _ _ _ _ _ _ _)
   | (with_reducible exact ih8 _ _ _ _)
   | (with_reducible exact ih9 _ _ _)
   | (with_reducible exact impl_SlowPump.mono _ _ _ _)
   | (with_reducible exact laws_heldPump.mono _ _ _ _)
   | (with_reducible exact spec_SlowPump.mono _ _ _ _)
   | (with_reducible exact LeO.refl _)
   | (with_reducible exact LeO.none _)
   | (with_reducible refine LeO.ite ?_ ?_)
   | (with_reducible refine LeO.bind ?_ (fun _ => ?_))
   | exact ih0 _ _ _
   | exact ih1 _ _ _ _ _ _ _ _ _ _ _ _
   | exact ih2 _ _ _ _ _ _ _ _ _ _ _
   | exact ih3 _ _ _ _ _ _ _ _ _ _ _
   | exact ih4 _ _ _ _ _ _ _ _ _
   | exact ih5 _ _ _ _ _ _ _ _
   | exact ih6 _ _ _ _ _ _ _ _ _ _
   | exact ih7 _ _ _ _ _ _ _ _ _
   | exact ih8 _ _ _ _
   | exact ih9 _ _ _
   | exact impl_SlowPump.mono _ _ _ _
   | exact laws_heldPump.mono _ _ _ _
   | exact spec_SlowPump.mono _ _ _ _
   | exact LeO.none _
   | refine LeO.ite ?_ ?_
   | refine LeO.bind ?_ (fun _ => ?_)
  ·intro y0 y1 y2 y3 y4 y5 y6 y7 y8 y9 y10
   unfold laws_FnExactSlowPump.j3
   repeat' first
   | (with_reducible exact ih0 _ _ _)
   | (with_reducible exact ih1 _ _ _ _ _ _ _ _ _ _ _ _)
   | (with_reducible exact ih2 _ _ _ _ _ _ _ _ _ _ _)
   | (with_reducible exact ih3 _ _ _ _ _ _ _ _ _ _ _)
   | (with_reducible exact ih4 _ _ _ _ _ _ _ _ _)
   | (with_reducible exact ih5 _ _ _ _ _ _ _ _)
   | (with_reducible exact ih6 _ _ _ _ _ _ _ _ _ _)
   | (with_reducible exact ih7 _ _ _ _ _ _ _ _ _)
   | (with_reducible exact ih8 _ _ _ _)
   | (with_reducible exact ih9 _ _ _)
   | (with_reducible exact impl_SlowPump.mono _ _ _ _)
   | (with_reducible exact laws_heldPump.mono _ _ _ _)
   | (with_reducible exact spec_SlowPump.mono _ _ _ _)
   | (with_reducible exact LeO.refl _)
   | (with_reducible exact LeO.none _)
   | (with_reducible refine LeO.ite ?_ ?_)
   | (with_reducible refine LeO.bind ?_ (fun _ => ?_))
   | exact ih0 _ _ _
   | exact ih1 _ _ _ _ _ _ _ _ _ _ _ _
   | exact ih2 _ _ _ _ _ _ _ _ _ _ _
   | exact ih3 _ _ _ _ _ _ _ _ _ _ _
   | exact ih4 _ _ _ _ _ _ _ _ _
   | exact ih5 _ _ _ _ _ _ _ _
   | exact ih6 _ _ _ _ _ _ _ _ _ _
   | exact ih7 _ _ _ _ _ _ _ _ _
   | exact ih8 _ _ _ _
   | exact ih9 _ _ _
   | exact impl_SlowPump.mono _ _ _ _
   | exact laws_heldPump.mono _ _ _ _
   | exact spec_SlowPump.mono _ _ _ _
   | exact LeO.none _
   | refine LeO.ite ?_ ?_
   | refine LeO.bind ?_ (fun _ => ?_)
  ·intro y0 y1 y2 y3 y4 y5 y6 y7 y8
   unfold laws_FnExactSlowPump.j4
   repeat' first
   | (with_reducible exact ih0 _ _ _)
   | (with_reducible exact ih1 _ _ _ _ _ _ _ _ _ _ _ _)
   | (with_reducible exact ih2 _ _ _ _ _ _ _ _ _ _ _)
   | (with_reducible exact ih3 _ _ _ _ _ _ _ _ _ _ _)
   | (with_reducible exact ih4 _ _ _ _ _ _ _ _ _)
   | (with_reducible exact ih5 _ _ _ _ _ _ _ _)
   | (with_reducible exact ih6 _ _ _ _ _ _ _ _ _ _)
   | (with_reducible exact ih7 _ _ _ _ _ _ _ _ _)
   | (with_reducible exact ih8 _ _ _ _)
   | (with_reducible exact ih9 _ _ _)
   | (with_reducible exact impl_SlowPump.mono _ _ _ _)
   | (with_reducible exact laws_heldPump.mono _ _ _ _)
   | (with_reducible exact spec_SlowPump.mono _ _ _ _)
   | (with_reducible exact LeO.refl _)
   | (with_reducible exact LeO.none _)
   | (with_reducible refine LeO.ite ?_ ?_)
   | (with_reducible refine LeO.bind ?_ (fun _ => ?_))
   | exact ih0 _ _ _
   | exact ih1 _ _ _ _ _ _ _ _ _ _ _ _
   | exact ih2 _ _ _ _ _ _ _ _ _ _ _
   | exact ih3 _ _ _ _ _ _ _ _ _ _ _
   | exact ih4 _ _ _ _ _ _ _ _ _
   | exact ih5 _ _ _ _ _ _ _ _
   | exact ih6 _ _ _ _ _ _ _ _ _ _
   | exact ih7 _ _ _ _ _ _ _ _ _
   | exact ih8 _ _ _ _
   | exact ih9 _ _ _
   | exact impl_SlowPump.mono _ _ _ _
   | exact laws_heldPump.mono _ _ _ _
   | exact spec_SlowPump.mono _ _ _ _
   | exact LeO.none _
   | refine LeO.ite ?_ ?_
   | refine LeO.bind ?_ (fun _ => ?_)
  ·intro y0 y1 y2 y3 y4 y5 y6 y7
   unfold laws_FnExactSlowPump.j5
   repeat' first
   | (with_reducible exact ih0 _ _ _)
   | (with_reducible exact ih1 _ _ _ _ _ _ _ _ _ _ _ _)
   | (with_reducible exact ih2 _ _ _ _ _ _ _ _ _ _ _)
   | (with_reducible exact ih3 _ _ _ _ _ _ _ _ _ _ _)
   | (with_reducible exact ih4 _ _ _ _ _ _ _ _ _)
   | (with_reducible exact ih5 _ _ _ _ _ _ _ _)
   | (with_reducible exact ih6 _ _ _ _ _ _ _ _ _ _)
   | (with_reducible exact ih7 _ _ _ _ _ _ _ _ _)
   | (with_reducible exact ih8 _ _ _ _)
   | (with_reducible exact ih9 _ _ _)
   | (with_reducible exact impl_SlowPump.mono _ _ _ _)
   | (with_reducible exact laws_heldPump.mono _ _ _ _)
   | (with_reducible exact spec_SlowPump.mono _ _ _ _)
   | (with_reducible exact LeO.refl _)
   | (with_reducible exact LeO.none _)
   | (with_reducible refine LeO.ite ?_ ?_)
   | (with_reducible refine LeO.bind ?_ (fun _ => ?_))
   | exact ih0 _ _ _
   | exact ih1 _ _ _ _ _ _ _ _ _ _ _ _
   | exact ih2 _ _ _ _ _ _ _ _ _ _ _
   | exact ih3 _ _ _ _ _ _ _ _ _ _ _
   | exact ih4 _ _ _ _ _ _ _ _ _
   | exact ih5 _ _ _ _ _ _ _ _
   | exact ih6 _ _ _ _ _ _ _ _ _ _
   | exact ih7 _ _ _ _ _ _ _ _ _
   | exact ih8 _ _ _ _
   | exact ih9 _ _ _
   | exact impl_SlowPump.mono _ _ _ _
   | exact laws_heldPump.mono _ _ _ _
   | exact spec_SlowPump.mono _ _ _ _
   | exact LeO.none _
   | refine LeO.ite ?_ ?_
   | refine LeO.bind ?_ (fun _ => ?_)
  ·intro y0 y1 y2 y3 y4 y5 y6 y7 y8 y9
   unfold laws_FnExactSlowPump.j6
   repeat' first
   | (with_reducible exact ih0 _ _ _)
   | (with_reducible exact ih1 _ _ _ _ _ _ _ _ _ _ _ _)
   | (with_reducible exact ih2 _ _ _ _ _ _ _ _ _ _ _)
   | (with_reducible exact ih3 _ _ _ _ _ _ _ _ _ _ _)
   | (with_reducible exact ih4 _ _ _ _ _ _ _ _ _)
   | (with_reducible exact ih5 _ _ _ _ _ _ _ _)
   | (with_reducible exact ih6 _ _ _ _ _ _ _ _ _ _)
   | (with_reducible exact ih7 _ _ _ _ _ _ _ _ _)
   | (with_reducible exact ih8 _ _ _ _)
   | (with_reducible exact ih9 _ _ _)
   | (with_reducible exact impl_SlowPump.mono _ _ _ _)
   | (with_reducible exact laws_heldPump.mono _ _ _ _)
   | (with_reducible exact spec_SlowPump.mono _ _ _ _)
   | (with_reducible exact LeO.refl _)
   | (with_reducible exact LeO.none _)
   | (with_reducible refine LeO.ite ?_ ?_)
   | (with_reducible refine LeO.bind ?_ (fun _ => ?_))
   | exact ih0 _ _ _
   | exact ih1 _ _ _ _ _ _ _ _ _ _ _ _
   | exact ih2 _ _ _ _ _ _ _ _ _ _ _
   | exact ih3 _ _ _ _ _ _ _ _ _ _ _
   | exact ih4 _ _ _ _ _ _ _ _ _
   | exact ih5 _ _ _ _ _ _ _ _
   | exact ih6 _ _ _ _ _ _ _ _ _ _
   | exact ih7 _ _ _ _ _ _ _ _ _
   | exact ih8 _ _ _ _
   | exact ih9 _ _ _
   | exact impl_SlowPump.mono _ _ _ _
   | exact laws_heldPump.mono _ _ _ _
   | exact spec_SlowPump.mono _ _ _ _
   | exact LeO.none _
   | refine LeO.ite ?_ ?_
   | refine LeO.bind ?_ (fun _ => ?_)
  ·intro y0 y1 y2 y3 y4 y5 y6 y7 y8
   unfold laws_FnExactSlowPump.j7
   repeat' first
   | (with_reducible exact ih0 _ _ _)
   | (with_reducible exact ih1 _ _ _ _ _ _ _ _ _ _ _ _)
   | (with_reducible exact ih2 _ _ _ _ _ _ _ _ _ _ _)
   | (with_reducible exact ih3 _ _ _ _ _ _ _ _ _ _ _)
   | (with_reducible exact ih4 _ _ _ _ _ _ _ _ _)
   | (with_reducible exact ih5 _ _ _ _ _ _ _ _)
   | (with_reducible exact ih6 _ _ _ _ _ _ _ _ _ _)
   | (with_reducible exact ih7 _ _ _ _ _ _ _ _ _)
   | (with_reducible exact ih8 _ _ _ _)
   | (with_reducible exact ih9 _ _ _)
   | (with_reducible exact impl_SlowPump.mono _ _ _ _)
   | (with_reducible exact laws_heldPump.mono _ _ _ _)
   | (with_reducible exact spec_SlowPump.mono _ _ _ _)
   | (with_reducible exact LeO.refl _)
   | (with_reducible exact LeO.none _)
   | (with_reducible refine LeO.ite ?_ ?_)
   | (with_reducible refine LeO.bind ?_ (fun _ => ?_))
   | exact ih0 _ _ _
   | exact ih1 _ _ _ _ _ _ _ _ _ _ _ _
   | exact ih2 _ _ _ _ _ _ _ _ _ _ _
   | exact ih3 _ _ _ _ _ _ _ _ _ _ _
   | exact ih4 _ _ _ _ _ _ _ _ _
   | exact ih5 _ _ _ _ _ _ _ _
   | exact ih6 _ _ _ _ _ _ _ _ _ _
   | exact ih7 _ _ _ _ _ _ _ _ _
   | exact ih8 _ _ _ _
   | exact ih9 _ _ _
   | exact impl_SlowPump.mono _ _ _ _
   | exact laws_heldPump.mono _ _ _ _
   | exact spec_SlowPump.mono _ _ _ _
   | exact LeO.none _
   | refine LeO.ite ?_ ?_
   | refine LeO.bind ?_ (fun _ => ?_)
  ·intro y0 y1 y2 y3
   unfold laws_FnExactSlowPump.j8
   repeat' first
   | (with_reducible exact ih0 _ _ _)
   | (with_reducible exact ih1 _ _ _ _ _ _ _ _ _ _ _ _)
   | (with_reducible exact ih2 _ _ _ _ _ _ _ _ _ _ _)
   | (with_reducible exact ih3 _ _ _ _ _ _ _ _ _ _ _)
   | (with_reducible exact ih4 _ _ _ _ _ _ _ _ _)
   | (with_reducible exact ih5 _ _ _ _ _ _ _ _)
   | (with_reducible exact ih6 _ _ _ _ _ _ _ _ _ _)
   | (with_reducible exact ih7 _ _ _ _ _ _ _ _ _)
   | (with_reducible exact ih8 _ _ _ _)
   | (with_reducible exact ih9 _ _ _)
   | (with_reducible exact impl_SlowPump.mono _ _ _ _)
   | (with_reducible exact laws_heldPump.mono _ _ _ _)
   | (with_reducible exact spec_SlowPump.mono _ _ _ _)
   | (with_reducible exact LeO.refl _)
   | (with_reducible exact LeO.none _)
   | (with_reducible refine LeO.ite ?_ ?_)
   | (with_reducible refine LeO.bind ?_ (fun _ => ?_))
   | exact ih0 _ _ _
   | exact ih1 _ _ _ _ _ _ _ _ _ _ _ _
   | exact ih2 _ _ _ _ _ _ _ _ _ _ _
   | exact ih3 _ _ _ _ _ _ _ _ _ _ _
   | exact ih4 _ _ _ _ _ _ _ _ _
   | exact ih5 _ _ _ _ _ _ _ _
   | exact ih6 _ _ _ _ _ _ _ _ _ _
   | exact ih7 _ _ _ _ _ _ _ _ _
   | exact ih8 _ _ _ _
   | exact ih9 _ _ _
   | exact impl_SlowPump.mono _ _ _ _
   | exact laws_heldPump.mono _ _ _ _
   | exact spec_SlowPump.mono _ _ _ _
   | exact LeO.none _
   | refine LeO.ite ?_ ?_
   | refine LeO.bind ?_ (fun _ => ?_)
  ·intro y0 y1 y2
   unfold laws_FnExactSlowPump.j9
   repeat' first
   | (with_reducible exact ih0 _ _ _)
   | (with_reducible exact ih1 _ _ _ _ _ _ _ _ _ _ _ _)
   | (with_reducible exact ih2 _ _ _ _ _ _ _ _ _ _ _)
   | (with_reducible exact ih3 _ _ _ _ _ _ _ _ _ _ _)
   | (with_reducible exact ih4 _ _ _ _ _ _ _ _ _)
   | (with_reducible exact ih5 _ _ _ _ _ _ _ _)
   | (with_reducible exact ih6 _ _ _ _ _ _ _ _ _ _)
   | (with_reducible exact ih7 _ _ _ _ _ _ _ _ _)
   | (with_reducible exact ih8 _ _ _ _)
   | (with_reducible exact ih9 _ _ _)
   | (with_reducible exact impl_SlowPump.mono _ _ _ _)
   | (with_reducible exact laws_heldPump.mono _ _ _ _)
   | (with_reducible exact spec_SlowPump.mono _ _ _ _)
   | (with_reducible exact LeO.refl _)
   | (with_reducible exact LeO.none _)
   | (with_reducible refine LeO.ite ?_ ?_)
   | (with_reducible refine LeO.bind ?_ (fun _ => ?_))
   | exact ih0 _ _ _
   | exact ih1 _ _ _ _ _ _ _ _ _ _ _ _
   | exact ih2 _ _ _ _ _ _ _ _ _ _ _
   | exact ih3 _ _ _ _ _ _ _ _ _ _ _
   | exact ih4 _ _ _ _ _ _ _ _ _
   | exact ih5 _ _ _ _ _ _ _ _
   | exact ih6 _ _ _ _ _ _ _ _ _ _
   | exact ih7 _ _ _ _ _ _ _ _ _
   | exact ih8 _ _ _ _
   | exact ih9 _ _ _
   | exact impl_SlowPump.mono _ _ _ _
   | exact laws_heldPump.mono _ _ _ _
   | exact spec_SlowPump.mono _ _ _ _
   | exact LeO.none _
   | refine LeO.ite ?_ ?_
   | refine LeO.bind ?_ (fun _ => ?_)
theorem laws_FnExactSlowPump.mono : ∀ a0 a1 a2 k, LeO (laws_FnExactSlowPump.f k a0 a1 a2) (laws_FnExactSlowPump.f (k + 1) a0 a1 a2) := by
 intro a0 a1 a2 k
 obtain ⟨ih0, ih1, ih2, ih3, ih4, ih5, ih6, ih7, ih8, ih9⟩ := laws_FnExactSlowPump.mono_l k
 unfold laws_FnExactSlowPump.f
 repeat' first
   | (with_reducible exact ih0 _ _ _)
   | (with_reducible exact ih1 _ _ _ _ _ _ _ _ _ _ _ _)
   | (with_reducible exact ih2 _ _ _ _ _ _ _ _ _ _ _)
   | (with_reducible exact ih3 _ _ _ _ _ _ _ _ _ _ _)
   | (with_reducible exact ih4 _ _ _ _ _ _ _ _ _)
   | (with_reducible exact ih5 _ _ _ _ _ _ _ _)
   | (with_reducible exact ih6 _ _ _ _ _ _ _ _ _ _)
   | (with_reducible exact ih7 _ _ _ _ _ _ _ _ _)
   | (with_reducible exact ih8 _ _ _ _)
   | (with_reducible exact ih9 _ _ _)
   | (with_reducible exact impl_SlowPump.mono _ _ _ _)
   | (with_reducible exact laws_heldPump.mono _ _ _ _)
   | (with_reducible exact spec_SlowPump.mono _ _ _ _)
   | (with_reducible exact LeO.refl _)
   | (with_reducible exact LeO.none _)
   | (with_reducible refine LeO.ite ?_ ?_)
   | (with_reducible refine LeO.bind ?_ (fun _ => ?_))
   | exact ih0 _ _ _
   | exact ih1 _ _ _ _ _ _ _ _ _ _ _ _
   | exact ih2 _ _ _ _ _ _ _ _ _ _ _
   | exact ih3 _ _ _ _ _ _ _ _ _ _ _
   | exact ih4 _ _ _ _ _ _ _ _ _
   | exact ih5 _ _ _ _ _ _ _ _
   | exact ih6 _ _ _ _ _ _ _ _ _ _
   | exact ih7 _ _ _ _ _ _ _ _ _
   | exact ih8 _ _ _ _
   | exact ih9 _ _ _
   | exact impl_SlowPump.mono _ _ _ _
   | exact laws_heldPump.mono _ _ _ _
   | exact spec_SlowPump.mono _ _ _ _
   | exact LeO.none _
   | refine LeO.ite ?_ ?_
   | refine LeO.bind ?_ (fun _ => ?_)
set_option maxHeartbeats 8000000 in
set_option maxRecDepth 100000 in
theorem laws_FnExactSlowPump.calls (k : Nat) (a0_0 : ByteArray) (A0_1 : Option Addr) (c0_1 : Nat) (l0_1 : List (List Int)) (a1 : Int) (r : Bool) (w : World) (hr0_1 : Kd.C (Kd.slice 2 (Kd.int .i64)) w A0_1 l0_1.length l0_1) (hc0_1 : l0_1.length ≤ c0_1) (h : laws_FnExactSlowPump.f k a0_0 l0_1 a1 = some r) :
  Calls Try.prog 3 #[.agg #[.string a0_0, .slice A0_1 l0_1.length c0_1], .int .i64 a1] w fun e w' => e = .returned (.bool r) ∧ Below w.heap.size w w' := by
 have hu24 := Try.underlying24
 have hu26 := Try.underlying26
 have HR0_1 := Aside0.mk hr0_1
 have HC0_1 := Aside0.mk hc0_1
 clear hr0_1 hc0_1
 have HB := Aside0.mk (Below.refl w.heap.size w)
 have H : ((laws_szPump.f a0_0 l0_1 1048576).bind fun t227 => (if t227 < 0 then (some true) else (laws_FnExactSlowPump.j0 k a1 a0_0 l0_1))) = some r := h
 clear h
 replace H := Option.bind_eq_some_iff.mp H
 obtain ⟨t227, A30, H⟩ := H
 replace H : (if t227 < 0 then (some true) else (laws_FnExactSlowPump.j0 k a1 a0_0 l0_1)) = some r := H
 have A3 := Aside0.mk A30
 clear A30
 have HC4 := Aside0.mk H
 clear H
 go_enter Try.func3, Try.ntmps3
 go_upto_if 20 with (first | ((with_reducible refine gate_dst (N := 2) rfl ?_); refine box_event ?hg (N := 2) ?hd (cs := #[.string a0_0, .slice A0_1 l0_1.length c0_1]) (t := 24) ?hr ?_; (case hd => rfl); (case hg => rfl); (case hr => first | (go_simp; done) | (go_simp; rfl)); intro gb226 hg w5 hbox hb; have n0_ := Aside0.mk (below_step (by repeat (first | (with_reducible first | exact HB.out|apply wA|apply wN|apply wD) | exact HB.out)) hb); have n1_ := Aside0.mk (hbox); have n2_ := Aside0.mk ((by rw [hg]; exact (below_size (by repeat (first | (with_reducible first | exact HB.out|apply wA|apply wN|apply wD) | exact HB.out))) : w.heap.size ≤ gb226)); have n3_ := Aside0.mk ((by rw [hg]; exact (below_size (by repeat (first | (with_reducible first | exact HB.out|apply wA|apply wN|apply wD) | exact HB.out))) : w.heap.size ≤ gb226)); clear HB; have HB := n0_; have BK226 := n1_; have GW226 := n2_; have GE226 := n3_; clear n0_ n1_ n2_ n3_; clear hb hbox hg; have hcz6_0 : w5.cell? ⟨gb226, 0, none⟩ = some (.string a0_0) := (blk_cell BK226.out 0).trans rfl; have hcz6_1 : w5.cell? ⟨gb226, 1, none⟩ = some (.slice A0_1 l0_1.length c0_1) := (blk_cell BK226.out 1).trans rfl; have hfz6_0 := blk_frozen BK226.out 0; have hfz6_1 := blk_frozen BK226.out 1) | ((with_reducible refine gate_callee (f := 4) rfl ?_); refine goesL_ (some 18) rfl rfl Try.func4 (by kernel_rfl) rfl #[.agg #[.string a0_0, .slice A0_1 l0_1.length c0_1], .int .i64 1048576] rfl (by (try simp only [List.map_toArray, List.map_cons, List.map_nil]); first | done | rfl | (simp only [List.length_drop, List.length_take]; rfl)) ?_; (with_reducible refine (laws_szPump.calls a0_0 _ _ l0_1 1048576 t227 _ ?side1 ?side2 A3.out).mono ?_); (case side1 => repeat (first | exact (Kd.C_below HR0_1.out HB.out) | (with_reducible first|refine Kd.C_alloc ?_ _|refine Kd.C_drewN ?_ _|refine Kd.C_drew ?_))); (case side2 => exact HC0_1.out); rintro e w7 ⟨rfl, hb⟩; refine ⟨_, rfl, ?_⟩; have n0_ := Aside0.mk (blk_below (g := gb226) (o := .cells #[.string a0_0, .slice A0_1 l0_1.length c0_1] 24 (0, 0)) (by (with_reducible repeat (first | refine bN ?_ _|refine bW ?_|refine bA ?_ _)); exact BK226.out) hb); have n1_ := Aside0.mk (below_step (by repeat (first | (with_reducible first | exact HB.out|apply wA|apply wN|apply wD |refine wS ?_ GE226.out) | exact HB.out)) hb); clear BK226; clear HB; have BK226 := n0_; have HB := n1_; clear n0_ n1_; (try clear hb); (try clear hb2); (try clear hk); (try clear hkp); (try clear hm_); (try clear hB2_); (try clear hi)))
 (try simp only [Act.put, List.setIfInBounds_toArray, List.set_cons_zero, List.set_cons_succ])
 go_cut [] (fun wc => ∃ (kq : Nat), Aside0 (laws_FnExactSlowPump.j0 kq a1 a0_0 l0_1 = some r) ∧ Aside0 (kq ≤ k) ∧ Aside0 (wc.heap[gb226]? = some (.cells #[.string a0_0, (.slice A0_1 l0_1.length c0_1)] 24 (0, 0))) ∧ Aside0 (Below w.heap.size w wc))
 case first =>
  have H := HC4.out
  clear HC4
  by_cases c8 : t227 < 0
  ·rw [if_pos c8] at H
   have c8b0 : decide (t227 < 0) = true := decide_eq_true c8
   clear c8
   (first | rw [c8b0] | (simp only [i64_w, i32_w]; rw [c8b0]) | rw [c8b2] | skip)
   obtain rfl := Option.some.inj H
   go_wp2
   go_ret
   exact ⟨by first | rfl | (simp [errW_none, errW_some] <;> rfl) | (simp [*, errW_none, errW_some] <;> rfl), by repeat (first | (with_reducible first | exact HB.out|apply wA|apply wN|apply wD |refine wS ?_ GE226.out) | exact HB.out)⟩
  ·rw [if_neg c8] at H
   have c8b0 : decide (t227 < 0) = false := decide_eq_false c8
   clear c8
   (first | rw [c8b0] | (simp only [i64_w, i32_w]; rw [c8b0]) | rw [c8b2] | skip)
   have H' := Aside0.mk H
   clear H
   go_wp2
   go_meet
   case rel => exact ⟨_, H', ⟨by first | omega | exact Nat.le_refl _⟩, ⟨by (with_reducible repeat (first | refine bN ?_ _|refine bW ?_|refine bA ?_ _)); exact BK226.out⟩, ⟨by repeat (first | (with_reducible first | exact HB.out|apply wA|apply wN|apply wD |refine wS ?_ GE226.out) | exact HB.out)⟩⟩
 case rest =>
  clear HC4
  try clear p2
  try clear c3
  try clear c4
  try clear c8
  try clear c8b0
  try clear c8b2
  try clear hcz6_0
  try clear hcz6_1
  try clear hfz6_0
  try clear hfz6_1
  obtain ⟨kq, HA, HJ3, BK226, HB⟩ := hcut
  cases kq with
  | zero => exact absurd HA.out (by simp [laws_FnExactSlowPump.j0])
  | succ kj3 =>
   have H := HA.out
   clear HA
   simp only [laws_FnExactSlowPump.j0] at H
   replace H := Option.bind_eq_some_iff.mp H
   obtain ⟨⟨t228, t229⟩, A90, H⟩ := H
   replace H : ((spec_SlowPump.f kj3 t228 t229 a1).bind fun bt232 => ((laws_toPump.f a0_0 l0_1).bind fun bt238 => ((impl_SlowPump.f kj3 bt238.1 bt238.2 a1).bind fun bt243 => ((laws_eqPump.f bt243.1 bt243.2.1 bt232.1 bt232.2.1).bind fun t249 => (if t249 = true then (laws_FnExactSlowPump.j1 kj3 a1 bt232.2.2 bt243.2.2 (bt243.2.2 != bt232.2.2) a0_0 l0_1 bt232.1 bt232.2.1 bt238.1 bt238.2 bt243.1 bt243.2.1) else (laws_FnExactSlowPump.j1 kj3 a1 bt232.2.2 bt243.2.2 true a0_0 l0_1 bt232.1 bt232.2.1 bt238.1 bt238.2 bt243.1 bt243.2.1)))))) = some r := H
   have A9 := Aside0.mk A90
   clear A90
   replace H := Option.bind_eq_some_iff.mp H
   obtain ⟨⟨t232, t233, t236⟩, A100, H⟩ := H
   replace H : ((laws_toPump.f a0_0 l0_1).bind fun bt238 => ((impl_SlowPump.f kj3 bt238.1 bt238.2 a1).bind fun bt243 => ((laws_eqPump.f bt243.1 bt243.2.1 t232 t233).bind fun t249 => (if t249 = true then (laws_FnExactSlowPump.j1 kj3 a1 t236 bt243.2.2 (bt243.2.2 != t236) a0_0 l0_1 t232 t233 bt238.1 bt238.2 bt243.1 bt243.2.1) else (laws_FnExactSlowPump.j1 kj3 a1 t236 bt243.2.2 true a0_0 l0_1 t232 t233 bt238.1 bt238.2 bt243.1 bt243.2.1))))) = some r := H
   have A10 := Aside0.mk A100
   clear A100
   replace H := Option.bind_eq_some_iff.mp H
   obtain ⟨⟨t238, t239⟩, A110, H⟩ := H
   replace H : ((impl_SlowPump.f kj3 t238 t239 a1).bind fun bt243 => ((laws_eqPump.f bt243.1 bt243.2.1 t232 t233).bind fun t249 => (if t249 = true then (laws_FnExactSlowPump.j1 kj3 a1 t236 bt243.2.2 (bt243.2.2 != t236) a0_0 l0_1 t232 t233 t238 t239 bt243.1 bt243.2.1) else (laws_FnExactSlowPump.j1 kj3 a1 t236 bt243.2.2 true a0_0 l0_1 t232 t233 t238 t239 bt243.1 bt243.2.1)))) = some r := H
   have A11 := Aside0.mk A110
   clear A110
   replace H := Option.bind_eq_some_iff.mp H
   obtain ⟨⟨t243, t244, t247⟩, A120, H⟩ := H
   replace H : ((laws_eqPump.f t243 t244 t232 t233).bind fun t249 => (if t249 = true then (laws_FnExactSlowPump.j1 kj3 a1 t236 t247 (t247 != t236) a0_0 l0_1 t232 t233 t238 t239 t243 t244) else (laws_FnExactSlowPump.j1 kj3 a1 t236 t247 true a0_0 l0_1 t232 t233 t238 t239 t243 t244))) = some r := H
   have A12 := Aside0.mk A120
   clear A120
   have HC13 := Aside0.mk H
   clear H
   have hcz14_0 : wc.cell? ⟨gb226, 0, none⟩ = some (.string a0_0) := (blk_cell BK226.out 0).trans rfl
   have hcz14_1 : wc.cell? ⟨gb226, 1, none⟩ = some (.slice A0_1 l0_1.length c0_1) := (blk_cell BK226.out 1).trans rfl
   have hfz14_0 := blk_frozen BK226.out 0
   have hfz14_1 := blk_frozen BK226.out 1
   go_upto_region 8 with (first | ((with_reducible refine gate_callee (f := 6) rfl ?_); refine goesL_ (some 23) rfl rfl Try.func6 (by kernel_rfl) rfl #[.agg #[.string a0_0, .slice A0_1 l0_1.length c0_1]] rfl (by (try simp only [List.map_toArray, List.map_cons, List.map_nil]); first | done | rfl | (simp only [List.length_drop, List.length_take]; rfl)) ?_; (with_reducible refine (laws_toPump.calls a0_0 _ _ l0_1 t228 t229 _ ?side1 ?side2 A9.out).mono ?_); (case side1 => repeat (first | exact (Kd.C_below HR0_1.out HB.out) | (with_reducible first|refine Kd.C_alloc ?_ _|refine Kd.C_drewN ?_ _|refine Kd.C_drew ?_))); (case side2 => exact HC0_1.out); rintro e w15 ⟨v230, rfl, ho0, hb⟩; refine ⟨_, rfl, ?_⟩; have n0_ := Aside0.mk (Kd.S_lower ho0 (below_size (by repeat (first | (with_reducible first | exact HB.out|apply wA|apply wN|apply wD |refine wS ?_ GE226.out) | exact HB.out)))); have n1_ := Aside0.mk (blk_below (g := gb226) (o := .cells #[.string a0_0, .slice A0_1 l0_1.length c0_1] 24 (0, 0)) (by (with_reducible repeat (first | refine bN ?_ _|refine bW ?_|refine bA ?_ _)); exact BK226.out) hb); have n2_ := Aside0.mk (below_step (by repeat (first | (with_reducible first | exact HB.out|apply wA|apply wN|apply wD |refine wS ?_ GE226.out) | exact HB.out)) hb); clear BK226; clear HB; have HO231 := n0_; have BK226 := n1_; have HB := n2_; clear n0_ n1_ n2_; (try clear hb); (try clear hb2); (try clear hk); (try clear hkp); (try clear hm_); (try clear hB2_); (try clear hi); (try clear ho0); obtain ⟨Ao16, co16, eo16⟩ := Kd.S_slice HO231.out; subst eo16) | ((with_reducible refine gate_callee (f := 5) rfl ?_); refine goesL_ (some 25) rfl rfl Try.func5 (by kernel_rfl) rfl #[.agg #[.string t228, .slice Ao16 t229.length co16], .int .i64 a1] rfl (by (try simp only [List.map_toArray, List.map_cons, List.map_nil]); first | done | rfl | (simp only [List.length_drop, List.length_take]; rfl)) ?_; (with_reducible refine (spec_SlowPump.calls kj3 t228 _ _ t229 a1 t232 t233 t236 _ ?side1 ?side2 A10.out).mono ?_); (case side1 => repeat (first | exact (Kd.S_reads' HO231.out).2.2 | (with_reducible first|refine Kd.C_alloc ?_ _|refine Kd.C_drewN ?_ _|refine Kd.C_drew ?_))); (case side2 => exact (Kd.S_reads' HO231.out).2.1); rintro e w17 ⟨v234, rfl, ho0, hb⟩; refine ⟨_, rfl, ?_⟩; have n0_ := Aside0.mk (Kd.S_elder' (by (with_reducible repeat (first | apply Kd.S_alloc | apply Kd.S_drewN | apply Kd.S_drew)); exact HO231.out) (Kd.S_base ho0) hb); have n1_ := Aside0.mk (Kd.S_lower (Kd.S_new' ho0 (Kd.S_lt (by (with_reducible repeat (first | apply Kd.S_alloc | apply Kd.S_drewN | apply Kd.S_drew)); exact HO231.out))) (below_size (by repeat (first | (with_reducible first | exact HB.out|apply wA|apply wN|apply wD |refine wS ?_ GE226.out) | exact HB.out)))); have n2_ := Aside0.mk (blk_below (g := gb226) (o := .cells #[.string a0_0, .slice A0_1 l0_1.length c0_1] 24 (0, 0)) (by (with_reducible repeat (first | refine bN ?_ _|refine bW ?_|refine bA ?_ _)); exact BK226.out) hb); have n3_ := Aside0.mk (below_step (by repeat (first | (with_reducible first | exact HB.out|apply wA|apply wN|apply wD |refine wS ?_ GE226.out) | exact HB.out)) hb); clear HO231; clear BK226; clear HB; have HO231 := n0_; have HO235 := n1_; have BK226 := n2_; have HB := n3_; clear n0_ n1_ n2_ n3_; (try clear hb); (try clear hb2); (try clear hk); (try clear hkp); (try clear hm_); (try clear hB2_); (try clear hi); (try clear ho0)) | ((with_reducible refine gate_dst (N := 6) rfl ?_); refine box_event ?hg (N := 6) ?hd (cs := #[.string (⟨#[]⟩ : ByteArray), .slice none 0 0]) (t := 26) ?hr ?_; (case hd => rfl); (case hg => rfl); (case hr => first | (go_simp; done) | (go_simp; rfl)); intro gb237 hg w18 hbox hb; replace HO235 := Aside0.mk (Kd.S_mono (ok' := fun k_ => k_ < gb237) (Kd.S_bound HO235.out) (fun k_ hk => by rw [hg]; exact hk.2.2.1)); have HLa := Aside0.mk (by rw [hg]; exact blk_lt (by (with_reducible repeat (first | refine bN ?_ _|refine bW ?_|refine bA ?_ _)); exact BK226.out) : gb226 < gb237); have n0_ := Aside0.mk (Kd.S_below (by (with_reducible repeat (first | apply Kd.S_alloc | apply Kd.S_drewN | apply Kd.S_drew)); exact HO231.out) hb); have n1_ := Aside0.mk (Kd.S_below (by (with_reducible repeat (first | apply Kd.S_alloc | apply Kd.S_drewN | apply Kd.S_drew)); exact HO235.out) hb); have n2_ := Aside0.mk (blk_below (g := gb226) (o := .cells #[.string a0_0, .slice A0_1 l0_1.length c0_1] 24 (0, 0)) (by (with_reducible repeat (first | refine bN ?_ _|refine bW ?_|refine bA ?_ _)); exact BK226.out) hb); have n3_ := Aside0.mk (below_step (by repeat (first | (with_reducible first | exact HB.out|apply wA|apply wN|apply wD |refine wS ?_ GE226.out) | exact HB.out)) hb); have n4_ := Aside0.mk (hbox); have n5_ := Aside0.mk ((by rw [hg]; exact (below_size (by repeat (first | (with_reducible first | exact HB.out|apply wA|apply wN|apply wD |refine wS ?_ GE226.out) | exact HB.out))) : w.heap.size ≤ gb237)); have n6_ := Aside0.mk ((by rw [hg]; exact (below_size (by repeat (first | (with_reducible first | exact HB.out|apply wA|apply wN|apply wD |refine wS ?_ GE226.out) | exact HB.out))) : w.heap.size ≤ gb237)); have n7_ := Aside0.mk ((by rw [hg]; exact Nat.ne_of_lt (blk_lt (g := gb226) (o := .cells #[.string a0_0, .slice A0_1 l0_1.length c0_1] 24 (0, 0)) (by (with_reducible repeat (first | refine bN ?_ _|refine bW ?_|refine bA ?_ _)); exact BK226.out)) : gb226 ≠ gb237)); have n8_ := Aside0.mk ((by rw [hg]; exact Nat.ne_of_gt (blk_lt (g := gb226) (o := .cells #[.string a0_0, .slice A0_1 l0_1.length c0_1] 24 (0, 0)) (by (with_reducible repeat (first | refine bN ?_ _|refine bW ?_|refine bA ?_ _)); exact BK226.out)) : gb237 ≠ gb226)); clear HO231; clear HO235; clear BK226; clear HB; have HO231 := n0_; have HO235 := n1_; have BK226 := n2_; have HB := n3_; have BK237 := n4_; have GW237 := n5_; have GE237 := n6_; have NB226_237 := n7_; have NB237_226 := n8_; clear n0_ n1_ n2_ n3_ n4_ n5_ n6_ n7_ n8_; clear hb hbox hg; have hnb19 := NB237_226.out; have hnc19 := NB226_237.out; have hcz20_0 : w18.cell? ⟨gb237, 0, none⟩ = some (.string (⟨#[]⟩ : ByteArray)) := (blk_cell BK237.out 0).trans rfl; have hcz20_1 : w18.cell? ⟨gb237, 1, none⟩ = some (.slice none 0 0) := (blk_cell BK237.out 1).trans rfl; have hfz20_0 := blk_frozen BK237.out 0; have hfz20_1 := blk_frozen BK237.out 1; obtain ⟨Ao21, co21, eo21⟩ := Kd.S_slice HO235.out; subst eo21; have hcz22_0 : w18.cell? ⟨gb226, 0, none⟩ = some (.string a0_0) := (blk_cell BK226.out 0).trans rfl; have hcz22_1 : w18.cell? ⟨gb226, 1, none⟩ = some (.slice A0_1 l0_1.length c0_1) := (blk_cell BK226.out 1).trans rfl; have hfz22_0 := blk_frozen BK226.out 0; have hfz22_1 := blk_frozen BK226.out 1) | ((with_reducible refine gate_callee (f := 6) rfl ?_); refine goesL_ (some 29) rfl rfl Try.func6 (by kernel_rfl) rfl #[.agg #[.string a0_0, .slice A0_1 l0_1.length c0_1]] rfl (by (try simp only [List.map_toArray, List.map_cons, List.map_nil]); first | done | rfl | (simp only [List.length_drop, List.length_take]; rfl)) ?_; (with_reducible refine (laws_toPump.calls a0_0 _ _ l0_1 t238 t239 _ ?side1 ?side2 A11.out).mono ?_); (case side1 => exact Kd.C_below HR0_1.out (by repeat (first | (with_reducible first | exact HB.out|apply wA|apply wN|apply wD |refine wS ?_ GE226.out |refine wS ?_ GE237.out) | exact HB.out))); (case side2 => exact HC0_1.out); rintro e w23 ⟨v240, rfl, ho0, hb⟩; refine ⟨_, rfl, ?_⟩; replace ho0 := Kd.S_mono (ok' := fun k_ => gb237 < k_) (Kd.S_bound ho0) (fun k_ hk => Nat.lt_of_lt_of_le (blk_lt BK237.out) (by have h_ := hk.2.1; simpa [World.setCell] using h_)); have n0_ := Aside0.mk (Kd.S_elder' (by (with_reducible repeat (first | apply Kd.S_alloc | apply Kd.S_drewN | apply Kd.S_drew)); exact (Kd.S_mono (Kd.S_far (p := ⟨gb237, 1, none⟩) (Kd.S_far (p := ⟨gb237, 0, none⟩) (Kd.S_types HO231.out BK237.out (by decide)) (fun _ hk => hk.2) (.string t232)) (fun _ hk => hk.2) (.slice Ao21 t233.length co21)) (fun _ h_ => h_.1))) (Kd.S_base ho0) hb); have n1_ := Aside0.mk (Kd.S_elder' (by (with_reducible repeat (first | apply Kd.S_alloc | apply Kd.S_drewN | apply Kd.S_drew)); exact (Kd.S_mono (Kd.S_far (p := ⟨gb237, 1, none⟩) (Kd.S_far (p := ⟨gb237, 0, none⟩) (Kd.S_types HO235.out BK237.out (by decide)) (fun _ hk => hk.2) (.string t232)) (fun _ hk => hk.2) (.slice Ao21 t233.length co21)) (fun _ h_ => h_.1))) (Kd.S_base ho0) hb); have n2_ := Aside0.mk (Kd.S_lower (Kd.S_new' (Kd.S_new' ho0 (Kd.S_lt (by (with_reducible repeat (first | apply Kd.S_alloc | apply Kd.S_drewN | apply Kd.S_drew)); exact (Kd.S_mono (Kd.S_far (p := ⟨gb237, 1, none⟩) (Kd.S_far (p := ⟨gb237, 0, none⟩) (Kd.S_types HO231.out BK237.out (by decide)) (fun _ hk => hk.2) (.string t232)) (fun _ hk => hk.2) (.slice Ao21 t233.length co21)) (fun _ h_ => h_.1))))) (Kd.S_lt (by (with_reducible repeat (first | apply Kd.S_alloc | apply Kd.S_drewN | apply Kd.S_drew)); exact (Kd.S_mono (Kd.S_far (p := ⟨gb237, 1, none⟩) (Kd.S_far (p := ⟨gb237, 0, none⟩) (Kd.S_types HO235.out BK237.out (by decide)) (fun _ hk => hk.2) (.string t232)) (fun _ hk => hk.2) (.slice Ao21 t233.length co21)) (fun _ h_ => h_.1))))) (below_size (by repeat (first | (with_reducible first | exact HB.out|apply wA|apply wN|apply wD |refine wS ?_ GE226.out |refine wS ?_ GE237.out) | exact HB.out)))); have n3_ := Aside0.mk (blk_below (g := gb226) (o := .cells #[.string a0_0, .slice A0_1 l0_1.length c0_1] 24 (0, 0)) (by (with_reducible repeat (first | refine bN ?_ _|refine bW ?_|refine bA ?_ _)); refine blk_far ?_ NB226_237.out _; (with_reducible repeat (first | refine bN ?_ _|refine bW ?_|refine bA ?_ _)); refine blk_far ?_ NB226_237.out _; (with_reducible repeat (first | refine bN ?_ _|refine bW ?_|refine bA ?_ _)); exact BK226.out) hb); have n4_ := Aside0.mk (blk_below (g := gb237) (o := .cells #[.string t232, .slice Ao21 t233.length co21] 26 (0, 0)) (by (with_reducible repeat (first | refine bN ?_ _|refine bW ?_|refine bA ?_ _)); refine blk_put (cs := #[.string t232, .slice none 0 0]) ?_ 1 _ rfl; (with_reducible repeat (first | refine bN ?_ _|refine bW ?_|refine bA ?_ _)); refine blk_put (cs := #[.string (⟨#[]⟩ : ByteArray), .slice none 0 0]) ?_ 0 _ rfl; (with_reducible repeat (first | refine bN ?_ _|refine bW ?_|refine bA ?_ _)); exact BK237.out) hb); have n5_ := Aside0.mk (below_step (by repeat (first | (with_reducible first | exact HB.out|apply wA|apply wN|apply wD |refine wS ?_ GE226.out |refine wS ?_ GE237.out) | exact HB.out)) hb); clear HO231; clear HO235; clear BK226; clear BK237; clear HB; have HO231 := n0_; have HO235 := n1_; have HO241 := n2_; have BK226 := n3_; have BK237 := n4_; have HB := n5_; clear n0_ n1_ n2_ n3_ n4_ n5_; (try clear hb); (try clear hb2); (try clear hk); (try clear hkp); (try clear hm_); (try clear hB2_); (try clear hi); (try clear ho0)) | ((with_reducible refine gate_dst (N := 8) rfl ?_); refine box_event ?hg (N := 8) ?hd (cs := #[.string (⟨#[]⟩ : ByteArray), .slice none 0 0]) (t := 26) ?hr ?_; (case hd => rfl); (case hg => rfl); (case hr => first | (go_simp; done) | (go_simp; rfl)); intro gb242 hg w24 hbox hb; replace HO241 := Aside0.mk (Kd.S_mono (ok' := fun k_ => gb237 < k_ ∧ k_ < gb242) (Kd.S_bound HO241.out) (fun k_ hk => ⟨hk.1.1.1, by rw [hg]; exact hk.2.2.1⟩)); have HLb := Aside0.mk (by rw [hg]; exact blk_lt (by (with_reducible repeat (first | refine bN ?_ _|refine bW ?_|refine bA ?_ _)); exact BK237.out) : gb237 < gb242); have n0_ := Aside0.mk (Kd.S_below (by (with_reducible repeat (first | apply Kd.S_alloc | apply Kd.S_drewN | apply Kd.S_drew)); exact HO231.out) hb); have n1_ := Aside0.mk (Kd.S_below (by (with_reducible repeat (first | apply Kd.S_alloc | apply Kd.S_drewN | apply Kd.S_drew)); exact HO235.out) hb); have n2_ := Aside0.mk (Kd.S_below (by (with_reducible repeat (first | apply Kd.S_alloc | apply Kd.S_drewN | apply Kd.S_drew)); exact HO241.out) hb); have n3_ := Aside0.mk (blk_below (g := gb226) (o := .cells #[.string a0_0, .slice A0_1 l0_1.length c0_1] 24 (0, 0)) (by (with_reducible repeat (first | refine bN ?_ _|refine bW ?_|refine bA ?_ _)); exact BK226.out) hb); have n4_ := Aside0.mk (blk_below (g := gb237) (o := .cells #[.string t232, .slice Ao21 t233.length co21] 26 (0, 0)) (by (with_reducible repeat (first | refine bN ?_ _|refine bW ?_|refine bA ?_ _)); exact BK237.out) hb); have n5_ := Aside0.mk (below_step (by repeat (first | (with_reducible first | exact HB.out|apply wA|apply wN|apply wD |refine wS ?_ GE226.out |refine wS ?_ GE237.out) | exact HB.out)) hb); have n6_ := Aside0.mk (hbox); have n7_ := Aside0.mk ((by rw [hg]; exact (below_size (by repeat (first | (with_reducible first | exact HB.out|apply wA|apply wN|apply wD |refine wS ?_ GE226.out |refine wS ?_ GE237.out) | exact HB.out))) : w.heap.size ≤ gb242)); have n8_ := Aside0.mk ((by rw [hg]; exact (below_size (by repeat (first | (with_reducible first | exact HB.out|apply wA|apply wN|apply wD |refine wS ?_ GE226.out |refine wS ?_ GE237.out) | exact HB.out))) : w.heap.size ≤ gb242)); have n9_ := Aside0.mk ((by rw [hg]; exact Nat.ne_of_lt (blk_lt (g := gb226) (o := .cells #[.string a0_0, .slice A0_1 l0_1.length c0_1] 24 (0, 0)) (by (with_reducible repeat (first | refine bN ?_ _|refine bW ?_|refine bA ?_ _)); exact BK226.out)) : gb226 ≠ gb242)); have n10_ := Aside0.mk ((by rw [hg]; exact Nat.ne_of_gt (blk_lt (g := gb226) (o := .cells #[.string a0_0, .slice A0_1 l0_1.length c0_1] 24 (0, 0)) (by (with_reducible repeat (first | refine bN ?_ _|refine bW ?_|refine bA ?_ _)); exact BK226.out)) : gb242 ≠ gb226)); have n11_ := Aside0.mk ((by rw [hg]; exact Nat.ne_of_lt (blk_lt (g := gb237) (o := .cells #[.string t232, .slice Ao21 t233.length co21] 26 (0, 0)) (by (with_reducible repeat (first | refine bN ?_ _|refine bW ?_|refine bA ?_ _)); exact BK237.out)) : gb237 ≠ gb242)); have n12_ := Aside0.mk ((by rw [hg]; exact Nat.ne_of_gt (blk_lt (g := gb237) (o := .cells #[.string t232, .slice Ao21 t233.length co21] 26 (0, 0)) (by (with_reducible repeat (first | refine bN ?_ _|refine bW ?_|refine bA ?_ _)); exact BK237.out)) : gb242 ≠ gb237)); clear HO231; clear HO235; clear HO241; clear BK226; clear BK237; clear HB; have HO231 := n0_; have HO235 := n1_; have HO241 := n2_; have BK226 := n3_; have BK237 := n4_; have HB := n5_; have BK242 := n6_; have GW242 := n7_; have GE242 := n8_; have NB226_242 := n9_; have NB242_226 := n10_; have NB237_242 := n11_; have NB242_237 := n12_; clear n0_ n1_ n2_ n3_ n4_ n5_ n6_ n7_ n8_ n9_ n10_ n11_ n12_; clear hb hbox hg; have hnb25 := NB242_226.out; have hnc25 := NB226_242.out; have hnb26 := NB242_237.out; have hnc26 := NB237_242.out; have hcz27_0 : w24.cell? ⟨gb242, 0, none⟩ = some (.string (⟨#[]⟩ : ByteArray)) := (blk_cell BK242.out 0).trans rfl; have hcz27_1 : w24.cell? ⟨gb242, 1, none⟩ = some (.slice none 0 0) := (blk_cell BK242.out 1).trans rfl; have hfz27_0 := blk_frozen BK242.out 0; have hfz27_1 := blk_frozen BK242.out 1; obtain ⟨Ao28, co28, eo28⟩ := Kd.S_slice HO241.out; subst eo28) | ((with_reducible refine gate_callee (f := 7) rfl ?_); refine goesL_ (some 33) rfl rfl Try.func7 (by kernel_rfl) rfl #[.agg #[.string t238, .slice Ao28 t239.length co28], .int .i64 a1] rfl (by (try simp only [List.map_toArray, List.map_cons, List.map_nil]); first | done | rfl | (simp only [List.length_drop, List.length_take]; rfl)) ?_; (with_reducible refine (impl_SlowPump.calls kj3 t238 _ _ t239 a1 t243 t244 t247 _ ?side1 ?side2 A12.out).mono ?_); (case side1 => refine (Kd.S_reads' (e := 44) (base := w.heap.size) (ok := fun k_ => gb237 < k_ ∧ k_ < gb242) (n := t239.length) (c := co28) ?_).2.2; exact (by (with_reducible repeat (first | apply Kd.S_alloc | apply Kd.S_drewN | apply Kd.S_drew)); exact (Kd.S_mono (Kd.S_far (p := ⟨gb242, 1, none⟩) (Kd.S_far (p := ⟨gb242, 0, none⟩) (Kd.S_types HO241.out BK242.out (by decide)) (fun _ hk => hk.2) (.string t238)) (fun _ hk => hk.2) (.slice Ao28 t239.length co28)) (fun _ h_ => by first | exact h_.1 | exact h_.1.1 | exact h_.1.1.1 | exact h_.1.1.1.1 | exact h_.1.1.1.1.1 | exact h_.1.1.1.1.1.1)))); (case side2 => exact (Kd.S_reads' HO241.out).2.1); rintro e w29 ⟨v245, rfl, ho0, hb⟩; refine ⟨_, rfl, ?_⟩; replace ho0 := Kd.S_mono (ok' := fun k_ => gb242 < k_) (Kd.S_bound ho0) (fun k_ hk => Nat.lt_of_lt_of_le (blk_lt BK242.out) (by have h_ := hk.2.1; simpa [World.setCell] using h_)); have n0_ := Aside0.mk (Kd.S_elder' (by (with_reducible repeat (first | apply Kd.S_alloc | apply Kd.S_drewN | apply Kd.S_drew)); exact (Kd.S_mono (Kd.S_far (p := ⟨gb242, 1, none⟩) (Kd.S_far (p := ⟨gb242, 0, none⟩) (Kd.S_types HO231.out BK242.out (by decide)) (fun _ hk => hk.2) (.string t238)) (fun _ hk => hk.2) (.slice Ao28 t239.length co28)) (fun _ h_ => h_.1))) (Kd.S_base ho0) hb); have n1_ := Aside0.mk (Kd.S_elder' (by (with_reducible repeat (first | apply Kd.S_alloc | apply Kd.S_drewN | apply Kd.S_drew)); exact (Kd.S_mono (Kd.S_far (p := ⟨gb242, 1, none⟩) (Kd.S_far (p := ⟨gb242, 0, none⟩) (Kd.S_types HO235.out BK242.out (by decide)) (fun _ hk => hk.2) (.string t238)) (fun _ hk => hk.2) (.slice Ao28 t239.length co28)) (fun _ h_ => h_.1))) (Kd.S_base ho0) hb); have n2_ := Aside0.mk (Kd.S_elder' (by (with_reducible repeat (first | apply Kd.S_alloc | apply Kd.S_drewN | apply Kd.S_drew)); exact (Kd.S_mono (Kd.S_far (p := ⟨gb242, 1, none⟩) (Kd.S_far (p := ⟨gb242, 0, none⟩) (Kd.S_types HO241.out BK242.out (by decide)) (fun _ hk => hk.2) (.string t238)) (fun _ hk => hk.2) (.slice Ao28 t239.length co28)) (fun _ h_ => h_.1))) (Kd.S_base ho0) hb); have n3_ := Aside0.mk (Kd.S_lower (Kd.S_new' (Kd.S_new' (Kd.S_new' ho0 (Kd.S_lt (by (with_reducible repeat (first | apply Kd.S_alloc | apply Kd.S_drewN | apply Kd.S_drew)); exact (Kd.S_mono (Kd.S_far (p := ⟨gb242, 1, none⟩) (Kd.S_far (p := ⟨gb242, 0, none⟩) (Kd.S_types HO231.out BK242.out (by decide)) (fun _ hk => hk.2) (.string t238)) (fun _ hk => hk.2) (.slice Ao28 t239.length co28)) (fun _ h_ => h_.1))))) (Kd.S_lt (by (with_reducible repeat (first | apply Kd.S_alloc | apply Kd.S_drewN | apply Kd.S_drew)); exact (Kd.S_mono (Kd.S_far (p := ⟨gb242, 1, none⟩) (Kd.S_far (p := ⟨gb242, 0, none⟩) (Kd.S_types HO235.out BK242.out (by decide)) (fun _ hk => hk.2) (.string t238)) (fun _ hk => hk.2) (.slice Ao28 t239.length co28)) (fun _ h_ => h_.1))))) (Kd.S_lt (by (with_reducible repeat (first | apply Kd.S_alloc | apply Kd.S_drewN | apply Kd.S_drew)); exact (Kd.S_mono (Kd.S_far (p := ⟨gb242, 1, none⟩) (Kd.S_far (p := ⟨gb242, 0, none⟩) (Kd.S_types HO241.out BK242.out (by decide)) (fun _ hk => hk.2) (.string t238)) (fun _ hk => hk.2) (.slice Ao28 t239.length co28)) (fun _ h_ => h_.1))))) (below_size (by repeat (first | (with_reducible first | exact HB.out|apply wA|apply wN|apply wD |refine wS ?_ GE226.out |refine wS ?_ GE237.out |refine wS ?_ GE242.out) | exact HB.out)))); have n4_ := Aside0.mk (blk_below (g := gb226) (o := .cells #[.string a0_0, .slice A0_1 l0_1.length c0_1] 24 (0, 0)) (by (with_reducible repeat (first | refine bN ?_ _|refine bW ?_|refine bA ?_ _)); refine blk_far ?_ NB226_242.out _; (with_reducible repeat (first | refine bN ?_ _|refine bW ?_|refine bA ?_ _)); refine blk_far ?_ NB226_242.out _; (with_reducible repeat (first | refine bN ?_ _|refine bW ?_|refine bA ?_ _)); exact BK226.out) hb); have n5_ := Aside0.mk (blk_below (g := gb237) (o := .cells #[.string t232, .slice Ao21 t233.length co21] 26 (0, 0)) (by (with_reducible repeat (first | refine bN ?_ _|refine bW ?_|refine bA ?_ _)); refine blk_far ?_ NB237_242.out _; (with_reducible repeat (first | refine bN ?_ _|refine bW ?_|refine bA ?_ _)); refine blk_far ?_ NB237_242.out _; (with_reducible repeat (first | refine bN ?_ _|refine bW ?_|refine bA ?_ _)); exact BK237.out) hb); have n6_ := Aside0.mk (blk_below (g := gb242) (o := .cells #[.string t238, .slice Ao28 t239.length co28] 26 (0, 0)) (by (with_reducible repeat (first | refine bN ?_ _|refine bW ?_|refine bA ?_ _)); refine blk_put (cs := #[.string t238, .slice none 0 0]) ?_ 1 _ rfl; (with_reducible repeat (first | refine bN ?_ _|refine bW ?_|refine bA ?_ _)); refine blk_put (cs := #[.string (⟨#[]⟩ : ByteArray), .slice none 0 0]) ?_ 0 _ rfl; (with_reducible repeat (first | refine bN ?_ _|refine bW ?_|refine bA ?_ _)); exact BK242.out) hb); have n7_ := Aside0.mk (below_step (by repeat (first | (with_reducible first | exact HB.out|apply wA|apply wN|apply wD |refine wS ?_ GE226.out |refine wS ?_ GE237.out |refine wS ?_ GE242.out) | exact HB.out)) hb); clear HO231; clear HO235; clear HO241; clear BK226; clear BK237; clear BK242; clear HB; have HO231 := n0_; have HO235 := n1_; have HO241 := n2_; have HO246 := n3_; have BK226 := n4_; have BK237 := n5_; have BK242 := n6_; have HB := n7_; clear n0_ n1_ n2_ n3_ n4_ n5_ n6_ n7_; (try clear hb); (try clear hb2); (try clear hk); (try clear hkp); (try clear hm_); (try clear hB2_); (try clear hi); (try clear ho0)) | ((with_reducible refine gate_dst (N := 9) rfl ?_); refine box_event ?hg (N := 9) ?hd (cs := #[.string (⟨#[]⟩ : ByteArray), .slice none 0 0]) (t := 26) ?hr ?_; (case hd => rfl); (case hg => rfl); (case hr => first | (go_simp; done) | (go_simp; rfl)); intro gb248 hg w30 hbox hb; replace HO246 := Aside0.mk (Kd.S_mono (ok' := fun k_ => gb242 < k_ ∧ k_ < gb248) (Kd.S_bound HO246.out) (fun k_ hk => ⟨hk.1.1.1.1, by rw [hg]; exact hk.2.2.1⟩)); have HLc := Aside0.mk (by rw [hg]; exact blk_lt (by (with_reducible repeat (first | refine bN ?_ _|refine bW ?_|refine bA ?_ _)); exact BK242.out) : gb242 < gb248); have n0_ := Aside0.mk (Kd.S_below (by (with_reducible repeat (first | apply Kd.S_alloc | apply Kd.S_drewN | apply Kd.S_drew)); exact HO231.out) hb); have n1_ := Aside0.mk (Kd.S_below (by (with_reducible repeat (first | apply Kd.S_alloc | apply Kd.S_drewN | apply Kd.S_drew)); exact HO235.out) hb); have n2_ := Aside0.mk (Kd.S_below (by (with_reducible repeat (first | apply Kd.S_alloc | apply Kd.S_drewN | apply Kd.S_drew)); exact HO241.out) hb); have n3_ := Aside0.mk (Kd.S_below (by (with_reducible repeat (first | apply Kd.S_alloc | apply Kd.S_drewN | apply Kd.S_drew)); exact HO246.out) hb); have n4_ := Aside0.mk (blk_below (g := gb226) (o := .cells #[.string a0_0, .slice A0_1 l0_1.length c0_1] 24 (0, 0)) (by (with_reducible repeat (first | refine bN ?_ _|refine bW ?_|refine bA ?_ _)); exact BK226.out) hb); have n5_ := Aside0.mk (blk_below (g := gb237) (o := .cells #[.string t232, .slice Ao21 t233.length co21] 26 (0, 0)) (by (with_reducible repeat (first | refine bN ?_ _|refine bW ?_|refine bA ?_ _)); exact BK237.out) hb); have n6_ := Aside0.mk (blk_below (g := gb242) (o := .cells #[.string t238, .slice Ao28 t239.length co28] 26 (0, 0)) (by (with_reducible repeat (first | refine bN ?_ _|refine bW ?_|refine bA ?_ _)); exact BK242.out) hb); have n7_ := Aside0.mk (below_step (by repeat (first | (with_reducible first | exact HB.out|apply wA|apply wN|apply wD |refine wS ?_ GE226.out |refine wS ?_ GE237.out |refine wS ?_ GE242.out) | exact HB.out)) hb); have n8_ := Aside0.mk (hbox); have n9_ := Aside0.mk ((by rw [hg]; exact (below_size (by repeat (first | (with_reducible first | exact HB.out|apply wA|apply wN|apply wD |refine wS ?_ GE226.out |refine wS ?_ GE237.out |refine wS ?_ GE242.out) | exact HB.out))) : w.heap.size ≤ gb248)); have n10_ := Aside0.mk ((by rw [hg]; exact (below_size (by repeat (first | (with_reducible first | exact HB.out|apply wA|apply wN|apply wD |refine wS ?_ GE226.out |refine wS ?_ GE237.out |refine wS ?_ GE242.out) | exact HB.out))) : w.heap.size ≤ gb248)); have n11_ := Aside0.mk ((by rw [hg]; exact Nat.ne_of_lt (blk_lt (g := gb226) (o := .cells #[.string a0_0, .slice A0_1 l0_1.length c0_1] 24 (0, 0)) (by (with_reducible repeat (first | refine bN ?_ _|refine bW ?_|refine bA ?_ _)); exact BK226.out)) : gb226 ≠ gb248)); have n12_ := Aside0.mk ((by rw [hg]; exact Nat.ne_of_gt (blk_lt (g := gb226) (o := .cells #[.string a0_0, .slice A0_1 l0_1.length c0_1] 24 (0, 0)) (by (with_reducible repeat (first | refine bN ?_ _|refine bW ?_|refine bA ?_ _)); exact BK226.out)) : gb248 ≠ gb226)); have n13_ := Aside0.mk ((by rw [hg]; exact Nat.ne_of_lt (blk_lt (g := gb237) (o := .cells #[.string t232, .slice Ao21 t233.length co21] 26 (0, 0)) (by (with_reducible repeat (first | refine bN ?_ _|refine bW ?_|refine bA ?_ _)); exact BK237.out)) : gb237 ≠ gb248)); have n14_ := Aside0.mk ((by rw [hg]; exact Nat.ne_of_gt (blk_lt (g := gb237) (o := .cells #[.string t232, .slice Ao21 t233.length co21] 26 (0, 0)) (by (with_reducible repeat (first | refine bN ?_ _|refine bW ?_|refine bA ?_ _)); exact BK237.out)) : gb248 ≠ gb237)); have n15_ := Aside0.mk ((by rw [hg]; exact Nat.ne_of_lt (blk_lt (g := gb242) (o := .cells #[.string t238, .slice Ao28 t239.length co28] 26 (0, 0)) (by (with_reducible repeat (first | refine bN ?_ _|refine bW ?_|refine bA ?_ _)); exact BK242.out)) : gb242 ≠ gb248)); have n16_ := Aside0.mk ((by rw [hg]; exact Nat.ne_of_gt (blk_lt (g := gb242) (o := .cells #[.string t238, .slice Ao28 t239.length co28] 26 (0, 0)) (by (with_reducible repeat (first | refine bN ?_ _|refine bW ?_|refine bA ?_ _)); exact BK242.out)) : gb248 ≠ gb242)); clear HO231; clear HO235; clear HO241; clear HO246; clear BK226; clear BK237; clear BK242; clear HB; have HO231 := n0_; have HO235 := n1_; have HO241 := n2_; have HO246 := n3_; have BK226 := n4_; have BK237 := n5_; have BK242 := n6_; have HB := n7_; have BK248 := n8_; have GW248 := n9_; have GE248 := n10_; have NB226_248 := n11_; have NB248_226 := n12_; have NB237_248 := n13_; have NB248_237 := n14_; have NB242_248 := n15_; have NB248_242 := n16_; clear n0_ n1_ n2_ n3_ n4_ n5_ n6_ n7_ n8_ n9_ n10_ n11_ n12_ n13_ n14_ n15_ n16_; clear hb hbox hg; have hnb31 := NB248_226.out; have hnc31 := NB226_248.out; have hnb32 := NB248_237.out; have hnc32 := NB237_248.out; have hnb33 := NB248_242.out; have hnc33 := NB242_248.out; have hcz34_0 : w30.cell? ⟨gb248, 0, none⟩ = some (.string (⟨#[]⟩ : ByteArray)) := (blk_cell BK248.out 0).trans rfl; have hcz34_1 : w30.cell? ⟨gb248, 1, none⟩ = some (.slice none 0 0) := (blk_cell BK248.out 1).trans rfl; have hfz34_0 := blk_frozen BK248.out 0; have hfz34_1 := blk_frozen BK248.out 1; obtain ⟨Ao35, co35, eo35⟩ := Kd.S_slice HO246.out; subst eo35))
   (try simp only [Act.put, List.setIfInBounds_toArray, List.set_cons_zero, List.set_cons_succ])
   go_cut [44] (fun v44 wc => ∃ (kq : Nat) (x44_12 : Bool), v44 = .bool x44_12 ∧ Aside0 (laws_FnExactSlowPump.j1 kq a1 t236 t247 x44_12 a0_0 l0_1 t232 t233 t238 t239 t243 t244 = some r) ∧ Aside0 (kq ≤ kj3) ∧ Aside0 (Kd.S (Kd.slice 2 (Kd.int .i64)) 44 wc w.heap.size (fun k_ => k_ < gb237) (.slice Ao21 t233.length co21) t233) ∧ Aside0 (Kd.S (Kd.slice 2 (Kd.int .i64)) 44 wc w.heap.size (fun k_ => gb237 < k_ ∧ k_ < gb242) (.slice Ao28 t239.length co28) t239) ∧ Aside0 (Kd.S (Kd.slice 2 (Kd.int .i64)) 44 wc w.heap.size (fun k_ => gb242 < k_ ∧ k_ < gb248) (.slice Ao35 t244.length co35) t244) ∧ Aside0 (wc.heap[gb226]? = some (.cells #[.string a0_0, (.slice A0_1 l0_1.length c0_1)] 24 (0, 0))) ∧ Aside0 (wc.heap[gb237]? = some (.cells #[.string t232, (.slice Ao21 t233.length co21)] 26 (0, 0))) ∧ Aside0 (wc.heap[gb242]? = some (.cells #[.string t238, (.slice Ao28 t239.length co28)] 26 (0, 0))) ∧ Aside0 (wc.heap[gb248]? = some (.cells #[.string t243, (.slice Ao35 t244.length co35)] 26 (0, 0))) ∧ Aside0 (Below w.heap.size w wc))
   case first =>
    have H := HC13.out
    clear HC13
    replace H := Option.bind_eq_some_iff.mp H
    obtain ⟨t249, A360, H⟩ := H
    replace H : (if t249 = true then (laws_FnExactSlowPump.j1 kj3 a1 t236 t247 (t247 != t236) a0_0 l0_1 t232 t233 t238 t239 t243 t244) else (laws_FnExactSlowPump.j1 kj3 a1 t236 t247 true a0_0 l0_1 t232 t233 t238 t239 t243 t244)) = some r := H
    have A36 := Aside0.mk A360
    clear A360
    by_cases c37 : t249 = true
    ·subst c37
     have H1 : (laws_FnExactSlowPump.j1 kj3 a1 t236 t247 (t247 != t236) a0_0 l0_1 t232 t233 t238 t239 t243 t244) = some r := by rw [if_pos rfl] at H; exact H
     clear H
     have H := H1
     clear H1
     have H' := Aside0.mk H
     clear H
     have hnb38 := NB248_226.out
     have hnc38 := NB226_248.out
     have hnb39 := NB248_237.out
     have hnc39 := NB237_248.out
     have hnb40 := NB248_242.out
     have hnc40 := NB242_248.out
     have hcz41_0 : w30.cell? ⟨gb248, 0, none⟩ = some (.string (⟨#[]⟩ : ByteArray)) := (blk_cell BK248.out 0).trans rfl
     have hcz41_1 : w30.cell? ⟨gb248, 1, none⟩ = some (.slice none 0 0) := (blk_cell BK248.out 1).trans rfl
     have hfz41_0 := blk_frozen BK248.out 0
     have hfz41_1 := blk_frozen BK248.out 1
     have hnb42 := NB237_226.out
     have hnc42 := NB226_237.out
     have hnb43 := NB237_242.out
     have hnc43 := NB242_237.out
     have hcz44_0 : w30.cell? ⟨gb237, 0, none⟩ = some (.string t232) := (blk_cell BK237.out 0).trans rfl
     have hcz44_1 : w30.cell? ⟨gb237, 1, none⟩ = some (.slice Ao21 t233.length co21) := (blk_cell BK237.out 1).trans rfl
     have hfz44_0 := blk_frozen BK237.out 0
     have hfz44_1 := blk_frozen BK237.out 1
     go_wp2_with (first | ((with_reducible refine gate_callee (f := 8) rfl ?_); refine goesL_ (some 38) rfl rfl Try.func8 (by kernel_rfl) rfl #[.agg #[.string t243, .slice Ao35 t244.length co35], .agg #[.string t232, .slice Ao21 t233.length co21]] rfl (by (try simp only [List.map_toArray, List.map_cons, List.map_nil]); first | done | rfl | (simp only [List.length_drop, List.length_take]; rfl)) ?_; (with_reducible refine (laws_eqPump.calls t243 _ _ t244 t232 _ _ t233 true _ ?side1 ?side2 ?side3 ?side4 A36.out).mono ?_); (case side1 => refine (Kd.S_reads' (e := 44) (base := w.heap.size) (ok := fun k_ => gb242 < k_ ∧ k_ < gb248) (n := t244.length) (c := co35) ?_).2.2; exact (by (with_reducible repeat (first | apply Kd.S_alloc | apply Kd.S_drewN | apply Kd.S_drew)); exact (Kd.S_mono (Kd.S_far (p := ⟨gb248, 1, none⟩) (Kd.S_far (p := ⟨gb248, 0, none⟩) (Kd.S_types HO246.out BK248.out (by decide)) (fun _ hk => hk.2) (.string t243)) (fun _ hk => hk.2) (.slice Ao35 t244.length co35)) (fun _ h_ => by first | exact h_.1 | exact h_.1.1 | exact h_.1.1.1 | exact h_.1.1.1.1 | exact h_.1.1.1.1.1 | exact h_.1.1.1.1.1.1)))); (case side2 => exact (Kd.S_reads' HO246.out).2.1); (case side3 => refine (Kd.S_reads' (e := 44) (base := w.heap.size) (ok := fun k_ => k_ < gb237) (n := t233.length) (c := co21) ?_).2.2; exact (by (with_reducible repeat (first | apply Kd.S_alloc | apply Kd.S_drewN | apply Kd.S_drew)); exact (Kd.S_mono (Kd.S_far (p := ⟨gb248, 1, none⟩) (Kd.S_far (p := ⟨gb248, 0, none⟩) (Kd.S_types HO235.out BK248.out (by decide)) (fun _ hk => hk.2) (.string t243)) (fun _ hk => hk.2) (.slice Ao35 t244.length co35)) (fun _ h_ => by first | exact h_.1 | exact h_.1.1 | exact h_.1.1.1 | exact h_.1.1.1.1 | exact h_.1.1.1.1.1 | exact h_.1.1.1.1.1.1)))); (case side4 => exact (Kd.S_reads' HO235.out).2.1); rintro e w45 ⟨rfl, hb⟩; refine ⟨_, rfl, ?_⟩; have n0_ := Aside0.mk (Kd.S_below (by (with_reducible repeat (first | apply Kd.S_alloc | apply Kd.S_drewN | apply Kd.S_drew)); exact (Kd.S_mono (Kd.S_far (p := ⟨gb248, 1, none⟩) (Kd.S_far (p := ⟨gb248, 0, none⟩) (Kd.S_types HO231.out BK248.out (by decide)) (fun _ hk => hk.2) (.string t243)) (fun _ hk => hk.2) (.slice Ao35 t244.length co35)) (fun _ h_ => h_.1))) hb); have n1_ := Aside0.mk (Kd.S_below (by (with_reducible repeat (first | apply Kd.S_alloc | apply Kd.S_drewN | apply Kd.S_drew)); exact (Kd.S_mono (Kd.S_far (p := ⟨gb248, 1, none⟩) (Kd.S_far (p := ⟨gb248, 0, none⟩) (Kd.S_types HO235.out BK248.out (by decide)) (fun _ hk => hk.2) (.string t243)) (fun _ hk => hk.2) (.slice Ao35 t244.length co35)) (fun _ h_ => h_.1))) hb); have n2_ := Aside0.mk (Kd.S_below (by (with_reducible repeat (first | apply Kd.S_alloc | apply Kd.S_drewN | apply Kd.S_drew)); exact (Kd.S_mono (Kd.S_far (p := ⟨gb248, 1, none⟩) (Kd.S_far (p := ⟨gb248, 0, none⟩) (Kd.S_types HO241.out BK248.out (by decide)) (fun _ hk => hk.2) (.string t243)) (fun _ hk => hk.2) (.slice Ao35 t244.length co35)) (fun _ h_ => h_.1))) hb); have n3_ := Aside0.mk (Kd.S_below (by (with_reducible repeat (first | apply Kd.S_alloc | apply Kd.S_drewN | apply Kd.S_drew)); exact (Kd.S_mono (Kd.S_far (p := ⟨gb248, 1, none⟩) (Kd.S_far (p := ⟨gb248, 0, none⟩) (Kd.S_types HO246.out BK248.out (by decide)) (fun _ hk => hk.2) (.string t243)) (fun _ hk => hk.2) (.slice Ao35 t244.length co35)) (fun _ h_ => h_.1))) hb); have n4_ := Aside0.mk (blk_below (g := gb226) (o := .cells #[.string a0_0, .slice A0_1 l0_1.length c0_1] 24 (0, 0)) (by (with_reducible repeat (first | refine bN ?_ _|refine bW ?_|refine bA ?_ _)); refine blk_far ?_ NB226_248.out _; (with_reducible repeat (first | refine bN ?_ _|refine bW ?_|refine bA ?_ _)); refine blk_far ?_ NB226_248.out _; (with_reducible repeat (first | refine bN ?_ _|refine bW ?_|refine bA ?_ _)); exact BK226.out) hb); have n5_ := Aside0.mk (blk_below (g := gb237) (o := .cells #[.string t232, .slice Ao21 t233.length co21] 26 (0, 0)) (by (with_reducible repeat (first | refine bN ?_ _|refine bW ?_|refine bA ?_ _)); refine blk_far ?_ NB237_248.out _; (with_reducible repeat (first | refine bN ?_ _|refine bW ?_|refine bA ?_ _)); refine blk_far ?_ NB237_248.out _; (with_reducible repeat (first | refine bN ?_ _|refine bW ?_|refine bA ?_ _)); exact BK237.out) hb); have n6_ := Aside0.mk (blk_below (g := gb242) (o := .cells #[.string t238, .slice Ao28 t239.length co28] 26 (0, 0)) (by (with_reducible repeat (first | refine bN ?_ _|refine bW ?_|refine bA ?_ _)); refine blk_far ?_ NB242_248.out _; (with_reducible repeat (first | refine bN ?_ _|refine bW ?_|refine bA ?_ _)); refine blk_far ?_ NB242_248.out _; (with_reducible repeat (first | refine bN ?_ _|refine bW ?_|refine bA ?_ _)); exact BK242.out) hb); have n7_ := Aside0.mk (blk_below (g := gb248) (o := .cells #[.string t243, .slice Ao35 t244.length co35] 26 (0, 0)) (by (with_reducible repeat (first | refine bN ?_ _|refine bW ?_|refine bA ?_ _)); refine blk_put (cs := #[.string t243, .slice none 0 0]) ?_ 1 _ rfl; (with_reducible repeat (first | refine bN ?_ _|refine bW ?_|refine bA ?_ _)); refine blk_put (cs := #[.string (⟨#[]⟩ : ByteArray), .slice none 0 0]) ?_ 0 _ rfl; (with_reducible repeat (first | refine bN ?_ _|refine bW ?_|refine bA ?_ _)); exact BK248.out) hb); have n8_ := Aside0.mk (below_step (by repeat (first | (with_reducible first | exact HB.out|apply wA|apply wN|apply wD |refine wS ?_ GE226.out |refine wS ?_ GE237.out |refine wS ?_ GE242.out |refine wS ?_ GE248.out) | exact HB.out)) hb); clear HO231; clear HO235; clear HO241; clear HO246; clear BK226; clear BK237; clear BK242; clear BK248; clear HB; have HO231 := n0_; have HO235 := n1_; have HO241 := n2_; have HO246 := n3_; have BK226 := n4_; have BK237 := n5_; have BK242 := n6_; have BK248 := n7_; have HB := n8_; clear n0_ n1_ n2_ n3_ n4_ n5_ n6_ n7_ n8_; (try clear hb); (try clear hb2); (try clear hk); (try clear hkp); (try clear hm_); (try clear hB2_); (try clear hi)))
     go_meet
     case rel => exact ⟨_, ((t247 != t236)), (by first | rfl | (simp; done) | (simp [*]; done)), H', ⟨by have := HJ3.out; first | omega | exact Nat.le_refl _⟩, ⟨by (with_reducible repeat (first | apply Kd.S_alloc | apply Kd.S_drewN | apply Kd.S_drew)); exact Kd.S_mono HO235.out (fun _ hk => by first | exact ⟨hk.1.2, hk.2⟩ | exact hk | exact hk.1 | exact hk.1.1 | exact hk.1.1.1 | exact hk.1.1.1.1 | exact hk.1.1.1.1.1 | exact hk.1.1.1.1.1.1 | exact hk.1.1.1.1.1.1.1)⟩, ⟨by (with_reducible repeat (first | apply Kd.S_alloc | apply Kd.S_drewN | apply Kd.S_drew)); exact Kd.S_mono HO241.out (fun _ hk => by first | exact ⟨hk.1.2, hk.2⟩ | exact hk | exact hk.1 | exact hk.1.1 | exact hk.1.1.1 | exact hk.1.1.1.1 | exact hk.1.1.1.1.1 | exact hk.1.1.1.1.1.1 | exact hk.1.1.1.1.1.1.1)⟩, ⟨by (with_reducible repeat (first | apply Kd.S_alloc | apply Kd.S_drewN | apply Kd.S_drew)); exact Kd.S_mono HO246.out (fun _ hk => by first | exact ⟨hk.1.2, hk.2⟩ | exact hk | exact hk.1 | exact hk.1.1 | exact hk.1.1.1 | exact hk.1.1.1.1 | exact hk.1.1.1.1.1 | exact hk.1.1.1.1.1.1 | exact hk.1.1.1.1.1.1.1)⟩, ⟨by (with_reducible repeat (first | refine bN ?_ _|refine bW ?_|refine bA ?_ _)); exact BK226.out⟩, ⟨by (with_reducible repeat (first | refine bN ?_ _|refine bW ?_|refine bA ?_ _)); exact BK237.out⟩, ⟨by (with_reducible repeat (first | refine bN ?_ _|refine bW ?_|refine bA ?_ _)); exact BK242.out⟩, ⟨by (with_reducible repeat (first | refine bN ?_ _|refine bW ?_|refine bA ?_ _)); exact BK248.out⟩, ⟨by repeat (first | (with_reducible first | exact HB.out|apply wA|apply wN|apply wD |refine wS ?_ GE226.out |refine wS ?_ GE237.out |refine wS ?_ GE242.out |refine wS ?_ GE248.out) | exact HB.out)⟩⟩
    ·replace c37 := Bool.eq_false_iff.mpr c37
     subst c37
     have H1 : (laws_FnExactSlowPump.j1 kj3 a1 t236 t247 true a0_0 l0_1 t232 t233 t238 t239 t243 t244) = some r := by rw [if_neg (show ¬ (false = true) by decide)] at H; exact H
     clear H
     have H := H1
     clear H1
     have H' := Aside0.mk H
     clear H
     have hnb46 := NB248_226.out
     have hnc46 := NB226_248.out
     have hnb47 := NB248_237.out
     have hnc47 := NB237_248.out
     have hnb48 := NB248_242.out
     have hnc48 := NB242_248.out
     have hcz49_0 : w30.cell? ⟨gb248, 0, none⟩ = some (.string (⟨#[]⟩ : ByteArray)) := (blk_cell BK248.out 0).trans rfl
     have hcz49_1 : w30.cell? ⟨gb248, 1, none⟩ = some (.slice none 0 0) := (blk_cell BK248.out 1).trans rfl
     have hfz49_0 := blk_frozen BK248.out 0
     have hfz49_1 := blk_frozen BK248.out 1
     have hnb50 := NB237_226.out
     have hnc50 := NB226_237.out
     have hnb51 := NB237_242.out
     have hnc51 := NB242_237.out
     have hcz52_0 : w30.cell? ⟨gb237, 0, none⟩ = some (.string t232) := (blk_cell BK237.out 0).trans rfl
     have hcz52_1 : w30.cell? ⟨gb237, 1, none⟩ = some (.slice Ao21 t233.length co21) := (blk_cell BK237.out 1).trans rfl
     have hfz52_0 := blk_frozen BK237.out 0
     have hfz52_1 := blk_frozen BK237.out 1
     go_wp2_with (first | ((with_reducible refine gate_callee (f := 8) rfl ?_); refine goesL_ (some 38) rfl rfl Try.func8 (by kernel_rfl) rfl #[.agg #[.string t243, .slice Ao35 t244.length co35], .agg #[.string t232, .slice Ao21 t233.length co21]] rfl (by (try simp only [List.map_toArray, List.map_cons, List.map_nil]); first | done | rfl | (simp only [List.length_drop, List.length_take]; rfl)) ?_; (with_reducible refine (laws_eqPump.calls t243 _ _ t244 t232 _ _ t233 false _ ?side1 ?side2 ?side3 ?side4 A36.out).mono ?_); (case side1 => refine (Kd.S_reads' (e := 44) (base := w.heap.size) (ok := fun k_ => gb242 < k_ ∧ k_ < gb248) (n := t244.length) (c := co35) ?_).2.2; exact (by (with_reducible repeat (first | apply Kd.S_alloc | apply Kd.S_drewN | apply Kd.S_drew)); exact (Kd.S_mono (Kd.S_far (p := ⟨gb248, 1, none⟩) (Kd.S_far (p := ⟨gb248, 0, none⟩) (Kd.S_types HO246.out BK248.out (by decide)) (fun _ hk => hk.2) (.string t243)) (fun _ hk => hk.2) (.slice Ao35 t244.length co35)) (fun _ h_ => by first | exact h_.1 | exact h_.1.1 | exact h_.1.1.1 | exact h_.1.1.1.1 | exact h_.1.1.1.1.1 | exact h_.1.1.1.1.1.1)))); (case side2 => exact (Kd.S_reads' HO246.out).2.1); (case side3 => refine (Kd.S_reads' (e := 44) (base := w.heap.size) (ok := fun k_ => k_ < gb237) (n := t233.length) (c := co21) ?_).2.2; exact (by (with_reducible repeat (first | apply Kd.S_alloc | apply Kd.S_drewN | apply Kd.S_drew)); exact (Kd.S_mono (Kd.S_far (p := ⟨gb248, 1, none⟩) (Kd.S_far (p := ⟨gb248, 0, none⟩) (Kd.S_types HO235.out BK248.out (by decide)) (fun _ hk => hk.2) (.string t243)) (fun _ hk => hk.2) (.slice Ao35 t244.length co35)) (fun _ h_ => by first | exact h_.1 | exact h_.1.1 | exact h_.1.1.1 | exact h_.1.1.1.1 | exact h_.1.1.1.1.1 | exact h_.1.1.1.1.1.1)))); (case side4 => exact (Kd.S_reads' HO235.out).2.1); rintro e w53 ⟨rfl, hb⟩; refine ⟨_, rfl, ?_⟩; have n0_ := Aside0.mk (Kd.S_below (by (with_reducible repeat (first | apply Kd.S_alloc | apply Kd.S_drewN | apply Kd.S_drew)); exact (Kd.S_mono (Kd.S_far (p := ⟨gb248, 1, none⟩) (Kd.S_far (p := ⟨gb248, 0, none⟩) (Kd.S_types HO231.out BK248.out (by decide)) (fun _ hk => hk.2) (.string t243)) (fun _ hk => hk.2) (.slice Ao35 t244.length co35)) (fun _ h_ => h_.1))) hb); have n1_ := Aside0.mk (Kd.S_below (by (with_reducible repeat (first | apply Kd.S_alloc | apply Kd.S_drewN | apply Kd.S_drew)); exact (Kd.S_mono (Kd.S_far (p := ⟨gb248, 1, none⟩) (Kd.S_far (p := ⟨gb248, 0, none⟩) (Kd.S_types HO235.out BK248.out (by decide)) (fun _ hk => hk.2) (.string t243)) (fun _ hk => hk.2) (.slice Ao35 t244.length co35)) (fun _ h_ => h_.1))) hb); have n2_ := Aside0.mk (Kd.S_below (by (with_reducible repeat (first | apply Kd.S_alloc | apply Kd.S_drewN | apply Kd.S_drew)); exact (Kd.S_mono (Kd.S_far (p := ⟨gb248, 1, none⟩) (Kd.S_far (p := ⟨gb248, 0, none⟩) (Kd.S_types HO241.out BK248.out (by decide)) (fun _ hk => hk.2) (.string t243)) (fun _ hk => hk.2) (.slice Ao35 t244.length co35)) (fun _ h_ => h_.1))) hb); have n3_ := Aside0.mk (Kd.S_below (by (with_reducible repeat (first | apply Kd.S_alloc | apply Kd.S_drewN | apply Kd.S_drew)); exact (Kd.S_mono (Kd.S_far (p := ⟨gb248, 1, none⟩) (Kd.S_far (p := ⟨gb248, 0, none⟩) (Kd.S_types HO246.out BK248.out (by decide)) (fun _ hk => hk.2) (.string t243)) (fun _ hk => hk.2) (.slice Ao35 t244.length co35)) (fun _ h_ => h_.1))) hb); have n4_ := Aside0.mk (blk_below (g := gb226) (o := .cells #[.string a0_0, .slice A0_1 l0_1.length c0_1] 24 (0, 0)) (by (with_reducible repeat (first | refine bN ?_ _|refine bW ?_|refine bA ?_ _)); refine blk_far ?_ NB226_248.out _; (with_reducible repeat (first | refine bN ?_ _|refine bW ?_|refine bA ?_ _)); refine blk_far ?_ NB226_248.out _; (with_reducible repeat (first | refine bN ?_ _|refine bW ?_|refine bA ?_ _)); exact BK226.out) hb); have n5_ := Aside0.mk (blk_below (g := gb237) (o := .cells #[.string t232, .slice Ao21 t233.length co21] 26 (0, 0)) (by (with_reducible repeat (first | refine bN ?_ _|refine bW ?_|refine bA ?_ _)); refine blk_far ?_ NB237_248.out _; (with_reducible repeat (first | refine bN ?_ _|refine bW ?_|refine bA ?_ _)); refine blk_far ?_ NB237_248.out _; (with_reducible repeat (first | refine bN ?_ _|refine bW ?_|refine bA ?_ _)); exact BK237.out) hb); have n6_ := Aside0.mk (blk_below (g := gb242) (o := .cells #[.string t238, .slice Ao28 t239.length co28] 26 (0, 0)) (by (with_reducible repeat (first | refine bN ?_ _|refine bW ?_|refine bA ?_ _)); refine blk_far ?_ NB242_248.out _; (with_reducible repeat (first | refine bN ?_ _|refine bW ?_|refine bA ?_ _)); refine blk_far ?_ NB242_248.out _; (with_reducible repeat (first | refine bN ?_ _|refine bW ?_|refine bA ?_ _)); exact BK242.out) hb); have n7_ := Aside0.mk (blk_below (g := gb248) (o := .cells #[.string t243, .slice Ao35 t244.length co35] 26 (0, 0)) (by (with_reducible repeat (first | refine bN ?_ _|refine bW ?_|refine bA ?_ _)); refine blk_put (cs := #[.string t243, .slice none 0 0]) ?_ 1 _ rfl; (with_reducible repeat (first | refine bN ?_ _|refine bW ?_|refine bA ?_ _)); refine blk_put (cs := #[.string (⟨#[]⟩ : ByteArray), .slice none 0 0]) ?_ 0 _ rfl; (with_reducible repeat (first | refine bN ?_ _|refine bW ?_|refine bA ?_ _)); exact BK248.out) hb); have n8_ := Aside0.mk (below_step (by repeat (first | (with_reducible first | exact HB.out|apply wA|apply wN|apply wD |refine wS ?_ GE226.out |refine wS ?_ GE237.out |refine wS ?_ GE242.out |refine wS ?_ GE248.out) | exact HB.out)) hb); clear HO231; clear HO235; clear HO241; clear HO246; clear BK226; clear BK237; clear BK242; clear BK248; clear HB; have HO231 := n0_; have HO235 := n1_; have HO241 := n2_; have HO246 := n3_; have BK226 := n4_; have BK237 := n5_; have BK242 := n6_; have BK248 := n7_; have HB := n8_; clear n0_ n1_ n2_ n3_ n4_ n5_ n6_ n7_ n8_; (try clear hb); (try clear hb2); (try clear hk); (try clear hkp); (try clear hm_); (try clear hB2_); (try clear hi)))
     go_meet
     case rel => exact ⟨_, (true), (by first | rfl | (simp; done) | (simp [*]; done)), H', ⟨by have := HJ3.out; first | omega | exact Nat.le_refl _⟩, ⟨by (with_reducible repeat (first | apply Kd.S_alloc | apply Kd.S_drewN | apply Kd.S_drew)); exact Kd.S_mono HO235.out (fun _ hk => by first | exact ⟨hk.1.2, hk.2⟩ | exact hk | exact hk.1 | exact hk.1.1 | exact hk.1.1.1 | exact hk.1.1.1.1 | exact hk.1.1.1.1.1 | exact hk.1.1.1.1.1.1 | exact hk.1.1.1.1.1.1.1)⟩, ⟨by (with_reducible repeat (first | apply Kd.S_alloc | apply Kd.S_drewN | apply Kd.S_drew)); exact Kd.S_mono HO241.out (fun _ hk => by first | exact ⟨hk.1.2, hk.2⟩ | exact hk | exact hk.1 | exact hk.1.1 | exact hk.1.1.1 | exact hk.1.1.1.1 | exact hk.1.1.1.1.1 | exact hk.1.1.1.1.1.1 | exact hk.1.1.1.1.1.1.1)⟩, ⟨by (with_reducible repeat (first | apply Kd.S_alloc | apply Kd.S_drewN | apply Kd.S_drew)); exact Kd.S_mono HO246.out (fun _ hk => by first | exact ⟨hk.1.2, hk.2⟩ | exact hk | exact hk.1 | exact hk.1.1 | exact hk.1.1.1 | exact hk.1.1.1.1 | exact hk.1.1.1.1.1 | exact hk.1.1.1.1.1.1 | exact hk.1.1.1.1.1.1.1)⟩, ⟨by (with_reducible repeat (first | refine bN ?_ _|refine bW ?_|refine bA ?_ _)); exact BK226.out⟩, ⟨by (with_reducible repeat (first | refine bN ?_ _|refine bW ?_|refine bA ?_ _)); exact BK237.out⟩, ⟨by (with_reducible repeat (first | refine bN ?_ _|refine bW ?_|refine bA ?_ _)); exact BK242.out⟩, ⟨by (with_reducible repeat (first | refine bN ?_ _|refine bW ?_|refine bA ?_ _)); exact BK248.out⟩, ⟨by repeat (first | (with_reducible first | exact HB.out|apply wA|apply wN|apply wD |refine wS ?_ GE226.out |refine wS ?_ GE237.out |refine wS ?_ GE242.out |refine wS ?_ GE248.out) | exact HB.out)⟩⟩
   case rest =>
    clear HC13
    try clear c1
    try clear c2
    try clear p2
    try clear c3
    try clear c4
    try clear c5
    try clear c6
    try clear c7
    try clear c8
    try clear c8b0
    try clear c8b2
    try clear c19
    try clear c25
    try clear c26
    try clear c31
    try clear c32
    try clear c33
    try clear c37
    try clear c38
    try clear c39
    try clear c40
    try clear c42
    try clear c43
    try clear c46
    try clear c47
    try clear c48
    try clear c50
    try clear c51
    try clear hcz14_0
    try clear hcz14_1
    try clear hcz20_0
    try clear hcz20_1
    try clear hcz22_0
    try clear hcz22_1
    try clear hcz27_0
    try clear hcz27_1
    try clear hcz34_0
    try clear hcz34_1
    try clear hcz41_0
    try clear hcz41_1
    try clear hcz44_0
    try clear hcz44_1
    try clear hcz49_0
    try clear hcz49_1
    try clear hcz52_0
    try clear hcz52_1
    try clear hcz6_0
    try clear hcz6_1
    try clear hfz14_0
    try clear hfz14_1
    try clear hfz20_0
    try clear hfz20_1
    try clear hfz22_0
    try clear hfz22_1
    try clear hfz27_0
    try clear hfz27_1
    try clear hfz34_0
    try clear hfz34_1
    try clear hfz41_0
    try clear hfz41_1
    try clear hfz44_0
    try clear hfz44_1
    try clear hfz49_0
    try clear hfz49_1
    try clear hfz52_0
    try clear hfz52_1
    try clear hfz6_0
    try clear hfz6_1
    try clear p2
    obtain ⟨kq, x44_12, rfl, HA, HJ12, HO_238001, HO_243001, HO_249001, BK226, BK237, BK242, BK248, HB⟩ := hcut
    cases kq with
    | zero => exact absurd HA.out (by simp [laws_FnExactSlowPump.j1])
    | succ kj12 =>
     have H := HA.out
     clear HA
     simp only [laws_FnExactSlowPump.j1] at H
     have HC54 := Aside0.mk H
     clear H
     go_upto_if 44 with (fail)
     go_cut [] (fun wc => ∃ (kq : Nat), Aside0 (laws_FnExactSlowPump.j2 kq a1 t236 t247 a0_0 l0_1 t232 t233 t238 t239 t243 t244 = some r) ∧ Aside0 (kq ≤ kj12) ∧ Aside0 (Kd.S (Kd.slice 2 (Kd.int .i64)) 44 wc w.heap.size (fun k_ => k_ < gb237) (.slice Ao21 t233.length co21) t233) ∧ Aside0 (Kd.S (Kd.slice 2 (Kd.int .i64)) 44 wc w.heap.size (fun k_ => gb237 < k_ ∧ k_ < gb242) (.slice Ao28 t239.length co28) t239) ∧ Aside0 (Kd.S (Kd.slice 2 (Kd.int .i64)) 44 wc w.heap.size (fun k_ => gb242 < k_ ∧ k_ < gb248) (.slice Ao35 t244.length co35) t244) ∧ Aside0 (wc.heap[gb226]? = some (.cells #[.string a0_0, (.slice A0_1 l0_1.length c0_1)] 24 (0, 0))) ∧ Aside0 (wc.heap[gb237]? = some (.cells #[.string t232, (.slice Ao21 t233.length co21)] 26 (0, 0))) ∧ Aside0 (wc.heap[gb242]? = some (.cells #[.string t238, (.slice Ao28 t239.length co28)] 26 (0, 0))) ∧ Aside0 (wc.heap[gb248]? = some (.cells #[.string t243, (.slice Ao35 t244.length co35)] 26 (0, 0))) ∧ Aside0 (Below w.heap.size w wc))
     case first =>
      have H := HC54.out
      clear HC54
      by_cases c55 : x44_12 = true
      ·subst c55
       have H1 : (some false) = some r := by rw [if_pos rfl] at H; exact H
       clear H
       have H := H1
       clear H1
       obtain rfl := Option.some.inj H
       go_wp2
       go_ret
       exact ⟨by first | rfl | (simp [errW_none, errW_some] <;> rfl) | (simp [*, errW_none, errW_some] <;> rfl), by repeat (first | (with_reducible first | exact HB.out|apply wA|apply wN|apply wD |refine wS ?_ GE226.out |refine wS ?_ GE237.out |refine wS ?_ GE242.out |refine wS ?_ GE248.out) | exact HB.out)⟩
      ·replace c55 := Bool.eq_false_iff.mpr c55
       subst c55
       have H1 : (laws_FnExactSlowPump.j2 kj12 a1 t236 t247 a0_0 l0_1 t232 t233 t238 t239 t243 t244) = some r := by rw [if_neg (show ¬ (false = true) by decide)] at H; exact H
       clear H
       have H := H1
       clear H1
       have H' := Aside0.mk H
       clear H
       go_wp2
       go_meet
       case rel => exact ⟨_, H', ⟨by have := HJ3.out; have := HJ12.out; first | omega | exact Nat.le_refl _⟩, ⟨by (with_reducible repeat (first | apply Kd.S_alloc | apply Kd.S_drewN | apply Kd.S_drew)); exact HO_238001.out⟩, ⟨by (with_reducible repeat (first | apply Kd.S_alloc | apply Kd.S_drewN | apply Kd.S_drew)); exact HO_243001.out⟩, ⟨by (with_reducible repeat (first | apply Kd.S_alloc | apply Kd.S_drewN | apply Kd.S_drew)); exact HO_249001.out⟩, ⟨by (with_reducible repeat (first | refine bN ?_ _|refine bW ?_|refine bA ?_ _)); exact BK226.out⟩, ⟨by (with_reducible repeat (first | refine bN ?_ _|refine bW ?_|refine bA ?_ _)); exact BK237.out⟩, ⟨by (with_reducible repeat (first | refine bN ?_ _|refine bW ?_|refine bA ?_ _)); exact BK242.out⟩, ⟨by (with_reducible repeat (first | refine bN ?_ _|refine bW ?_|refine bA ?_ _)); exact BK248.out⟩, ⟨by repeat (first | (with_reducible first | exact HB.out|apply wA|apply wN|apply wD |refine wS ?_ GE226.out |refine wS ?_ GE237.out |refine wS ?_ GE242.out |refine wS ?_ GE248.out) | exact HB.out)⟩⟩
     case rest =>
      clear HC54
      try clear c1
      try clear c2
      try clear p2
      try clear c3
      try clear c4
      try clear c5
      try clear c6
      try clear c7
      try clear c8
      try clear c8b0
      try clear c8b2
      try clear c19
      try clear c25
      try clear c26
      try clear c31
      try clear c32
      try clear c33
      try clear c37
      try clear c38
      try clear c39
      try clear c40
      try clear c42
      try clear c43
      try clear c46
      try clear c47
      try clear c48
      try clear c50
      try clear c51
      try clear c55
      try clear hcz14_0
      try clear hcz14_1
      try clear hcz20_0
      try clear hcz20_1
      try clear hcz22_0
      try clear hcz22_1
      try clear hcz27_0
      try clear hcz27_1
      try clear hcz34_0
      try clear hcz34_1
      try clear hcz41_0
      try clear hcz41_1
      try clear hcz44_0
      try clear hcz44_1
      try clear hcz49_0
      try clear hcz49_1
      try clear hcz52_0
      try clear hcz52_1
      try clear hcz6_0
      try clear hcz6_1
      try clear hfz14_0
      try clear hfz14_1
      try clear hfz20_0
      try clear hfz20_1
      try clear hfz22_0
      try clear hfz22_1
      try clear hfz27_0
      try clear hfz27_1
      try clear hfz34_0
      try clear hfz34_1
      try clear hfz41_0
      try clear hfz41_1
      try clear hfz44_0
      try clear hfz44_1
      try clear hfz49_0
      try clear hfz49_1
      try clear hfz52_0
      try clear hfz52_1
      try clear hfz6_0
      try clear hfz6_1
      try clear p2
      obtain ⟨kq, HA, HJ53, HO_238001, HO_243001, HO_249001, BK226, BK237, BK242, BK248, HB⟩ := hcut
      cases kq with
      | zero => exact absurd HA.out (by simp [laws_FnExactSlowPump.j2])
      | succ kj53 =>
       have H := HA.out
       clear HA
       simp only [laws_FnExactSlowPump.j2] at H
       replace H := Option.bind_eq_some_iff.mp H
       obtain ⟨⟨t250, t251⟩, A560, H⟩ := H
       replace H : ((laws_eqPump.f t238 t239 t250 t251).bind fun t254 => (if t254 = true then (laws_FnExactSlowPump.j3 kj53 a1 t236 t247 a0_0 l0_1 t232 t233 t238 t239 t243 t244) else (some false))) = some r := H
       have A56 := Aside0.mk A560
       clear A560
       replace H := Option.bind_eq_some_iff.mp H
       obtain ⟨t254, A570, H⟩ := H
       replace H : (if t254 = true then (laws_FnExactSlowPump.j3 kj53 a1 t236 t247 a0_0 l0_1 t232 t233 t238 t239 t243 t244) else (some false)) = some r := H
       have A57 := Aside0.mk A570
       clear A570
       have HC58 := Aside0.mk H
       clear H
       try go_wp2
       have n0_ := Aside0.mk (Kd.S_drew HO_238001.out)
       have n1_ := Aside0.mk (Kd.S_drew HO_243001.out)
       have n2_ := Aside0.mk (Kd.S_drew HO_249001.out)
       have n3_ := Aside0.mk (blk_drew BK226.out)
       have n4_ := Aside0.mk (blk_drew BK237.out)
       have n5_ := Aside0.mk (blk_drew BK242.out)
       have n6_ := Aside0.mk (blk_drew BK248.out)
       have n7_ := Aside0.mk (below_drew1 HB.out)
       clear HO_238001
       clear HO_243001
       clear HO_249001
       clear BK226
       clear BK237
       clear BK242
       clear BK248
       clear HB
       have HO_238001 := n0_
       have HO_243001 := n1_
       have HO_249001 := n2_
       have BK226 := n3_
       have BK237 := n4_
       have BK242 := n5_
       have BK248 := n6_
       have HB := n7_
       clear n0_ n1_ n2_ n3_ n4_ n5_ n6_ n7_
       refine start_ (n := 5) (S := fun w' => w'.cell? ⟨gb242, 0, none⟩ = some (.string t238) ∧ w'.cell? ⟨gb242, 1, none⟩ = some (.slice Ao28 t239.length co28) ∧ w'.cell? ⟨gb226, 0, none⟩ = some (.string a0_0) ∧ w'.cell? ⟨gb226, 1, none⟩ = some (.slice A0_1 l0_1.length c0_1)) (ds := []) #[J,J,J,J,J] (by kernel_rfl) rfl rfl ⟨(blk_cell BK242.out 0).trans rfl, (blk_cell BK242.out 1).trans rfl, (blk_cell BK226.out 0).trans rfl, (blk_cell BK226.out 1).trans rfl⟩ (fun hHeld => ?_)
       generalize wc.drew = w59 at HO_238001 HO_243001 HO_249001 BK226 BK237 BK242 BK248 HB hHeld ⊢
       refine take_ (i := 0) (N := some 45) (v := ?_) (a' := ?_) #[Y,J,J,J,J] rfl rfl (by kernel_rfl) (fun _ _ _ h => h) (Or.inl ⟨by rfl, ?_⟩) hHeld ?_ ?_; rotate_left
       ·rintro w' ⟨s0, s1, s2, s3⟩; go_simp; with_reducible rfl
       rotate_left
       ·simp only [pU,pN,sB,sZ,sS,i64_w,i32_w]; rfl
       refine take_ (i := 1) (N := some 46) (v := ?_) (a' := ?_) #[Y,Y,J,J,J] rfl rfl (by kernel_rfl) (fun _ _ _ h => h) (Or.inl ⟨by rfl, ?_⟩) hHeld ?_ ?_; rotate_left
       ·rintro w' ⟨s0, s1, s2, s3⟩; go_simp; with_reducible rfl
       rotate_left
       ·simp only [pU,pN,sB,sZ,sS,i64_w,i32_w]; rfl
       refine one_ (i := 2) (N := some 47) #[Y,Y,Y,J,J] rfl rfl (by kernel_rfl) (by decide) (fun K hK => ?_)
       refine goes_ Try.func6 (by kernel_rfl) rfl #[.agg #[.string a0_0, .slice A0_1 l0_1.length c0_1]] (by rfl) rfl rfl (by (try simp only [List.map_toArray, List.map_cons, List.map_nil]); first | done | rfl | (simp only [List.length_drop, List.length_take]; rfl)) ?_
       with_reducible refine (laws_toPump.calls a0_0 _ _ l0_1 t250 t251 _ ?side1 ?side2 A56.out).mono ?_
       (case side1 => repeat (first | exact (Kd.C_below HR0_1.out HB.out) | (with_reducible first|refine Kd.C_alloc ?_ _|refine Kd.C_drewN ?_ _|refine Kd.C_drew ?_)))
       (case side2 => exact HC0_1.out)
       rintro e w60 ⟨v252, rfl, ho0, hb⟩
       refine ⟨_, rfl, ?_⟩
       have n0_ := Aside0.mk (Kd.S_elder' (by (with_reducible repeat (first | apply Kd.S_alloc | apply Kd.S_drewN | apply Kd.S_drew)); exact HO_238001.out) (Kd.S_base ho0) hb)
       have n1_ := Aside0.mk (Kd.S_elder' (by (with_reducible repeat (first | apply Kd.S_alloc | apply Kd.S_drewN | apply Kd.S_drew)); exact HO_243001.out) (Kd.S_base ho0) hb)
       have n2_ := Aside0.mk (Kd.S_elder' (by (with_reducible repeat (first | apply Kd.S_alloc | apply Kd.S_drewN | apply Kd.S_drew)); exact HO_249001.out) (Kd.S_base ho0) hb)
       have n3_ := Aside0.mk (Kd.S_lower (Kd.S_new' (Kd.S_new' (Kd.S_new' ho0 (Kd.S_lt (by (with_reducible repeat (first | apply Kd.S_alloc | apply Kd.S_drewN | apply Kd.S_drew)); exact HO_238001.out))) (Kd.S_lt (by (with_reducible repeat (first | apply Kd.S_alloc | apply Kd.S_drewN | apply Kd.S_drew)); exact HO_243001.out))) (Kd.S_lt (by (with_reducible repeat (first | apply Kd.S_alloc | apply Kd.S_drewN | apply Kd.S_drew)); exact HO_249001.out))) (below_size (by repeat (first | (with_reducible first | exact HB.out|apply wA|apply wN|apply wD |refine wS ?_ GE226.out |refine wS ?_ GE237.out |refine wS ?_ GE242.out |refine wS ?_ GE248.out) | exact HB.out))))
       have n4_ := Aside0.mk (blk_below (g := gb226) (o := .cells #[.string a0_0, .slice A0_1 l0_1.length c0_1] 24 (0, 0)) (by (with_reducible repeat (first | refine bN ?_ _|refine bW ?_|refine bA ?_ _)); exact BK226.out) hb)
       have n5_ := Aside0.mk (blk_below (g := gb237) (o := .cells #[.string t232, .slice Ao21 t233.length co21] 26 (0, 0)) (by (with_reducible repeat (first | refine bN ?_ _|refine bW ?_|refine bA ?_ _)); exact BK237.out) hb)
       have n6_ := Aside0.mk (blk_below (g := gb242) (o := .cells #[.string t238, .slice Ao28 t239.length co28] 26 (0, 0)) (by (with_reducible repeat (first | refine bN ?_ _|refine bW ?_|refine bA ?_ _)); exact BK242.out) hb)
       have n7_ := Aside0.mk (blk_below (g := gb248) (o := .cells #[.string t243, .slice Ao35 t244.length co35] 26 (0, 0)) (by (with_reducible repeat (first | refine bN ?_ _|refine bW ?_|refine bA ?_ _)); exact BK248.out) hb)
       have n8_ := Aside0.mk (below_step (by repeat (first | (with_reducible first | exact HB.out|apply wA|apply wN|apply wD |refine wS ?_ GE226.out |refine wS ?_ GE237.out |refine wS ?_ GE242.out |refine wS ?_ GE248.out) | exact HB.out)) hb)
       clear HO_238001
       clear HO_243001
       clear HO_249001
       clear BK226
       clear BK237
       clear BK242
       clear BK248
       clear HB
       have HO_238001 := n0_
       have HO_243001 := n1_
       have HO_249001 := n2_
       have HO253 := n3_
       have BK226 := n4_
       have BK237 := n5_
       have BK242 := n6_
       have BK248 := n7_
       have HB := n8_
       clear n0_ n1_ n2_ n3_ n4_ n5_ n6_ n7_ n8_
       (try clear hb)
       (try clear hb2)
       (try clear hk)
       (try clear hi)
       (try clear ho0)
       obtain ⟨Ao61, co61, eo61⟩ := Kd.S_slice HO253.out
       (first | subst eo61 | (injection eo61 with f1_ f2_ f3_; have f4_ := f1_.symm; have f5_ := f3_.symm; clear f1_ f2_ f3_; subst f4_; subst f5_))
       refine hK.out _ _ ⟨(blk_cell BK242.out 0).trans rfl, (blk_cell BK242.out 1).trans rfl, (blk_cell BK226.out 0).trans rfl, (blk_cell BK226.out 1).trans rfl⟩ (fun hHeld => ?_)
       clear hK K
       refine norm_ (a' := ?_) ?_ ?_
       rotate_left
       ·show Act.put _ (some 47) _ = _
        simp only [pU,pN,sB,sZ,sS,i64_w,i32_w]
        rfl
       refine one_ (i := 3) (N := some 48) #[Y,Y,Y,Y,J] rfl rfl (by kernel_rfl) (by decide) (fun K hK => ?_)
       refine goes_ Try.func8 (by kernel_rfl) rfl #[.agg #[.string t238, .slice Ao28 t239.length co28], .agg #[.string t250, .slice Ao61 t251.length co61]] (by rfl) rfl rfl (by (try simp only [List.map_toArray, List.map_cons, List.map_nil]); first | done | rfl | (simp only [List.length_drop, List.length_take]; rfl)) ?_
       with_reducible refine (laws_eqPump.calls t238 _ _ t239 t250 _ _ t251 t254 _ ?side1 ?side2 ?side3 ?side4 A57.out).mono ?_
       (case side1 => repeat (first | exact (Kd.S_reads' HO_243001.out).2.2 | (with_reducible first|refine Kd.C_alloc ?_ _|refine Kd.C_drewN ?_ _|refine Kd.C_drew ?_)))
       (case side2 => exact (Kd.S_reads' HO_243001.out).2.1)
       (case side3 => repeat (first | exact (Kd.S_reads' HO253.out).2.2 | (with_reducible first|refine Kd.C_alloc ?_ _|refine Kd.C_drewN ?_ _|refine Kd.C_drew ?_)))
       (case side4 => exact (Kd.S_reads' HO253.out).2.1)
       rintro e w62 ⟨rfl, hb⟩
       refine ⟨_, rfl, ?_⟩
       have n0_ := Aside0.mk (Kd.S_below (by (with_reducible repeat (first | apply Kd.S_alloc | apply Kd.S_drewN | apply Kd.S_drew)); exact HO_238001.out) hb)
       have n1_ := Aside0.mk (Kd.S_below (by (with_reducible repeat (first | apply Kd.S_alloc | apply Kd.S_drewN | apply Kd.S_drew)); exact HO_243001.out) hb)
       have n2_ := Aside0.mk (Kd.S_below (by (with_reducible repeat (first | apply Kd.S_alloc | apply Kd.S_drewN | apply Kd.S_drew)); exact HO_249001.out) hb)
       have n3_ := Aside0.mk (Kd.S_below (by (with_reducible repeat (first | apply Kd.S_alloc | apply Kd.S_drewN | apply Kd.S_drew)); exact HO253.out) hb)
       have n4_ := Aside0.mk (blk_below (g := gb226) (o := .cells #[.string a0_0, .slice A0_1 l0_1.length c0_1] 24 (0, 0)) (by (with_reducible repeat (first | refine bN ?_ _|refine bW ?_|refine bA ?_ _)); exact BK226.out) hb)
       have n5_ := Aside0.mk (blk_below (g := gb237) (o := .cells #[.string t232, .slice Ao21 t233.length co21] 26 (0, 0)) (by (with_reducible repeat (first | refine bN ?_ _|refine bW ?_|refine bA ?_ _)); exact BK237.out) hb)
       have n6_ := Aside0.mk (blk_below (g := gb242) (o := .cells #[.string t238, .slice Ao28 t239.length co28] 26 (0, 0)) (by (with_reducible repeat (first | refine bN ?_ _|refine bW ?_|refine bA ?_ _)); exact BK242.out) hb)
       have n7_ := Aside0.mk (blk_below (g := gb248) (o := .cells #[.string t243, .slice Ao35 t244.length co35] 26 (0, 0)) (by (with_reducible repeat (first | refine bN ?_ _|refine bW ?_|refine bA ?_ _)); exact BK248.out) hb)
       have n8_ := Aside0.mk (below_step (by repeat (first | (with_reducible first | exact HB.out|apply wA|apply wN|apply wD |refine wS ?_ GE226.out |refine wS ?_ GE237.out |refine wS ?_ GE242.out |refine wS ?_ GE248.out) | exact HB.out)) hb)
       clear HO_238001
       clear HO_243001
       clear HO_249001
       clear HO253
       clear BK226
       clear BK237
       clear BK242
       clear BK248
       clear HB
       have HO_238001 := n0_
       have HO_243001 := n1_
       have HO_249001 := n2_
       have HO253 := n3_
       have BK226 := n4_
       have BK237 := n5_
       have BK242 := n6_
       have BK248 := n7_
       have HB := n8_
       clear n0_ n1_ n2_ n3_ n4_ n5_ n6_ n7_ n8_
       (try clear hb)
       (try clear hb2)
       (try clear hk)
       (try clear hi)
       refine hK.out _ _ ⟨(blk_cell BK242.out 0).trans rfl, (blk_cell BK242.out 1).trans rfl, (blk_cell BK226.out 0).trans rfl, (blk_cell BK226.out 1).trans rfl⟩ (fun hHeld => ?_)
       clear hK K
       refine norm_ (a' := ?_) ?_ ?_
       rotate_left
       ·show Act.put _ (some 48) _ = _
        simp only [pU,pN,sB,sZ,sS,i64_w,i32_w]
        rfl
       refine pure_ (i := 4) (N := some 49) (v := ?_) (a' := ?_) #[Y,Y,Y,Y,Y] rfl rfl (by kernel_rfl) (fun _ _ _ h => h) (Or.inl ⟨by rfl, ?_⟩) ?_ ?_; rotate_left
       ·intro w'; go_simp; with_reducible rfl
       rotate_left
       ·simp only [pU,pN,sB,sZ,sS,i64_w,i32_w]; rfl
       refine done_ (by kernel_rfl) ?_
       go_upto_if 49 with (fail)
       go_cut [] (fun wc => ∃ (kq : Nat), Aside0 (laws_FnExactSlowPump.j3 kq a1 t236 t247 a0_0 l0_1 t232 t233 t238 t239 t243 t244 = some r) ∧ Aside0 (kq ≤ kj53) ∧ Aside0 (Kd.S (Kd.slice 2 (Kd.int .i64)) 44 wc w.heap.size (fun k_ => k_ < gb237) (.slice Ao21 t233.length co21) t233) ∧ Aside0 (Kd.S (Kd.slice 2 (Kd.int .i64)) 44 wc w.heap.size (fun k_ => gb237 < k_ ∧ k_ < gb242) (.slice Ao28 t239.length co28) t239) ∧ Aside0 (Kd.S (Kd.slice 2 (Kd.int .i64)) 44 wc w.heap.size (fun k_ => gb242 < k_ ∧ k_ < gb248) (.slice Ao35 t244.length co35) t244) ∧ Aside0 (wc.heap[gb226]? = some (.cells #[.string a0_0, (.slice A0_1 l0_1.length c0_1)] 24 (0, 0))) ∧ Aside0 (wc.heap[gb237]? = some (.cells #[.string t232, (.slice Ao21 t233.length co21)] 26 (0, 0))) ∧ Aside0 (wc.heap[gb242]? = some (.cells #[.string t238, (.slice Ao28 t239.length co28)] 26 (0, 0))) ∧ Aside0 (wc.heap[gb248]? = some (.cells #[.string t243, (.slice Ao35 t244.length co35)] 26 (0, 0))) ∧ Aside0 (Below w.heap.size w wc))
       case first =>
        have H := HC58.out
        clear HC58
        by_cases c63 : t254 = true
        ·subst c63
         have H1 : (laws_FnExactSlowPump.j3 kj53 a1 t236 t247 a0_0 l0_1 t232 t233 t238 t239 t243 t244) = some r := by rw [if_pos rfl] at H; exact H
         clear H
         have H := H1
         clear H1
         have H' := Aside0.mk H
         clear H
         go_wp2
         go_meet
         case rel => exact ⟨_, H', ⟨by have := HJ3.out; have := HJ12.out; have := HJ53.out; first | omega | exact Nat.le_refl _⟩, ⟨by (with_reducible repeat (first | apply Kd.S_alloc | apply Kd.S_drewN | apply Kd.S_drew)); exact Kd.S_mono HO_238001.out (fun _ hk => by first | exact ⟨hk.1.1, hk.1.2⟩ | exact hk | exact hk.1 | exact hk.1.1 | exact hk.1.1.1 | exact hk.1.1.1.1 | exact hk.1.1.1.1.1 | exact hk.1.1.1.1.1.1 | exact hk.1.1.1.1.1.1.1)⟩, ⟨by (with_reducible repeat (first | apply Kd.S_alloc | apply Kd.S_drewN | apply Kd.S_drew)); exact Kd.S_mono HO_243001.out (fun _ hk => by first | exact ⟨hk.1.1, hk.1.2⟩ | exact hk | exact hk.1 | exact hk.1.1 | exact hk.1.1.1 | exact hk.1.1.1.1 | exact hk.1.1.1.1.1 | exact hk.1.1.1.1.1.1 | exact hk.1.1.1.1.1.1.1)⟩, ⟨by (with_reducible repeat (first | apply Kd.S_alloc | apply Kd.S_drewN | apply Kd.S_drew)); exact Kd.S_mono HO_249001.out (fun _ hk => by first | exact ⟨hk.1.1, hk.1.2⟩ | exact hk | exact hk.1 | exact hk.1.1 | exact hk.1.1.1 | exact hk.1.1.1.1 | exact hk.1.1.1.1.1 | exact hk.1.1.1.1.1.1 | exact hk.1.1.1.1.1.1.1)⟩, ⟨by (with_reducible repeat (first | refine bN ?_ _|refine bW ?_|refine bA ?_ _)); exact BK226.out⟩, ⟨by (with_reducible repeat (first | refine bN ?_ _|refine bW ?_|refine bA ?_ _)); exact BK237.out⟩, ⟨by (with_reducible repeat (first | refine bN ?_ _|refine bW ?_|refine bA ?_ _)); exact BK242.out⟩, ⟨by (with_reducible repeat (first | refine bN ?_ _|refine bW ?_|refine bA ?_ _)); exact BK248.out⟩, ⟨by repeat (first | (with_reducible first | exact HB.out|apply wA|apply wN|apply wD |refine wS ?_ GE226.out |refine wS ?_ GE237.out |refine wS ?_ GE242.out |refine wS ?_ GE248.out) | exact HB.out)⟩⟩
        ·replace c63 := Bool.eq_false_iff.mpr c63
         subst c63
         have H1 : (some false) = some r := by rw [if_neg (show ¬ (false = true) by decide)] at H; exact H
         clear H
         have H := H1
         clear H1
         obtain rfl := Option.some.inj H
         go_wp2
         go_ret
         exact ⟨by first | rfl | (simp [errW_none, errW_some] <;> rfl) | (simp [*, errW_none, errW_some] <;> rfl), by repeat (first | (with_reducible first | exact HB.out|apply wA|apply wN|apply wD |refine wS ?_ GE226.out |refine wS ?_ GE237.out |refine wS ?_ GE242.out |refine wS ?_ GE248.out) | exact HB.out)⟩
       case rest =>
        clear HC58
        try clear c1
        try clear c2
        try clear p2
        try clear c3
        try clear c4
        try clear c5
        try clear c6
        try clear c7
        try clear c8
        try clear c8b0
        try clear c8b2
        try clear c19
        try clear c25
        try clear c26
        try clear c31
        try clear c32
        try clear c33
        try clear c37
        try clear c38
        try clear c39
        try clear c40
        try clear c42
        try clear c43
        try clear c46
        try clear c47
        try clear c48
        try clear c50
        try clear c51
        try clear c55
        try clear c63
        try clear hcz14_0
        try clear hcz14_1
        try clear hcz20_0
        try clear hcz20_1
        try clear hcz22_0
        try clear hcz22_1
        try clear hcz27_0
        try clear hcz27_1
        try clear hcz34_0
        try clear hcz34_1
        try clear hcz41_0
        try clear hcz41_1
        try clear hcz44_0
        try clear hcz44_1
        try clear hcz49_0
        try clear hcz49_1
        try clear hcz52_0
        try clear hcz52_1
        try clear hcz6_0
        try clear hcz6_1
        try clear hfz14_0
        try clear hfz14_1
        try clear hfz20_0
        try clear hfz20_1
        try clear hfz22_0
        try clear hfz22_1
        try clear hfz27_0
        try clear hfz27_1
        try clear hfz34_0
        try clear hfz34_1
        try clear hfz41_0
        try clear hfz41_1
        try clear hfz44_0
        try clear hfz44_1
        try clear hfz49_0
        try clear hfz49_1
        try clear hfz52_0
        try clear hfz52_1
        try clear hfz6_0
        try clear hfz6_1
        try clear p2
        obtain ⟨kq, HA, HJ57, HO_238001, HO_243001, HO_249001, BK226, BK237, BK242, BK248, HB⟩ := hcut
        cases kq with
        | zero => exact absurd HA.out (by simp [laws_FnExactSlowPump.j3])
        | succ kj57 =>
         have H := HA.out
         clear HA
         simp only [laws_FnExactSlowPump.j3] at H
         replace H := Option.bind_eq_some_iff.mp H
         obtain ⟨t255, A640, H⟩ := H
         replace H : (if t255 < 0 then (laws_FnExactSlowPump.j4 kj57 a1 t236 true a0_0 l0_1 t232 t233 t243 t244) else ((laws_eqPump.f t243 t244 t232 t233).bind fun t256 => (if t256 = true then (laws_FnExactSlowPump.j4 kj57 a1 t236 (t247 != t236) a0_0 l0_1 t232 t233 t243 t244) else (laws_FnExactSlowPump.j4 kj57 a1 t236 true a0_0 l0_1 t232 t233 t243 t244)))) = some r := H
         have A64 := Aside0.mk A640
         clear A640
         have HC65 := Aside0.mk H
         clear H
         have hnb66 := NB242_226.out
         have hnc66 := NB226_242.out
         have hnb67 := NB242_237.out
         have hnc67 := NB237_242.out
         have hnb68 := NB242_248.out
         have hnc68 := NB248_242.out
         have hcz69_0 : wc.cell? ⟨gb242, 0, none⟩ = some (.string t238) := (blk_cell BK242.out 0).trans rfl
         have hcz69_1 : wc.cell? ⟨gb242, 1, none⟩ = some (.slice Ao28 t239.length co28) := (blk_cell BK242.out 1).trans rfl
         have hfz69_0 := blk_frozen BK242.out 0
         have hfz69_1 := blk_frozen BK242.out 1
         go_upto_region 14 with (first | ((with_reducible refine gate_callee (f := 9) rfl ?_); refine goesL_ (some 52) rfl rfl Try.func9 (by kernel_rfl) rfl #[.agg #[.string t238, .slice Ao28 t239.length co28], .int .i64 1] rfl (by (try simp only [List.map_toArray, List.map_cons, List.map_nil]); first | done | rfl | (simp only [List.length_drop, List.length_take]; rfl)) ?_; refine (laws_markPump.calls (fun k_ => gb237 < k_ ∧ k_ < gb242) t238 _ t239 1 t255 w _ (by repeat (first | (with_reducible first | exact HB.out|apply wA|apply wN|apply wD) | exact HB.out)) (by (with_reducible repeat (first | apply Kd.S_alloc | apply Kd.S_drewN | apply Kd.S_drew)); exact HO_243001.out) A64.out).mono ?_; rintro e w70 ⟨rfl, hm_, hB2_, hkp⟩; refine ⟨_, rfl, ?_⟩; have n0_ := Aside0.mk (Kd.S_kept (by (with_reducible repeat (first | apply Kd.S_alloc | apply Kd.S_drewN | apply Kd.S_drew)); exact HO_238001.out) hkp (fun k_ hk hk2 => by have := HLa.out; have := HLb.out; have := HLc.out; omega)); have n1_ := Aside0.mk hm_; have n2_ := Aside0.mk (Kd.S_kept (by (with_reducible repeat (first | apply Kd.S_alloc | apply Kd.S_drewN | apply Kd.S_drew)); exact HO_249001.out) hkp (fun k_ hk hk2 => by have := HLa.out; have := HLb.out; have := HLc.out; omega)); have n3_ := Aside0.mk (blk_kept (g := gb226) (o := .cells #[.string a0_0, .slice A0_1 l0_1.length c0_1] 24 (0, 0)) (by (with_reducible repeat (first | refine bN ?_ _|refine bW ?_|refine bA ?_ _)); exact BK226.out) hkp (fun hk2 => by have h2_ := hk2; have := HLa.out; have := HLb.out; have := HLc.out; (try simp only at h2_); omega)); have n4_ := Aside0.mk (blk_kept (g := gb237) (o := .cells #[.string t232, .slice Ao21 t233.length co21] 26 (0, 0)) (by (with_reducible repeat (first | refine bN ?_ _|refine bW ?_|refine bA ?_ _)); exact BK237.out) hkp (fun hk2 => by have h2_ := hk2; have := HLa.out; have := HLb.out; have := HLc.out; (try simp only at h2_); omega)); have n5_ := Aside0.mk (blk_kept (g := gb242) (o := .cells #[.string t238, .slice Ao28 t239.length co28] 26 (0, 0)) (by (with_reducible repeat (first | refine bN ?_ _|refine bW ?_|refine bA ?_ _)); exact BK242.out) hkp (fun hk2 => by have h2_ := hk2; have := HLa.out; have := HLb.out; have := HLc.out; (try simp only at h2_); omega)); have n6_ := Aside0.mk (blk_kept (g := gb248) (o := .cells #[.string t243, .slice Ao35 t244.length co35] 26 (0, 0)) (by (with_reducible repeat (first | refine bN ?_ _|refine bW ?_|refine bA ?_ _)); exact BK248.out) hkp (fun hk2 => by have h2_ := hk2; have := HLa.out; have := HLb.out; have := HLc.out; (try simp only at h2_); omega)); have n7_ := Aside0.mk hB2_; clear HO_238001; clear HO_243001; clear HO_249001; clear BK226; clear BK237; clear BK242; clear BK248; clear HB; have HO_238001 := n0_; have HO_243001 := n1_; have HO_249001 := n2_; have BK226 := n3_; have BK237 := n4_; have BK242 := n5_; have BK248 := n6_; have HB := n7_; clear n0_ n1_ n2_ n3_ n4_ n5_ n6_ n7_; (try clear hb); (try clear hb2); (try clear hk); (try clear hkp); (try clear hm_); (try clear hB2_); (try clear hi)))
         (try simp only [Act.put, List.setIfInBounds_toArray, List.set_cons_zero, List.set_cons_succ])
         go_cut [65] (fun v65 wc => ∃ (kq : Nat) (x65_64 : Bool), v65 = .bool x65_64 ∧ Aside0 (laws_FnExactSlowPump.j4 kq a1 t236 x65_64 a0_0 l0_1 t232 t233 t243 t244 = some r) ∧ Aside0 (kq ≤ kj57) ∧ Aside0 (Kd.S (Kd.slice 2 (Kd.int .i64)) 44 wc w.heap.size (fun k_ => k_ < gb237) (.slice Ao21 t233.length co21) t233) ∧ Aside0 (Kd.S (Kd.slice 2 (Kd.int .i64)) 44 wc w.heap.size (fun k_ => gb237 < k_ ∧ k_ < gb242) (.slice Ao28 t239.length co28) (ssMark t239 1)) ∧ Aside0 (Kd.S (Kd.slice 2 (Kd.int .i64)) 44 wc w.heap.size (fun k_ => gb242 < k_ ∧ k_ < gb248) (.slice Ao35 t244.length co35) t244) ∧ Aside0 (wc.heap[gb226]? = some (.cells #[.string a0_0, (.slice A0_1 l0_1.length c0_1)] 24 (0, 0))) ∧ Aside0 (wc.heap[gb237]? = some (.cells #[.string t232, (.slice Ao21 t233.length co21)] 26 (0, 0))) ∧ Aside0 (wc.heap[gb242]? = some (.cells #[.string t238, (.slice Ao28 t239.length co28)] 26 (0, 0))) ∧ Aside0 (wc.heap[gb248]? = some (.cells #[.string t243, (.slice Ao35 t244.length co35)] 26 (0, 0))) ∧ Aside0 (Below w.heap.size w wc))
         case first =>
          have H := HC65.out
          clear HC65
          by_cases c71 : t255 < 0
          ·rw [if_pos c71] at H
           have c71b0 : decide (t255 < 0) = true := decide_eq_true c71
           clear c71
           (first | rw [c71b0] | (simp only [i64_w, i32_w]; rw [c71b0]) | rw [c71b2] | skip)
           have H' := Aside0.mk H
           clear H
           go_wp2
           go_meet
           case rel => exact ⟨_, (true), (by first | rfl | (simp; done) | (simp [*]; done)), H', ⟨by have := HJ3.out; have := HJ12.out; have := HJ53.out; have := HJ57.out; first | omega | exact Nat.le_refl _⟩, ⟨by (with_reducible repeat (first | apply Kd.S_alloc | apply Kd.S_drewN | apply Kd.S_drew)); exact HO_238001.out⟩, ⟨by (with_reducible repeat (first | apply Kd.S_alloc | apply Kd.S_drewN | apply Kd.S_drew)); exact HO_243001.out⟩, ⟨by (with_reducible repeat (first | apply Kd.S_alloc | apply Kd.S_drewN | apply Kd.S_drew)); exact HO_249001.out⟩, ⟨by (with_reducible repeat (first | refine bN ?_ _|refine bW ?_|refine bA ?_ _)); exact BK226.out⟩, ⟨by (with_reducible repeat (first | refine bN ?_ _|refine bW ?_|refine bA ?_ _)); exact BK237.out⟩, ⟨by (with_reducible repeat (first | refine bN ?_ _|refine bW ?_|refine bA ?_ _)); exact BK242.out⟩, ⟨by (with_reducible repeat (first | refine bN ?_ _|refine bW ?_|refine bA ?_ _)); exact BK248.out⟩, ⟨by repeat (first | (with_reducible first | exact HB.out|apply wA|apply wN|apply wD |refine wS ?_ GE226.out |refine wS ?_ GE237.out |refine wS ?_ GE242.out |refine wS ?_ GE248.out) | exact HB.out)⟩⟩
          ·rw [if_neg c71] at H
           have c71b0 : decide (t255 < 0) = false := decide_eq_false c71
           clear c71
           (first | rw [c71b0] | (simp only [i64_w, i32_w]; rw [c71b0]) | rw [c71b2] | skip)
           replace H := Option.bind_eq_some_iff.mp H
           obtain ⟨t256, A720, H⟩ := H
           replace H : (if t256 = true then (laws_FnExactSlowPump.j4 kj57 a1 t236 (t247 != t236) a0_0 l0_1 t232 t233 t243 t244) else (laws_FnExactSlowPump.j4 kj57 a1 t236 true a0_0 l0_1 t232 t233 t243 t244)) = some r := H
           have A72 := Aside0.mk A720
           clear A720
           by_cases c73 : t256 = true
           ·subst c73
            have H1 : (laws_FnExactSlowPump.j4 kj57 a1 t236 (t247 != t236) a0_0 l0_1 t232 t233 t243 t244) = some r := by rw [if_pos rfl] at H; exact H
            clear H
            have H := H1
            clear H1
            have H' := Aside0.mk H
            clear H
            have hnb74 := NB248_226.out
            have hnc74 := NB226_248.out
            have hnb75 := NB248_237.out
            have hnc75 := NB237_248.out
            have hnb76 := NB248_242.out
            have hnc76 := NB242_248.out
            have hcz77_0 : w70.cell? ⟨gb248, 0, none⟩ = some (.string t243) := (blk_cell BK248.out 0).trans rfl
            have hcz77_1 : w70.cell? ⟨gb248, 1, none⟩ = some (.slice Ao35 t244.length co35) := (blk_cell BK248.out 1).trans rfl
            have hfz77_0 := blk_frozen BK248.out 0
            have hfz77_1 := blk_frozen BK248.out 1
            have hnb78 := NB237_226.out
            have hnc78 := NB226_237.out
            have hnb79 := NB237_242.out
            have hnc79 := NB242_237.out
            have hcz80_0 : w70.cell? ⟨gb237, 0, none⟩ = some (.string t232) := (blk_cell BK237.out 0).trans rfl
            have hcz80_1 : w70.cell? ⟨gb237, 1, none⟩ = some (.slice Ao21 t233.length co21) := (blk_cell BK237.out 1).trans rfl
            have hfz80_0 := blk_frozen BK237.out 0
            have hfz80_1 := blk_frozen BK237.out 1
            go_wp2_with (first | (go_at_call 8; (with_reducible refine (laws_eqPump.calls t243 _ _ t244 t232 _ _ t233 true _ ?side1 ?side2 ?side3 ?side4 A72.out).mono ?_); (case side1 => repeat (first | exact (Kd.S_reads' HO_249001.out).2.2 | (with_reducible first|refine Kd.C_alloc ?_ _|refine Kd.C_drewN ?_ _|refine Kd.C_drew ?_))); (case side2 => exact (Kd.S_reads' HO_249001.out).2.1); (case side3 => repeat (first | exact (Kd.S_reads' HO_238001.out).2.2 | (with_reducible first|refine Kd.C_alloc ?_ _|refine Kd.C_drewN ?_ _|refine Kd.C_drew ?_))); (case side4 => exact (Kd.S_reads' HO_238001.out).2.1); rintro e w81 ⟨rfl, hb⟩; have n0_ := Aside0.mk (Kd.S_below (by (with_reducible repeat (first | apply Kd.S_alloc | apply Kd.S_drewN | apply Kd.S_drew)); exact HO_238001.out) hb); have n1_ := Aside0.mk (Kd.S_below (by (with_reducible repeat (first | apply Kd.S_alloc | apply Kd.S_drewN | apply Kd.S_drew)); exact HO_243001.out) hb); have n2_ := Aside0.mk (Kd.S_below (by (with_reducible repeat (first | apply Kd.S_alloc | apply Kd.S_drewN | apply Kd.S_drew)); exact HO_249001.out) hb); have n3_ := Aside0.mk (blk_below (g := gb226) (o := .cells #[.string a0_0, .slice A0_1 l0_1.length c0_1] 24 (0, 0)) (by (with_reducible repeat (first | refine bN ?_ _|refine bW ?_|refine bA ?_ _)); exact BK226.out) hb); have n4_ := Aside0.mk (blk_below (g := gb237) (o := .cells #[.string t232, .slice Ao21 t233.length co21] 26 (0, 0)) (by (with_reducible repeat (first | refine bN ?_ _|refine bW ?_|refine bA ?_ _)); exact BK237.out) hb); have n5_ := Aside0.mk (blk_below (g := gb242) (o := .cells #[.string t238, .slice Ao28 t239.length co28] 26 (0, 0)) (by (with_reducible repeat (first | refine bN ?_ _|refine bW ?_|refine bA ?_ _)); exact BK242.out) hb); have n6_ := Aside0.mk (blk_below (g := gb248) (o := .cells #[.string t243, .slice Ao35 t244.length co35] 26 (0, 0)) (by (with_reducible repeat (first | refine bN ?_ _|refine bW ?_|refine bA ?_ _)); exact BK248.out) hb); have n7_ := Aside0.mk (below_step (by repeat (first | (with_reducible first | exact HB.out|apply wA|apply wN|apply wD |refine wS ?_ GE226.out |refine wS ?_ GE237.out |refine wS ?_ GE242.out |refine wS ?_ GE248.out) | exact HB.out)) hb); clear HO_238001; clear HO_243001; clear HO_249001; clear BK226; clear BK237; clear BK242; clear BK248; clear HB; have HO_238001 := n0_; have HO_243001 := n1_; have HO_249001 := n2_; have BK226 := n3_; have BK237 := n4_; have BK242 := n5_; have BK248 := n6_; have HB := n7_; clear n0_ n1_ n2_ n3_ n4_ n5_ n6_ n7_; (try clear hb); (try clear hb2); (try clear hk); (try clear hkp); (try clear hm_); (try clear hB2_); (try clear hi)))
            go_meet
            case rel => exact ⟨_, ((t247 != t236)), (by first | rfl | (simp; done) | (simp [*]; done)), H', ⟨by have := HJ3.out; have := HJ12.out; have := HJ53.out; have := HJ57.out; first | omega | exact Nat.le_refl _⟩, ⟨by (with_reducible repeat (first | apply Kd.S_alloc | apply Kd.S_drewN | apply Kd.S_drew)); exact HO_238001.out⟩, ⟨by (with_reducible repeat (first | apply Kd.S_alloc | apply Kd.S_drewN | apply Kd.S_drew)); exact HO_243001.out⟩, ⟨by (with_reducible repeat (first | apply Kd.S_alloc | apply Kd.S_drewN | apply Kd.S_drew)); exact HO_249001.out⟩, ⟨by (with_reducible repeat (first | refine bN ?_ _|refine bW ?_|refine bA ?_ _)); exact BK226.out⟩, ⟨by (with_reducible repeat (first | refine bN ?_ _|refine bW ?_|refine bA ?_ _)); exact BK237.out⟩, ⟨by (with_reducible repeat (first | refine bN ?_ _|refine bW ?_|refine bA ?_ _)); exact BK242.out⟩, ⟨by (with_reducible repeat (first | refine bN ?_ _|refine bW ?_|refine bA ?_ _)); exact BK248.out⟩, ⟨by repeat (first | (with_reducible first | exact HB.out|apply wA|apply wN|apply wD |refine wS ?_ GE226.out |refine wS ?_ GE237.out |refine wS ?_ GE242.out |refine wS ?_ GE248.out) | exact HB.out)⟩⟩
           ·replace c73 := Bool.eq_false_iff.mpr c73
            subst c73
            have H1 : (laws_FnExactSlowPump.j4 kj57 a1 t236 true a0_0 l0_1 t232 t233 t243 t244) = some r := by rw [if_neg (show ¬ (false = true) by decide)] at H; exact H
            clear H
            have H := H1
            clear H1
            have H' := Aside0.mk H
            clear H
            have hnb82 := NB248_226.out
            have hnc82 := NB226_248.out
            have hnb83 := NB248_237.out
            have hnc83 := NB237_248.out
            have hnb84 := NB248_242.out
            have hnc84 := NB242_248.out
            have hcz85_0 : w70.cell? ⟨gb248, 0, none⟩ = some (.string t243) := (blk_cell BK248.out 0).trans rfl
            have hcz85_1 : w70.cell? ⟨gb248, 1, none⟩ = some (.slice Ao35 t244.length co35) := (blk_cell BK248.out 1).trans rfl
            have hfz85_0 := blk_frozen BK248.out 0
            have hfz85_1 := blk_frozen BK248.out 1
            have hnb86 := NB237_226.out
            have hnc86 := NB226_237.out
            have hnb87 := NB237_242.out
            have hnc87 := NB242_237.out
            have hcz88_0 : w70.cell? ⟨gb237, 0, none⟩ = some (.string t232) := (blk_cell BK237.out 0).trans rfl
            have hcz88_1 : w70.cell? ⟨gb237, 1, none⟩ = some (.slice Ao21 t233.length co21) := (blk_cell BK237.out 1).trans rfl
            have hfz88_0 := blk_frozen BK237.out 0
            have hfz88_1 := blk_frozen BK237.out 1
            go_wp2_with (first | (go_at_call 8; (with_reducible refine (laws_eqPump.calls t243 _ _ t244 t232 _ _ t233 false _ ?side1 ?side2 ?side3 ?side4 A72.out).mono ?_); (case side1 => repeat (first | exact (Kd.S_reads' HO_249001.out).2.2 | (with_reducible first|refine Kd.C_alloc ?_ _|refine Kd.C_drewN ?_ _|refine Kd.C_drew ?_))); (case side2 => exact (Kd.S_reads' HO_249001.out).2.1); (case side3 => repeat (first | exact (Kd.S_reads' HO_238001.out).2.2 | (with_reducible first|refine Kd.C_alloc ?_ _|refine Kd.C_drewN ?_ _|refine Kd.C_drew ?_))); (case side4 => exact (Kd.S_reads' HO_238001.out).2.1); rintro e w89 ⟨rfl, hb⟩; have n0_ := Aside0.mk (Kd.S_below (by (with_reducible repeat (first | apply Kd.S_alloc | apply Kd.S_drewN | apply Kd.S_drew)); exact HO_238001.out) hb); have n1_ := Aside0.mk (Kd.S_below (by (with_reducible repeat (first | apply Kd.S_alloc | apply Kd.S_drewN | apply Kd.S_drew)); exact HO_243001.out) hb); have n2_ := Aside0.mk (Kd.S_below (by (with_reducible repeat (first | apply Kd.S_alloc | apply Kd.S_drewN | apply Kd.S_drew)); exact HO_249001.out) hb); have n3_ := Aside0.mk (blk_below (g := gb226) (o := .cells #[.string a0_0, .slice A0_1 l0_1.length c0_1] 24 (0, 0)) (by (with_reducible repeat (first | refine bN ?_ _|refine bW ?_|refine bA ?_ _)); exact BK226.out) hb); have n4_ := Aside0.mk (blk_below (g := gb237) (o := .cells #[.string t232, .slice Ao21 t233.length co21] 26 (0, 0)) (by (with_reducible repeat (first | refine bN ?_ _|refine bW ?_|refine bA ?_ _)); exact BK237.out) hb); have n5_ := Aside0.mk (blk_below (g := gb242) (o := .cells #[.string t238, .slice Ao28 t239.length co28] 26 (0, 0)) (by (with_reducible repeat (first | refine bN ?_ _|refine bW ?_|refine bA ?_ _)); exact BK242.out) hb); have n6_ := Aside0.mk (blk_below (g := gb248) (o := .cells #[.string t243, .slice Ao35 t244.length co35] 26 (0, 0)) (by (with_reducible repeat (first | refine bN ?_ _|refine bW ?_|refine bA ?_ _)); exact BK248.out) hb); have n7_ := Aside0.mk (below_step (by repeat (first | (with_reducible first | exact HB.out|apply wA|apply wN|apply wD |refine wS ?_ GE226.out |refine wS ?_ GE237.out |refine wS ?_ GE242.out |refine wS ?_ GE248.out) | exact HB.out)) hb); clear HO_238001; clear HO_243001; clear HO_249001; clear BK226; clear BK237; clear BK242; clear BK248; clear HB; have HO_238001 := n0_; have HO_243001 := n1_; have HO_249001 := n2_; have BK226 := n3_; have BK237 := n4_; have BK242 := n5_; have BK248 := n6_; have HB := n7_; clear n0_ n1_ n2_ n3_ n4_ n5_ n6_ n7_; (try clear hb); (try clear hb2); (try clear hk); (try clear hkp); (try clear hm_); (try clear hB2_); (try clear hi)))
            go_meet
            case rel => exact ⟨_, (true), (by first | rfl | (simp; done) | (simp [*]; done)), H', ⟨by have := HJ3.out; have := HJ12.out; have := HJ53.out; have := HJ57.out; first | omega | exact Nat.le_refl _⟩, ⟨by (with_reducible repeat (first | apply Kd.S_alloc | apply Kd.S_drewN | apply Kd.S_drew)); exact HO_238001.out⟩, ⟨by (with_reducible repeat (first | apply Kd.S_alloc | apply Kd.S_drewN | apply Kd.S_drew)); exact HO_243001.out⟩, ⟨by (with_reducible repeat (first | apply Kd.S_alloc | apply Kd.S_drewN | apply Kd.S_drew)); exact HO_249001.out⟩, ⟨by (with_reducible repeat (first | refine bN ?_ _|refine bW ?_|refine bA ?_ _)); exact BK226.out⟩, ⟨by (with_reducible repeat (first | refine bN ?_ _|refine bW ?_|refine bA ?_ _)); exact BK237.out⟩, ⟨by (with_reducible repeat (first | refine bN ?_ _|refine bW ?_|refine bA ?_ _)); exact BK242.out⟩, ⟨by (with_reducible repeat (first | refine bN ?_ _|refine bW ?_|refine bA ?_ _)); exact BK248.out⟩, ⟨by repeat (first | (with_reducible first | exact HB.out|apply wA|apply wN|apply wD |refine wS ?_ GE226.out |refine wS ?_ GE237.out |refine wS ?_ GE242.out |refine wS ?_ GE248.out) | exact HB.out)⟩⟩
         case rest =>
          clear HC65
          try clear c1
          try clear c2
          try clear p2
          try clear c3
          try clear c4
          try clear c5
          try clear c6
          try clear c7
          try clear c8
          try clear c8b0
          try clear c8b2
          try clear c9
          try clear c19
          try clear c25
          try clear c26
          try clear c31
          try clear c32
          try clear c33
          try clear c37
          try clear c38
          try clear c39
          try clear c40
          try clear c42
          try clear c43
          try clear c46
          try clear c47
          try clear c48
          try clear c50
          try clear c51
          try clear c55
          try clear c63
          try clear c66
          try clear c67
          try clear c68
          try clear c71
          try clear c71b0
          try clear c71b2
          try clear c73
          try clear c74
          try clear c75
          try clear c76
          try clear c78
          try clear c79
          try clear c82
          try clear c83
          try clear c84
          try clear c86
          try clear c87
          try clear hcz14_0
          try clear hcz14_1
          try clear hcz20_0
          try clear hcz20_1
          try clear hcz22_0
          try clear hcz22_1
          try clear hcz27_0
          try clear hcz27_1
          try clear hcz34_0
          try clear hcz34_1
          try clear hcz41_0
          try clear hcz41_1
          try clear hcz44_0
          try clear hcz44_1
          try clear hcz49_0
          try clear hcz49_1
          try clear hcz52_0
          try clear hcz52_1
          try clear hcz69_0
          try clear hcz69_1
          try clear hcz6_0
          try clear hcz6_1
          try clear hcz77_0
          try clear hcz77_1
          try clear hcz80_0
          try clear hcz80_1
          try clear hcz85_0
          try clear hcz85_1
          try clear hcz88_0
          try clear hcz88_1
          try clear hfz14_0
          try clear hfz14_1
          try clear hfz20_0
          try clear hfz20_1
          try clear hfz22_0
          try clear hfz22_1
          try clear hfz27_0
          try clear hfz27_1
          try clear hfz34_0
          try clear hfz34_1
          try clear hfz41_0
          try clear hfz41_1
          try clear hfz44_0
          try clear hfz44_1
          try clear hfz49_0
          try clear hfz49_1
          try clear hfz52_0
          try clear hfz52_1
          try clear hfz69_0
          try clear hfz69_1
          try clear hfz6_0
          try clear hfz6_1
          try clear hfz77_0
          try clear hfz77_1
          try clear hfz80_0
          try clear hfz80_1
          try clear hfz85_0
          try clear hfz85_1
          try clear hfz88_0
          try clear hfz88_1
          try clear p2
          obtain ⟨kq, x65_64, rfl, HA, HJ64, HO_238001, HO_243001, HO_249001, BK226, BK237, BK242, BK248, HB⟩ := hcut
          cases kq with
          | zero => exact absurd HA.out (by simp [laws_FnExactSlowPump.j4])
          | succ kj64 =>
           have H := HA.out
           clear HA
           simp only [laws_FnExactSlowPump.j4] at H
           have HC90 := Aside0.mk H
           clear H
           go_upto_if 65 with (fail)
           go_cut [] (fun wc => ∃ (kq : Nat), Aside0 (laws_FnExactSlowPump.j5 kq a1 t236 a0_0 l0_1 t232 t233 t243 t244 = some r) ∧ Aside0 (kq ≤ kj64) ∧ Aside0 (Kd.S (Kd.slice 2 (Kd.int .i64)) 44 wc w.heap.size (fun k_ => k_ < gb237) (.slice Ao21 t233.length co21) t233) ∧ Aside0 (Kd.S (Kd.slice 2 (Kd.int .i64)) 44 wc w.heap.size (fun k_ => gb237 < k_ ∧ k_ < gb242) (.slice Ao28 t239.length co28) (ssMark t239 1)) ∧ Aside0 (Kd.S (Kd.slice 2 (Kd.int .i64)) 44 wc w.heap.size (fun k_ => gb242 < k_ ∧ k_ < gb248) (.slice Ao35 t244.length co35) t244) ∧ Aside0 (wc.heap[gb226]? = some (.cells #[.string a0_0, (.slice A0_1 l0_1.length c0_1)] 24 (0, 0))) ∧ Aside0 (wc.heap[gb237]? = some (.cells #[.string t232, (.slice Ao21 t233.length co21)] 26 (0, 0))) ∧ Aside0 (wc.heap[gb242]? = some (.cells #[.string t238, (.slice Ao28 t239.length co28)] 26 (0, 0))) ∧ Aside0 (wc.heap[gb248]? = some (.cells #[.string t243, (.slice Ao35 t244.length co35)] 26 (0, 0))) ∧ Aside0 (Below w.heap.size w wc))
           case first =>
            have H := HC90.out
            clear HC90
            by_cases c91 : x65_64 = true
            ·subst c91
             have H1 : (some false) = some r := by rw [if_pos rfl] at H; exact H
             clear H
             have H := H1
             clear H1
             obtain rfl := Option.some.inj H
             go_wp2
             go_ret
             exact ⟨by first | rfl | (simp [errW_none, errW_some] <;> rfl) | (simp [*, errW_none, errW_some] <;> rfl), by repeat (first | (with_reducible first | exact HB.out|apply wA|apply wN|apply wD |refine wS ?_ GE226.out |refine wS ?_ GE237.out |refine wS ?_ GE242.out |refine wS ?_ GE248.out) | exact HB.out)⟩
            ·replace c91 := Bool.eq_false_iff.mpr c91
             subst c91
             have H1 : (laws_FnExactSlowPump.j5 kj64 a1 t236 a0_0 l0_1 t232 t233 t243 t244) = some r := by rw [if_neg (show ¬ (false = true) by decide)] at H; exact H
             clear H
             have H := H1
             clear H1
             have H' := Aside0.mk H
             clear H
             go_wp2
             go_meet
             case rel => exact ⟨_, H', ⟨by have := HJ3.out; have := HJ12.out; have := HJ53.out; have := HJ57.out; have := HJ64.out; first | omega | exact Nat.le_refl _⟩, ⟨by (with_reducible repeat (first | apply Kd.S_alloc | apply Kd.S_drewN | apply Kd.S_drew)); exact HO_238001.out⟩, ⟨by (with_reducible repeat (first | apply Kd.S_alloc | apply Kd.S_drewN | apply Kd.S_drew)); exact HO_243001.out⟩, ⟨by (with_reducible repeat (first | apply Kd.S_alloc | apply Kd.S_drewN | apply Kd.S_drew)); exact HO_249001.out⟩, ⟨by (with_reducible repeat (first | refine bN ?_ _|refine bW ?_|refine bA ?_ _)); exact BK226.out⟩, ⟨by (with_reducible repeat (first | refine bN ?_ _|refine bW ?_|refine bA ?_ _)); exact BK237.out⟩, ⟨by (with_reducible repeat (first | refine bN ?_ _|refine bW ?_|refine bA ?_ _)); exact BK242.out⟩, ⟨by (with_reducible repeat (first | refine bN ?_ _|refine bW ?_|refine bA ?_ _)); exact BK248.out⟩, ⟨by repeat (first | (with_reducible first | exact HB.out|apply wA|apply wN|apply wD |refine wS ?_ GE226.out |refine wS ?_ GE237.out |refine wS ?_ GE242.out |refine wS ?_ GE248.out) | exact HB.out)⟩⟩
           case rest =>
            clear HC90
            try clear c1
            try clear c2
            try clear p2
            try clear c3
            try clear c4
            try clear c5
            try clear c6
            try clear c7
            try clear c8
            try clear c8b0
            try clear c8b2
            try clear c9
            try clear c19
            try clear c25
            try clear c26
            try clear c31
            try clear c32
            try clear c33
            try clear c37
            try clear c38
            try clear c39
            try clear c40
            try clear c42
            try clear c43
            try clear c46
            try clear c47
            try clear c48
            try clear c50
            try clear c51
            try clear c55
            try clear c63
            try clear c66
            try clear c67
            try clear c68
            try clear c71
            try clear c71b0
            try clear c71b2
            try clear c73
            try clear c74
            try clear c75
            try clear c76
            try clear c78
            try clear c79
            try clear c82
            try clear c83
            try clear c84
            try clear c86
            try clear c87
            try clear c91
            try clear hcz14_0
            try clear hcz14_1
            try clear hcz20_0
            try clear hcz20_1
            try clear hcz22_0
            try clear hcz22_1
            try clear hcz27_0
            try clear hcz27_1
            try clear hcz34_0
            try clear hcz34_1
            try clear hcz41_0
            try clear hcz41_1
            try clear hcz44_0
            try clear hcz44_1
            try clear hcz49_0
            try clear hcz49_1
            try clear hcz52_0
            try clear hcz52_1
            try clear hcz69_0
            try clear hcz69_1
            try clear hcz6_0
            try clear hcz6_1
            try clear hcz77_0
            try clear hcz77_1
            try clear hcz80_0
            try clear hcz80_1
            try clear hcz85_0
            try clear hcz85_1
            try clear hcz88_0
            try clear hcz88_1
            try clear hfz14_0
            try clear hfz14_1
            try clear hfz20_0
            try clear hfz20_1
            try clear hfz22_0
            try clear hfz22_1
            try clear hfz27_0
            try clear hfz27_1
            try clear hfz34_0
            try clear hfz34_1
            try clear hfz41_0
            try clear hfz41_1
            try clear hfz44_0
            try clear hfz44_1
            try clear hfz49_0
            try clear hfz49_1
            try clear hfz52_0
            try clear hfz52_1
            try clear hfz69_0
            try clear hfz69_1
            try clear hfz6_0
            try clear hfz6_1
            try clear hfz77_0
            try clear hfz77_1
            try clear hfz80_0
            try clear hfz80_1
            try clear hfz85_0
            try clear hfz85_1
            try clear hfz88_0
            try clear hfz88_1
            try clear p2
            obtain ⟨kq, HA, HJ89, HO_238001, HO_243001, HO_249001, BK226, BK237, BK242, BK248, HB⟩ := hcut
            cases kq with
            | zero => exact absurd HA.out (by simp [laws_FnExactSlowPump.j5])
            | succ kj89 =>
             have H := HA.out
             clear HA
             simp only [laws_FnExactSlowPump.j5] at H
             replace H := Option.bind_eq_some_iff.mp H
             obtain ⟨t257, A920, H⟩ := H
             replace H : ((laws_heldPump.f kj89 t243 (ssMark t244 1) 1).bind fun t258 => (if t258 < 0 then (some false) else (laws_FnExactSlowPump.j6 kj89 a1 t236 t257 t258 a0_0 l0_1 t232 t233 t243 t244))) = some r := H
             have A92 := Aside0.mk A920
             clear A920
             replace H := Option.bind_eq_some_iff.mp H
             obtain ⟨t258, A930, H⟩ := H
             replace H : (if t258 < 0 then (some false) else (laws_FnExactSlowPump.j6 kj89 a1 t236 t257 t258 a0_0 l0_1 t232 t233 t243 t244)) = some r := H
             have A93 := Aside0.mk A930
             clear A930
             have HC94 := Aside0.mk H
             clear H
             have hnb95 := NB248_226.out
             have hnc95 := NB226_248.out
             have hnb96 := NB248_237.out
             have hnc96 := NB237_248.out
             have hnb97 := NB248_242.out
             have hnc97 := NB242_248.out
             have hcz98_0 : wc.cell? ⟨gb248, 0, none⟩ = some (.string t243) := (blk_cell BK248.out 0).trans rfl
             have hcz98_1 : wc.cell? ⟨gb248, 1, none⟩ = some (.slice Ao35 t244.length co35) := (blk_cell BK248.out 1).trans rfl
             have hfz98_0 := blk_frozen BK248.out 0
             have hfz98_1 := blk_frozen BK248.out 1
             go_upto_if 73 with (first | ((with_reducible refine gate_callee (f := 9) rfl ?_); refine goesL_ (some 68) rfl rfl Try.func9 (by kernel_rfl) rfl #[.agg #[.string t243, .slice Ao35 t244.length co35], .int .i64 1] rfl (by (try simp only [List.map_toArray, List.map_cons, List.map_nil]); first | done | rfl | (simp only [List.length_drop, List.length_take]; rfl)) ?_; refine (laws_markPump.calls (fun k_ => gb242 < k_ ∧ k_ < gb248) t243 _ t244 1 t257 w _ (by repeat (first | (with_reducible first | exact HB.out|apply wA|apply wN|apply wD) | exact HB.out)) (by (with_reducible repeat (first | apply Kd.S_alloc | apply Kd.S_drewN | apply Kd.S_drew)); exact HO_249001.out) A92.out).mono ?_; rintro e w99 ⟨rfl, hm_, hB2_, hkp⟩; refine ⟨_, rfl, ?_⟩; have n0_ := Aside0.mk (Kd.S_kept (by (with_reducible repeat (first | apply Kd.S_alloc | apply Kd.S_drewN | apply Kd.S_drew)); exact HO_238001.out) hkp (fun k_ hk hk2 => by have := HLa.out; have := HLb.out; have := HLc.out; omega)); have n1_ := Aside0.mk (Kd.S_kept (by (with_reducible repeat (first | apply Kd.S_alloc | apply Kd.S_drewN | apply Kd.S_drew)); exact HO_243001.out) hkp (fun k_ hk hk2 => by have := HLa.out; have := HLb.out; have := HLc.out; omega)); have n2_ := Aside0.mk hm_; have n3_ := Aside0.mk (blk_kept (g := gb226) (o := .cells #[.string a0_0, .slice A0_1 l0_1.length c0_1] 24 (0, 0)) (by (with_reducible repeat (first | refine bN ?_ _|refine bW ?_|refine bA ?_ _)); exact BK226.out) hkp (fun hk2 => by have h2_ := hk2; have := HLa.out; have := HLb.out; have := HLc.out; (try simp only at h2_); omega)); have n4_ := Aside0.mk (blk_kept (g := gb237) (o := .cells #[.string t232, .slice Ao21 t233.length co21] 26 (0, 0)) (by (with_reducible repeat (first | refine bN ?_ _|refine bW ?_|refine bA ?_ _)); exact BK237.out) hkp (fun hk2 => by have h2_ := hk2; have := HLa.out; have := HLb.out; have := HLc.out; (try simp only at h2_); omega)); have n5_ := Aside0.mk (blk_kept (g := gb242) (o := .cells #[.string t238, .slice Ao28 t239.length co28] 26 (0, 0)) (by (with_reducible repeat (first | refine bN ?_ _|refine bW ?_|refine bA ?_ _)); exact BK242.out) hkp (fun hk2 => by have h2_ := hk2; have := HLa.out; have := HLb.out; have := HLc.out; (try simp only at h2_); omega)); have n6_ := Aside0.mk (blk_kept (g := gb248) (o := .cells #[.string t243, .slice Ao35 t244.length co35] 26 (0, 0)) (by (with_reducible repeat (first | refine bN ?_ _|refine bW ?_|refine bA ?_ _)); exact BK248.out) hkp (fun hk2 => by have h2_ := hk2; have := HLa.out; have := HLb.out; have := HLc.out; (try simp only at h2_); omega)); have n7_ := Aside0.mk hB2_; clear HO_238001; clear HO_243001; clear HO_249001; clear BK226; clear BK237; clear BK242; clear BK248; clear HB; have HO_238001 := n0_; have HO_243001 := n1_; have HO_249001 := n2_; have BK226 := n3_; have BK237 := n4_; have BK242 := n5_; have BK248 := n6_; have HB := n7_; clear n0_ n1_ n2_ n3_ n4_ n5_ n6_ n7_; (try clear hb); (try clear hb2); (try clear hk); (try clear hkp); (try clear hm_); (try clear hB2_); (try clear hi); have hcz100_0 : w99.cell? ⟨gb248, 0, none⟩ = some (.string t243) := (blk_cell BK248.out 0).trans rfl; have hcz100_1 : w99.cell? ⟨gb248, 1, none⟩ = some (.slice Ao35 t244.length co35) := (blk_cell BK248.out 1).trans rfl; have hfz100_0 := blk_frozen BK248.out 0; have hfz100_1 := blk_frozen BK248.out 1) | ((with_reducible refine gate_callee (f := 10) rfl ?_); refine goesL_ (some 71) rfl rfl Try.func10 (by kernel_rfl) rfl #[.agg #[.string t243, .slice Ao35 t244.length co35], .int .i64 1] rfl (by (try simp only [List.map_toArray, List.map_cons, List.map_nil]); first | done | rfl | (simp only [List.length_drop, List.length_take]; rfl)) ?_; (with_reducible refine (laws_heldPump.callsN kj89 t243 _ _ _ (ssMark t244 1) 1 t258 _ ?side1 ?side2 ?side3 A93.out).mono ?_); (case side3 => exact (ssMark_length _ _).symm); (case side1 => repeat (first | exact (Kd.S_reads' HO_249001.out).2.2 | (with_reducible first|refine Kd.C_alloc ?_ _|refine Kd.C_drewN ?_ _|refine Kd.C_drew ?_))); (case side2 => exact (Kd.S_reads' HO_249001.out).2.1); rintro e w101 ⟨rfl, hb⟩; refine ⟨_, rfl, ?_⟩; have n0_ := Aside0.mk (Kd.S_below (by (with_reducible repeat (first | apply Kd.S_alloc | apply Kd.S_drewN | apply Kd.S_drew)); exact HO_238001.out) hb); have n1_ := Aside0.mk (Kd.S_below (by (with_reducible repeat (first | apply Kd.S_alloc | apply Kd.S_drewN | apply Kd.S_drew)); exact HO_243001.out) hb); have n2_ := Aside0.mk (Kd.S_below (by (with_reducible repeat (first | apply Kd.S_alloc | apply Kd.S_drewN | apply Kd.S_drew)); exact HO_249001.out) hb); have n3_ := Aside0.mk (blk_below (g := gb226) (o := .cells #[.string a0_0, .slice A0_1 l0_1.length c0_1] 24 (0, 0)) (by (with_reducible repeat (first | refine bN ?_ _|refine bW ?_|refine bA ?_ _)); exact BK226.out) hb); have n4_ := Aside0.mk (blk_below (g := gb237) (o := .cells #[.string t232, .slice Ao21 t233.length co21] 26 (0, 0)) (by (with_reducible repeat (first | refine bN ?_ _|refine bW ?_|refine bA ?_ _)); exact BK237.out) hb); have n5_ := Aside0.mk (blk_below (g := gb242) (o := .cells #[.string t238, .slice Ao28 t239.length co28] 26 (0, 0)) (by (with_reducible repeat (first | refine bN ?_ _|refine bW ?_|refine bA ?_ _)); exact BK242.out) hb); have n6_ := Aside0.mk (blk_below (g := gb248) (o := .cells #[.string t243, .slice Ao35 t244.length co35] 26 (0, 0)) (by (with_reducible repeat (first | refine bN ?_ _|refine bW ?_|refine bA ?_ _)); exact BK248.out) hb); have n7_ := Aside0.mk (below_step (by repeat (first | (with_reducible first | exact HB.out|apply wA|apply wN|apply wD |refine wS ?_ GE226.out |refine wS ?_ GE237.out |refine wS ?_ GE242.out |refine wS ?_ GE248.out) | exact HB.out)) hb); clear HO_238001; clear HO_243001; clear HO_249001; clear BK226; clear BK237; clear BK242; clear BK248; clear HB; have HO_238001 := n0_; have HO_243001 := n1_; have HO_249001 := n2_; have BK226 := n3_; have BK237 := n4_; have BK242 := n5_; have BK248 := n6_; have HB := n7_; clear n0_ n1_ n2_ n3_ n4_ n5_ n6_ n7_; (try clear hb); (try clear hb2); (try clear hk); (try clear hkp); (try clear hm_); (try clear hB2_); (try clear hi)))
             (try simp only [Act.put, List.setIfInBounds_toArray, List.set_cons_zero, List.set_cons_succ])
             go_cut [] (fun wc => ∃ (kq : Nat), Aside0 (laws_FnExactSlowPump.j6 kq a1 t236 t257 t258 a0_0 l0_1 t232 t233 t243 t244 = some r) ∧ Aside0 (kq ≤ kj89) ∧ Aside0 (Kd.S (Kd.slice 2 (Kd.int .i64)) 44 wc w.heap.size (fun k_ => k_ < gb237) (.slice Ao21 t233.length co21) t233) ∧ Aside0 (Kd.S (Kd.slice 2 (Kd.int .i64)) 44 wc w.heap.size (fun k_ => gb237 < k_ ∧ k_ < gb242) (.slice Ao28 t239.length co28) (ssMark t239 1)) ∧ Aside0 (Kd.S (Kd.slice 2 (Kd.int .i64)) 44 wc w.heap.size (fun k_ => gb242 < k_ ∧ k_ < gb248) (.slice Ao35 t244.length co35) (ssMark t244 1)) ∧ Aside0 (wc.heap[gb226]? = some (.cells #[.string a0_0, (.slice A0_1 l0_1.length c0_1)] 24 (0, 0))) ∧ Aside0 (wc.heap[gb237]? = some (.cells #[.string t232, (.slice Ao21 t233.length co21)] 26 (0, 0))) ∧ Aside0 (wc.heap[gb242]? = some (.cells #[.string t238, (.slice Ao28 t239.length co28)] 26 (0, 0))) ∧ Aside0 (wc.heap[gb248]? = some (.cells #[.string t243, (.slice Ao35 t244.length co35)] 26 (0, 0))) ∧ Aside0 (Below w.heap.size w wc))
             case first =>
              have H := HC94.out
              clear HC94
              by_cases c102 : t258 < 0
              ·rw [if_pos c102] at H
               have c102b0 : decide (t258 < 0) = true := decide_eq_true c102
               clear c102
               (first | rw [c102b0] | (simp only [i64_w, i32_w]; rw [c102b0]) | rw [c102b2] | skip)
               obtain rfl := Option.some.inj H
               go_wp2
               go_ret
               exact ⟨by first | rfl | (simp [errW_none, errW_some] <;> rfl) | (simp [*, errW_none, errW_some] <;> rfl), by repeat (first | (with_reducible first | exact HB.out|apply wA|apply wN|apply wD |refine wS ?_ GE226.out |refine wS ?_ GE237.out |refine wS ?_ GE242.out |refine wS ?_ GE248.out) | exact HB.out)⟩
              ·rw [if_neg c102] at H
               have c102b0 : decide (t258 < 0) = false := decide_eq_false c102
               clear c102
               (first | rw [c102b0] | (simp only [i64_w, i32_w]; rw [c102b0]) | rw [c102b2] | skip)
               have H' := Aside0.mk H
               clear H
               go_wp2
               go_meet
               case rel => exact ⟨_, H', ⟨by have := HJ3.out; have := HJ12.out; have := HJ53.out; have := HJ57.out; have := HJ64.out; have := HJ89.out; first | omega | exact Nat.le_refl _⟩, ⟨by (with_reducible repeat (first | apply Kd.S_alloc | apply Kd.S_drewN | apply Kd.S_drew)); exact HO_238001.out⟩, ⟨by (with_reducible repeat (first | apply Kd.S_alloc | apply Kd.S_drewN | apply Kd.S_drew)); exact HO_243001.out⟩, ⟨by (with_reducible repeat (first | apply Kd.S_alloc | apply Kd.S_drewN | apply Kd.S_drew)); exact HO_249001.out⟩, ⟨by (with_reducible repeat (first | refine bN ?_ _|refine bW ?_|refine bA ?_ _)); exact BK226.out⟩, ⟨by (with_reducible repeat (first | refine bN ?_ _|refine bW ?_|refine bA ?_ _)); exact BK237.out⟩, ⟨by (with_reducible repeat (first | refine bN ?_ _|refine bW ?_|refine bA ?_ _)); exact BK242.out⟩, ⟨by (with_reducible repeat (first | refine bN ?_ _|refine bW ?_|refine bA ?_ _)); exact BK248.out⟩, ⟨by repeat (first | (with_reducible first | exact HB.out|apply wA|apply wN|apply wD |refine wS ?_ GE226.out |refine wS ?_ GE237.out |refine wS ?_ GE242.out |refine wS ?_ GE248.out) | exact HB.out)⟩⟩
             case rest =>
              clear HC94
              try clear c1
              try clear c2
              try clear p2
              try clear c3
              try clear c4
              try clear c5
              try clear c6
              try clear c7
              try clear c8
              try clear c8b0
              try clear c8b2
              try clear c9
              try clear c10
              try clear c19
              try clear c25
              try clear c26
              try clear c31
              try clear c32
              try clear c33
              try clear c37
              try clear c38
              try clear c39
              try clear c40
              try clear c42
              try clear c43
              try clear c46
              try clear c47
              try clear c48
              try clear c50
              try clear c51
              try clear c55
              try clear c63
              try clear c66
              try clear c67
              try clear c68
              try clear c71
              try clear c71b0
              try clear c71b2
              try clear c73
              try clear c74
              try clear c75
              try clear c76
              try clear c78
              try clear c79
              try clear c82
              try clear c83
              try clear c84
              try clear c86
              try clear c87
              try clear c91
              try clear c95
              try clear c96
              try clear c97
              try clear c102
              try clear c102b0
              try clear c102b2
              try clear hcz100_0
              try clear hcz100_1
              try clear hcz14_0
              try clear hcz14_1
              try clear hcz20_0
              try clear hcz20_1
              try clear hcz22_0
              try clear hcz22_1
              try clear hcz27_0
              try clear hcz27_1
              try clear hcz34_0
              try clear hcz34_1
              try clear hcz41_0
              try clear hcz41_1
              try clear hcz44_0
              try clear hcz44_1
              try clear hcz49_0
              try clear hcz49_1
              try clear hcz52_0
              try clear hcz52_1
              try clear hcz69_0
              try clear hcz69_1
              try clear hcz6_0
              try clear hcz6_1
              try clear hcz77_0
              try clear hcz77_1
              try clear hcz80_0
              try clear hcz80_1
              try clear hcz85_0
              try clear hcz85_1
              try clear hcz88_0
              try clear hcz88_1
              try clear hcz98_0
              try clear hcz98_1
              try clear hfz100_0
              try clear hfz100_1
              try clear hfz14_0
              try clear hfz14_1
              try clear hfz20_0
              try clear hfz20_1
              try clear hfz22_0
              try clear hfz22_1
              try clear hfz27_0
              try clear hfz27_1
              try clear hfz34_0
              try clear hfz34_1
              try clear hfz41_0
              try clear hfz41_1
              try clear hfz44_0
              try clear hfz44_1
              try clear hfz49_0
              try clear hfz49_1
              try clear hfz52_0
              try clear hfz52_1
              try clear hfz69_0
              try clear hfz69_1
              try clear hfz6_0
              try clear hfz6_1
              try clear hfz77_0
              try clear hfz77_1
              try clear hfz80_0
              try clear hfz80_1
              try clear hfz85_0
              try clear hfz85_1
              try clear hfz88_0
              try clear hfz88_1
              try clear hfz98_0
              try clear hfz98_1
              try clear p2
              obtain ⟨kq, HA, HJ93, HO_238001, HO_243001, HO_249001, BK226, BK237, BK242, BK248, HB⟩ := hcut
              cases kq with
              | zero => exact absurd HA.out (by simp [laws_FnExactSlowPump.j6])
              | succ kj93 =>
               have H := HA.out
               clear HA
               simp only [laws_FnExactSlowPump.j6] at H
               have HC103 := Aside0.mk H
               clear H
               go_upto_if 76 with (fail)
               go_cut [] (fun wc => ∃ (kq : Nat), Aside0 (laws_FnExactSlowPump.j7 kq a1 t236 t257 a0_0 l0_1 t232 t233 t243 t244 = some r) ∧ Aside0 (kq ≤ kj93) ∧ Aside0 (Kd.S (Kd.slice 2 (Kd.int .i64)) 44 wc w.heap.size (fun k_ => k_ < gb237) (.slice Ao21 t233.length co21) t233) ∧ Aside0 (Kd.S (Kd.slice 2 (Kd.int .i64)) 44 wc w.heap.size (fun k_ => gb237 < k_ ∧ k_ < gb242) (.slice Ao28 t239.length co28) (ssMark t239 1)) ∧ Aside0 (Kd.S (Kd.slice 2 (Kd.int .i64)) 44 wc w.heap.size (fun k_ => gb242 < k_ ∧ k_ < gb248) (.slice Ao35 t244.length co35) (ssMark t244 1)) ∧ Aside0 (wc.heap[gb226]? = some (.cells #[.string a0_0, (.slice A0_1 l0_1.length c0_1)] 24 (0, 0))) ∧ Aside0 (wc.heap[gb237]? = some (.cells #[.string t232, (.slice Ao21 t233.length co21)] 26 (0, 0))) ∧ Aside0 (wc.heap[gb242]? = some (.cells #[.string t238, (.slice Ao28 t239.length co28)] 26 (0, 0))) ∧ Aside0 (wc.heap[gb248]? = some (.cells #[.string t243, (.slice Ao35 t244.length co35)] 26 (0, 0))) ∧ Aside0 (Below w.heap.size w wc))
               case first =>
                have H := HC103.out
                clear HC103
                by_cases c104 : t258 = t257
                ·rw [if_pos c104] at H
                 have c104b0 : (t258 == t257) = true := beq_iff_eq.mpr c104
                 have c104b1 : (t258 != t257) = false := bne_eq_false_iff_eq.mpr c104
                 clear c104
                 (first | rw [c104b0] | (simp only [i64_w, i32_w]; rw [c104b0]) | rw [c104b2] | skip)
                 have H' := Aside0.mk H
                 clear H
                 go_wp2
                 go_meet
                 case rel => exact ⟨_, H', ⟨by have := HJ3.out; have := HJ12.out; have := HJ53.out; have := HJ57.out; have := HJ64.out; have := HJ89.out; have := HJ93.out; first | omega | exact Nat.le_refl _⟩, ⟨by (with_reducible repeat (first | apply Kd.S_alloc | apply Kd.S_drewN | apply Kd.S_drew)); exact HO_238001.out⟩, ⟨by (with_reducible repeat (first | apply Kd.S_alloc | apply Kd.S_drewN | apply Kd.S_drew)); exact HO_243001.out⟩, ⟨by (with_reducible repeat (first | apply Kd.S_alloc | apply Kd.S_drewN | apply Kd.S_drew)); exact HO_249001.out⟩, ⟨by (with_reducible repeat (first | refine bN ?_ _|refine bW ?_|refine bA ?_ _)); exact BK226.out⟩, ⟨by (with_reducible repeat (first | refine bN ?_ _|refine bW ?_|refine bA ?_ _)); exact BK237.out⟩, ⟨by (with_reducible repeat (first | refine bN ?_ _|refine bW ?_|refine bA ?_ _)); exact BK242.out⟩, ⟨by (with_reducible repeat (first | refine bN ?_ _|refine bW ?_|refine bA ?_ _)); exact BK248.out⟩, ⟨by repeat (first | (with_reducible first | exact HB.out|apply wA|apply wN|apply wD |refine wS ?_ GE226.out |refine wS ?_ GE237.out |refine wS ?_ GE242.out |refine wS ?_ GE248.out) | exact HB.out)⟩⟩
                ·rw [if_neg c104] at H
                 have c104b0 : (t258 == t257) = false := beq_eq_false_iff_ne.mpr c104
                 have c104b1 : (t258 != t257) = true := bne_iff_ne.mpr c104
                 (first | rw [c104b0] | (simp only [i64_w, i32_w]; rw [c104b0]) | rw [c104b2] | skip)
                 obtain rfl := Option.some.inj H
                 go_wp2
                 go_ret
                 exact ⟨by first | rfl | (simp [errW_none, errW_some] <;> rfl) | (simp [*, errW_none, errW_some] <;> rfl), by repeat (first | (with_reducible first | exact HB.out|apply wA|apply wN|apply wD |refine wS ?_ GE226.out |refine wS ?_ GE237.out |refine wS ?_ GE242.out |refine wS ?_ GE248.out) | exact HB.out)⟩
               case rest =>
                clear HC103
                try clear c1
                try clear c2
                try clear p2
                try clear c3
                try clear c4
                try clear c5
                try clear c6
                try clear c7
                try clear c8
                try clear c8b0
                try clear c8b2
                try clear c9
                try clear c10
                try clear c19
                try clear c25
                try clear c26
                try clear c31
                try clear c32
                try clear c33
                try clear c37
                try clear c38
                try clear c39
                try clear c40
                try clear c42
                try clear c43
                try clear c46
                try clear c47
                try clear c48
                try clear c50
                try clear c51
                try clear c55
                try clear c63
                try clear c66
                try clear c67
                try clear c68
                try clear c71
                try clear c71b0
                try clear c71b2
                try clear c73
                try clear c74
                try clear c75
                try clear c76
                try clear c78
                try clear c79
                try clear c82
                try clear c83
                try clear c84
                try clear c86
                try clear c87
                try clear c91
                try clear c95
                try clear c96
                try clear c97
                try clear c102
                try clear c102b0
                try clear c102b2
                try clear c104
                try clear c104b0
                try clear c104b1
                try clear c104b2
                try clear hcz100_0
                try clear hcz100_1
                try clear hcz14_0
                try clear hcz14_1
                try clear hcz20_0
                try clear hcz20_1
                try clear hcz22_0
                try clear hcz22_1
                try clear hcz27_0
                try clear hcz27_1
                try clear hcz34_0
                try clear hcz34_1
                try clear hcz41_0
                try clear hcz41_1
                try clear hcz44_0
                try clear hcz44_1
                try clear hcz49_0
                try clear hcz49_1
                try clear hcz52_0
                try clear hcz52_1
                try clear hcz69_0
                try clear hcz69_1
                try clear hcz6_0
                try clear hcz6_1
                try clear hcz77_0
                try clear hcz77_1
                try clear hcz80_0
                try clear hcz80_1
                try clear hcz85_0
                try clear hcz85_1
                try clear hcz88_0
                try clear hcz88_1
                try clear hcz98_0
                try clear hcz98_1
                try clear hfz100_0
                try clear hfz100_1
                try clear hfz14_0
                try clear hfz14_1
                try clear hfz20_0
                try clear hfz20_1
                try clear hfz22_0
                try clear hfz22_1
                try clear hfz27_0
                try clear hfz27_1
                try clear hfz34_0
                try clear hfz34_1
                try clear hfz41_0
                try clear hfz41_1
                try clear hfz44_0
                try clear hfz44_1
                try clear hfz49_0
                try clear hfz49_1
                try clear hfz52_0
                try clear hfz52_1
                try clear hfz69_0
                try clear hfz69_1
                try clear hfz6_0
                try clear hfz6_1
                try clear hfz77_0
                try clear hfz77_1
                try clear hfz80_0
                try clear hfz80_1
                try clear hfz85_0
                try clear hfz85_1
                try clear hfz88_0
                try clear hfz88_1
                try clear hfz98_0
                try clear hfz98_1
                try clear p2
                obtain ⟨kq, HA, HJ102, HO_238001, HO_243001, HO_249001, BK226, BK237, BK242, BK248, HB⟩ := hcut
                cases kq with
                | zero => exact absurd HA.out (by simp [laws_FnExactSlowPump.j7])
                | succ kj102 =>
                 have H := HA.out
                 clear HA
                 simp only [laws_FnExactSlowPump.j7] at H
                 replace H := Option.bind_eq_some_iff.mp H
                 obtain ⟨⟨t259, t260⟩, A1050, H⟩ := H
                 replace H : ((impl_SlowPump.f kj102 t259 t260 a1).bind fun bt263 => ((laws_eqPump.f bt263.1 bt263.2.1 t232 t233).bind fun t269 => (if t269 = true then (laws_FnExactSlowPump.j8 kj102 t257 (bt263.2.2 != t236) t243 t244) else (laws_FnExactSlowPump.j8 kj102 t257 true t243 t244)))) = some r := H
                 have A105 := Aside0.mk A1050
                 clear A1050
                 replace H := Option.bind_eq_some_iff.mp H
                 obtain ⟨⟨t263, t264, t267⟩, A1060, H⟩ := H
                 replace H : ((laws_eqPump.f t263 t264 t232 t233).bind fun t269 => (if t269 = true then (laws_FnExactSlowPump.j8 kj102 t257 (t267 != t236) t243 t244) else (laws_FnExactSlowPump.j8 kj102 t257 true t243 t244))) = some r := H
                 have A106 := Aside0.mk A1060
                 clear A1060
                 have HC107 := Aside0.mk H
                 clear H
                 have hnb108 := NB226_237.out
                 have hnc108 := NB237_226.out
                 have hnb109 := NB226_242.out
                 have hnc109 := NB242_226.out
                 have hnb110 := NB226_248.out
                 have hnc110 := NB248_226.out
                 have hcz111_0 : wc.cell? ⟨gb226, 0, none⟩ = some (.string a0_0) := (blk_cell BK226.out 0).trans rfl
                 have hcz111_1 : wc.cell? ⟨gb226, 1, none⟩ = some (.slice A0_1 l0_1.length c0_1) := (blk_cell BK226.out 1).trans rfl
                 have hfz111_0 := blk_frozen BK226.out 0
                 have hfz111_1 := blk_frozen BK226.out 1
                 go_upto_region 25 with (first | ((with_reducible refine gate_callee (f := 6) rfl ?_); refine goesL_ (some 79) rfl rfl Try.func6 (by kernel_rfl) rfl #[.agg #[.string a0_0, .slice A0_1 l0_1.length c0_1]] rfl (by (try simp only [List.map_toArray, List.map_cons, List.map_nil]); first | done | rfl | (simp only [List.length_drop, List.length_take]; rfl)) ?_; (with_reducible refine (laws_toPump.calls a0_0 _ _ l0_1 t259 t260 _ ?side1 ?side2 A105.out).mono ?_); (case side1 => repeat (first | exact (Kd.C_below HR0_1.out HB.out) | (with_reducible first|refine Kd.C_alloc ?_ _|refine Kd.C_drewN ?_ _|refine Kd.C_drew ?_))); (case side2 => exact HC0_1.out); rintro e w112 ⟨v261, rfl, ho0, hb⟩; refine ⟨_, rfl, ?_⟩; have n0_ := Aside0.mk (Kd.S_elder' (by (with_reducible repeat (first | apply Kd.S_alloc | apply Kd.S_drewN | apply Kd.S_drew)); exact HO_238001.out) (Kd.S_base ho0) hb); have n1_ := Aside0.mk (Kd.S_elder' (by (with_reducible repeat (first | apply Kd.S_alloc | apply Kd.S_drewN | apply Kd.S_drew)); exact HO_243001.out) (Kd.S_base ho0) hb); have n2_ := Aside0.mk (Kd.S_elder' (by (with_reducible repeat (first | apply Kd.S_alloc | apply Kd.S_drewN | apply Kd.S_drew)); exact HO_249001.out) (Kd.S_base ho0) hb); have n3_ := Aside0.mk (Kd.S_lower (Kd.S_new' (Kd.S_new' (Kd.S_new' ho0 (Kd.S_lt (by (with_reducible repeat (first | apply Kd.S_alloc | apply Kd.S_drewN | apply Kd.S_drew)); exact HO_238001.out))) (Kd.S_lt (by (with_reducible repeat (first | apply Kd.S_alloc | apply Kd.S_drewN | apply Kd.S_drew)); exact HO_243001.out))) (Kd.S_lt (by (with_reducible repeat (first | apply Kd.S_alloc | apply Kd.S_drewN | apply Kd.S_drew)); exact HO_249001.out))) (below_size (by repeat (first | (with_reducible first | exact HB.out|apply wA|apply wN|apply wD |refine wS ?_ GE226.out |refine wS ?_ GE237.out |refine wS ?_ GE242.out |refine wS ?_ GE248.out) | exact HB.out)))); have n4_ := Aside0.mk (blk_below (g := gb226) (o := .cells #[.string a0_0, .slice A0_1 l0_1.length c0_1] 24 (0, 0)) (by (with_reducible repeat (first | refine bN ?_ _|refine bW ?_|refine bA ?_ _)); exact BK226.out) hb); have n5_ := Aside0.mk (blk_below (g := gb237) (o := .cells #[.string t232, .slice Ao21 t233.length co21] 26 (0, 0)) (by (with_reducible repeat (first | refine bN ?_ _|refine bW ?_|refine bA ?_ _)); exact BK237.out) hb); have n6_ := Aside0.mk (blk_below (g := gb242) (o := .cells #[.string t238, .slice Ao28 t239.length co28] 26 (0, 0)) (by (with_reducible repeat (first | refine bN ?_ _|refine bW ?_|refine bA ?_ _)); exact BK242.out) hb); have n7_ := Aside0.mk (blk_below (g := gb248) (o := .cells #[.string t243, .slice Ao35 t244.length co35] 26 (0, 0)) (by (with_reducible repeat (first | refine bN ?_ _|refine bW ?_|refine bA ?_ _)); exact BK248.out) hb); have n8_ := Aside0.mk (below_step (by repeat (first | (with_reducible first | exact HB.out|apply wA|apply wN|apply wD |refine wS ?_ GE226.out |refine wS ?_ GE237.out |refine wS ?_ GE242.out |refine wS ?_ GE248.out) | exact HB.out)) hb); clear HO_238001; clear HO_243001; clear HO_249001; clear BK226; clear BK237; clear BK242; clear BK248; clear HB; have HO_238001 := n0_; have HO_243001 := n1_; have HO_249001 := n2_; have HO262 := n3_; have BK226 := n4_; have BK237 := n5_; have BK242 := n6_; have BK248 := n7_; have HB := n8_; clear n0_ n1_ n2_ n3_ n4_ n5_ n6_ n7_ n8_; (try clear hb); (try clear hb2); (try clear hk); (try clear hkp); (try clear hm_); (try clear hB2_); (try clear hi); (try clear ho0); obtain ⟨Ao113, co113, eo113⟩ := Kd.S_slice HO262.out; subst eo113) | ((with_reducible refine gate_callee (f := 7) rfl ?_); refine goesL_ (some 81) rfl rfl Try.func7 (by kernel_rfl) rfl #[.agg #[.string t259, .slice Ao113 t260.length co113], .int .i64 a1] rfl (by (try simp only [List.map_toArray, List.map_cons, List.map_nil]); first | done | rfl | (simp only [List.length_drop, List.length_take]; rfl)) ?_; (with_reducible refine (impl_SlowPump.calls kj102 t259 _ _ t260 a1 t263 t264 t267 _ ?side1 ?side2 A106.out).mono ?_); (case side1 => repeat (first | exact (Kd.S_reads' HO262.out).2.2 | (with_reducible first|refine Kd.C_alloc ?_ _|refine Kd.C_drewN ?_ _|refine Kd.C_drew ?_))); (case side2 => exact (Kd.S_reads' HO262.out).2.1); rintro e w114 ⟨v265, rfl, ho0, hb⟩; refine ⟨_, rfl, ?_⟩; have n0_ := Aside0.mk (Kd.S_elder' (by (with_reducible repeat (first | apply Kd.S_alloc | apply Kd.S_drewN | apply Kd.S_drew)); exact HO_238001.out) (Kd.S_base ho0) hb); have n1_ := Aside0.mk (Kd.S_elder' (by (with_reducible repeat (first | apply Kd.S_alloc | apply Kd.S_drewN | apply Kd.S_drew)); exact HO_243001.out) (Kd.S_base ho0) hb); have n2_ := Aside0.mk (Kd.S_elder' (by (with_reducible repeat (first | apply Kd.S_alloc | apply Kd.S_drewN | apply Kd.S_drew)); exact HO_249001.out) (Kd.S_base ho0) hb); have n3_ := Aside0.mk (Kd.S_elder' (by (with_reducible repeat (first | apply Kd.S_alloc | apply Kd.S_drewN | apply Kd.S_drew)); exact HO262.out) (Kd.S_base ho0) hb); have n4_ := Aside0.mk (Kd.S_lower (Kd.S_new' (Kd.S_new' (Kd.S_new' (Kd.S_new' ho0 (Kd.S_lt (by (with_reducible repeat (first | apply Kd.S_alloc | apply Kd.S_drewN | apply Kd.S_drew)); exact HO_238001.out))) (Kd.S_lt (by (with_reducible repeat (first | apply Kd.S_alloc | apply Kd.S_drewN | apply Kd.S_drew)); exact HO_243001.out))) (Kd.S_lt (by (with_reducible repeat (first | apply Kd.S_alloc | apply Kd.S_drewN | apply Kd.S_drew)); exact HO_249001.out))) (Kd.S_lt (by (with_reducible repeat (first | apply Kd.S_alloc | apply Kd.S_drewN | apply Kd.S_drew)); exact HO262.out))) (below_size (by repeat (first | (with_reducible first | exact HB.out|apply wA|apply wN|apply wD |refine wS ?_ GE226.out |refine wS ?_ GE237.out |refine wS ?_ GE242.out |refine wS ?_ GE248.out) | exact HB.out)))); have n5_ := Aside0.mk (blk_below (g := gb226) (o := .cells #[.string a0_0, .slice A0_1 l0_1.length c0_1] 24 (0, 0)) (by (with_reducible repeat (first | refine bN ?_ _|refine bW ?_|refine bA ?_ _)); exact BK226.out) hb); have n6_ := Aside0.mk (blk_below (g := gb237) (o := .cells #[.string t232, .slice Ao21 t233.length co21] 26 (0, 0)) (by (with_reducible repeat (first | refine bN ?_ _|refine bW ?_|refine bA ?_ _)); exact BK237.out) hb); have n7_ := Aside0.mk (blk_below (g := gb242) (o := .cells #[.string t238, .slice Ao28 t239.length co28] 26 (0, 0)) (by (with_reducible repeat (first | refine bN ?_ _|refine bW ?_|refine bA ?_ _)); exact BK242.out) hb); have n8_ := Aside0.mk (blk_below (g := gb248) (o := .cells #[.string t243, .slice Ao35 t244.length co35] 26 (0, 0)) (by (with_reducible repeat (first | refine bN ?_ _|refine bW ?_|refine bA ?_ _)); exact BK248.out) hb); have n9_ := Aside0.mk (below_step (by repeat (first | (with_reducible first | exact HB.out|apply wA|apply wN|apply wD |refine wS ?_ GE226.out |refine wS ?_ GE237.out |refine wS ?_ GE242.out |refine wS ?_ GE248.out) | exact HB.out)) hb); clear HO_238001; clear HO_243001; clear HO_249001; clear HO262; clear BK226; clear BK237; clear BK242; clear BK248; clear HB; have HO_238001 := n0_; have HO_243001 := n1_; have HO_249001 := n2_; have HO262 := n3_; have HO266 := n4_; have BK226 := n5_; have BK237 := n6_; have BK242 := n7_; have BK248 := n8_; have HB := n9_; clear n0_ n1_ n2_ n3_ n4_ n5_ n6_ n7_ n8_ n9_; (try clear hb); (try clear hb2); (try clear hk); (try clear hkp); (try clear hm_); (try clear hB2_); (try clear hi); (try clear ho0)) | ((with_reducible refine gate_dst (N := 14) rfl ?_); refine box_event ?hg (N := 14) ?hd (cs := #[.string (⟨#[]⟩ : ByteArray), .slice none 0 0]) (t := 26) ?hr ?_; (case hd => rfl); (case hg => rfl); (case hr => first | (go_simp; done) | (go_simp; rfl)); intro gb268 hg w115 hbox hb; have n0_ := Aside0.mk (Kd.S_below (by (with_reducible repeat (first | apply Kd.S_alloc | apply Kd.S_drewN | apply Kd.S_drew)); exact HO_238001.out) hb); have n1_ := Aside0.mk (Kd.S_below (by (with_reducible repeat (first | apply Kd.S_alloc | apply Kd.S_drewN | apply Kd.S_drew)); exact HO_243001.out) hb); have n2_ := Aside0.mk (Kd.S_below (by (with_reducible repeat (first | apply Kd.S_alloc | apply Kd.S_drewN | apply Kd.S_drew)); exact HO_249001.out) hb); have n3_ := Aside0.mk (Kd.S_below (by (with_reducible repeat (first | apply Kd.S_alloc | apply Kd.S_drewN | apply Kd.S_drew)); exact HO262.out) hb); have n4_ := Aside0.mk (Kd.S_below (by (with_reducible repeat (first | apply Kd.S_alloc | apply Kd.S_drewN | apply Kd.S_drew)); exact HO266.out) hb); have n5_ := Aside0.mk (blk_below (g := gb226) (o := .cells #[.string a0_0, .slice A0_1 l0_1.length c0_1] 24 (0, 0)) (by (with_reducible repeat (first | refine bN ?_ _|refine bW ?_|refine bA ?_ _)); exact BK226.out) hb); have n6_ := Aside0.mk (blk_below (g := gb237) (o := .cells #[.string t232, .slice Ao21 t233.length co21] 26 (0, 0)) (by (with_reducible repeat (first | refine bN ?_ _|refine bW ?_|refine bA ?_ _)); exact BK237.out) hb); have n7_ := Aside0.mk (blk_below (g := gb242) (o := .cells #[.string t238, .slice Ao28 t239.length co28] 26 (0, 0)) (by (with_reducible repeat (first | refine bN ?_ _|refine bW ?_|refine bA ?_ _)); exact BK242.out) hb); have n8_ := Aside0.mk (blk_below (g := gb248) (o := .cells #[.string t243, .slice Ao35 t244.length co35] 26 (0, 0)) (by (with_reducible repeat (first | refine bN ?_ _|refine bW ?_|refine bA ?_ _)); exact BK248.out) hb); have n9_ := Aside0.mk (below_step (by repeat (first | (with_reducible first | exact HB.out|apply wA|apply wN|apply wD |refine wS ?_ GE226.out |refine wS ?_ GE237.out |refine wS ?_ GE242.out |refine wS ?_ GE248.out) | exact HB.out)) hb); have n10_ := Aside0.mk (hbox); have n11_ := Aside0.mk ((by rw [hg]; exact (below_size (by repeat (first | (with_reducible first | exact HB.out|apply wA|apply wN|apply wD |refine wS ?_ GE226.out |refine wS ?_ GE237.out |refine wS ?_ GE242.out |refine wS ?_ GE248.out) | exact HB.out))) : w.heap.size ≤ gb268)); have n12_ := Aside0.mk ((by rw [hg]; exact (below_size (by repeat (first | (with_reducible first | exact HB.out|apply wA|apply wN|apply wD |refine wS ?_ GE226.out |refine wS ?_ GE237.out |refine wS ?_ GE242.out |refine wS ?_ GE248.out) | exact HB.out))) : w.heap.size ≤ gb268)); have n13_ := Aside0.mk ((by rw [hg]; exact Nat.ne_of_lt (blk_lt (g := gb226) (o := .cells #[.string a0_0, .slice A0_1 l0_1.length c0_1] 24 (0, 0)) (by (with_reducible repeat (first | refine bN ?_ _|refine bW ?_|refine bA ?_ _)); exact BK226.out)) : gb226 ≠ gb268)); have n14_ := Aside0.mk ((by rw [hg]; exact Nat.ne_of_gt (blk_lt (g := gb226) (o := .cells #[.string a0_0, .slice A0_1 l0_1.length c0_1] 24 (0, 0)) (by (with_reducible repeat (first | refine bN ?_ _|refine bW ?_|refine bA ?_ _)); exact BK226.out)) : gb268 ≠ gb226)); have n15_ := Aside0.mk ((by rw [hg]; exact Nat.ne_of_lt (blk_lt (g := gb237) (o := .cells #[.string t232, .slice Ao21 t233.length co21] 26 (0, 0)) (by (with_reducible repeat (first | refine bN ?_ _|refine bW ?_|refine bA ?_ _)); exact BK237.out)) : gb237 ≠ gb268)); have n16_ := Aside0.mk ((by rw [hg]; exact Nat.ne_of_gt (blk_lt (g := gb237) (o := .cells #[.string t232, .slice Ao21 t233.length co21] 26 (0, 0)) (by (with_reducible repeat (first | refine bN ?_ _|refine bW ?_|refine bA ?_ _)); exact BK237.out)) : gb268 ≠ gb237)); have n17_ := Aside0.mk ((by rw [hg]; exact Nat.ne_of_lt (blk_lt (g := gb242) (o := .cells #[.string t238, .slice Ao28 t239.length co28] 26 (0, 0)) (by (with_reducible repeat (first | refine bN ?_ _|refine bW ?_|refine bA ?_ _)); exact BK242.out)) : gb242 ≠ gb268)); have n18_ := Aside0.mk ((by rw [hg]; exact Nat.ne_of_gt (blk_lt (g := gb242) (o := .cells #[.string t238, .slice Ao28 t239.length co28] 26 (0, 0)) (by (with_reducible repeat (first | refine bN ?_ _|refine bW ?_|refine bA ?_ _)); exact BK242.out)) : gb268 ≠ gb242)); have n19_ := Aside0.mk ((by rw [hg]; exact Nat.ne_of_lt (blk_lt (g := gb248) (o := .cells #[.string t243, .slice Ao35 t244.length co35] 26 (0, 0)) (by (with_reducible repeat (first | refine bN ?_ _|refine bW ?_|refine bA ?_ _)); exact BK248.out)) : gb248 ≠ gb268)); have n20_ := Aside0.mk ((by rw [hg]; exact Nat.ne_of_gt (blk_lt (g := gb248) (o := .cells #[.string t243, .slice Ao35 t244.length co35] 26 (0, 0)) (by (with_reducible repeat (first | refine bN ?_ _|refine bW ?_|refine bA ?_ _)); exact BK248.out)) : gb268 ≠ gb248)); clear HO_238001; clear HO_243001; clear HO_249001; clear HO262; clear HO266; clear BK226; clear BK237; clear BK242; clear BK248; clear HB; have HO_238001 := n0_; have HO_243001 := n1_; have HO_249001 := n2_; have HO262 := n3_; have HO266 := n4_; have BK226 := n5_; have BK237 := n6_; have BK242 := n7_; have BK248 := n8_; have HB := n9_; have BK268 := n10_; have GW268 := n11_; have GE268 := n12_; have NB226_268 := n13_; have NB268_226 := n14_; have NB237_268 := n15_; have NB268_237 := n16_; have NB242_268 := n17_; have NB268_242 := n18_; have NB248_268 := n19_; have NB268_248 := n20_; clear n0_ n1_ n2_ n3_ n4_ n5_ n6_ n7_ n8_ n9_ n10_ n11_ n12_ n13_ n14_ n15_ n16_ n17_ n18_ n19_ n20_; clear hb hbox hg; have hnb116 := NB268_226.out; have hnc116 := NB226_268.out; have hnb117 := NB268_237.out; have hnc117 := NB237_268.out; have hnb118 := NB268_242.out; have hnc118 := NB242_268.out; have hnb119 := NB268_248.out; have hnc119 := NB248_268.out; have hcz120_0 : w115.cell? ⟨gb268, 0, none⟩ = some (.string (⟨#[]⟩ : ByteArray)) := (blk_cell BK268.out 0).trans rfl; have hcz120_1 : w115.cell? ⟨gb268, 1, none⟩ = some (.slice none 0 0) := (blk_cell BK268.out 1).trans rfl; have hfz120_0 := blk_frozen BK268.out 0; have hfz120_1 := blk_frozen BK268.out 1; obtain ⟨Ao121, co121, eo121⟩ := Kd.S_slice HO266.out; subst eo121))
                 (try simp only [Act.put, List.setIfInBounds_toArray, List.set_cons_zero, List.set_cons_succ])
                 go_cut [92] (fun v92 wc => ∃ (kq : Nat) (x92_106 : Bool), v92 = .bool x92_106 ∧ Aside0 (laws_FnExactSlowPump.j8 kq t257 x92_106 t243 t244 = some r) ∧ Aside0 (kq ≤ kj102) ∧ Aside0 (Kd.S (Kd.slice 2 (Kd.int .i64)) 44 wc w.heap.size (fun k_ => k_ < gb237) (.slice Ao21 t233.length co21) t233) ∧ Aside0 (Kd.S (Kd.slice 2 (Kd.int .i64)) 44 wc w.heap.size (fun k_ => gb237 < k_ ∧ k_ < gb242) (.slice Ao28 t239.length co28) (ssMark t239 1)) ∧ Aside0 (Kd.S (Kd.slice 2 (Kd.int .i64)) 44 wc w.heap.size (fun k_ => gb242 < k_ ∧ k_ < gb248) (.slice Ao35 t244.length co35) (ssMark t244 1)) ∧ Aside0 (Kd.S (Kd.slice 2 (Kd.int .i64)) 44 wc w.heap.size (fun k_ => some k_ ≠ ((.slice Ao21 t233.length co21) : Value).ownBlock ∧ some k_ ≠ ((.slice Ao28 t239.length co28) : Value).ownBlock ∧ some k_ ≠ ((.slice Ao35 t244.length co35) : Value).ownBlock) (.slice Ao121 t264.length co121) t264) ∧ Aside0 (wc.heap[gb226]? = some (.cells #[.string a0_0, (.slice A0_1 l0_1.length c0_1)] 24 (0, 0))) ∧ Aside0 (wc.heap[gb237]? = some (.cells #[.string t232, (.slice Ao21 t233.length co21)] 26 (0, 0))) ∧ Aside0 (wc.heap[gb242]? = some (.cells #[.string t238, (.slice Ao28 t239.length co28)] 26 (0, 0))) ∧ Aside0 (wc.heap[gb248]? = some (.cells #[.string t243, (.slice Ao35 t244.length co35)] 26 (0, 0))) ∧ Aside0 (wc.heap[gb268]? = some (.cells #[.string t263, (.slice Ao121 t264.length co121)] 26 (0, 0))) ∧ Aside0 (Below w.heap.size w wc))
                 case first =>
                  have H := HC107.out
                  clear HC107
                  replace H := Option.bind_eq_some_iff.mp H
                  obtain ⟨t269, A1220, H⟩ := H
                  replace H : (if t269 = true then (laws_FnExactSlowPump.j8 kj102 t257 (t267 != t236) t243 t244) else (laws_FnExactSlowPump.j8 kj102 t257 true t243 t244)) = some r := H
                  have A122 := Aside0.mk A1220
                  clear A1220
                  by_cases c123 : t269 = true
                  ·subst c123
                   have H1 : (laws_FnExactSlowPump.j8 kj102 t257 (t267 != t236) t243 t244) = some r := by rw [if_pos rfl] at H; exact H
                   clear H
                   have H := H1
                   clear H1
                   have H' := Aside0.mk H
                   clear H
                   have hnb124 := NB268_226.out
                   have hnc124 := NB226_268.out
                   have hnb125 := NB268_237.out
                   have hnc125 := NB237_268.out
                   have hnb126 := NB268_242.out
                   have hnc126 := NB242_268.out
                   have hnb127 := NB268_248.out
                   have hnc127 := NB248_268.out
                   have hcz128_0 : w115.cell? ⟨gb268, 0, none⟩ = some (.string (⟨#[]⟩ : ByteArray)) := (blk_cell BK268.out 0).trans rfl
                   have hcz128_1 : w115.cell? ⟨gb268, 1, none⟩ = some (.slice none 0 0) := (blk_cell BK268.out 1).trans rfl
                   have hfz128_0 := blk_frozen BK268.out 0
                   have hfz128_1 := blk_frozen BK268.out 1
                   have hnb129 := NB237_226.out
                   have hnc129 := NB226_237.out
                   have hnb130 := NB237_242.out
                   have hnc130 := NB242_237.out
                   have hnb131 := NB237_248.out
                   have hnc131 := NB248_237.out
                   have hcz132_0 : w115.cell? ⟨gb237, 0, none⟩ = some (.string t232) := (blk_cell BK237.out 0).trans rfl
                   have hcz132_1 : w115.cell? ⟨gb237, 1, none⟩ = some (.slice Ao21 t233.length co21) := (blk_cell BK237.out 1).trans rfl
                   have hfz132_0 := blk_frozen BK237.out 0
                   have hfz132_1 := blk_frozen BK237.out 1
                   go_wp2_with (first | ((with_reducible refine gate_callee (f := 8) rfl ?_); refine goesL_ (some 86) rfl rfl Try.func8 (by kernel_rfl) rfl #[.agg #[.string t263, .slice Ao121 t264.length co121], .agg #[.string t232, .slice Ao21 t233.length co21]] rfl (by (try simp only [List.map_toArray, List.map_cons, List.map_nil]); first | done | rfl | (simp only [List.length_drop, List.length_take]; rfl)) ?_; (with_reducible refine (laws_eqPump.calls t263 _ _ t264 t232 _ _ t233 true _ ?side1 ?side2 ?side3 ?side4 A122.out).mono ?_); (case side1 => refine (Kd.S_reads' (e := 44) (base := w.heap.size) (ok := fun k_ => ((((True ∧ some k_ ≠ (.slice Ao21 t233.length co21 : Value).ownBlock) ∧ some k_ ≠ (.slice Ao28 t239.length co28 : Value).ownBlock) ∧ some k_ ≠ (.slice Ao35 t244.length co35 : Value).ownBlock) ∧ some k_ ≠ (.slice Ao113 t260.length co113 : Value).ownBlock)) (n := t264.length) (c := co121) ?_).2.2; exact (by (with_reducible repeat (first | apply Kd.S_alloc | apply Kd.S_drewN | apply Kd.S_drew)); exact (Kd.S_mono (Kd.S_far (p := ⟨gb268, 1, none⟩) (Kd.S_far (p := ⟨gb268, 0, none⟩) (Kd.S_types HO266.out BK268.out (by decide)) (fun _ hk => hk.2) (.string t263)) (fun _ hk => hk.2) (.slice Ao121 t264.length co121)) (fun _ h_ => by first | exact h_.1 | exact h_.1.1 | exact h_.1.1.1 | exact h_.1.1.1.1 | exact h_.1.1.1.1.1 | exact h_.1.1.1.1.1.1)))); (case side2 => exact (Kd.S_reads' HO266.out).2.1); (case side3 => refine (Kd.S_reads' (e := 44) (base := w.heap.size) (ok := fun k_ => k_ < gb237) (n := t233.length) (c := co21) ?_).2.2; exact (by (with_reducible repeat (first | apply Kd.S_alloc | apply Kd.S_drewN | apply Kd.S_drew)); exact (Kd.S_mono (Kd.S_far (p := ⟨gb268, 1, none⟩) (Kd.S_far (p := ⟨gb268, 0, none⟩) (Kd.S_types HO_238001.out BK268.out (by decide)) (fun _ hk => hk.2) (.string t263)) (fun _ hk => hk.2) (.slice Ao121 t264.length co121)) (fun _ h_ => by first | exact h_.1 | exact h_.1.1 | exact h_.1.1.1 | exact h_.1.1.1.1 | exact h_.1.1.1.1.1 | exact h_.1.1.1.1.1.1)))); (case side4 => exact (Kd.S_reads' HO_238001.out).2.1); rintro e w133 ⟨rfl, hb⟩; refine ⟨_, rfl, ?_⟩; have n0_ := Aside0.mk (Kd.S_below (by (with_reducible repeat (first | apply Kd.S_alloc | apply Kd.S_drewN | apply Kd.S_drew)); exact (Kd.S_mono (Kd.S_far (p := ⟨gb268, 1, none⟩) (Kd.S_far (p := ⟨gb268, 0, none⟩) (Kd.S_types HO_238001.out BK268.out (by decide)) (fun _ hk => hk.2) (.string t263)) (fun _ hk => hk.2) (.slice Ao121 t264.length co121)) (fun _ h_ => h_.1))) hb); have n1_ := Aside0.mk (Kd.S_below (by (with_reducible repeat (first | apply Kd.S_alloc | apply Kd.S_drewN | apply Kd.S_drew)); exact (Kd.S_mono (Kd.S_far (p := ⟨gb268, 1, none⟩) (Kd.S_far (p := ⟨gb268, 0, none⟩) (Kd.S_types HO_243001.out BK268.out (by decide)) (fun _ hk => hk.2) (.string t263)) (fun _ hk => hk.2) (.slice Ao121 t264.length co121)) (fun _ h_ => h_.1))) hb); have n2_ := Aside0.mk (Kd.S_below (by (with_reducible repeat (first | apply Kd.S_alloc | apply Kd.S_drewN | apply Kd.S_drew)); exact (Kd.S_mono (Kd.S_far (p := ⟨gb268, 1, none⟩) (Kd.S_far (p := ⟨gb268, 0, none⟩) (Kd.S_types HO_249001.out BK268.out (by decide)) (fun _ hk => hk.2) (.string t263)) (fun _ hk => hk.2) (.slice Ao121 t264.length co121)) (fun _ h_ => h_.1))) hb); have n3_ := Aside0.mk (Kd.S_below (by (with_reducible repeat (first | apply Kd.S_alloc | apply Kd.S_drewN | apply Kd.S_drew)); exact (Kd.S_mono (Kd.S_far (p := ⟨gb268, 1, none⟩) (Kd.S_far (p := ⟨gb268, 0, none⟩) (Kd.S_types HO262.out BK268.out (by decide)) (fun _ hk => hk.2) (.string t263)) (fun _ hk => hk.2) (.slice Ao121 t264.length co121)) (fun _ h_ => h_.1))) hb); have n4_ := Aside0.mk (Kd.S_below (by (with_reducible repeat (first | apply Kd.S_alloc | apply Kd.S_drewN | apply Kd.S_drew)); exact (Kd.S_mono (Kd.S_far (p := ⟨gb268, 1, none⟩) (Kd.S_far (p := ⟨gb268, 0, none⟩) (Kd.S_types HO266.out BK268.out (by decide)) (fun _ hk => hk.2) (.string t263)) (fun _ hk => hk.2) (.slice Ao121 t264.length co121)) (fun _ h_ => h_.1))) hb); have n5_ := Aside0.mk (blk_below (g := gb226) (o := .cells #[.string a0_0, .slice A0_1 l0_1.length c0_1] 24 (0, 0)) (by (with_reducible repeat (first | refine bN ?_ _|refine bW ?_|refine bA ?_ _)); refine blk_far ?_ NB226_268.out _; (with_reducible repeat (first | refine bN ?_ _|refine bW ?_|refine bA ?_ _)); refine blk_far ?_ NB226_268.out _; (with_reducible repeat (first | refine bN ?_ _|refine bW ?_|refine bA ?_ _)); exact BK226.out) hb); have n6_ := Aside0.mk (blk_below (g := gb237) (o := .cells #[.string t232, .slice Ao21 t233.length co21] 26 (0, 0)) (by (with_reducible repeat (first | refine bN ?_ _|refine bW ?_|refine bA ?_ _)); refine blk_far ?_ NB237_268.out _; (with_reducible repeat (first | refine bN ?_ _|refine bW ?_|refine bA ?_ _)); refine blk_far ?_ NB237_268.out _; (with_reducible repeat (first | refine bN ?_ _|refine bW ?_|refine bA ?_ _)); exact BK237.out) hb); have n7_ := Aside0.mk (blk_below (g := gb242) (o := .cells #[.string t238, .slice Ao28 t239.length co28] 26 (0, 0)) (by (with_reducible repeat (first | refine bN ?_ _|refine bW ?_|refine bA ?_ _)); refine blk_far ?_ NB242_268.out _; (with_reducible repeat (first | refine bN ?_ _|refine bW ?_|refine bA ?_ _)); refine blk_far ?_ NB242_268.out _; (with_reducible repeat (first | refine bN ?_ _|refine bW ?_|refine bA ?_ _)); exact BK242.out) hb); have n8_ := Aside0.mk (blk_below (g := gb248) (o := .cells #[.string t243, .slice Ao35 t244.length co35] 26 (0, 0)) (by (with_reducible repeat (first | refine bN ?_ _|refine bW ?_|refine bA ?_ _)); refine blk_far ?_ NB248_268.out _; (with_reducible repeat (first | refine bN ?_ _|refine bW ?_|refine bA ?_ _)); refine blk_far ?_ NB248_268.out _; (with_reducible repeat (first | refine bN ?_ _|refine bW ?_|refine bA ?_ _)); exact BK248.out) hb); have n9_ := Aside0.mk (blk_below (g := gb268) (o := .cells #[.string t263, .slice Ao121 t264.length co121] 26 (0, 0)) (by (with_reducible repeat (first | refine bN ?_ _|refine bW ?_|refine bA ?_ _)); refine blk_put (cs := #[.string t263, .slice none 0 0]) ?_ 1 _ rfl; (with_reducible repeat (first | refine bN ?_ _|refine bW ?_|refine bA ?_ _)); refine blk_put (cs := #[.string (⟨#[]⟩ : ByteArray), .slice none 0 0]) ?_ 0 _ rfl; (with_reducible repeat (first | refine bN ?_ _|refine bW ?_|refine bA ?_ _)); exact BK268.out) hb); have n10_ := Aside0.mk (below_step (by repeat (first | (with_reducible first | exact HB.out|apply wA|apply wN|apply wD |refine wS ?_ GE226.out |refine wS ?_ GE237.out |refine wS ?_ GE242.out |refine wS ?_ GE248.out |refine wS ?_ GE268.out) | exact HB.out)) hb); clear HO_238001; clear HO_243001; clear HO_249001; clear HO262; clear HO266; clear BK226; clear BK237; clear BK242; clear BK248; clear BK268; clear HB; have HO_238001 := n0_; have HO_243001 := n1_; have HO_249001 := n2_; have HO262 := n3_; have HO266 := n4_; have BK226 := n5_; have BK237 := n6_; have BK242 := n7_; have BK248 := n8_; have BK268 := n9_; have HB := n10_; clear n0_ n1_ n2_ n3_ n4_ n5_ n6_ n7_ n8_ n9_ n10_; (try clear hb); (try clear hb2); (try clear hk); (try clear hkp); (try clear hm_); (try clear hB2_); (try clear hi)))
                   go_meet
                   case rel => exact ⟨_, ((t267 != t236)), (by first | rfl | (simp; done) | (simp [*]; done)), H', ⟨by have := HJ3.out; have := HJ12.out; have := HJ53.out; have := HJ57.out; have := HJ64.out; have := HJ89.out; have := HJ93.out; have := HJ102.out; first | omega | exact Nat.le_refl _⟩, ⟨by (with_reducible repeat (first | apply Kd.S_alloc | apply Kd.S_drewN | apply Kd.S_drew)); exact Kd.S_mono HO_238001.out (fun _ hk => by first | exact ⟨hk.1.1.1, ⟨hk.1.1.2, hk.2⟩⟩ | exact hk | exact hk.1 | exact hk.1.1 | exact hk.1.1.1 | exact hk.1.1.1.1 | exact hk.1.1.1.1.1 | exact hk.1.1.1.1.1.1 | exact hk.1.1.1.1.1.1.1)⟩, ⟨by (with_reducible repeat (first | apply Kd.S_alloc | apply Kd.S_drewN | apply Kd.S_drew)); exact Kd.S_mono HO_243001.out (fun _ hk => by first | exact ⟨hk.1.1.1, ⟨hk.1.1.2, hk.2⟩⟩ | exact hk | exact hk.1 | exact hk.1.1 | exact hk.1.1.1 | exact hk.1.1.1.1 | exact hk.1.1.1.1.1 | exact hk.1.1.1.1.1.1 | exact hk.1.1.1.1.1.1.1)⟩, ⟨by (with_reducible repeat (first | apply Kd.S_alloc | apply Kd.S_drewN | apply Kd.S_drew)); exact Kd.S_mono HO_249001.out (fun _ hk => by first | exact ⟨hk.1.1.1, ⟨hk.1.1.2, hk.2⟩⟩ | exact hk | exact hk.1 | exact hk.1.1 | exact hk.1.1.1 | exact hk.1.1.1.1 | exact hk.1.1.1.1.1 | exact hk.1.1.1.1.1.1 | exact hk.1.1.1.1.1.1.1)⟩, ⟨by (with_reducible repeat (first | apply Kd.S_alloc | apply Kd.S_drewN | apply Kd.S_drew)); exact Kd.S_mono HO266.out (fun _ hk => by first | exact ⟨hk.1.1.1.2, ⟨hk.1.1.2, hk.1.2⟩⟩ | exact hk | exact hk.1 | exact hk.1.1 | exact hk.1.1.1 | exact hk.1.1.1.1 | exact hk.1.1.1.1.1 | exact hk.1.1.1.1.1.1 | exact hk.1.1.1.1.1.1.1)⟩, ⟨by (with_reducible repeat (first | refine bN ?_ _|refine bW ?_|refine bA ?_ _)); exact BK226.out⟩, ⟨by (with_reducible repeat (first | refine bN ?_ _|refine bW ?_|refine bA ?_ _)); exact BK237.out⟩, ⟨by (with_reducible repeat (first | refine bN ?_ _|refine bW ?_|refine bA ?_ _)); exact BK242.out⟩, ⟨by (with_reducible repeat (first | refine bN ?_ _|refine bW ?_|refine bA ?_ _)); exact BK248.out⟩, ⟨by (with_reducible repeat (first | refine bN ?_ _|refine bW ?_|refine bA ?_ _)); exact BK268.out⟩, ⟨by repeat (first | (with_reducible first | exact HB.out|apply wA|apply wN|apply wD |refine wS ?_ GE226.out |refine wS ?_ GE237.out |refine wS ?_ GE242.out |refine wS ?_ GE248.out |refine wS ?_ GE268.out) | exact HB.out)⟩⟩
                  ·replace c123 := Bool.eq_false_iff.mpr c123
                   subst c123
                   have H1 : (laws_FnExactSlowPump.j8 kj102 t257 true t243 t244) = some r := by rw [if_neg (show ¬ (false = true) by decide)] at H; exact H
                   clear H
                   have H := H1
                   clear H1
                   have H' := Aside0.mk H
                   clear H
                   have hnb134 := NB268_226.out
                   have hnc134 := NB226_268.out
                   have hnb135 := NB268_237.out
                   have hnc135 := NB237_268.out
                   have hnb136 := NB268_242.out
                   have hnc136 := NB242_268.out
                   have hnb137 := NB268_248.out
                   have hnc137 := NB248_268.out
                   have hcz138_0 : w115.cell? ⟨gb268, 0, none⟩ = some (.string (⟨#[]⟩ : ByteArray)) := (blk_cell BK268.out 0).trans rfl
                   have hcz138_1 : w115.cell? ⟨gb268, 1, none⟩ = some (.slice none 0 0) := (blk_cell BK268.out 1).trans rfl
                   have hfz138_0 := blk_frozen BK268.out 0
                   have hfz138_1 := blk_frozen BK268.out 1
                   have hnb139 := NB237_226.out
                   have hnc139 := NB226_237.out
                   have hnb140 := NB237_242.out
                   have hnc140 := NB242_237.out
                   have hnb141 := NB237_248.out
                   have hnc141 := NB248_237.out
                   have hcz142_0 : w115.cell? ⟨gb237, 0, none⟩ = some (.string t232) := (blk_cell BK237.out 0).trans rfl
                   have hcz142_1 : w115.cell? ⟨gb237, 1, none⟩ = some (.slice Ao21 t233.length co21) := (blk_cell BK237.out 1).trans rfl
                   have hfz142_0 := blk_frozen BK237.out 0
                   have hfz142_1 := blk_frozen BK237.out 1
                   go_wp2_with (first | ((with_reducible refine gate_callee (f := 8) rfl ?_); refine goesL_ (some 86) rfl rfl Try.func8 (by kernel_rfl) rfl #[.agg #[.string t263, .slice Ao121 t264.length co121], .agg #[.string t232, .slice Ao21 t233.length co21]] rfl (by (try simp only [List.map_toArray, List.map_cons, List.map_nil]); first | done | rfl | (simp only [List.length_drop, List.length_take]; rfl)) ?_; (with_reducible refine (laws_eqPump.calls t263 _ _ t264 t232 _ _ t233 false _ ?side1 ?side2 ?side3 ?side4 A122.out).mono ?_); (case side1 => refine (Kd.S_reads' (e := 44) (base := w.heap.size) (ok := fun k_ => ((((True ∧ some k_ ≠ (.slice Ao21 t233.length co21 : Value).ownBlock) ∧ some k_ ≠ (.slice Ao28 t239.length co28 : Value).ownBlock) ∧ some k_ ≠ (.slice Ao35 t244.length co35 : Value).ownBlock) ∧ some k_ ≠ (.slice Ao113 t260.length co113 : Value).ownBlock)) (n := t264.length) (c := co121) ?_).2.2; exact (by (with_reducible repeat (first | apply Kd.S_alloc | apply Kd.S_drewN | apply Kd.S_drew)); exact (Kd.S_mono (Kd.S_far (p := ⟨gb268, 1, none⟩) (Kd.S_far (p := ⟨gb268, 0, none⟩) (Kd.S_types HO266.out BK268.out (by decide)) (fun _ hk => hk.2) (.string t263)) (fun _ hk => hk.2) (.slice Ao121 t264.length co121)) (fun _ h_ => by first | exact h_.1 | exact h_.1.1 | exact h_.1.1.1 | exact h_.1.1.1.1 | exact h_.1.1.1.1.1 | exact h_.1.1.1.1.1.1)))); (case side2 => exact (Kd.S_reads' HO266.out).2.1); (case side3 => refine (Kd.S_reads' (e := 44) (base := w.heap.size) (ok := fun k_ => k_ < gb237) (n := t233.length) (c := co21) ?_).2.2; exact (by (with_reducible repeat (first | apply Kd.S_alloc | apply Kd.S_drewN | apply Kd.S_drew)); exact (Kd.S_mono (Kd.S_far (p := ⟨gb268, 1, none⟩) (Kd.S_far (p := ⟨gb268, 0, none⟩) (Kd.S_types HO_238001.out BK268.out (by decide)) (fun _ hk => hk.2) (.string t263)) (fun _ hk => hk.2) (.slice Ao121 t264.length co121)) (fun _ h_ => by first | exact h_.1 | exact h_.1.1 | exact h_.1.1.1 | exact h_.1.1.1.1 | exact h_.1.1.1.1.1 | exact h_.1.1.1.1.1.1)))); (case side4 => exact (Kd.S_reads' HO_238001.out).2.1); rintro e w143 ⟨rfl, hb⟩; refine ⟨_, rfl, ?_⟩; have n0_ := Aside0.mk (Kd.S_below (by (with_reducible repeat (first | apply Kd.S_alloc | apply Kd.S_drewN | apply Kd.S_drew)); exact (Kd.S_mono (Kd.S_far (p := ⟨gb268, 1, none⟩) (Kd.S_far (p := ⟨gb268, 0, none⟩) (Kd.S_types HO_238001.out BK268.out (by decide)) (fun _ hk => hk.2) (.string t263)) (fun _ hk => hk.2) (.slice Ao121 t264.length co121)) (fun _ h_ => h_.1))) hb); have n1_ := Aside0.mk (Kd.S_below (by (with_reducible repeat (first | apply Kd.S_alloc | apply Kd.S_drewN | apply Kd.S_drew)); exact (Kd.S_mono (Kd.S_far (p := ⟨gb268, 1, none⟩) (Kd.S_far (p := ⟨gb268, 0, none⟩) (Kd.S_types HO_243001.out BK268.out (by decide)) (fun _ hk => hk.2) (.string t263)) (fun _ hk => hk.2) (.slice Ao121 t264.length co121)) (fun _ h_ => h_.1))) hb); have n2_ := Aside0.mk (Kd.S_below (by (with_reducible repeat (first | apply Kd.S_alloc | apply Kd.S_drewN | apply Kd.S_drew)); exact (Kd.S_mono (Kd.S_far (p := ⟨gb268, 1, none⟩) (Kd.S_far (p := ⟨gb268, 0, none⟩) (Kd.S_types HO_249001.out BK268.out (by decide)) (fun _ hk => hk.2) (.string t263)) (fun _ hk => hk.2) (.slice Ao121 t264.length co121)) (fun _ h_ => h_.1))) hb); have n3_ := Aside0.mk (Kd.S_below (by (with_reducible repeat (first | apply Kd.S_alloc | apply Kd.S_drewN | apply Kd.S_drew)); exact (Kd.S_mono (Kd.S_far (p := ⟨gb268, 1, none⟩) (Kd.S_far (p := ⟨gb268, 0, none⟩) (Kd.S_types HO262.out BK268.out (by decide)) (fun _ hk => hk.2) (.string t263)) (fun _ hk => hk.2) (.slice Ao121 t264.length co121)) (fun _ h_ => h_.1))) hb); have n4_ := Aside0.mk (Kd.S_below (by (with_reducible repeat (first | apply Kd.S_alloc | apply Kd.S_drewN | apply Kd.S_drew)); exact (Kd.S_mono (Kd.S_far (p := ⟨gb268, 1, none⟩) (Kd.S_far (p := ⟨gb268, 0, none⟩) (Kd.S_types HO266.out BK268.out (by decide)) (fun _ hk => hk.2) (.string t263)) (fun _ hk => hk.2) (.slice Ao121 t264.length co121)) (fun _ h_ => h_.1))) hb); have n5_ := Aside0.mk (blk_below (g := gb226) (o := .cells #[.string a0_0, .slice A0_1 l0_1.length c0_1] 24 (0, 0)) (by (with_reducible repeat (first | refine bN ?_ _|refine bW ?_|refine bA ?_ _)); refine blk_far ?_ NB226_268.out _; (with_reducible repeat (first | refine bN ?_ _|refine bW ?_|refine bA ?_ _)); refine blk_far ?_ NB226_268.out _; (with_reducible repeat (first | refine bN ?_ _|refine bW ?_|refine bA ?_ _)); exact BK226.out) hb); have n6_ := Aside0.mk (blk_below (g := gb237) (o := .cells #[.string t232, .slice Ao21 t233.length co21] 26 (0, 0)) (by (with_reducible repeat (first | refine bN ?_ _|refine bW ?_|refine bA ?_ _)); refine blk_far ?_ NB237_268.out _; (with_reducible repeat (first | refine bN ?_ _|refine bW ?_|refine bA ?_ _)); refine blk_far ?_ NB237_268.out _; (with_reducible repeat (first | refine bN ?_ _|refine bW ?_|refine bA ?_ _)); exact BK237.out) hb); have n7_ := Aside0.mk (blk_below (g := gb242) (o := .cells #[.string t238, .slice Ao28 t239.length co28] 26 (0, 0)) (by (with_reducible repeat (first | refine bN ?_ _|refine bW ?_|refine bA ?_ _)); refine blk_far ?_ NB242_268.out _; (with_reducible repeat (first | refine bN ?_ _|refine bW ?_|refine bA ?_ _)); refine blk_far ?_ NB242_268.out _; (with_reducible repeat (first | refine bN ?_ _|refine bW ?_|refine bA ?_ _)); exact BK242.out) hb); have n8_ := Aside0.mk (blk_below (g := gb248) (o := .cells #[.string t243, .slice Ao35 t244.length co35] 26 (0, 0)) (by (with_reducible repeat (first | refine bN ?_ _|refine bW ?_|refine bA ?_ _)); refine blk_far ?_ NB248_268.out _; (with_reducible repeat (first | refine bN ?_ _|refine bW ?_|refine bA ?_ _)); refine blk_far ?_ NB248_268.out _; (with_reducible repeat (first | refine bN ?_ _|refine bW ?_|refine bA ?_ _)); exact BK248.out) hb); have n9_ := Aside0.mk (blk_below (g := gb268) (o := .cells #[.string t263, .slice Ao121 t264.length co121] 26 (0, 0)) (by (with_reducible repeat (first | refine bN ?_ _|refine bW ?_|refine bA ?_ _)); refine blk_put (cs := #[.string t263, .slice none 0 0]) ?_ 1 _ rfl; (with_reducible repeat (first | refine bN ?_ _|refine bW ?_|refine bA ?_ _)); refine blk_put (cs := #[.string (⟨#[]⟩ : ByteArray), .slice none 0 0]) ?_ 0 _ rfl; (with_reducible repeat (first | refine bN ?_ _|refine bW ?_|refine bA ?_ _)); exact BK268.out) hb); have n10_ := Aside0.mk (below_step (by repeat (first | (with_reducible first | exact HB.out|apply wA|apply wN|apply wD |refine wS ?_ GE226.out |refine wS ?_ GE237.out |refine wS ?_ GE242.out |refine wS ?_ GE248.out |refine wS ?_ GE268.out) | exact HB.out)) hb); clear HO_238001; clear HO_243001; clear HO_249001; clear HO262; clear HO266; clear BK226; clear BK237; clear BK242; clear BK248; clear BK268; clear HB; have HO_238001 := n0_; have HO_243001 := n1_; have HO_249001 := n2_; have HO262 := n3_; have HO266 := n4_; have BK226 := n5_; have BK237 := n6_; have BK242 := n7_; have BK248 := n8_; have BK268 := n9_; have HB := n10_; clear n0_ n1_ n2_ n3_ n4_ n5_ n6_ n7_ n8_ n9_ n10_; (try clear hb); (try clear hb2); (try clear hk); (try clear hkp); (try clear hm_); (try clear hB2_); (try clear hi)))
                   go_meet
                   case rel => exact ⟨_, (true), (by first | rfl | (simp; done) | (simp [*]; done)), H', ⟨by have := HJ3.out; have := HJ12.out; have := HJ53.out; have := HJ57.out; have := HJ64.out; have := HJ89.out; have := HJ93.out; have := HJ102.out; first | omega | exact Nat.le_refl _⟩, ⟨by (with_reducible repeat (first | apply Kd.S_alloc | apply Kd.S_drewN | apply Kd.S_drew)); exact Kd.S_mono HO_238001.out (fun _ hk => by first | exact ⟨hk.1.1.1, ⟨hk.1.1.2, hk.2⟩⟩ | exact hk | exact hk.1 | exact hk.1.1 | exact hk.1.1.1 | exact hk.1.1.1.1 | exact hk.1.1.1.1.1 | exact hk.1.1.1.1.1.1 | exact hk.1.1.1.1.1.1.1)⟩, ⟨by (with_reducible repeat (first | apply Kd.S_alloc | apply Kd.S_drewN | apply Kd.S_drew)); exact Kd.S_mono HO_243001.out (fun _ hk => by first | exact ⟨hk.1.1.1, ⟨hk.1.1.2, hk.2⟩⟩ | exact hk | exact hk.1 | exact hk.1.1 | exact hk.1.1.1 | exact hk.1.1.1.1 | exact hk.1.1.1.1.1 | exact hk.1.1.1.1.1.1 | exact hk.1.1.1.1.1.1.1)⟩, ⟨by (with_reducible repeat (first | apply Kd.S_alloc | apply Kd.S_drewN | apply Kd.S_drew)); exact Kd.S_mono HO_249001.out (fun _ hk => by first | exact ⟨hk.1.1.1, ⟨hk.1.1.2, hk.2⟩⟩ | exact hk | exact hk.1 | exact hk.1.1 | exact hk.1.1.1 | exact hk.1.1.1.1 | exact hk.1.1.1.1.1 | exact hk.1.1.1.1.1.1 | exact hk.1.1.1.1.1.1.1)⟩, ⟨by (with_reducible repeat (first | apply Kd.S_alloc | apply Kd.S_drewN | apply Kd.S_drew)); exact Kd.S_mono HO266.out (fun _ hk => by first | exact ⟨hk.1.1.1.2, ⟨hk.1.1.2, hk.1.2⟩⟩ | exact hk | exact hk.1 | exact hk.1.1 | exact hk.1.1.1 | exact hk.1.1.1.1 | exact hk.1.1.1.1.1 | exact hk.1.1.1.1.1.1 | exact hk.1.1.1.1.1.1.1)⟩, ⟨by (with_reducible repeat (first | refine bN ?_ _|refine bW ?_|refine bA ?_ _)); exact BK226.out⟩, ⟨by (with_reducible repeat (first | refine bN ?_ _|refine bW ?_|refine bA ?_ _)); exact BK237.out⟩, ⟨by (with_reducible repeat (first | refine bN ?_ _|refine bW ?_|refine bA ?_ _)); exact BK242.out⟩, ⟨by (with_reducible repeat (first | refine bN ?_ _|refine bW ?_|refine bA ?_ _)); exact BK248.out⟩, ⟨by (with_reducible repeat (first | refine bN ?_ _|refine bW ?_|refine bA ?_ _)); exact BK268.out⟩, ⟨by repeat (first | (with_reducible first | exact HB.out|apply wA|apply wN|apply wD |refine wS ?_ GE226.out |refine wS ?_ GE237.out |refine wS ?_ GE242.out |refine wS ?_ GE248.out |refine wS ?_ GE268.out) | exact HB.out)⟩⟩
                 case rest =>
                  clear HC107
                  try clear c1
                  try clear c2
                  try clear p2
                  try clear c3
                  try clear c4
                  try clear c5
                  try clear c6
                  try clear c7
                  try clear c8
                  try clear c8b0
                  try clear c8b2
                  try clear c9
                  try clear c10
                  try clear c11
                  try clear c12
                  try clear c13
                  try clear c14
                  try clear c19
                  try clear c25
                  try clear c26
                  try clear c31
                  try clear c32
                  try clear c33
                  try clear c37
                  try clear c38
                  try clear c39
                  try clear c40
                  try clear c42
                  try clear c43
                  try clear c46
                  try clear c47
                  try clear c48
                  try clear c50
                  try clear c51
                  try clear c55
                  try clear c63
                  try clear c66
                  try clear c67
                  try clear c68
                  try clear c71
                  try clear c71b0
                  try clear c71b2
                  try clear c73
                  try clear c74
                  try clear c75
                  try clear c76
                  try clear c78
                  try clear c79
                  try clear c82
                  try clear c83
                  try clear c84
                  try clear c86
                  try clear c87
                  try clear c91
                  try clear c95
                  try clear c96
                  try clear c97
                  try clear c102
                  try clear c102b0
                  try clear c102b2
                  try clear c104
                  try clear c104b0
                  try clear c104b1
                  try clear c104b2
                  try clear c108
                  try clear c109
                  try clear c110
                  try clear c116
                  try clear c117
                  try clear c118
                  try clear c119
                  try clear c123
                  try clear c124
                  try clear c125
                  try clear c126
                  try clear c127
                  try clear c129
                  try clear c130
                  try clear c131
                  try clear c134
                  try clear c135
                  try clear c136
                  try clear c137
                  try clear c139
                  try clear c140
                  try clear c141
                  try clear hcz100_0
                  try clear hcz100_1
                  try clear hcz111_0
                  try clear hcz111_1
                  try clear hcz120_0
                  try clear hcz120_1
                  try clear hcz128_0
                  try clear hcz128_1
                  try clear hcz132_0
                  try clear hcz132_1
                  try clear hcz138_0
                  try clear hcz138_1
                  try clear hcz142_0
                  try clear hcz142_1
                  try clear hcz14_0
                  try clear hcz14_1
                  try clear hcz20_0
                  try clear hcz20_1
                  try clear hcz22_0
                  try clear hcz22_1
                  try clear hcz27_0
                  try clear hcz27_1
                  try clear hcz34_0
                  try clear hcz34_1
                  try clear hcz41_0
                  try clear hcz41_1
                  try clear hcz44_0
                  try clear hcz44_1
                  try clear hcz49_0
                  try clear hcz49_1
                  try clear hcz52_0
                  try clear hcz52_1
                  try clear hcz69_0
                  try clear hcz69_1
                  try clear hcz6_0
                  try clear hcz6_1
                  try clear hcz77_0
                  try clear hcz77_1
                  try clear hcz80_0
                  try clear hcz80_1
                  try clear hcz85_0
                  try clear hcz85_1
                  try clear hcz88_0
                  try clear hcz88_1
                  try clear hcz98_0
                  try clear hcz98_1
                  try clear hfz100_0
                  try clear hfz100_1
                  try clear hfz111_0
                  try clear hfz111_1
                  try clear hfz120_0
                  try clear hfz120_1
                  try clear hfz128_0
                  try clear hfz128_1
                  try clear hfz132_0
                  try clear hfz132_1
                  try clear hfz138_0
                  try clear hfz138_1
                  try clear hfz142_0
                  try clear hfz142_1
                  try clear hfz14_0
                  try clear hfz14_1
                  try clear hfz20_0
                  try clear hfz20_1
                  try clear hfz22_0
                  try clear hfz22_1
                  try clear hfz27_0
                  try clear hfz27_1
                  try clear hfz34_0
                  try clear hfz34_1
                  try clear hfz41_0
                  try clear hfz41_1
                  try clear hfz44_0
                  try clear hfz44_1
                  try clear hfz49_0
                  try clear hfz49_1
                  try clear hfz52_0
                  try clear hfz52_1
                  try clear hfz69_0
                  try clear hfz69_1
                  try clear hfz6_0
                  try clear hfz6_1
                  try clear hfz77_0
                  try clear hfz77_1
                  try clear hfz80_0
                  try clear hfz80_1
                  try clear hfz85_0
                  try clear hfz85_1
                  try clear hfz88_0
                  try clear hfz88_1
                  try clear hfz98_0
                  try clear hfz98_1
                  try clear p2
                  obtain ⟨kq, x92_106, rfl, HA, HJ106, HO_238001, HO_243001, HO_249001, HO_269001, BK226, BK237, BK242, BK248, BK268, HB⟩ := hcut
                  cases kq with
                  | zero => exact absurd HA.out (by simp [laws_FnExactSlowPump.j8])
                  | succ kj106 =>
                   have H := HA.out
                   clear HA
                   simp only [laws_FnExactSlowPump.j8] at H
                   have HC144 := Aside0.mk H
                   clear H
                   go_upto_if 92 with (fail)
                   go_cut [] (fun wc => ∃ (kq : Nat), Aside0 (laws_FnExactSlowPump.j9 kq t257 t243 t244 = some r) ∧ Aside0 (kq ≤ kj106) ∧ Aside0 (Kd.S (Kd.slice 2 (Kd.int .i64)) 44 wc w.heap.size (fun k_ => k_ < gb237) (.slice Ao21 t233.length co21) t233) ∧ Aside0 (Kd.S (Kd.slice 2 (Kd.int .i64)) 44 wc w.heap.size (fun k_ => gb237 < k_ ∧ k_ < gb242) (.slice Ao28 t239.length co28) (ssMark t239 1)) ∧ Aside0 (Kd.S (Kd.slice 2 (Kd.int .i64)) 44 wc w.heap.size (fun k_ => gb242 < k_ ∧ k_ < gb248) (.slice Ao35 t244.length co35) (ssMark t244 1)) ∧ Aside0 (Kd.S (Kd.slice 2 (Kd.int .i64)) 44 wc w.heap.size (fun k_ => some k_ ≠ ((.slice Ao21 t233.length co21) : Value).ownBlock ∧ some k_ ≠ ((.slice Ao28 t239.length co28) : Value).ownBlock ∧ some k_ ≠ ((.slice Ao35 t244.length co35) : Value).ownBlock) (.slice Ao121 t264.length co121) t264) ∧ Aside0 (wc.heap[gb226]? = some (.cells #[.string a0_0, (.slice A0_1 l0_1.length c0_1)] 24 (0, 0))) ∧ Aside0 (wc.heap[gb237]? = some (.cells #[.string t232, (.slice Ao21 t233.length co21)] 26 (0, 0))) ∧ Aside0 (wc.heap[gb242]? = some (.cells #[.string t238, (.slice Ao28 t239.length co28)] 26 (0, 0))) ∧ Aside0 (wc.heap[gb248]? = some (.cells #[.string t243, (.slice Ao35 t244.length co35)] 26 (0, 0))) ∧ Aside0 (wc.heap[gb268]? = some (.cells #[.string t263, (.slice Ao121 t264.length co121)] 26 (0, 0))) ∧ Aside0 (Below w.heap.size w wc))
                   case first =>
                    have H := HC144.out
                    clear HC144
                    by_cases c145 : x92_106 = true
                    ·subst c145
                     have H1 : (some false) = some r := by rw [if_pos rfl] at H; exact H
                     clear H
                     have H := H1
                     clear H1
                     obtain rfl := Option.some.inj H
                     go_wp2
                     go_ret
                     exact ⟨by first | rfl | (simp [errW_none, errW_some] <;> rfl) | (simp [*, errW_none, errW_some] <;> rfl), by repeat (first | (with_reducible first | exact HB.out|apply wA|apply wN|apply wD |refine wS ?_ GE226.out |refine wS ?_ GE237.out |refine wS ?_ GE242.out |refine wS ?_ GE248.out |refine wS ?_ GE268.out) | exact HB.out)⟩
                    ·replace c145 := Bool.eq_false_iff.mpr c145
                     subst c145
                     have H1 : (laws_FnExactSlowPump.j9 kj106 t257 t243 t244) = some r := by rw [if_neg (show ¬ (false = true) by decide)] at H; exact H
                     clear H
                     have H := H1
                     clear H1
                     have H' := Aside0.mk H
                     clear H
                     go_wp2
                     go_meet
                     case rel => exact ⟨_, H', ⟨by have := HJ3.out; have := HJ12.out; have := HJ53.out; have := HJ57.out; have := HJ64.out; have := HJ89.out; have := HJ93.out; have := HJ102.out; have := HJ106.out; first | omega | exact Nat.le_refl _⟩, ⟨by (with_reducible repeat (first | apply Kd.S_alloc | apply Kd.S_drewN | apply Kd.S_drew)); exact HO_238001.out⟩, ⟨by (with_reducible repeat (first | apply Kd.S_alloc | apply Kd.S_drewN | apply Kd.S_drew)); exact HO_243001.out⟩, ⟨by (with_reducible repeat (first | apply Kd.S_alloc | apply Kd.S_drewN | apply Kd.S_drew)); exact HO_249001.out⟩, ⟨by (with_reducible repeat (first | apply Kd.S_alloc | apply Kd.S_drewN | apply Kd.S_drew)); exact HO_269001.out⟩, ⟨by (with_reducible repeat (first | refine bN ?_ _|refine bW ?_|refine bA ?_ _)); exact BK226.out⟩, ⟨by (with_reducible repeat (first | refine bN ?_ _|refine bW ?_|refine bA ?_ _)); exact BK237.out⟩, ⟨by (with_reducible repeat (first | refine bN ?_ _|refine bW ?_|refine bA ?_ _)); exact BK242.out⟩, ⟨by (with_reducible repeat (first | refine bN ?_ _|refine bW ?_|refine bA ?_ _)); exact BK248.out⟩, ⟨by (with_reducible repeat (first | refine bN ?_ _|refine bW ?_|refine bA ?_ _)); exact BK268.out⟩, ⟨by repeat (first | (with_reducible first | exact HB.out|apply wA|apply wN|apply wD |refine wS ?_ GE226.out |refine wS ?_ GE237.out |refine wS ?_ GE242.out |refine wS ?_ GE248.out |refine wS ?_ GE268.out) | exact HB.out)⟩⟩
                   case rest =>
                    clear HC144
                    try clear c1
                    try clear c2
                    try clear p2
                    try clear c3
                    try clear c4
                    try clear c5
                    try clear c6
                    try clear c7
                    try clear c8
                    try clear c8b0
                    try clear c8b2
                    try clear c9
                    try clear c10
                    try clear c11
                    try clear c12
                    try clear c13
                    try clear c14
                    try clear c19
                    try clear c25
                    try clear c26
                    try clear c31
                    try clear c32
                    try clear c33
                    try clear c37
                    try clear c38
                    try clear c39
                    try clear c40
                    try clear c42
                    try clear c43
                    try clear c46
                    try clear c47
                    try clear c48
                    try clear c50
                    try clear c51
                    try clear c55
                    try clear c63
                    try clear c66
                    try clear c67
                    try clear c68
                    try clear c71
                    try clear c71b0
                    try clear c71b2
                    try clear c73
                    try clear c74
                    try clear c75
                    try clear c76
                    try clear c78
                    try clear c79
                    try clear c82
                    try clear c83
                    try clear c84
                    try clear c86
                    try clear c87
                    try clear c91
                    try clear c95
                    try clear c96
                    try clear c97
                    try clear c102
                    try clear c102b0
                    try clear c102b2
                    try clear c104
                    try clear c104b0
                    try clear c104b1
                    try clear c104b2
                    try clear c108
                    try clear c109
                    try clear c110
                    try clear c116
                    try clear c117
                    try clear c118
                    try clear c119
                    try clear c123
                    try clear c124
                    try clear c125
                    try clear c126
                    try clear c127
                    try clear c129
                    try clear c130
                    try clear c131
                    try clear c134
                    try clear c135
                    try clear c136
                    try clear c137
                    try clear c139
                    try clear c140
                    try clear c141
                    try clear c145
                    try clear hcz100_0
                    try clear hcz100_1
                    try clear hcz111_0
                    try clear hcz111_1
                    try clear hcz120_0
                    try clear hcz120_1
                    try clear hcz128_0
                    try clear hcz128_1
                    try clear hcz132_0
                    try clear hcz132_1
                    try clear hcz138_0
                    try clear hcz138_1
                    try clear hcz142_0
                    try clear hcz142_1
                    try clear hcz14_0
                    try clear hcz14_1
                    try clear hcz20_0
                    try clear hcz20_1
                    try clear hcz22_0
                    try clear hcz22_1
                    try clear hcz27_0
                    try clear hcz27_1
                    try clear hcz34_0
                    try clear hcz34_1
                    try clear hcz41_0
                    try clear hcz41_1
                    try clear hcz44_0
                    try clear hcz44_1
                    try clear hcz49_0
                    try clear hcz49_1
                    try clear hcz52_0
                    try clear hcz52_1
                    try clear hcz69_0
                    try clear hcz69_1
                    try clear hcz6_0
                    try clear hcz6_1
                    try clear hcz77_0
                    try clear hcz77_1
                    try clear hcz80_0
                    try clear hcz80_1
                    try clear hcz85_0
                    try clear hcz85_1
                    try clear hcz88_0
                    try clear hcz88_1
                    try clear hcz98_0
                    try clear hcz98_1
                    try clear hfz100_0
                    try clear hfz100_1
                    try clear hfz111_0
                    try clear hfz111_1
                    try clear hfz120_0
                    try clear hfz120_1
                    try clear hfz128_0
                    try clear hfz128_1
                    try clear hfz132_0
                    try clear hfz132_1
                    try clear hfz138_0
                    try clear hfz138_1
                    try clear hfz142_0
                    try clear hfz142_1
                    try clear hfz14_0
                    try clear hfz14_1
                    try clear hfz20_0
                    try clear hfz20_1
                    try clear hfz22_0
                    try clear hfz22_1
                    try clear hfz27_0
                    try clear hfz27_1
                    try clear hfz34_0
                    try clear hfz34_1
                    try clear hfz41_0
                    try clear hfz41_1
                    try clear hfz44_0
                    try clear hfz44_1
                    try clear hfz49_0
                    try clear hfz49_1
                    try clear hfz52_0
                    try clear hfz52_1
                    try clear hfz69_0
                    try clear hfz69_1
                    try clear hfz6_0
                    try clear hfz6_1
                    try clear hfz77_0
                    try clear hfz77_1
                    try clear hfz80_0
                    try clear hfz80_1
                    try clear hfz85_0
                    try clear hfz85_1
                    try clear hfz88_0
                    try clear hfz88_1
                    try clear hfz98_0
                    try clear hfz98_1
                    try clear p2
                    obtain ⟨kq, HA, HJ143, HO_238001, HO_243001, HO_249001, HO_269001, BK226, BK237, BK242, BK248, BK268, HB⟩ := hcut
                    cases kq with
                    | zero => exact absurd HA.out (by simp [laws_FnExactSlowPump.j9])
                    | succ kj143 =>
                     have H := HA.out
                     clear HA
                     simp only [laws_FnExactSlowPump.j9] at H
                     replace H := Option.bind_eq_some_iff.mp H
                     obtain ⟨t270, A1460, H⟩ := H
                     replace H : (if t270 < 0 then (some false) else (if t270 = t257 then (some true) else (some false))) = some r := H
                     have A146 := Aside0.mk A1460
                     clear A1460
                     by_cases c147 : t270 < 0
                     ·rw [if_pos c147] at H
                      have c147b0 : decide (t270 < 0) = true := decide_eq_true c147
                      clear c147
                      obtain rfl := Option.some.inj H
                      have hnb148 := NB248_226.out
                      have hnc148 := NB226_248.out
                      have hnb149 := NB248_237.out
                      have hnc149 := NB237_248.out
                      have hnb150 := NB248_242.out
                      have hnc150 := NB242_248.out
                      have hnb151 := NB248_268.out
                      have hnc151 := NB268_248.out
                      have hcz152_0 : wc.cell? ⟨gb248, 0, none⟩ = some (.string t243) := (blk_cell BK248.out 0).trans rfl
                      have hcz152_1 : wc.cell? ⟨gb248, 1, none⟩ = some (.slice Ao35 t244.length co35) := (blk_cell BK248.out 1).trans rfl
                      have hfz152_0 := blk_frozen BK248.out 0
                      have hfz152_1 := blk_frozen BK248.out 1
                      go_wp2_with (first | ((with_reducible refine gate_callee (f := 10) rfl ?_); refine goesL_ (some 95) rfl rfl Try.func10 (by kernel_rfl) rfl #[.agg #[.string t243, .slice Ao35 t244.length co35], .int .i64 1] rfl (by (try simp only [List.map_toArray, List.map_cons, List.map_nil]); first | done | rfl | (simp only [List.length_drop, List.length_take]; rfl)) ?_; (with_reducible refine (laws_heldPump.callsN kj143 t243 _ _ _ (ssMark t244 1) 1 t270 _ ?side1 ?side2 ?side3 A146.out).mono ?_); (case side3 => exact (ssMark_length _ _).symm); (case side1 => repeat (first | exact (Kd.S_reads' HO_249001.out).2.2 | (with_reducible first|refine Kd.C_alloc ?_ _|refine Kd.C_drewN ?_ _|refine Kd.C_drew ?_))); (case side2 => exact (Kd.S_reads' HO_249001.out).2.1); rintro e w153 ⟨rfl, hb⟩; refine ⟨_, rfl, ?_⟩; have n0_ := Aside0.mk (Kd.S_below (by (with_reducible repeat (first | apply Kd.S_alloc | apply Kd.S_drewN | apply Kd.S_drew)); exact HO_238001.out) hb); have n1_ := Aside0.mk (Kd.S_below (by (with_reducible repeat (first | apply Kd.S_alloc | apply Kd.S_drewN | apply Kd.S_drew)); exact HO_243001.out) hb); have n2_ := Aside0.mk (Kd.S_below (by (with_reducible repeat (first | apply Kd.S_alloc | apply Kd.S_drewN | apply Kd.S_drew)); exact HO_249001.out) hb); have n3_ := Aside0.mk (Kd.S_below (by (with_reducible repeat (first | apply Kd.S_alloc | apply Kd.S_drewN | apply Kd.S_drew)); exact HO_269001.out) hb); have n4_ := Aside0.mk (blk_below (g := gb226) (o := .cells #[.string a0_0, .slice A0_1 l0_1.length c0_1] 24 (0, 0)) (by (with_reducible repeat (first | refine bN ?_ _|refine bW ?_|refine bA ?_ _)); exact BK226.out) hb); have n5_ := Aside0.mk (blk_below (g := gb237) (o := .cells #[.string t232, .slice Ao21 t233.length co21] 26 (0, 0)) (by (with_reducible repeat (first | refine bN ?_ _|refine bW ?_|refine bA ?_ _)); exact BK237.out) hb); have n6_ := Aside0.mk (blk_below (g := gb242) (o := .cells #[.string t238, .slice Ao28 t239.length co28] 26 (0, 0)) (by (with_reducible repeat (first | refine bN ?_ _|refine bW ?_|refine bA ?_ _)); exact BK242.out) hb); have n7_ := Aside0.mk (blk_below (g := gb248) (o := .cells #[.string t243, .slice Ao35 t244.length co35] 26 (0, 0)) (by (with_reducible repeat (first | refine bN ?_ _|refine bW ?_|refine bA ?_ _)); exact BK248.out) hb); have n8_ := Aside0.mk (blk_below (g := gb268) (o := .cells #[.string t263, .slice Ao121 t264.length co121] 26 (0, 0)) (by (with_reducible repeat (first | refine bN ?_ _|refine bW ?_|refine bA ?_ _)); exact BK268.out) hb); have n9_ := Aside0.mk (below_step (by repeat (first | (with_reducible first | exact HB.out|apply wA|apply wN|apply wD |refine wS ?_ GE226.out |refine wS ?_ GE237.out |refine wS ?_ GE242.out |refine wS ?_ GE248.out |refine wS ?_ GE268.out) | exact HB.out)) hb); clear HO_238001; clear HO_243001; clear HO_249001; clear HO_269001; clear BK226; clear BK237; clear BK242; clear BK248; clear BK268; clear HB; have HO_238001 := n0_; have HO_243001 := n1_; have HO_249001 := n2_; have HO_269001 := n3_; have BK226 := n4_; have BK237 := n5_; have BK242 := n6_; have BK248 := n7_; have BK268 := n8_; have HB := n9_; clear n0_ n1_ n2_ n3_ n4_ n5_ n6_ n7_ n8_ n9_; (try clear hb); (try clear hb2); (try clear hk); (try clear hkp); (try clear hm_); (try clear hB2_); (try clear hi)))
                      go_ret
                      exact ⟨by first | rfl | (simp [errW_none, errW_some] <;> rfl) | (simp [*, errW_none, errW_some] <;> rfl), by repeat (first | (with_reducible first | exact HB.out|apply wA|apply wN|apply wD |refine wS ?_ GE226.out |refine wS ?_ GE237.out |refine wS ?_ GE242.out |refine wS ?_ GE248.out |refine wS ?_ GE268.out) | exact HB.out)⟩
                     ·rw [if_neg c147] at H
                      have c147b0 : decide (t270 < 0) = false := decide_eq_false c147
                      clear c147
                      by_cases c154 : t270 = t257
                      ·rw [if_pos c154] at H
                       have c154b0 : (t270 == t257) = true := beq_iff_eq.mpr c154
                       have c154b1 : (t270 != t257) = false := bne_eq_false_iff_eq.mpr c154
                       clear c154
                       obtain rfl := Option.some.inj H
                       have hnb155 := NB248_226.out
                       have hnc155 := NB226_248.out
                       have hnb156 := NB248_237.out
                       have hnc156 := NB237_248.out
                       have hnb157 := NB248_242.out
                       have hnc157 := NB242_248.out
                       have hnb158 := NB248_268.out
                       have hnc158 := NB268_248.out
                       have hcz159_0 : wc.cell? ⟨gb248, 0, none⟩ = some (.string t243) := (blk_cell BK248.out 0).trans rfl
                       have hcz159_1 : wc.cell? ⟨gb248, 1, none⟩ = some (.slice Ao35 t244.length co35) := (blk_cell BK248.out 1).trans rfl
                       have hfz159_0 := blk_frozen BK248.out 0
                       have hfz159_1 := blk_frozen BK248.out 1
                       go_wp2_with (first | ((with_reducible refine gate_callee (f := 10) rfl ?_); refine goesL_ (some 95) rfl rfl Try.func10 (by kernel_rfl) rfl #[.agg #[.string t243, .slice Ao35 t244.length co35], .int .i64 1] rfl (by (try simp only [List.map_toArray, List.map_cons, List.map_nil]); first | done | rfl | (simp only [List.length_drop, List.length_take]; rfl)) ?_; (with_reducible refine (laws_heldPump.callsN kj143 t243 _ _ _ (ssMark t244 1) 1 t270 _ ?side1 ?side2 ?side3 A146.out).mono ?_); (case side3 => exact (ssMark_length _ _).symm); (case side1 => repeat (first | exact (Kd.S_reads' HO_249001.out).2.2 | (with_reducible first|refine Kd.C_alloc ?_ _|refine Kd.C_drewN ?_ _|refine Kd.C_drew ?_))); (case side2 => exact (Kd.S_reads' HO_249001.out).2.1); rintro e w160 ⟨rfl, hb⟩; refine ⟨_, rfl, ?_⟩; have n0_ := Aside0.mk (Kd.S_below (by (with_reducible repeat (first | apply Kd.S_alloc | apply Kd.S_drewN | apply Kd.S_drew)); exact HO_238001.out) hb); have n1_ := Aside0.mk (Kd.S_below (by (with_reducible repeat (first | apply Kd.S_alloc | apply Kd.S_drewN | apply Kd.S_drew)); exact HO_243001.out) hb); have n2_ := Aside0.mk (Kd.S_below (by (with_reducible repeat (first | apply Kd.S_alloc | apply Kd.S_drewN | apply Kd.S_drew)); exact HO_249001.out) hb); have n3_ := Aside0.mk (Kd.S_below (by (with_reducible repeat (first | apply Kd.S_alloc | apply Kd.S_drewN | apply Kd.S_drew)); exact HO_269001.out) hb); have n4_ := Aside0.mk (blk_below (g := gb226) (o := .cells #[.string a0_0, .slice A0_1 l0_1.length c0_1] 24 (0, 0)) (by (with_reducible repeat (first | refine bN ?_ _|refine bW ?_|refine bA ?_ _)); exact BK226.out) hb); have n5_ := Aside0.mk (blk_below (g := gb237) (o := .cells #[.string t232, .slice Ao21 t233.length co21] 26 (0, 0)) (by (with_reducible repeat (first | refine bN ?_ _|refine bW ?_|refine bA ?_ _)); exact BK237.out) hb); have n6_ := Aside0.mk (blk_below (g := gb242) (o := .cells #[.string t238, .slice Ao28 t239.length co28] 26 (0, 0)) (by (with_reducible repeat (first | refine bN ?_ _|refine bW ?_|refine bA ?_ _)); exact BK242.out) hb); have n7_ := Aside0.mk (blk_below (g := gb248) (o := .cells #[.string t243, .slice Ao35 t244.length co35] 26 (0, 0)) (by (with_reducible repeat (first | refine bN ?_ _|refine bW ?_|refine bA ?_ _)); exact BK248.out) hb); have n8_ := Aside0.mk (blk_below (g := gb268) (o := .cells #[.string t263, .slice Ao121 t264.length co121] 26 (0, 0)) (by (with_reducible repeat (first | refine bN ?_ _|refine bW ?_|refine bA ?_ _)); exact BK268.out) hb); have n9_ := Aside0.mk (below_step (by repeat (first | (with_reducible first | exact HB.out|apply wA|apply wN|apply wD |refine wS ?_ GE226.out |refine wS ?_ GE237.out |refine wS ?_ GE242.out |refine wS ?_ GE248.out |refine wS ?_ GE268.out) | exact HB.out)) hb); clear HO_238001; clear HO_243001; clear HO_249001; clear HO_269001; clear BK226; clear BK237; clear BK242; clear BK248; clear BK268; clear HB; have HO_238001 := n0_; have HO_243001 := n1_; have HO_249001 := n2_; have HO_269001 := n3_; have BK226 := n4_; have BK237 := n5_; have BK242 := n6_; have BK248 := n7_; have BK268 := n8_; have HB := n9_; clear n0_ n1_ n2_ n3_ n4_ n5_ n6_ n7_ n8_ n9_; (try clear hb); (try clear hb2); (try clear hk); (try clear hkp); (try clear hm_); (try clear hB2_); (try clear hi)))
                       go_ret
                       exact ⟨by first | rfl | (simp [errW_none, errW_some] <;> rfl) | (simp [*, errW_none, errW_some] <;> rfl), by repeat (first | (with_reducible first | exact HB.out|apply wA|apply wN|apply wD |refine wS ?_ GE226.out |refine wS ?_ GE237.out |refine wS ?_ GE242.out |refine wS ?_ GE248.out |refine wS ?_ GE268.out) | exact HB.out)⟩
                      ·rw [if_neg c154] at H
                       have c154b0 : (t270 == t257) = false := beq_eq_false_iff_ne.mpr c154
                       have c154b1 : (t270 != t257) = true := bne_iff_ne.mpr c154
                       obtain rfl := Option.some.inj H
                       have hnb161 := NB248_226.out
                       have hnc161 := NB226_248.out
                       have hnb162 := NB248_237.out
                       have hnc162 := NB237_248.out
                       have hnb163 := NB248_242.out
                       have hnc163 := NB242_248.out
                       have hnb164 := NB248_268.out
                       have hnc164 := NB268_248.out
                       have hcz165_0 : wc.cell? ⟨gb248, 0, none⟩ = some (.string t243) := (blk_cell BK248.out 0).trans rfl
                       have hcz165_1 : wc.cell? ⟨gb248, 1, none⟩ = some (.slice Ao35 t244.length co35) := (blk_cell BK248.out 1).trans rfl
                       have hfz165_0 := blk_frozen BK248.out 0
                       have hfz165_1 := blk_frozen BK248.out 1
                       go_wp2_with (first | ((with_reducible refine gate_callee (f := 10) rfl ?_); refine goesL_ (some 95) rfl rfl Try.func10 (by kernel_rfl) rfl #[.agg #[.string t243, .slice Ao35 t244.length co35], .int .i64 1] rfl (by (try simp only [List.map_toArray, List.map_cons, List.map_nil]); first | done | rfl | (simp only [List.length_drop, List.length_take]; rfl)) ?_; (with_reducible refine (laws_heldPump.callsN kj143 t243 _ _ _ (ssMark t244 1) 1 t270 _ ?side1 ?side2 ?side3 A146.out).mono ?_); (case side3 => exact (ssMark_length _ _).symm); (case side1 => repeat (first | exact (Kd.S_reads' HO_249001.out).2.2 | (with_reducible first|refine Kd.C_alloc ?_ _|refine Kd.C_drewN ?_ _|refine Kd.C_drew ?_))); (case side2 => exact (Kd.S_reads' HO_249001.out).2.1); rintro e w166 ⟨rfl, hb⟩; refine ⟨_, rfl, ?_⟩; have n0_ := Aside0.mk (Kd.S_below (by (with_reducible repeat (first | apply Kd.S_alloc | apply Kd.S_drewN | apply Kd.S_drew)); exact HO_238001.out) hb); have n1_ := Aside0.mk (Kd.S_below (by (with_reducible repeat (first | apply Kd.S_alloc | apply Kd.S_drewN | apply Kd.S_drew)); exact HO_243001.out) hb); have n2_ := Aside0.mk (Kd.S_below (by (with_reducible repeat (first | apply Kd.S_alloc | apply Kd.S_drewN | apply Kd.S_drew)); exact HO_249001.out) hb); have n3_ := Aside0.mk (Kd.S_below (by (with_reducible repeat (first | apply Kd.S_alloc | apply Kd.S_drewN | apply Kd.S_drew)); exact HO_269001.out) hb); have n4_ := Aside0.mk (blk_below (g := gb226) (o := .cells #[.string a0_0, .slice A0_1 l0_1.length c0_1] 24 (0, 0)) (by (with_reducible repeat (first | refine bN ?_ _|refine bW ?_|refine bA ?_ _)); exact BK226.out) hb); have n5_ := Aside0.mk (blk_below (g := gb237) (o := .cells #[.string t232, .slice Ao21 t233.length co21] 26 (0, 0)) (by (with_reducible repeat (first | refine bN ?_ _|refine bW ?_|refine bA ?_ _)); exact BK237.out) hb); have n6_ := Aside0.mk (blk_below (g := gb242) (o := .cells #[.string t238, .slice Ao28 t239.length co28] 26 (0, 0)) (by (with_reducible repeat (first | refine bN ?_ _|refine bW ?_|refine bA ?_ _)); exact BK242.out) hb); have n7_ := Aside0.mk (blk_below (g := gb248) (o := .cells #[.string t243, .slice Ao35 t244.length co35] 26 (0, 0)) (by (with_reducible repeat (first | refine bN ?_ _|refine bW ?_|refine bA ?_ _)); exact BK248.out) hb); have n8_ := Aside0.mk (blk_below (g := gb268) (o := .cells #[.string t263, .slice Ao121 t264.length co121] 26 (0, 0)) (by (with_reducible repeat (first | refine bN ?_ _|refine bW ?_|refine bA ?_ _)); exact BK268.out) hb); have n9_ := Aside0.mk (below_step (by repeat (first | (with_reducible first | exact HB.out|apply wA|apply wN|apply wD |refine wS ?_ GE226.out |refine wS ?_ GE237.out |refine wS ?_ GE242.out |refine wS ?_ GE248.out |refine wS ?_ GE268.out) | exact HB.out)) hb); clear HO_238001; clear HO_243001; clear HO_249001; clear HO_269001; clear BK226; clear BK237; clear BK242; clear BK248; clear BK268; clear HB; have HO_238001 := n0_; have HO_243001 := n1_; have HO_249001 := n2_; have HO_269001 := n3_; have BK226 := n4_; have BK237 := n5_; have BK242 := n6_; have BK248 := n7_; have BK268 := n8_; have HB := n9_; clear n0_ n1_ n2_ n3_ n4_ n5_ n6_ n7_ n8_ n9_; (try clear hb); (try clear hb2); (try clear hk); (try clear hkp); (try clear hm_); (try clear hB2_); (try clear hi)))
                       go_ret
                       exact ⟨by first | rfl | (simp [errW_none, errW_some] <;> rfl) | (simp [*, errW_none, errW_some] <;> rfl), by repeat (first | (with_reducible first | exact HB.out|apply wA|apply wN|apply wD |refine wS ?_ GE226.out |refine wS ?_ GE237.out |refine wS ?_ GE242.out |refine wS ?_ GE248.out |refine wS ?_ GE268.out) | exact HB.out)⟩

end Go.Proofs.Ytcggfmmjjkdgnaa.PFnExactSlowPump
