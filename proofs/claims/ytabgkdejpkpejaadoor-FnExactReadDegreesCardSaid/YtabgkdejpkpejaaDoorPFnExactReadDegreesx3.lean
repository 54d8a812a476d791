-- Printed by a program of this session (wip/hprint.sh: the kit's print with hand-proved contracts put in); not by print.sh itself.
import Derived.Test.YtabgkdejpkpejaaDoorPFnExactReadDegreesx0
import Derived.Test.YtabgkdejpkpejaaDoorPFnExactReadDegreesx1
import Derived.Test.YtabgkdejpkpejaaDoorPFnExactReadDegreesx2
namespace Go.Proofs.YtabgkdejpkpejaaDoor.PFnExactReadDegrees
open Go.RowKit Go.Proofs.YtabgkdejpkpejaaDoorW.PrintWords Go.Proofs.YtabgkdejpkpejaaDoorW.PrintLast Go.Proofs.YtabgkdejpkpejaaDoorW.PrintMore Go.Proofs.YtabgkdejpkpejaaDoorM
attribute [local go_sem] max2_int min2_int max_two min_two max_three min_three max_four min_four   -- for this text's walks alone
set_option linter.unusedVariables false
set_option linter.unusedSimpArgs false

/-! ### spec_ReadDegrees: function 19 -/
mutual
def spec_ReadDegrees.j0 : Nat → ByteArray → Int → ByteArray → Bool → Option (Int × Bool)
 | 0, _, _, _, _ => none
 | k + 1, x0, x4, x5, x18 => if x18 = true then (if 1 ≤ (x0.size : Int) then (spec_ReadDegrees.j1 k x0 (-1) (x0.extract 1 x0.size)) else (none)) else (spec_ReadDegrees.j1 k x0 x4 x5)
def spec_ReadDegrees.j1 : Nat → ByteArray → Int → ByteArray → Option (Int × Bool)
 | 0, _, _, _ => none
 | k + 1, x0, x4, x5 => if (x5.size : Int) < 4 then (spec_ReadDegrees.j2 k x0 x4 x5 (x5.size : Int) true) else (if 0 ≤ (wrap64 ((x5.size : Int) - 3)) then (if (wrap64 ((x5.size : Int) - 3)) < (x5.size : Int) then (if (bt x5 (wrap64 ((x5.size : Int) - 3))) = 46 then (if 0 ≤ (wrap64 ((x5.size : Int) - 2)) then (if (wrap64 ((x5.size : Int) - 2)) < (x5.size : Int) then ((spec_l01Digit.f (bt x5 (wrap64 ((x5.size : Int) - 2)))).bind fun t125 => (if t125 = true then (if 0 ≤ (wrap64 ((x5.size : Int) - 1)) then (if (wrap64 ((x5.size : Int) - 1)) < (x5.size : Int) then ((spec_l01Digit.f (bt x5 (wrap64 ((x5.size : Int) - 1)))).bind fun t126 => (spec_ReadDegrees.j2 k x0 x4 x5 (x5.size : Int) (!t126))) else (none)) else (none)) else (spec_ReadDegrees.j2 k x0 x4 x5 (x5.size : Int) true))) else (none)) else (none)) else (spec_ReadDegrees.j2 k x0 x4 x5 (x5.size : Int) true)) else (none)) else (none))
def spec_ReadDegrees.j2 : Nat → ByteArray → Int → ByteArray → Int → Bool → Option (Int × Bool)
 | 0, _, _, _, _, _ => none
 | k + 1, x0, x4, x5, x6, x47 => if x47 = true then (some (0, false)) else (if 0 ≤ (wrap64 (x6 - 3)) then (if (wrap64 (x6 - 3)) ≤ (x5.size : Int) then ((spec_l01Number.f k (x5.extract 0 ((wrap64 (x6 - 3)) : Int).toNat)).bind fun bt127 => (if bt127.2 = true then (spec_ReadDegrees.j3 k x0 x4 x5 x6 bt127.1 (decide (bt127.1 < 0))) else (spec_ReadDegrees.j3 k x0 x4 x5 x6 bt127.1 true))) else (none)) else (none))
def spec_ReadDegrees.j3 : Nat → ByteArray → Int → ByteArray → Int → Int → Bool → Option (Int × Bool)
 | 0, _, _, _, _, _, _ => none
 | k + 1, x0, x4, x5, x6, x7, x61 => if x61 = true then (some (0, false)) else (if 0 ≤ (wrap64 (x6 - 2)) then (if (wrap64 (x6 - 2)) < (x5.size : Int) then (if 0 ≤ (wrap64 (x6 - 1)) then (if (wrap64 (x6 - 1)) < (x5.size : Int) then ((spec_l02Told.f (wrap64 (x4 * (wrap64 ((wrap64 ((wrap64 (100 * x7)) + (10 * (((bt x5 (wrap64 (x6 - 2))) - 48) % 256)))) + (((bt x5 (wrap64 (x6 - 1))) - 48) % 256)))))).bind fun t129 => (if t129 = true then ((spec_l02Text.f k (wrap64 (x4 * (wrap64 ((wrap64 ((wrap64 (100 * x7)) + (10 * (((bt x5 (wrap64 (x6 - 2))) - 48) % 256)))) + (((bt x5 (wrap64 (x6 - 1))) - 48) % 256)))))).bind fun t130 => (if t130.toList = x0.toList then (some (wrap64 (x4 * (wrap64 ((wrap64 ((wrap64 (100 * x7)) + (10 * (((bt x5 (wrap64 (x6 - 2))) - 48) % 256)))) + (((bt x5 (wrap64 (x6 - 1))) - 48) % 256)))), true)) else (some (0, false)))) else (some (0, false)))) else (none)) else (none)) else (none)) else (none))
end
def spec_ReadDegrees.f (k : Nat) (a0 : ByteArray) : Option (Int × Bool) := if (a0.size : Int) > 0 then (if 0 < (a0.size : Int) then (spec_ReadDegrees.j0 k a0 1 a0 ((bt a0 0) == 45)) else (none)) else (spec_ReadDegrees.j0 k a0 1 a0 false)
theorem spec_ReadDegrees.mono_l : ∀ k, (∀ y0 y1 y2 y3, LeO (spec_ReadDegrees.j0 k y0 y1 y2 y3) (spec_ReadDegrees.j0 (k + 1) y0 y1 y2 y3)) ∧ (∀ y0 y1 y2, LeO (spec_ReadDegrees.j1 k y0 y1 y2) (spec_ReadDegrees.j1 (k + 1) y0 y1 y2)) ∧ (∀ y0 y1 y2 y3 y4, LeO (spec_ReadDegrees.j2 k y0 y1 y2 y3 y4) (spec_ReadDegrees.j2 (k + 1) y0 y1 y2 y3 y4)) ∧ (∀ y0 y1 y2 y3 y4 y5, LeO (spec_ReadDegrees.j3 k y0 y1 y2 y3 y4 y5) (spec_ReadDegrees.j3 (k + 1) y0 y1 y2 y3 y4 y5))
 | 0 => ⟨fun _ _ _ _ r h => by simp [spec_ReadDegrees.j0] at h, fun _ _ _ r h => by simp [spec_ReadDegrees.j1] at h, fun _ _ _ _ _ r h => by simp [spec_ReadDegrees.j2] at h, fun _ _ _ _ _ _ r h => by simp [spec_ReadDegrees.j3] at h⟩
 | k + 1 => by
  obtain ⟨ih0, ih1, ih2, ih3⟩ := spec_ReadDegrees.mono_l k
  refine ⟨?_, ?_, ?_, ?_⟩
  ·intro y0 y1 y2 y3
   unfold spec_ReadDegrees.j0
   repeat' first
   | (with_reducible exact ih0 _ _ _ _)
   | (with_reducible exact ih1 _ _ _)
   | (with_reducible exact ih2 _ _ _ _ _)
   | (with_reducible exact ih3 _ _ _ _ _ _)
   | (with_reducible exact spec_l01Number.mono _ _)
   | (with_reducible exact spec_l02Text.mono _ _)
   | (with_reducible exact LeO.refl _)
   | (with_reducible exact LeO.none _)
   | (with_reducible refine LeO.ite ?_ ?_)
   | (with_reducible refine LeO.bind ?_ (fun _ => ?_))
   | exact ih0 _ _ _ _
   | exact ih1 _ _ _
   | exact ih2 _ _ _ _ _
   | exact ih3 _ _ _ _ _ _
   | exact spec_l01Number.mono _ _
   | exact spec_l02Text.mono _ _
   | exact LeO.none _
   | refine LeO.ite ?_ ?_
   | refine LeO.bind ?_ (fun _ => ?_)
  ·intro y0 y1 y2
   unfold spec_ReadDegrees.j1
   repeat' first
   | (with_reducible exact ih0 _ _ _ _)
   | (with_reducible exact ih1 _ _ _)
   | (with_reducible exact ih2 _ _ _ _ _)
   | (with_reducible exact ih3 _ _ _ _ _ _)
   | (with_reducible exact spec_l01Number.mono _ _)
   | (with_reducible exact spec_l02Text.mono _ _)
   | (with_reducible exact LeO.refl _)
   | (with_reducible exact LeO.none _)
   | (with_reducible refine LeO.ite ?_ ?_)
   | (with_reducible refine LeO.bind ?_ (fun _ => ?_))
   | exact ih0 _ _ _ _
   | exact ih1 _ _ _
   | exact ih2 _ _ _ _ _
   | exact ih3 _ _ _ _ _ _
   | exact spec_l01Number.mono _ _
   | exact spec_l02Text.mono _ _
   | exact LeO.none _
   | refine LeO.ite ?_ ?_
   | refine LeO.bind ?_ (fun _ => ?_)
  ·intro y0 y1 y2 y3 y4
   unfold spec_ReadDegrees.j2
   repeat' first
   | (with_reducible exact ih0 _ _ _ _)
   | (with_reducible exact ih1 _ _ _)
   | (with_reducible exact ih2 _ _ _ _ _)
   | (with_reducible exact ih3 _ _ _ _ _ _)
   | (with_reducible exact spec_l01Number.mono _ _)
   | (with_reducible exact spec_l02Text.mono _ _)
   | (with_reducible exact LeO.refl _)
   | (with_reducible exact LeO.none _)
   | (with_reducible refine LeO.ite ?_ ?_)
   | (with_reducible refine LeO.bind ?_ (fun _ => ?_))
   | exact ih0 _ _ _ _
   | exact ih1 _ _ _
   | exact ih2 _ _ _ _ _
   | exact ih3 _ _ _ _ _ _
   | exact spec_l01Number.mono _ _
   | exact spec_l02Text.mono _ _
   | exact LeO.none _
   | refine LeO.ite ?_ ?_
   | refine LeO.bind ?_ (fun _ => ?_)
  ·intro y0 y1 y2 y3 y4 y5
   unfold spec_ReadDegrees.j3
   repeat' first
   | (with_reducible exact ih0 _ _ _ _)
   | (with_reducible exact ih1 _ _ _)
   | (with_reducible exact ih2 _ _ _ _ _)
   | (with_reducible exact ih3 _ _ _ _ _ _)
   | (with_reducible exact spec_l01Number.mono _ _)
   | (with_reducible exact spec_l02Text.mono _ _)
   | (with_reducible exact LeO.refl _)
   | (with_reducible exact LeO.none _)
   | (with_reducible refine LeO.ite ?_ ?_)
   | (with_reducible refine LeO.bind ?_ (fun _ => ?_))
   | exact ih0 _ _ _ _
   | exact ih1 _ _ _
   | exact ih2 _ _ _ _ _
   | exact ih3 _ _ _ _ _ _
   | exact spec_l01Number.mono _ _
   | exact spec_l02Text.mono _ _
   | exact LeO.none _
   | refine LeO.ite ?_ ?_
   | refine LeO.bind ?_ (fun _ => ?_)
theorem spec_ReadDegrees.mono : ∀ a0 k, LeO (spec_ReadDegrees.f k a0) (spec_ReadDegrees.f (k + 1) a0) := by
 intro a0 k
 obtain ⟨ih0, ih1, ih2, ih3⟩ := spec_ReadDegrees.mono_l k
 unfold spec_ReadDegrees.f
 repeat' first
   | (with_reducible exact ih0 _ _ _ _)
   | (with_reducible exact ih1 _ _ _)
   | (with_reducible exact ih2 _ _ _ _ _)
   | (with_reducible exact ih3 _ _ _ _ _ _)
   | (with_reducible exact spec_l01Number.mono _ _)
   | (with_reducible exact spec_l02Text.mono _ _)
   | (with_reducible exact LeO.refl _)
   | (with_reducible exact LeO.none _)
   | (with_reducible refine LeO.ite ?_ ?_)
   | (with_reducible refine LeO.bind ?_ (fun _ => ?_))
   | exact ih0 _ _ _ _
   | exact ih1 _ _ _
   | exact ih2 _ _ _ _ _
   | exact ih3 _ _ _ _ _ _
   | exact spec_l01Number.mono _ _
   | exact spec_l02Text.mono _ _
   | exact LeO.none _
   | refine LeO.ite ?_ ?_
   | refine LeO.bind ?_ (fun _ => ?_)
set_option maxHeartbeats 8000000 in
set_option maxRecDepth 100000 in
theorem spec_ReadDegrees.calls (k : Nat) (a0 : ByteArray) (r1 : Int) (r2 : Bool) (w : World) (h : spec_ReadDegrees.f k a0 = some (r1, r2)) :
  Calls Tryd.prog 19 #[.string a0] w fun e w' => e = .returned (.tuple #[.int .i64 r1, .bool r2]) ∧ Below w.heap.size w w' := by
 have HB := Aside0.mk (Below.refl w.heap.size w)
 have H : (if (a0.size : Int) > 0 then (if 0 < (a0.size : Int) then (spec_ReadDegrees.j0 k a0 1 a0 ((bt a0 0) == 45)) else (none)) else (spec_ReadDegrees.j0 k a0 1 a0 false)) = some (r1, r2) := h
 clear h
 have HC2 := Aside0.mk H
 clear H
 go_enter Tryd.func19, Tryd.ntmps19
 iterate 2 ((try go_quiet (fail)); (try go_upto_region 3 with (fail)))
 go_cut [18] (fun v18 wc => ∃ (kq : Nat) (x18_1 : Bool), v18 = .bool x18_1 ∧ Aside0 (spec_ReadDegrees.j0 kq a0 1 a0 x18_1 = some (r1, r2)) ∧ Aside0 (kq ≤ k) ∧ Aside0 (Below w.heap.size w wc))
 case first =>
  have H := HC2.out
  clear HC2
  by_cases c3 : (a0.size : Int) > 0
  ·rw [if_pos c3] at H
   have c3b0 : decide (0 < (a0.size : Int)) = true := decide_eq_true c3
   have c3b1 : decide (0 < a0.size) = true := decide_eq_true (by omega)
   clear c3
   (first | rw [c3b0] | (simp only [i64_w, i32_w]; rw [c3b0]) | rw [c3b2] | skip)
   by_cases c4 : 0 < (a0.size : Int)
   ·rw [if_pos c4] at H
    have c4b0 : decide (0 < (a0.size : Int)) = true := decide_eq_true c4
    have c4b1 : decide (0 < a0.size) = true := decide_eq_true (by omega)
    clear c4
    have H' := Aside0.mk H
    clear H
    have p5 : 0 ≤ (0 : Int) := (by omega)
    have q5 : 0 < a0.size := (by have : (0 : Int) < (a0.size : Int) := of_decide_eq_true (by first | (with_reducible assumption) | assumption); omega)
    have hx5 : ∀ h : 0 < a0.size, ((a0[0]'h).toNat : Int) = bt a0 0 := bt_at a0 0
    clear p5
    have qi5 : (0 < (a0.size : Int)) = True := eq_true (of_decide_eq_true (by first | (with_reducible assumption) | assumption))
    replace q5 := eq_true q5
    go_wp2
    repeat (go_quiet (fail); try go_wp2)
    go_meet
    case rel => exact ⟨_, (((bt a0 0) == 45)), (by first | rfl | (simp; done) | (simp [*]; done)), H', ⟨by first | omega | exact Nat.le_refl _⟩, ⟨by repeat (first | (with_reducible first | exact HB.out|apply wA|apply wN|apply wD) | exact HB.out)⟩⟩
   ·rw [if_neg c4] at H
    exact absurd H (by simp)
  ·rw [if_neg c3] at H
   have c3b0 : decide (0 < (a0.size : Int)) = false := decide_eq_false c3
   have c3b1 : decide (0 < a0.size) = false := decide_eq_false (by omega)
   clear c3
   (first | rw [c3b0] | (simp only [i64_w, i32_w]; rw [c3b0]) | rw [c3b2] | skip)
   have H' := Aside0.mk H
   clear H
   go_wp2
   repeat (go_quiet (fail); try go_wp2)
   go_meet
   case rel => exact ⟨_, (false), (by first | rfl | (simp; done) | (simp [*]; done)), H', ⟨by first | omega | exact Nat.le_refl _⟩, ⟨by repeat (first | (with_reducible first | exact HB.out|apply wA|apply wN|apply wD) | exact HB.out)⟩⟩
 case rest =>
  clear HC2
  try clear c1
  try clear p2
  try clear c3
  try clear c3b0
  try clear c3b1
  try clear c3b2
  try clear c4
  try clear c4b0
  try clear c4b1
  try clear p5
  try clear q5
  try clear hx5
  try clear qi5
  try clear p5
  try clear q5
  obtain ⟨kq, x18_1, rfl, HA, HJ1, HB⟩ := hcut
  cases kq with
  | zero => exact absurd HA.out (by simp [spec_ReadDegrees.j0])
  | succ kj1 =>
   have H := HA.out
   clear HA
   simp only [spec_ReadDegrees.j0] at H
   have HC6 := Aside0.mk H
   clear H
   iterate 2 ((try go_quiet (fail)); (try go_upto_if 18 with (fail)))
   go_cut [4, 5] (fun v4 v5 wc => ∃ (kq : Nat) (x4_5 : Int) (x5_5 : ByteArray), v4 = .int .i64 x4_5 ∧ v5 = .string x5_5 ∧ Aside0 (spec_ReadDegrees.j1 kq a0 x4_5 x5_5 = some (r1, r2)) ∧ Aside0 (kq ≤ kj1) ∧ Aside0 (Below w.heap.size w wc))
   case first =>
    have H := HC6.out
    clear HC6
    by_cases c7 : x18_1 = true
    ·subst c7
     have H1 : (if 1 ≤ (a0.size : Int) then (spec_ReadDegrees.j1 kj1 a0 (-1) (a0.extract 1 a0.size)) else (none)) = some (r1, r2) := by rw [if_pos rfl] at H; exact H
     clear H
     have H := H1
     clear H1
     by_cases c8 : 1 ≤ (a0.size : Int)
     ·rw [if_pos c8] at H
      have c8b0 := eq_true c8
      have c8b1 : decide (1 ≤ (a0.size : Int)) = true := decide_eq_true c8
      clear c8
      have H' := Aside0.mk H
      clear H
      go_wp2
      repeat (go_quiet (fail); try go_wp2)
      go_meet
      case rel => exact ⟨_, ((-1)), (a0.extract 1 a0.size), (by first | rfl | (simp; done) | (simp [*]; done)), (by first | rfl | (simp; done) | (simp [*]; done)), H', ⟨by have := HJ1.out; first | omega | exact Nat.le_refl _⟩, ⟨by repeat (first | (with_reducible first | exact HB.out|apply wA|apply wN|apply wD) | exact HB.out)⟩⟩
     ·rw [if_neg c8] at H
      exact absurd H (by simp)
    ·replace c7 := Bool.eq_false_iff.mpr c7
     subst c7
     have H1 : (spec_ReadDegrees.j1 kj1 a0 1 a0) = some (r1, r2) := by rw [if_neg (show ¬ (false = true) by decide)] at H; exact H
     clear H
     have H := H1
     clear H1
     have H' := Aside0.mk H
     clear H
     go_wp2
     repeat (go_quiet (fail); try go_wp2)
     go_meet
     case rel => exact ⟨_, (1), (a0), (by first | rfl | (simp; done) | (simp [*]; done)), (by first | rfl | (simp; done) | (simp [*]; done)), H', ⟨by have := HJ1.out; first | omega | exact Nat.le_refl _⟩, ⟨by repeat (first | (with_reducible first | exact HB.out|apply wA|apply wN|apply wD) | exact HB.out)⟩⟩
   case rest =>
    clear HC6
    try clear c1
    try clear p2
    try clear c3
    try clear c3b0
    try clear c3b1
    try clear c3b2
    try clear c4
    try clear c4b0
    try clear c4b1
    try clear p5
    try clear q5
    try clear hx5
    try clear qi5
    try clear c7
    try clear c8
    try clear c8b0
    try clear c8b1
    try clear p2
    try clear p5
    try clear q5
    obtain ⟨kq, x4_5, x5_5, rfl, rfl, HA, HJ5, HB⟩ := hcut
    cases kq with
    | zero => exact absurd HA.out (by simp [spec_ReadDegrees.j1])
    | succ kj5 =>
     have H := HA.out
     clear HA
     simp only [spec_ReadDegrees.j1] at H
     have HC9 := Aside0.mk H
     clear H
     iterate 2 ((try go_quiet (fail)); (try go_upto_region 7 with (fail)))
     go_cut [47] (fun v47 wc => ∃ (kq : Nat) (x47_8 : Bool), v47 = .bool x47_8 ∧ Aside0 (spec_ReadDegrees.j2 kq a0 x4_5 x5_5 (x5_5.size : Int) x47_8 = some (r1, r2)) ∧ Aside0 (kq ≤ kj5) ∧ Aside0 (Below w.heap.size w wc))
     case first =>
      have H := HC9.out
      clear HC9
      by_cases c10 : (x5_5.size : Int) < 4
      ·rw [if_pos c10] at H
       have c10b0 : decide ((x5_5.size : Int) < 4) = true := decide_eq_true c10
       have c10b1 : decide (x5_5.size < 4) = true := decide_eq_true (by omega)
       clear c10
       (first | rw [c10b0] | (simp only [i64_w, i32_w]; rw [c10b0]) | rw [c10b2] | skip)
       have H' := Aside0.mk H
       clear H
       go_wp2
       repeat (go_quiet (fail); try go_wp2)
       go_meet
       case rel => exact ⟨_, (true), (by first | rfl | (simp; done) | (simp [*]; done)), H', ⟨by have := HJ1.out; have := HJ5.out; first | omega | exact Nat.le_refl _⟩, ⟨by repeat (first | (with_reducible first | exact HB.out|apply wA|apply wN|apply wD) | exact HB.out)⟩⟩
      ·rw [if_neg c10] at H
       have c10b0 : decide ((x5_5.size : Int) < 4) = false := decide_eq_false c10
       have c10b1 : decide (x5_5.size < 4) = false := decide_eq_false (by omega)
       clear c10
       (first | rw [c10b0] | (simp only [i64_w, i32_w]; rw [c10b0]) | rw [c10b2] | skip)
       obtain ⟨ji11, hji11⟩ : ∃ j_ : Int, (wrap64 ((x5_5.size : Int) - 3)) = j_ := ⟨_, rfl⟩
       replace H : (if 0 ≤ (ji11) then (if (ji11) < (x5_5.size : Int) then (if (bt x5_5 (ji11)) = 46 then (if 0 ≤ (wrap64 ((x5_5.size : Int) - 2)) then (if (wrap64 ((x5_5.size : Int) - 2)) < (x5_5.size : Int) then ((spec_l01Digit.f (bt x5_5 (wrap64 ((x5_5.size : Int) - 2)))).bind fun t125 => (if t125 = true then (if 0 ≤ (wrap64 ((x5_5.size : Int) - 1)) then (if (wrap64 ((x5_5.size : Int) - 1)) < (x5_5.size : Int) then ((spec_l01Digit.f (bt x5_5 (wrap64 ((x5_5.size : Int) - 1)))).bind fun t126 => (spec_ReadDegrees.j2 kj5 a0 x4_5 x5_5 (x5_5.size : Int) (!t126))) else (none)) else (none)) else (spec_ReadDegrees.j2 kj5 a0 x4_5 x5_5 (x5_5.size : Int) true))) else (none)) else (none)) else (spec_ReadDegrees.j2 kj5 a0 x4_5 x5_5 (x5_5.size : Int) true)) else (none)) else (none)) = some (r1, r2) := by first | (rw [hji11] at H; exact H) | (simp only [hji11] at H ⊢; exact H)
       have hji11w : (IntKind.i64.wrap ((x5_5.size : Int) - 3)) = ji11 := (i64_w _).trans hji11
       by_cases c12 : 0 ≤ (ji11)
       ·rw [if_pos c12] at H
        have c12b0 : decide (0 ≤ (ji11)) = true := decide_eq_true c12
        clear c12
        by_cases c13 : (ji11) < (x5_5.size : Int)
        ·rw [if_pos c13] at H
         have c13b0 : decide ((ji11) < (x5_5.size : Int)) = true := decide_eq_true c13
         clear c13
         by_cases c15 : (bt x5_5 (ji11)) = 46
         ·rw [if_pos c15] at H
          have c15b0 : ((bt x5_5 (ji11)) == 46) = true := beq_iff_eq.mpr c15
          have c15b1 : ((bt x5_5 (ji11)) != 46) = false := bne_eq_false_iff_eq.mpr c15
          clear c15
          obtain ⟨ji16, hji16⟩ : ∃ j_ : Int, (wrap64 ((x5_5.size : Int) - 2)) = j_ := ⟨_, rfl⟩
          replace H : (if 0 ≤ (ji16) then (if (ji16) < (x5_5.size : Int) then ((spec_l01Digit.f (bt x5_5 (ji16))).bind fun t125 => (if t125 = true then (if 0 ≤ (wrap64 ((x5_5.size : Int) - 1)) then (if (wrap64 ((x5_5.size : Int) - 1)) < (x5_5.size : Int) then ((spec_l01Digit.f (bt x5_5 (wrap64 ((x5_5.size : Int) - 1)))).bind fun t126 => (spec_ReadDegrees.j2 kj5 a0 x4_5 x5_5 (x5_5.size : Int) (!t126))) else (none)) else (none)) else (spec_ReadDegrees.j2 kj5 a0 x4_5 x5_5 (x5_5.size : Int) true))) else (none)) else (none)) = some (r1, r2) := by first | (rw [hji16] at H; exact H) | (simp only [hji16] at H ⊢; exact H)
          have hji16w : (IntKind.i64.wrap ((x5_5.size : Int) - 2)) = ji16 := (i64_w _).trans hji16
          by_cases c17 : 0 ≤ (ji16)
          ·rw [if_pos c17] at H
           have c17b0 : decide (0 ≤ (ji16)) = true := decide_eq_true c17
           clear c17
           by_cases c18 : (ji16) < (x5_5.size : Int)
           ·rw [if_pos c18] at H
            have c18b0 : decide ((ji16) < (x5_5.size : Int)) = true := decide_eq_true c18
            clear c18
            replace H := Option.bind_eq_some_iff.mp H
            obtain ⟨t125, A200, H⟩ := H
            replace H : (if t125 = true then (if 0 ≤ (wrap64 ((x5_5.size : Int) - 1)) then (if (wrap64 ((x5_5.size : Int) - 1)) < (x5_5.size : Int) then ((spec_l01Digit.f (bt x5_5 (wrap64 ((x5_5.size : Int) - 1)))).bind fun t126 => (spec_ReadDegrees.j2 kj5 a0 x4_5 x5_5 (x5_5.size : Int) (!t126))) else (none)) else (none)) else (spec_ReadDegrees.j2 kj5 a0 x4_5 x5_5 (x5_5.size : Int) true)) = some (r1, r2) := H
            have A20 := Aside0.mk A200
            clear A200
            by_cases c21 : t125 = true
            ·subst c21
             have H1 : (if 0 ≤ (wrap64 ((x5_5.size : Int) - 1)) then (if (wrap64 ((x5_5.size : Int) - 1)) < (x5_5.size : Int) then ((spec_l01Digit.f (bt x5_5 (wrap64 ((x5_5.size : Int) - 1)))).bind fun t126 => (spec_ReadDegrees.j2 kj5 a0 x4_5 x5_5 (x5_5.size : Int) (!t126))) else (none)) else (none)) = some (r1, r2) := by rw [if_pos rfl] at H; exact H
             clear H
             have H := H1
             clear H1
             obtain ⟨ji22, hji22⟩ : ∃ j_ : Int, (wrap64 ((x5_5.size : Int) - 1)) = j_ := ⟨_, rfl⟩
             replace H : (if 0 ≤ (ji22) then (if (ji22) < (x5_5.size : Int) then ((spec_l01Digit.f (bt x5_5 (ji22))).bind fun t126 => (spec_ReadDegrees.j2 kj5 a0 x4_5 x5_5 (x5_5.size : Int) (!t126))) else (none)) else (none)) = some (r1, r2) := by first | (rw [hji22] at H; exact H) | (simp only [hji22] at H ⊢; exact H)
             (try rw [hji22] at A20)
             have hji22w : (IntKind.i64.wrap ((x5_5.size : Int) - 1)) = ji22 := (i64_w _).trans hji22
             by_cases c23 : 0 ≤ (ji22)
             ·rw [if_pos c23] at H
              have c23b0 : decide (0 ≤ (ji22)) = true := decide_eq_true c23
              clear c23
              by_cases c24 : (ji22) < (x5_5.size : Int)
              ·rw [if_pos c24] at H
               have c24b0 : decide ((ji22) < (x5_5.size : Int)) = true := decide_eq_true c24
               clear c24
               replace H := Option.bind_eq_some_iff.mp H
               obtain ⟨t126, A260, H⟩ := H
               replace H : (spec_ReadDegrees.j2 kj5 a0 x4_5 x5_5 (x5_5.size : Int) (!t126)) = some (r1, r2) := H
               have A26 := Aside0.mk A260
               clear A260
               have H' := Aside0.mk H
               clear H
               have p14 : 0 ≤ ((ji11) : Int) := of_decide_eq_true (by first | (with_reducible assumption) | assumption)
               have q14 : (ji11) < (x5_5.size : Int) := of_decide_eq_true (by first | (with_reducible assumption) | assumption)
               have hx14 := bt_at x5_5 (ji11)
               replace p14 := eq_true p14
               replace q14 := eq_true q14
               have p19 : 0 ≤ ((ji16) : Int) := of_decide_eq_true (by first | (with_reducible assumption) | assumption)
               have q19 : (ji16) < (x5_5.size : Int) := of_decide_eq_true (by first | (with_reducible assumption) | assumption)
               have hx19 := bt_at x5_5 (ji16)
               replace p19 := eq_true p19
               replace q19 := eq_true q19
               iterate 2 ((try (first | (have p25 : 0 ≤ ((ji22) : Int) := of_decide_eq_true (by first | (with_reducible assumption) | assumption); have q25 : (ji22) < (x5_5.size : Int) := of_decide_eq_true (by first | (with_reducible assumption) | assumption); have hx25 := bt_at x5_5 (ji22); replace p25 := eq_true p25; replace q25 := eq_true q25; go_big_quiet (first | (go_at_call 55; (with_reducible refine (spec_l01Digit.calls (bt x5_5 (ji16)) true _ A20.out).mono ?_); rintro e w' ⟨rfl, ⟨nd, rfl⟩⟩; (try first | exact ⟨rfl, _, World.drewN_drewN _ _ _⟩ | exact ⟨rfl, _, Eq.trans (World.drewN_drewN _ _ _) (congrArg (World.drewN _) (Nat.add_assoc _ _ _))⟩)) | (go_at_call 55; (with_reducible refine (spec_l01Digit.calls (bt x5_5 (ji22)) t126 _ A26.out).mono ?_); rintro e w' ⟨rfl, ⟨nd, rfl⟩⟩; (try first | exact ⟨rfl, _, World.drewN_drewN _ _ _⟩ | exact ⟨rfl, _, Eq.trans (World.drewN_drewN _ _ _) (congrArg (World.drewN _) (Nat.add_assoc _ _ _))⟩)))) | go_big_quiet (first | (go_at_call 55; (with_reducible refine (spec_l01Digit.calls (bt x5_5 (ji16)) true _ A20.out).mono ?_); rintro e w' ⟨rfl, ⟨nd, rfl⟩⟩; (try first | exact ⟨rfl, _, World.drewN_drewN _ _ _⟩ | exact ⟨rfl, _, Eq.trans (World.drewN_drewN _ _ _) (congrArg (World.drewN _) (Nat.add_assoc _ _ _))⟩)) | (go_at_call 55; (with_reducible refine (spec_l01Digit.calls (bt x5_5 (ji22)) t126 _ A26.out).mono ?_); rintro e w' ⟨rfl, ⟨nd, rfl⟩⟩; (try first | exact ⟨rfl, _, World.drewN_drewN _ _ _⟩ | exact ⟨rfl, _, Eq.trans (World.drewN_drewN _ _ _) (congrArg (World.drewN _) (Nat.add_assoc _ _ _))⟩))))); (try go_wp2_with (first | (go_at_call 55; (with_reducible refine (spec_l01Digit.calls (bt x5_5 (ji16)) true _ A20.out).mono ?_); rintro e w' ⟨rfl, ⟨nd, rfl⟩⟩; (try first | exact ⟨rfl, _, World.drewN_drewN _ _ _⟩ | exact ⟨rfl, _, Eq.trans (World.drewN_drewN _ _ _) (congrArg (World.drewN _) (Nat.add_assoc _ _ _))⟩); have p25 : 0 ≤ ((ji22) : Int) := of_decide_eq_true (by first | (with_reducible assumption) | assumption); have q25 : (ji22) < (x5_5.size : Int) := of_decide_eq_true (by first | (with_reducible assumption) | assumption); have hx25 := bt_at x5_5 (ji22); replace p25 := eq_true p25; replace q25 := eq_true q25) | (go_at_call 55; (with_reducible refine (spec_l01Digit.calls (bt x5_5 (ji22)) t126 _ A26.out).mono ?_); rintro e w' ⟨rfl, ⟨nd, rfl⟩⟩; (try first | exact ⟨rfl, _, World.drewN_drewN _ _ _⟩ | exact ⟨rfl, _, Eq.trans (World.drewN_drewN _ _ _) (congrArg (World.drewN _) (Nat.add_assoc _ _ _))⟩)))))
               go_meet
               case rel => exact ⟨_, (!t126), (by first | rfl | (simp; done) | (simp [*]; done)), H', ⟨by have := HJ1.out; have := HJ5.out; first | omega | exact Nat.le_refl _⟩, ⟨by repeat (first | (with_reducible first | exact HB.out|apply wA|apply wN|apply wD) | exact HB.out)⟩⟩
              ·rw [if_neg c24] at H
               exact absurd H (by simp)
             ·rw [if_neg c23] at H
              exact absurd H (by simp)
            ·replace c21 := Bool.eq_false_iff.mpr c21
             subst c21
             have H1 : (spec_ReadDegrees.j2 kj5 a0 x4_5 x5_5 (x5_5.size : Int) true) = some (r1, r2) := by rw [if_neg (show ¬ (false = true) by decide)] at H; exact H
             clear H
             have H := H1
             clear H1
             have H' := Aside0.mk H
             clear H
             have p14 : 0 ≤ ((ji11) : Int) := of_decide_eq_true (by first | (with_reducible assumption) | assumption)
             have q14 : (ji11) < (x5_5.size : Int) := of_decide_eq_true (by first | (with_reducible assumption) | assumption)
             have hx14 := bt_at x5_5 (ji11)
             replace p14 := eq_true p14
             replace q14 := eq_true q14
             have p19 : 0 ≤ ((ji16) : Int) := of_decide_eq_true (by first | (with_reducible assumption) | assumption)
             have q19 : (ji16) < (x5_5.size : Int) := of_decide_eq_true (by first | (with_reducible assumption) | assumption)
             have hx19 := bt_at x5_5 (ji16)
             replace p19 := eq_true p19
             replace q19 := eq_true q19
             iterate 2 ((try go_quiet (first | (go_at_call 55; (with_reducible refine (spec_l01Digit.calls (bt x5_5 (ji16)) false _ A20.out).mono ?_); rintro e w' ⟨rfl, ⟨nd, rfl⟩⟩; (try first | exact ⟨rfl, _, World.drewN_drewN _ _ _⟩ | exact ⟨rfl, _, Eq.trans (World.drewN_drewN _ _ _) (congrArg (World.drewN _) (Nat.add_assoc _ _ _))⟩)))); (try go_wp2_with (first | (go_at_call 55; (with_reducible refine (spec_l01Digit.calls (bt x5_5 (ji16)) false _ A20.out).mono ?_); rintro e w' ⟨rfl, ⟨nd, rfl⟩⟩; (try first | exact ⟨rfl, _, World.drewN_drewN _ _ _⟩ | exact ⟨rfl, _, Eq.trans (World.drewN_drewN _ _ _) (congrArg (World.drewN _) (Nat.add_assoc _ _ _))⟩)))))
             go_meet
             case rel => exact ⟨_, (true), (by first | rfl | (simp; done) | (simp [*]; done)), H', ⟨by have := HJ1.out; have := HJ5.out; first | omega | exact Nat.le_refl _⟩, ⟨by repeat (first | (with_reducible first | exact HB.out|apply wA|apply wN|apply wD) | exact HB.out)⟩⟩
           ·rw [if_neg c18] at H
            exact absurd H (by simp)
          ·rw [if_neg c17] at H
           exact absurd H (by simp)
         ·rw [if_neg c15] at H
          have c15b0 : ((bt x5_5 (ji11)) == 46) = false := beq_eq_false_iff_ne.mpr c15
          have c15b1 : ((bt x5_5 (ji11)) != 46) = true := bne_iff_ne.mpr c15
          have H' := Aside0.mk H
          clear H
          have p14 : 0 ≤ ((ji11) : Int) := of_decide_eq_true (by first | (with_reducible assumption) | assumption)
          have q14 : (ji11) < (x5_5.size : Int) := of_decide_eq_true (by first | (with_reducible assumption) | assumption)
          have hx14 := bt_at x5_5 (ji11)
          replace p14 := eq_true p14
          replace q14 := eq_true q14
          go_wp2
          repeat (go_quiet (fail); try go_wp2)
          go_meet
          case rel => exact ⟨_, (true), (by first | rfl | (simp; done) | (simp [*]; done)), H', ⟨by have := HJ1.out; have := HJ5.out; first | omega | exact Nat.le_refl _⟩, ⟨by repeat (first | (with_reducible first | exact HB.out|apply wA|apply wN|apply wD) | exact HB.out)⟩⟩
        ·rw [if_neg c13] at H
         exact absurd H (by simp)
       ·rw [if_neg c12] at H
        exact absurd H (by simp)
     case rest =>
      clear HC9
      try clear c1
      try clear p1
      try clear q1
      try clear hx1
      try clear c2
      try clear p2
      try clear q2
      try clear hx2
      try clear c3
      try clear c3b0
      try clear c3b1
      try clear c3b2
      try clear c4
      try clear c4b0
      try clear c4b1
      try clear p5
      try clear q5
      try clear hx5
      try clear qi5
      try clear p6
      try clear c7
      try clear c8
      try clear c8b0
      try clear c8b1
      try clear c10
      try clear c10b0
      try clear c10b1
      try clear c10b2
      try clear c12
      try clear c12b0
      try clear c13
      try clear c13b0
      try clear p14
      try clear q14
      try clear hx14
      try clear c15
      try clear c15b0
      try clear c15b1
      try clear c17
      try clear c17b0
      try clear c18
      try clear c18b0
      try clear c19
      try clear p19
      try clear q19
      try clear hx19
      try clear c21
      try clear c23
      try clear c23b0
      try clear c24
      try clear c24b0
      try clear p25
      try clear q25
      try clear hx25
      try clear p14
      try clear p19
      try clear p2
      try clear p25
      try clear p5
      try clear q14
      try clear q19
      try clear q25
      try clear q5
      obtain ⟨kq, x47_8, rfl, HA, HJ8, HB⟩ := hcut
      cases kq with
      | zero => exact absurd HA.out (by simp [spec_ReadDegrees.j2])
      | succ kj8 =>
       have H := HA.out
       clear HA
       simp only [spec_ReadDegrees.j2] at H
       by_cases c27 : x47_8 = true
       ·subst c27
        have H1 : (some (0, false)) = some (r1, r2) := by rw [if_pos rfl] at H; exact H
        clear H
        have H := H1
        clear H1
        simp only [Option.some.injEq, Prod.mk.injEq] at H
        obtain ⟨rfl, rfl⟩ := H
        go_wp2
        repeat (go_quiet (fail); try go_wp2)
        go_ret2
        exact ⟨by first | rfl | (simp [errW_none, errW_some] <;> rfl) | (simp [*, errW_none, errW_some] <;> rfl), by repeat (first | (with_reducible first | exact HB.out|apply wA|apply wN|apply wD) | exact HB.out)⟩
       ·replace c27 := Bool.eq_false_iff.mpr c27
        subst c27
        have H1 : (if 0 ≤ (wrap64 ((x5_5.size : Int) - 3)) then (if (wrap64 ((x5_5.size : Int) - 3)) ≤ (x5_5.size : Int) then ((spec_l01Number.f kj8 (x5_5.extract 0 ((wrap64 ((x5_5.size : Int) - 3)) : Int).toNat)).bind fun bt127 => (if bt127.2 = true then (spec_ReadDegrees.j3 kj8 a0 x4_5 x5_5 (x5_5.size : Int) bt127.1 (decide (bt127.1 < 0))) else (spec_ReadDegrees.j3 kj8 a0 x4_5 x5_5 (x5_5.size : Int) bt127.1 true))) else (none)) else (none)) = some (r1, r2) := by rw [if_neg (show ¬ (false = true) by decide)] at H; exact H
        clear H
        have H := H1
        clear H1
        obtain ⟨ji28, hji28⟩ : ∃ j_ : Int, (wrap64 ((x5_5.size : Int) - 3)) = j_ := ⟨_, rfl⟩
        replace H : (if 0 ≤ (ji28) then (if (ji28) ≤ (x5_5.size : Int) then ((spec_l01Number.f kj8 (x5_5.extract 0 ((ji28) : Int).toNat)).bind fun bt127 => (if bt127.2 = true then (spec_ReadDegrees.j3 kj8 a0 x4_5 x5_5 (x5_5.size : Int) bt127.1 (decide (bt127.1 < 0))) else (spec_ReadDegrees.j3 kj8 a0 x4_5 x5_5 (x5_5.size : Int) bt127.1 true))) else (none)) else (none)) = some (r1, r2) := by first | (rw [hji28] at H; exact H) | (simp only [hji28] at H ⊢; exact H)
        have hji28w : (IntKind.i64.wrap ((x5_5.size : Int) - 3)) = ji28 := (i64_w _).trans hji28
        by_cases c29 : 0 ≤ (ji28)
        ·rw [if_pos c29] at H
         have c29b0 := eq_true c29
         have c29b1 : decide (0 ≤ (ji28)) = true := decide_eq_true c29
         clear c29
         by_cases c30 : (ji28) ≤ (x5_5.size : Int)
         ·rw [if_pos c30] at H
          have c30b0 := eq_true c30
          have c30b1 : decide ((ji28) ≤ (x5_5.size : Int)) = true := decide_eq_true c30
          clear c30
          replace H := Option.bind_eq_some_iff.mp H
          obtain ⟨⟨t127, t128⟩, A310, H⟩ := H
          replace H : (if t128 = true then (spec_ReadDegrees.j3 kj8 a0 x4_5 x5_5 (x5_5.size : Int) t127 (decide (t127 < 0))) else (spec_ReadDegrees.j3 kj8 a0 x4_5 x5_5 (x5_5.size : Int) t127 true)) = some (r1, r2) := H
          have A31 := Aside0.mk A310
          clear A310
          have HC32 := Aside0.mk H
          clear H
          iterate 2 ((try go_quiet (first | (go_at_call 48; (with_reducible refine (spec_l01Number.calls kj8 (x5_5.extract 0 ((ji28) : Int).toNat) t127 t128 _ A31.out).mono ?_); rintro e w' ⟨rfl, ⟨nd, rfl⟩⟩; (try first | exact ⟨rfl, _, World.drewN_drewN _ _ _⟩ | exact ⟨rfl, _, Eq.trans (World.drewN_drewN _ _ _) (congrArg (World.drewN _) (Nat.add_assoc _ _ _))⟩)))); (try go_upto_region 10 with (first | (go_at_call 48; (with_reducible refine (spec_l01Number.calls kj8 (x5_5.extract 0 ((ji28) : Int).toNat) t127 t128 _ A31.out).mono ?_); rintro e w' ⟨rfl, ⟨nd, rfl⟩⟩; (try first | exact ⟨rfl, _, World.drewN_drewN _ _ _⟩ | exact ⟨rfl, _, Eq.trans (World.drewN_drewN _ _ _) (congrArg (World.drewN _) (Nat.add_assoc _ _ _))⟩)))))
          (try simp only [Act.put, List.setIfInBounds_toArray, List.set_cons_zero, List.set_cons_succ])
          go_cut [61] (fun v61 wc => ∃ (kq : Nat) (x61_31 : Bool), v61 = .bool x61_31 ∧ Aside0 (spec_ReadDegrees.j3 kq a0 x4_5 x5_5 (x5_5.size : Int) t127 x61_31 = some (r1, r2)) ∧ Aside0 (kq ≤ kj8) ∧ Aside0 (Below w.heap.size w wc))
          case first =>
           have H := HC32.out
           clear HC32
           by_cases c33 : t128 = true
           ·subst c33
            have H1 : (spec_ReadDegrees.j3 kj8 a0 x4_5 x5_5 (x5_5.size : Int) t127 (decide (t127 < 0))) = some (r1, r2) := by rw [if_pos rfl] at H; exact H
            clear H
            have H := H1
            clear H1
            have H' := Aside0.mk H
            clear H
            go_wp2
            repeat (go_quiet (fail); try go_wp2)
            go_meet
            case rel => exact ⟨_, (decide (t127 < 0)), (by first | rfl | (simp; done) | (simp [*]; done)), H', ⟨by have := HJ1.out; have := HJ5.out; have := HJ8.out; first | omega | exact Nat.le_refl _⟩, ⟨by repeat (first | (with_reducible first | exact HB.out|apply wA|apply wN|apply wD) | exact HB.out)⟩⟩
           ·replace c33 := Bool.eq_false_iff.mpr c33
            subst c33
            have H1 : (spec_ReadDegrees.j3 kj8 a0 x4_5 x5_5 (x5_5.size : Int) t127 true) = some (r1, r2) := by rw [if_neg (show ¬ (false = true) by decide)] at H; exact H
            clear H
            have H := H1
            clear H1
            have H' := Aside0.mk H
            clear H
            go_wp2
            repeat (go_quiet (fail); try go_wp2)
            go_meet
            case rel => exact ⟨_, (true), (by first | rfl | (simp; done) | (simp [*]; done)), H', ⟨by have := HJ1.out; have := HJ5.out; have := HJ8.out; first | omega | exact Nat.le_refl _⟩, ⟨by repeat (first | (with_reducible first | exact HB.out|apply wA|apply wN|apply wD) | exact HB.out)⟩⟩
          case rest =>
           clear HC32
           try clear c1
           try clear p1
           try clear q1
           try clear hx1
           try clear c2
           try clear p2
           try clear q2
           try clear hx2
           try clear c3
           try clear c3b0
           try clear c3b1
           try clear c3b2
           try clear c4
           try clear c4b0
           try clear c4b1
           try clear p5
           try clear q5
           try clear hx5
           try clear qi5
           try clear p6
           try clear c7
           try clear c8
           try clear c8b0
           try clear c8b1
           try clear c10
           try clear c10b0
           try clear c10b1
           try clear c10b2
           try clear c12
           try clear c12b0
           try clear c13
           try clear c13b0
           try clear p14
           try clear q14
           try clear hx14
           try clear c15
           try clear c15b0
           try clear c15b1
           try clear c17
           try clear c17b0
           try clear c18
           try clear c18b0
           try clear c19
           try clear p19
           try clear q19
           try clear hx19
           try clear c21
           try clear c23
           try clear c23b0
           try clear c24
           try clear c24b0
           try clear p25
           try clear q25
           try clear hx25
           try clear c27
           try clear c29
           try clear c29b0
           try clear c29b1
           try clear c30
           try clear c30b0
           try clear c30b1
           try clear c33
           try clear p1
           try clear p14
           try clear p19
           try clear p2
           try clear p25
           try clear p5
           try clear p6
           try clear q1
           try clear q14
           try clear q19
           try clear q2
           try clear q25
           try clear q5
           obtain ⟨kq, x61_31, rfl, HA, HJ31, HB⟩ := hcut
           cases kq with
           | zero => exact absurd HA.out (by simp [spec_ReadDegrees.j3])
           | succ kj31 =>
            have H := HA.out
            clear HA
            simp only [spec_ReadDegrees.j3] at H
            by_cases c34 : x61_31 = true
            ·subst c34
             have H1 : (some (0, false)) = some (r1, r2) := by rw [if_pos rfl] at H; exact H
             clear H
             have H := H1
             clear H1
             simp only [Option.some.injEq, Prod.mk.injEq] at H
             obtain ⟨rfl, rfl⟩ := H
             go_wp2
             repeat (go_quiet (fail); try go_wp2)
             go_ret2
             exact ⟨by first | rfl | (simp [errW_none, errW_some] <;> rfl) | (simp only [← hji28]; first | rfl | (simp [errW_none, errW_some] <;> rfl)) | (simp [*, errW_none, errW_some] <;> rfl), by repeat (first | (with_reducible first | exact HB.out|apply wA|apply wN|apply wD) | exact HB.out)⟩
            ·replace c34 := Bool.eq_false_iff.mpr c34
             subst c34
             have H1 : (if 0 ≤ (wrap64 ((x5_5.size : Int) - 2)) then (if (wrap64 ((x5_5.size : Int) - 2)) < (x5_5.size : Int) then (if 0 ≤ (wrap64 ((x5_5.size : Int) - 1)) then (if (wrap64 ((x5_5.size : Int) - 1)) < (x5_5.size : Int) then ((spec_l02Told.f (wrap64 (x4_5 * (wrap64 ((wrap64 ((wrap64 (100 * t127)) + (10 * (((bt x5_5 (wrap64 ((x5_5.size : Int) - 2))) - 48) % 256)))) + (((bt x5_5 (wrap64 ((x5_5.size : Int) - 1))) - 48) % 256)))))).bind fun t129 => (if t129 = true then ((spec_l02Text.f kj31 (wrap64 (x4_5 * (wrap64 ((wrap64 ((wrap64 (100 * t127)) + (10 * (((bt x5_5 (wrap64 ((x5_5.size : Int) - 2))) - 48) % 256)))) + (((bt x5_5 (wrap64 ((x5_5.size : Int) - 1))) - 48) % 256)))))).bind fun t130 => (if t130.toList = a0.toList then (some (wrap64 (x4_5 * (wrap64 ((wrap64 ((wrap64 (100 * t127)) + (10 * (((bt x5_5 (wrap64 ((x5_5.size : Int) - 2))) - 48) % 256)))) + (((bt x5_5 (wrap64 ((x5_5.size : Int) - 1))) - 48) % 256)))), true)) else (some (0, false)))) else (some (0, false)))) else (none)) else (none)) else (none)) else (none)) = some (r1, r2) := by rw [if_neg (show ¬ (false = true) by decide)] at H; exact H
             clear H
             have H := H1
             clear H1
             obtain ⟨ji35, hji35⟩ : ∃ j_ : Int, (wrap64 ((x5_5.size : Int) - 2)) = j_ := ⟨_, rfl⟩
             replace H : (if 0 ≤ (ji35) then (if (ji35) < (x5_5.size : Int) then (if 0 ≤ (wrap64 ((x5_5.size : Int) - 1)) then (if (wrap64 ((x5_5.size : Int) - 1)) < (x5_5.size : Int) then ((spec_l02Told.f (wrap64 (x4_5 * (wrap64 ((wrap64 ((wrap64 (100 * t127)) + (10 * (((bt x5_5 (ji35)) - 48) % 256)))) + (((bt x5_5 (wrap64 ((x5_5.size : Int) - 1))) - 48) % 256)))))).bind fun t129 => (if t129 = true then ((spec_l02Text.f kj31 (wrap64 (x4_5 * (wrap64 ((wrap64 ((wrap64 (100 * t127)) + (10 * (((bt x5_5 (ji35)) - 48) % 256)))) + (((bt x5_5 (wrap64 ((x5_5.size : Int) - 1))) - 48) % 256)))))).bind fun t130 => (if t130.toList = a0.toList then (some (wrap64 (x4_5 * (wrap64 ((wrap64 ((wrap64 (100 * t127)) + (10 * (((bt x5_5 (ji35)) - 48) % 256)))) + (((bt x5_5 (wrap64 ((x5_5.size : Int) - 1))) - 48) % 256)))), true)) else (some (0, false)))) else (some (0, false)))) else (none)) else (none)) else (none)) else (none)) = some (r1, r2) := by first | (rw [hji35] at H; exact H) | (simp only [hji35] at H ⊢; exact H)
             have hji35w : (IntKind.i64.wrap ((x5_5.size : Int) - 2)) = ji35 := (i64_w _).trans hji35
             by_cases c36 : 0 ≤ (ji35)
             ·rw [if_pos c36] at H
              have c36b0 : decide (0 ≤ (ji35)) = true := decide_eq_true c36
              clear c36
              by_cases c37 : (ji35) < (x5_5.size : Int)
              ·rw [if_pos c37] at H
               have c37b0 : decide ((ji35) < (x5_5.size : Int)) = true := decide_eq_true c37
               clear c37
               obtain ⟨ji39, hji39⟩ : ∃ j_ : Int, (wrap64 ((x5_5.size : Int) - 1)) = j_ := ⟨_, rfl⟩
               replace H : (if 0 ≤ (ji39) then (if (ji39) < (x5_5.size : Int) then ((spec_l02Told.f (wrap64 (x4_5 * (wrap64 ((wrap64 ((wrap64 (100 * t127)) + (10 * (((bt x5_5 (ji35)) - 48) % 256)))) + (((bt x5_5 (ji39)) - 48) % 256)))))).bind fun t129 => (if t129 = true then ((spec_l02Text.f kj31 (wrap64 (x4_5 * (wrap64 ((wrap64 ((wrap64 (100 * t127)) + (10 * (((bt x5_5 (ji35)) - 48) % 256)))) + (((bt x5_5 (ji39)) - 48) % 256)))))).bind fun t130 => (if t130.toList = a0.toList then (some (wrap64 (x4_5 * (wrap64 ((wrap64 ((wrap64 (100 * t127)) + (10 * (((bt x5_5 (ji35)) - 48) % 256)))) + (((bt x5_5 (ji39)) - 48) % 256)))), true)) else (some (0, false)))) else (some (0, false)))) else (none)) else (none)) = some (r1, r2) := by first | (rw [hji39] at H; exact H) | (simp only [hji39] at H ⊢; exact H)
               have hji39w : (IntKind.i64.wrap ((x5_5.size : Int) - 1)) = ji39 := (i64_w _).trans hji39
               by_cases c40 : 0 ≤ (ji39)
               ·rw [if_pos c40] at H
                have c40b0 : decide (0 ≤ (ji39)) = true := decide_eq_true c40
                clear c40
                by_cases c41 : (ji39) < (x5_5.size : Int)
                ·rw [if_pos c41] at H
                 have c41b0 : decide ((ji39) < (x5_5.size : Int)) = true := decide_eq_true c41
                 clear c41
                 replace H := Option.bind_eq_some_iff.mp H
                 obtain ⟨t129, A430, H⟩ := H
                 replace H : (if t129 = true then ((spec_l02Text.f kj31 (wrap64 (x4_5 * (wrap64 ((wrap64 ((wrap64 (100 * t127)) + (10 * (((bt x5_5 (ji35)) - 48) % 256)))) + (((bt x5_5 (ji39)) - 48) % 256)))))).bind fun t130 => (if t130.toList = a0.toList then (some (wrap64 (x4_5 * (wrap64 ((wrap64 ((wrap64 (100 * t127)) + (10 * (((bt x5_5 (ji35)) - 48) % 256)))) + (((bt x5_5 (ji39)) - 48) % 256)))), true)) else (some (0, false)))) else (some (0, false))) = some (r1, r2) := H
                 have A43 := Aside0.mk A430
                 clear A430
                 by_cases c44 : t129 = true
                 ·subst c44
                  have H1 : ((spec_l02Text.f kj31 (wrap64 (x4_5 * (wrap64 ((wrap64 ((wrap64 (100 * t127)) + (10 * (((bt x5_5 (ji35)) - 48) % 256)))) + (((bt x5_5 (ji39)) - 48) % 256)))))).bind fun t130 => (if t130.toList = a0.toList then (some (wrap64 (x4_5 * (wrap64 ((wrap64 ((wrap64 (100 * t127)) + (10 * (((bt x5_5 (ji35)) - 48) % 256)))) + (((bt x5_5 (ji39)) - 48) % 256)))), true)) else (some (0, false)))) = some (r1, r2) := by rw [if_pos rfl] at H; exact H
                  clear H
                  have H := H1
                  clear H1
                  replace H := Option.bind_eq_some_iff.mp H
                  obtain ⟨t130, A450, H⟩ := H
                  replace H : (if t130.toList = a0.toList then (some (wrap64 (x4_5 * (wrap64 ((wrap64 ((wrap64 (100 * t127)) + (10 * (((bt x5_5 (ji35)) - 48) % 256)))) + (((bt x5_5 (ji39)) - 48) % 256)))), true)) else (some (0, false))) = some (r1, r2) := H
                  have A45 := Aside0.mk A450
                  clear A450
                  by_cases c46 : t130.toList = a0.toList
                  ·rw [if_pos c46] at H
                   have c46b0 : (t130.toList == a0.toList) = true := beq_iff_eq.mpr c46
                   have c46b1 : (t130.toList != a0.toList) = false := bne_eq_false_iff_eq.mpr c46
                   clear c46
                   simp only [Option.some.injEq, Prod.mk.injEq] at H
                   obtain ⟨rfl, rfl⟩ := H
                   have p38 : 0 ≤ ((ji35) : Int) := of_decide_eq_true (by first | (with_reducible assumption) | assumption)
                   have q38 : (ji35) < (x5_5.size : Int) := of_decide_eq_true (by first | (with_reducible assumption) | assumption)
                   have hx38 := bt_at x5_5 (ji35)
                   replace p38 := eq_true p38
                   replace q38 := eq_true q38
                   have p42 : 0 ≤ ((ji39) : Int) := of_decide_eq_true (by first | (with_reducible assumption) | assumption)
                   have q42 : (ji39) < (x5_5.size : Int) := of_decide_eq_true (by first | (with_reducible assumption) | assumption)
                   have hx42 := bt_at x5_5 (ji39)
                   replace p42 := eq_true p42
                   replace q42 := eq_true q42
                   iterate 2 ((try go_quiet (first | (go_at_call 51; (with_reducible refine (spec_l02Told.calls (wrap64 (x4_5 * (wrap64 ((wrap64 ((wrap64 (100 * t127)) + (10 * (((bt x5_5 (ji35)) - 48) % 256)))) + (((bt x5_5 (ji39)) - 48) % 256))))) true _ A43.out).mono ?_); rintro e w' ⟨rfl, ⟨nd, rfl⟩⟩; (try first | exact ⟨rfl, _, World.drewN_drewN _ _ _⟩ | exact ⟨rfl, _, Eq.trans (World.drewN_drewN _ _ _) (congrArg (World.drewN _) (Nat.add_assoc _ _ _))⟩)))); (try go_wp2_with (first | (go_at_call 51; (with_reducible refine (spec_l02Told.calls (wrap64 (x4_5 * (wrap64 ((wrap64 ((wrap64 (100 * t127)) + (10 * (((bt x5_5 (ji35)) - 48) % 256)))) + (((bt x5_5 (ji39)) - 48) % 256))))) true _ A43.out).mono ?_); rintro e w' ⟨rfl, ⟨nd, rfl⟩⟩; (try first | exact ⟨rfl, _, World.drewN_drewN _ _ _⟩ | exact ⟨rfl, _, Eq.trans (World.drewN_drewN _ _ _) (congrArg (World.drewN _) (Nat.add_assoc _ _ _))⟩)) | (go_at_call 52; (with_reducible refine (spec_l02Text.calls kj31 (wrap64 (x4_5 * (wrap64 ((wrap64 ((wrap64 (100 * t127)) + (10 * (((bt x5_5 (ji35)) - 48) % 256)))) + (((bt x5_5 (ji39)) - 48) % 256))))) t130 _ A45.out).mono ?_); rintro e w47 ⟨rfl, hb⟩; have n0_ := Aside0.mk (below_step (by repeat (first | (with_reducible first | exact HB.out|apply wA|apply wN|apply wD) | exact HB.out)) hb); clear HB; have HB := n0_; clear n0_; (try clear hb); (try clear hb2); (try clear hk); (try clear hi)))))
                   go_ret2
                   exact ⟨by first | rfl | (simp [errW_none, errW_some] <;> rfl) | (simp only [← hji28, ← hji35, ← hji39]; first | rfl | (simp [errW_none, errW_some] <;> rfl)) | (simp [*, errW_none, errW_some] <;> rfl), by repeat (first | (with_reducible first | exact HB.out|apply wA|apply wN|apply wD) | exact HB.out)⟩
                  ·rw [if_neg c46] at H
                   have c46b0 : (t130.toList == a0.toList) = false := beq_eq_false_iff_ne.mpr c46
                   have c46b1 : (t130.toList != a0.toList) = true := bne_iff_ne.mpr c46
                   simp only [Option.some.injEq, Prod.mk.injEq] at H
                   obtain ⟨rfl, rfl⟩ := H
                   have p38 : 0 ≤ ((ji35) : Int) := of_decide_eq_true (by first | (with_reducible assumption) | assumption)
                   have q38 : (ji35) < (x5_5.size : Int) := of_decide_eq_true (by first | (with_reducible assumption) | assumption)
                   have hx38 := bt_at x5_5 (ji35)
                   replace p38 := eq_true p38
                   replace q38 := eq_true q38
                   have p42 : 0 ≤ ((ji39) : Int) := of_decide_eq_true (by first | (with_reducible assumption) | assumption)
                   have q42 : (ji39) < (x5_5.size : Int) := of_decide_eq_true (by first | (with_reducible assumption) | assumption)
                   have hx42 := bt_at x5_5 (ji39)
                   replace p42 := eq_true p42
                   replace q42 := eq_true q42
                   iterate 2 ((try go_quiet (first | (go_at_call 51; (with_reducible refine (spec_l02Told.calls (wrap64 (x4_5 * (wrap64 ((wrap64 ((wrap64 (100 * t127)) + (10 * (((bt x5_5 (ji35)) - 48) % 256)))) + (((bt x5_5 (ji39)) - 48) % 256))))) true _ A43.out).mono ?_); rintro e w' ⟨rfl, ⟨nd, rfl⟩⟩; (try first | exact ⟨rfl, _, World.drewN_drewN _ _ _⟩ | exact ⟨rfl, _, Eq.trans (World.drewN_drewN _ _ _) (congrArg (World.drewN _) (Nat.add_assoc _ _ _))⟩)))); (try go_wp2_with (first | (go_at_call 51; (with_reducible refine (spec_l02Told.calls (wrap64 (x4_5 * (wrap64 ((wrap64 ((wrap64 (100 * t127)) + (10 * (((bt x5_5 (ji35)) - 48) % 256)))) + (((bt x5_5 (ji39)) - 48) % 256))))) true _ A43.out).mono ?_); rintro e w' ⟨rfl, ⟨nd, rfl⟩⟩; (try first | exact ⟨rfl, _, World.drewN_drewN _ _ _⟩ | exact ⟨rfl, _, Eq.trans (World.drewN_drewN _ _ _) (congrArg (World.drewN _) (Nat.add_assoc _ _ _))⟩)) | (go_at_call 52; (with_reducible refine (spec_l02Text.calls kj31 (wrap64 (x4_5 * (wrap64 ((wrap64 ((wrap64 (100 * t127)) + (10 * (((bt x5_5 (ji35)) - 48) % 256)))) + (((bt x5_5 (ji39)) - 48) % 256))))) t130 _ A45.out).mono ?_); rintro e w48 ⟨rfl, hb⟩; have n0_ := Aside0.mk (below_step (by repeat (first | (with_reducible first | exact HB.out|apply wA|apply wN|apply wD) | exact HB.out)) hb); clear HB; have HB := n0_; clear n0_; (try clear hb); (try clear hb2); (try clear hk); (try clear hi)))))
                   go_ret2
                   exact ⟨by first | rfl | (simp [errW_none, errW_some] <;> rfl) | (simp only [← hji28, ← hji35, ← hji39]; first | rfl | (simp [errW_none, errW_some] <;> rfl)) | (simp [*, errW_none, errW_some] <;> rfl), by repeat (first | (with_reducible first | exact HB.out|apply wA|apply wN|apply wD) | exact HB.out)⟩
                 ·replace c44 := Bool.eq_false_iff.mpr c44
                  subst c44
                  have H1 : (some (0, false)) = some (r1, r2) := by rw [if_neg (show ¬ (false = true) by decide)] at H; exact H
                  clear H
                  have H := H1
                  clear H1
                  simp only [Option.some.injEq, Prod.mk.injEq] at H
                  obtain ⟨rfl, rfl⟩ := H
                  have p38 : 0 ≤ ((ji35) : Int) := of_decide_eq_true (by first | (with_reducible assumption) | assumption)
                  have q38 : (ji35) < (x5_5.size : Int) := of_decide_eq_true (by first | (with_reducible assumption) | assumption)
                  have hx38 := bt_at x5_5 (ji35)
                  replace p38 := eq_true p38
                  replace q38 := eq_true q38
                  have p42 : 0 ≤ ((ji39) : Int) := of_decide_eq_true (by first | (with_reducible assumption) | assumption)
                  have q42 : (ji39) < (x5_5.size : Int) := of_decide_eq_true (by first | (with_reducible assumption) | assumption)
                  have hx42 := bt_at x5_5 (ji39)
                  replace p42 := eq_true p42
                  replace q42 := eq_true q42
                  iterate 2 ((try go_quiet (first | (go_at_call 51; (with_reducible refine (spec_l02Told.calls (wrap64 (x4_5 * (wrap64 ((wrap64 ((wrap64 (100 * t127)) + (10 * (((bt x5_5 (ji35)) - 48) % 256)))) + (((bt x5_5 (ji39)) - 48) % 256))))) false _ A43.out).mono ?_); rintro e w' ⟨rfl, ⟨nd, rfl⟩⟩; (try first | exact ⟨rfl, _, World.drewN_drewN _ _ _⟩ | exact ⟨rfl, _, Eq.trans (World.drewN_drewN _ _ _) (congrArg (World.drewN _) (Nat.add_assoc _ _ _))⟩)))); (try go_wp2_with (first | (go_at_call 51; (with_reducible refine (spec_l02Told.calls (wrap64 (x4_5 * (wrap64 ((wrap64 ((wrap64 (100 * t127)) + (10 * (((bt x5_5 (ji35)) - 48) % 256)))) + (((bt x5_5 (ji39)) - 48) % 256))))) false _ A43.out).mono ?_); rintro e w' ⟨rfl, ⟨nd, rfl⟩⟩; (try first | exact ⟨rfl, _, World.drewN_drewN _ _ _⟩ | exact ⟨rfl, _, Eq.trans (World.drewN_drewN _ _ _) (congrArg (World.drewN _) (Nat.add_assoc _ _ _))⟩)))))
                  go_ret2
                  exact ⟨by first | rfl | (simp [errW_none, errW_some] <;> rfl) | (simp only [← hji28, ← hji35, ← hji39]; first | rfl | (simp [errW_none, errW_some] <;> rfl)) | (simp [*, errW_none, errW_some] <;> rfl), by repeat (first | (with_reducible first | exact HB.out|apply wA|apply wN|apply wD) | exact HB.out)⟩
                ·rw [if_neg c41] at H
                 exact absurd H (by simp)
               ·rw [if_neg c40] at H
                exact absurd H (by simp)
              ·rw [if_neg c37] at H
               exact absurd H (by simp)
             ·rw [if_neg c36] at H
              exact absurd H (by simp)
         ·rw [if_neg c30] at H
          exact absurd H (by simp)
        ·rw [if_neg c29] at H
         exact absurd H (by simp)


/-! ### impl_ReadDecimal: function 16 -/
open Go.Proofs.YtabgkdejpkpejaaDoorM
/-- A numeral that ParseInt takes, or none. -/
def parsed (s : ByteArray) : Option Int := match Lib.parseIntB 64 s.data.toList with | .ok v => some v | _ => none
theorem parsed_ok {s : ByteArray} {v : Int} (hs : s.size ≤ 281474976710656) (h : parsed s = some v) (w : World) :
    Calls Tryd.prog 49 #[.string s, .int .i64 10, .int .i64 64] w fun e w' => e = .returned (.tuple #[.int .i64 v, .nilIface]) ∧ Below w.heap.size w w' := by
  unfold parsed at h
  split at h
  · rename_i v' hv
    obtain rfl := Option.some.inj h
    refine (Tryd.strconv_ParseInt_10_at64_ok s (by omega) v' hv w).mono ?_
    rintro e w' ⟨he, rfl | ⟨t, rfl⟩⟩
    · exact ⟨he, Below.refl _ _⟩
    · exact ⟨he, Lib.bytesWorld_below _ _ _⟩
  · exact absurd h (by simp)
theorem parsed_not {s : ByteArray} (hs : s.size ≤ 281474976710656) (h : parsed s = none) (w : World) (ht : Tabs true true true w) :
    Calls Tryd.prog 49 #[.string s, .int .i64 10, .int .i64 64] w fun e w' => ∃ n t p, e = .returned (.tuple #[.int .i64 n, .iface t p]) ∧ Below w.heap.size w w' := by
  obtain ⟨t1, p1, t2, p2, h1, h2⟩ := ht.err rfl
  unfold parsed at h
  cases hp : Lib.parseIntB 64 s.data.toList with
  | ok v => rw [hp] at h; simp at h
  | range =>
    refine (Tryd.strconv_ParseInt_10_at64_range_var s hs hp t2 p2 w h2).mono ?_
    rintro e w' ⟨N, he, _, _, hb⟩
    exact ⟨_, _, _, he, hb⟩
  | _ =>
    refine (Any.strconv_ParseInt_10_at64_syntax_var Tryd.laysC174 s hs hp t1 p1 w h1).mono ?_
    rintro e w' ⟨N, he, _, _, hb⟩
    exact ⟨_, _, _, he, hb⟩
set_option maxHeartbeats 8000000 in
set_option maxRecDepth 100000 in
theorem decimal_calls (v : Int) (h0 : -9223372036854775808 ≤ v) (h1 : v ≤ 9223372036854775807) (w : World) (ht : Tabs true true true w) :
    Calls Tryd.prog 14 #[.int .i64 v] w fun e w' => e = .returned (.string ⟨(Lib.itoa v).toArray⟩) ∧ Below w.heap.size w w' := by
  go_enter Tryd.func14, Tryd.ntmps14
  go_wp2_with (fail)
  refine (Tryd.strconv_FormatInt_10 v h0 h1 _ (ht.pow rfl)).mono ?_
  rintro e w3 ⟨rfl, k, os, rfl⟩
  go_wp2_with (fail)
  go_ret
  exact ⟨rfl, below_grow _ _ _⟩
def impl_ReadDecimal.f (a0 : ByteArray) : Option (Int × Bool) := if a0.size ≤ 281474976710656 then some (match parsed a0 with | none => (0, false) | some v => if 18 < (Lib.trimPrefix a0.data.toList [45]).length then (0, false) else if Lib.itoa v = a0.data.toList then (v, true) else (0, false)) else none
theorem parsed_range {s : ByteArray} {v : Int} (h : parsed s = some v) : -9223372036854775808 ≤ v ∧ v ≤ 9223372036854775807 := by
  unfold parsed at h
  split at h
  · rename_i v' hv
    obtain rfl := Option.some.inj h
    have := Lib.parseIntB_bounds hv
    have e : (2 : Nat) ^ (64 - 1) = 9223372036854775808 := by decide
    rw [e] at this
    omega
  · exact absurd h (by simp)
set_option maxHeartbeats 8000000 in
set_option maxRecDepth 100000 in
theorem impl_ReadDecimal.calls (a0 : ByteArray) (r1 : Int) (r2 : Bool) (w : World) (ht : Tabs true true true w) (h : impl_ReadDecimal.f a0 = some (r1, r2)) :
    Calls Tryd.prog 16 #[.string a0] w fun e w' => e = .returned (.tuple #[.int .i64 r1, .bool r2]) ∧ Below w.heap.size w w' := by
  unfold impl_ReadDecimal.f at h
  split at h
  case isFalse => exact absurd h (by simp)
  rename_i hs
  have H := Option.some.inj h
  clear h
  have t45 : (⟨#[45]⟩ : ByteArray).data.toList = [45] := rfl
  cases hp : parsed a0 with
  | none =>
    rw [hp] at H
    obtain ⟨rfl, rfl⟩ := Prod.mk.inj H
    go_enter Tryd.func16, Tryd.ntmps16
    go_wp2_with (fail)
    refine (parsed_not hs hp _ ht).mono ?_
    rintro e w1 ⟨n, t, p, rfl, hb1⟩
    go_wp2_with (fail)
    go_ret2
    exact ⟨rfl, hb1⟩
  | some v =>
    rw [hp] at H
    have hv := parsed_range hp
    simp only [] at H
    go_enter Tryd.func16, Tryd.ntmps16
    go_wp2_with (fail)
    refine (parsed_ok hs hp _).mono ?_
    rintro e w1 ⟨rfl, hb1⟩
    go_wp2_with (fail)
    refine (Tryd.strings_TrimPrefix a0 _ _).mono ?_
    rintro e w2 ⟨rfl, rfl⟩
    rw [show (⟨#[45]⟩ : ByteArray).data.toList = [45] from rfl]
    generalize hT : Lib.trimPrefix a0.data.toList [45] = T at H ⊢
    have hsz : (⟨T.toArray⟩ : ByteArray).size = T.length := by simp [ByteArray.size]
    by_cases c1 : 18 < T.length
    · rw [if_pos c1] at H
      obtain ⟨rfl, rfl⟩ := Prod.mk.inj H
      have g1 : decide ((18 : Int) < ((⟨T.toArray⟩ : ByteArray).size : Int)) = true := by rw [hsz]; simp; omega
      go_wp2_with (fail)
      go_ret2
      exact ⟨rfl, hb1⟩
    · rw [if_neg c1] at H
      have g1 : decide ((18 : Int) < ((⟨T.toArray⟩ : ByteArray).size : Int)) = false := by rw [hsz]; simp; omega
      go_wp2_with (fail)
      refine (decimal_calls v hv.1 hv.2 _ (ht.now hb1)).mono ?_
      rintro e w3 ⟨rfl, hb3⟩
      by_cases c2 : Lib.itoa v = a0.data.toList
      · rw [if_pos c2] at H
        obtain ⟨rfl, rfl⟩ := Prod.mk.inj H
        go_wp2_with (fail)
        go_ret2
        exact ⟨rfl, below_step hb1 hb3⟩
      · rw [if_neg c2] at H
        obtain ⟨rfl, rfl⟩ := Prod.mk.inj H
        have g2 : (Lib.itoa v == a0.toList) = false := by rw [beq_eq_false_iff_ne, ByteArray.toList_eq]; exact c2
        go_wp2_with (fail)
        go_ret2
        exact ⟨rfl, below_step hb1 hb3⟩


/-! ### strconv_FormatInt: function 47 -/
open Go.Proofs.YtabgkdejpkpejaaDoorM
def strconv_FormatInt.f (a0 a1 : Int) : Option ByteArray := if a1 = 10 ∧ -9223372036854775808 ≤ a0 ∧ a0 ≤ 9223372036854775807 then some ⟨(Lib.itoa a0).toArray⟩ else none
theorem strconv_FormatInt.calls (a0 : Int) (a1 : Int) (r : ByteArray) (w : World) (ht : Tabs true true true w) (h : strconv_FormatInt.f a0 a1 = some r) :
    Calls Tryd.prog 47 #[.int .i64 a0, .int .i64 a1] w fun e w' => e = .returned (.string r) ∧ Below w.heap.size w w' := by
  unfold strconv_FormatInt.f at h
  split at h
  case isFalse => exact absurd h (by simp)
  rename_i hc
  obtain rfl := Option.some.inj h
  obtain ⟨rfl, h0, h1⟩ := hc
  refine (Tryd.strconv_FormatInt_10 a0 h0 h1 w (ht.pow rfl)).mono ?_
  rintro e w' ⟨he, k, os, rfl⟩
  exact ⟨he, below_grow w k os⟩

end Go.Proofs.YtabgkdejpkpejaaDoor.PFnExactReadDegrees
