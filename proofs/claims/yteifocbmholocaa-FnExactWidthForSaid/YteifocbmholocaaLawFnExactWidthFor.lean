/- The row of the law FnExactWidthFor: the arguments are opened, the pure statement and the walk are put together. Written by a program of this session (wip/rowlib.py). No condition. -/
import Derived.Test.YteifocbmholocaaRows
import Derived.Test.YteifocbmholocaaPFnExactWidthForx3
import Derived.Test.YteifocbmholocaaPureFnExactWidthFor
import Derived.Test.YteifocbmholocaaMathO
import Derived.WalkKit
import Derived.ProofKit
import Derived.OpenShut
import Derived.ShutString
import Derived.ChangeOld
import Derived.Below
import Derived.SizedLaws
namespace Go.Proofs.Yteifocbmholocaa.fnExactWidthFor
open Go.ChangeShapes Go.WideShapes Go.ChangeAt Go.RowKit Go.Deep Go.Proofs.YteifocbmholocaaO Go.Proofs.Yteifocbmholocaa.PFnExactWidthFor Go.Proofs.YteifocbmholocaaW.PrintWords Go.Proofs.YteifocbmholocaaW.PrintLast Go.Proofs.YteifocbmholocaaW.PrintMore
open Go.ChangeMaps (open_string shut_string)
set_option linter.unusedVariables false
set_option linter.unusedSimpArgs false
theorem own : ownKnob Try.prog.godebug = none := by kernel_rfl
theorem laidOut : laidOutB Try.prog = true := by kernel_rfl
section
variable {H : Type} {enc : TypeId × Value → H} {w : World} {base : Nat} {held : Bool}
end
set_option maxRecDepth 100000 in
theorem lifted (os : Os) (started : os.Started) (H : Type) (enc : TypeId × Value → H) :
    ReturnsInHanded {} Try.checked os 15 .any (Rows.fnExactWidthForSpec.pre6 enc Try.prog Try.f15 Rows.fnExactWidthForRow.domain false) (Rows.fnExactWidthForSpec.post enc Try.prog Try.f15 false true false false) := by
  refine returnsInHanded_of_change_sized (C := Try.checked) own started (by kernel_rfl) Try.func15
    (ChangeSpec.witness6 (enc := enc) (C := Try.checked) false ⟨#[], #[.agg #[.string ByteArray.empty, .int .i64 0, .int .i64 0, .int .i64 0, .int .i64 0, .int .i64 0], .int .i64 0, .int .i64 0], []⟩ 8 (by kernel_rfl) (by kernel_rfl) (by kernel_rfl) (by kernel_rfl)) ?_
  intro W base args ds gs before hval0 hW hcnd hsz0 _
  have hval : ∀ (j : Nat) t v, Try.f15.params[j]? = some t → args[j]? = some v → Value.okWide Try.prog W .any base t v := hval0
  have hW' := hW
  obtain ⟨p, q, hA0, hV, rfl, hfz, hnd⟩ := hW
  have hA : DataW.TrodAll enc Try.prog W 0 (fun _ => true) true Try.f15.params.toList args.toList ds p := hA0
  rw [Try.params15] at hA hval
  obtain ⟨v0, vs0, d0, ds0, p0, q0, hargs, rfl, rfl, h0, r0⟩ := trodAll_cons hA
  obtain ⟨v1, vs1, d1, ds1, p1, q1, rfl, rfl, rfl, h1, r1⟩ := trodAll_cons r0
  obtain ⟨v2, vs2, d2, ds2, p2, q2, rfl, rfl, rfl, h2, r2⟩ := trodAll_cons r1
  obtain ⟨rfl, rfl, rfl⟩ := trodAll_nil r2
  obtain rfl : args = #[v0, v1, v2] := by cases args; simp_all
  obtain ⟨rfl, rfl⟩ := trodVars_none hV
  have k0 := h0
  have lt0 : ∀ x ∈ p0, x.block < W.heap.size := by obtain ⟨m, hm⟩ := k0; exact DataW.trod_lt m _ _ _ hm
  obtain ⟨cs0, ev0, hl0, hf0⟩ := open_agg Try.underlying36 (by kernel_rfl) (by kernel_rfl) (hval 0 36 v0 rfl rfl) h0
  obtain ⟨u0_0, y0_0, n0_0, e0_0, r0_0⟩ := hf0 0 _ rfl
  obtain ⟨a0_0, g0_0, _, w0_0⟩ := DataW.trod_string Try.underlying9 r0_0
  simp only [List.cons.injEq, and_true] at g0_0
  subst g0_0
  obtain ⟨u0_1, y0_1, n0_1, e0_1, r0_1⟩ := hf0 1 _ rfl
  obtain ⟨a0_1, g0_1, _, w0_1⟩ := DataW.trod_int Try.underlying2 r0_1
  simp only [List.cons.injEq, and_true] at g0_1
  subst g0_1
  obtain ⟨u0_2, y0_2, n0_2, e0_2, r0_2⟩ := hf0 2 _ rfl
  obtain ⟨a0_2, g0_2, _, w0_2⟩ := DataW.trod_int Try.underlying2 r0_2
  simp only [List.cons.injEq, and_true] at g0_2
  subst g0_2
  obtain ⟨u0_3, y0_3, n0_3, e0_3, r0_3⟩ := hf0 3 _ rfl
  obtain ⟨a0_3, g0_3, _, w0_3⟩ := DataW.trod_int Try.underlying2 r0_3
  simp only [List.cons.injEq, and_true] at g0_3
  subst g0_3
  obtain ⟨u0_4, y0_4, n0_4, e0_4, r0_4⟩ := hf0 4 _ rfl
  obtain ⟨a0_4, g0_4, _, w0_4⟩ := DataW.trod_int Try.underlying2 r0_4
  simp only [List.cons.injEq, and_true] at g0_4
  subst g0_4
  obtain ⟨u0_5, y0_5, n0_5, e0_5, r0_5⟩ := hf0 5 _ rfl
  obtain ⟨a0_5, g0_5, _, w0_5⟩ := DataW.trod_int Try.underlying2 r0_5
  simp only [List.cons.injEq, and_true] at g0_5
  subst g0_5
  have hcs0 : cs0 = [.string a0_0, .int .i64 a0_1, .int .i64 a0_2, .int .i64 a0_3, .int .i64 a0_4, .int .i64 a0_5] := list_is hl0 (fun j u hj => by
    match j, hj with
    | 0, hj => simp only [List.getElem?_cons_zero, Option.some.injEq] at hj; subst hj; exact e0_0
    | 1, hj => simp only [List.getElem?_cons_succ, List.getElem?_cons_zero, Option.some.injEq] at hj; subst hj; exact e0_1
    | 2, hj => simp only [List.getElem?_cons_succ, List.getElem?_cons_zero, Option.some.injEq] at hj; subst hj; exact e0_2
    | 3, hj => simp only [List.getElem?_cons_succ, List.getElem?_cons_zero, Option.some.injEq] at hj; subst hj; exact e0_3
    | 4, hj => simp only [List.getElem?_cons_succ, List.getElem?_cons_zero, Option.some.injEq] at hj; subst hj; exact e0_4
    | 5, hj => simp only [List.getElem?_cons_succ, List.getElem?_cons_zero, Option.some.injEq] at hj; subst hj; exact e0_5
    | j + 6, hj => simp at hj)
  subst hcs0
  subst ev0
  have k1 := h1
  have lt1 : ∀ x ∈ p1, x.block < W.heap.size := by obtain ⟨m, hm⟩ := k1; exact DataW.trod_lt m _ _ _ hm
  obtain ⟨a1, rfl, _, _, w1⟩ := open_int Try.underlying2 (hval 1 2 v1 rfl rfl) h1
  have k2 := h2
  have lt2 : ∀ x ∈ p2, x.block < W.heap.size := by obtain ⟨m, hm⟩ := k2; exact DataW.trod_lt m _ _ _ hm
  obtain ⟨a2, rfl, _, _, w2⟩ := open_int Try.underlying2 (hval 2 2 v2 rfl rfl) h2
  clear hA0 hval0 hsz0
  have h := Pure.FnExactWidthFor a0_0 a0_1 a0_2 a0_3 a0_4 a0_5 a1 a2 w0_0 w0_1 w0_2 w0_3 w0_4 w0_5 w1 w2
  refine (PFnExactWidthFor.laws_FnExactWidthFor.calls a0_0 a0_1 a0_2 a0_3 a0_4 a0_5 a1 a2 true W  h).mono fun e W' ⟨he, bel0⟩ => ?_
  have bel : Below W.heap.size W W' := bel0
  subst he
  exact ⟨_, rfl, _, _, _, [], _, [], hW', trodAll_mk1 (shut_bool Try.underlying4 _), (trodAll_cons_mk (Below.trod laidOut (by kernel_rfl) (of_decide_eq_true (by kernel_rfl)) k0 bel lt0) (trodAll_cons_mk (Below.trod laidOut (by kernel_rfl) (of_decide_eq_true (by kernel_rfl)) k1 bel lt1) (trodAll_cons_mk (Below.trod laidOut (by kernel_rfl) (of_decide_eq_true (by kernel_rfl)) k2 bel lt2) trodAll_mk0))), rfl, bel.frame _, fun h => by cases h⟩
theorem over : Rows.fnExactWidthForRow.holds Try.pinned (OpenSpec.ofChange Rows.fnExactWidthForSpec) :=
  OpenClaim.holds_of_wide 15 Try.f15 rfl rfl rfl rfl rfl rfl rfl ⟨rfl, rfl, rfl, rfl, rfl⟩ rfl rfl rfl rfl rfl (by kernel_rfl) Try.func15 (by kernel_rfl)
    (of_decide_eq_true (by kernel_rfl)) (by unfold Func.isWrapper; first | (rw [if_pos (by decide +kernel)]; kernel_rfl) | (rw [if_neg (by decide +kernel)]; exact ⟨rfl, rfl⟩))
    (fun os started H enc _ => lifted os started H enc)
theorem proved : Rows.FnExactWidthForSaid := over
#print axioms proved
end Go.Proofs.Yteifocbmholocaa.fnExactWidthFor
namespace Go.Proofs.Yteifocbmholocaa
/-- The row, under a short name, for the claim. -/
theorem fnExactWidthFor_holds : Rows.FnExactWidthForSaid := fnExactWidthFor.proved
end Go.Proofs.Yteifocbmholocaa
