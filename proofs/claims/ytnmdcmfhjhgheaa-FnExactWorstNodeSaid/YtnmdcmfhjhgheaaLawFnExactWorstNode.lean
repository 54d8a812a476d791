/- The row of the law FnExactWorstNode: the arguments are opened, the pure statement and the walk are put together. Written by a program of this session (wip/rowlib.py). No condition. -/
import Derived.Test.YtnmdcmfhjhgheaaRows
import Derived.Test.YtnmdcmfhjhgheaaPFnExactWorstNodex19
import Derived.Test.YtnmdcmfhjhgheaaPureFnExactWorstNode
import Derived.Test.YtnmdcmfhjhgheaaMathO
import Derived.WalkKit
import Derived.ProofKit
import Derived.OpenShut
import Derived.ShutString
import Derived.ChangeOld
import Derived.Below
import Derived.SizedLaws
namespace Go.Proofs.Ytnmdcmfhjhgheaa.fnExactWorstNode
open Go.ChangeShapes Go.WideShapes Go.ChangeAt Go.RowKit Go.Deep Go.Proofs.YtnmdcmfhjhgheaaO Go.Proofs.Ytnmdcmfhjhgheaa.PFnExactWorstNode Go.Proofs.YtnmdcmfhjhgheaaW.PrintWords Go.Proofs.YtnmdcmfhjhgheaaW.PrintLast Go.Proofs.YtnmdcmfhjhgheaaW.PrintMore
open Go.ChangeMaps (open_string shut_string)
set_option linter.unusedVariables false
set_option linter.unusedSimpArgs false
theorem own : ownKnob Try.prog.godebug = none := by kernel_rfl
theorem laidOut : laidOutB Try.prog = true := by kernel_rfl
section
variable {H : Type} {enc : TypeId × Value → H} {w : World} {base : Nat} {held : Bool}
theorem dec68 (n : Nat) (cs : List Value) (y : DataW H × List MemPlace) (h : DataW.trod enc Try.prog w base (fun _ => true) held n 68 cs = some y) : ∃ p : S68, cs.length = (k68).sz ∧ (k68).K w p cs ∧ (p.f0.size ≤ 9223372036854775807 ∧ (Lit.int .i64 p.f1).wf = true ∧ (Lit.int .i64 p.f2).wf = true ∧ (Lit.int .i64 p.f3).wf = true ∧ (Lit.int .i64 p.f4).wf = true ∧ (Lit.int .i64 p.f5).wf = true) := by
  obtain ⟨hl, hf⟩ := trod_fields Try.underlying68 (by kernel_rfl) (by kernel_rfl) h
  obtain ⟨u0, y0, n0, e0, r0⟩ := hf 0 _ rfl
  obtain ⟨x0, g0, _, w0⟩ := DataW.trod_string Try.underlying9 r0
  simp only [List.cons.injEq, and_true] at g0
  subst g0
  obtain ⟨u1, y1, n1, e1, r1⟩ := hf 1 _ rfl
  obtain ⟨x1, g1, _, w1⟩ := DataW.trod_int Try.underlying2 r1
  simp only [List.cons.injEq, and_true] at g1
  subst g1
  obtain ⟨u2, y2, n2, e2, r2⟩ := hf 2 _ rfl
  obtain ⟨x2, g2, _, w2⟩ := DataW.trod_int Try.underlying2 r2
  simp only [List.cons.injEq, and_true] at g2
  subst g2
  obtain ⟨u3, y3, n3, e3, r3⟩ := hf 3 _ rfl
  obtain ⟨x3, g3, _, w3⟩ := DataW.trod_int Try.underlying2 r3
  simp only [List.cons.injEq, and_true] at g3
  subst g3
  obtain ⟨u4, y4, n4, e4, r4⟩ := hf 4 _ rfl
  obtain ⟨x4, g4, _, w4⟩ := DataW.trod_int Try.underlying2 r4
  simp only [List.cons.injEq, and_true] at g4
  subst g4
  obtain ⟨u5, y5, n5, e5, r5⟩ := hf 5 _ rfl
  obtain ⟨x5, g5, _, w5⟩ := DataW.trod_int Try.underlying2 r5
  simp only [List.cons.injEq, and_true] at g5
  subst g5
  have hc : cs = [.string x0, .int .i64 x1, .int .i64 x2, .int .i64 x3, .int .i64 x4, .int .i64 x5] := list_is hl (fun j u hj => by
    match j, hj with
    | 0, hj => simp only [List.getElem?_cons_zero, Option.some.injEq] at hj; subst hj; exact e0
    | 1, hj => simp only [List.getElem?_cons_succ, List.getElem?_cons_zero, Option.some.injEq] at hj; subst hj; exact e1
    | 2, hj => simp only [List.getElem?_cons_succ, List.getElem?_cons_zero, Option.some.injEq] at hj; subst hj; exact e2
    | 3, hj => simp only [List.getElem?_cons_succ, List.getElem?_cons_zero, Option.some.injEq] at hj; subst hj; exact e3
    | 4, hj => simp only [List.getElem?_cons_succ, List.getElem?_cons_zero, Option.some.injEq] at hj; subst hj; exact e4
    | 5, hj => simp only [List.getElem?_cons_succ, List.getElem?_cons_zero, Option.some.injEq] at hj; subst hj; exact e5
    | j + 6, hj => simp at hj)
  subst hc
  exact ⟨⟨x0, x1, x2, x3, x4, x5⟩, rfl, k68_mk w _, w0, w1, w2, w3, w4, w5⟩
end
set_option maxRecDepth 100000 in
theorem lifted (os : Os) (started : os.Started) (H : Type) (enc : TypeId × Value → H) :
    ReturnsInHanded {} Try.checked os 7 .any (Rows.fnExactWorstNodeSpec.pre6 enc Try.prog Try.f7 Rows.fnExactWorstNodeRow.domain false) (Rows.fnExactWorstNodeSpec.post enc Try.prog Try.f7 false true false false) := by
  refine returnsInHanded_of_change_sized (C := Try.checked) own started (by kernel_rfl) Try.func7
    (ChangeSpec.witness6 (enc := enc) (C := Try.checked) false ⟨#[], #[.agg #[.slice none 0 0, .slice none 0 0], .int .i64 0, .slice none 0 0, .int .i64 0], []⟩ 8 (by kernel_rfl) (by kernel_rfl) (by kernel_rfl) (by kernel_rfl)) ?_
  intro W base args ds gs before hval0 hW hcnd hsz0 _
  have hval : ∀ (j : Nat) t v, Try.f7.params[j]? = some t → args[j]? = some v → Value.okWide Try.prog W .any base t v := hval0
  have hW' := hW
  obtain ⟨p, q, hA0, hV, rfl, hfz, hnd⟩ := hW
  have hA : DataW.TrodAll enc Try.prog W 0 (fun _ => true) true Try.f7.params.toList args.toList ds p := hA0
  rw [Try.params7] at hA hval
  obtain ⟨v0, vs0, d0, ds0, p0, q0, hargs, rfl, rfl, h0, r0⟩ := trodAll_cons hA
  obtain ⟨v1, vs1, d1, ds1, p1, q1, rfl, rfl, rfl, h1, r1⟩ := trodAll_cons r0
  obtain ⟨v2, vs2, d2, ds2, p2, q2, rfl, rfl, rfl, h2, r2⟩ := trodAll_cons r1
  obtain ⟨v3, vs3, d3, ds3, p3, q3, rfl, rfl, rfl, h3, r3⟩ := trodAll_cons r2
  obtain ⟨rfl, rfl, rfl⟩ := trodAll_nil r3
  obtain rfl : args = #[v0, v1, v2, v3] := by cases args; simp_all
  obtain ⟨rfl, rfl⟩ := trodVars_none hV
  have k0 := h0
  have lt0 : ∀ x ∈ p0, x.block < W.heap.size := by obtain ⟨m, hm⟩ := k0; exact DataW.trod_lt m _ _ _ hm
  obtain ⟨cs0, ev0, hl0, hf0⟩ := open_agg Try.underlying25 (by kernel_rfl) (by kernel_rfl) (hval 0 25 v0 rfl rfl) h0
  obtain ⟨u0_0, y0_0, n0_0, e0_0, r0_0⟩ := hf0 0 _ rfl
  obtain ⟨A0_0, c0_0, l0_0, g0_0, hc0_0, hm0_0, hr0_0, hw0_0⟩ := open_nums Try.underlying22 Try.underlying2 (by kernel_rfl) (fun _ => rfl) r0_0
  subst g0_0
  obtain ⟨u0_1, y0_1, n0_1, e0_1, r0_1⟩ := hf0 1 _ rfl
  obtain ⟨A0_1, c0_1, l0_1, g0_1, hc0_1, hm0_1, hr0_1, hw0_1⟩ := open_rows k68 (fun p => p.f0.size ≤ 9223372036854775807 ∧ (Lit.int .i64 p.f1).wf = true ∧ (Lit.int .i64 p.f2).wf = true ∧ (Lit.int .i64 p.f3).wf = true ∧ (Lit.int .i64 p.f4).wf = true ∧ (Lit.int .i64 p.f5).wf = true) Try.underlying23 (by kernel_rfl) (fun _ => rfl) (dec68) r0_1
  subst g0_1
  have hcs0 : cs0 = [.slice A0_0 l0_0.length c0_0, .slice A0_1 l0_1.length c0_1] := list_is hl0 (fun j u hj => by
    match j, hj with
    | 0, hj => simp only [List.getElem?_cons_zero, Option.some.injEq] at hj; subst hj; exact e0_0
    | 1, hj => simp only [List.getElem?_cons_succ, List.getElem?_cons_zero, Option.some.injEq] at hj; subst hj; exact e0_1
    | j + 2, hj => simp at hj)
  subst hcs0
  subst ev0
  have k1 := h1
  have lt1 : ∀ x ∈ p1, x.block < W.heap.size := by obtain ⟨m, hm⟩ := k1; exact DataW.trod_lt m _ _ _ hm
  obtain ⟨a1, rfl, _, _, w1⟩ := open_int Try.underlying2 (hval 1 2 v1 rfl rfl) h1
  have k2 := h2
  have lt2 : ∀ x ∈ p2, x.block < W.heap.size := by obtain ⟨m, hm⟩ := k2; exact DataW.trod_lt m _ _ _ hm
  obtain ⟨b2, len2, cap2, rfl⟩ := okWide_slice Try.underlying22 (hval 2 22 v2 rfl rfl)
  obtain ⟨fu2, hf2⟩ := h2
  have hg2 : DataW.trod enc Try.prog W 0 (fun _ => true) true fu2 22 [.slice b2 len2 cap2] = some (d2, p2) := hf2
  obtain ⟨A2, c2, l2, g2, hc2, hm2, hr2, hw2⟩ := open_nums Try.underlying22 Try.underlying2 (by kernel_rfl) (fun _ => rfl) hg2
  simp only [Value.slice.injEq] at g2
  obtain ⟨rfl, rfl, rfl⟩ := g2
  have k3 := h3
  have lt3 : ∀ x ∈ p3, x.block < W.heap.size := by obtain ⟨m, hm⟩ := k3; exact DataW.trod_lt m _ _ _ hm
  obtain ⟨a3, rfl, _, _, w3⟩ := open_int Try.underlying2 (hval 3 2 v3 rfl rfl) h3
  clear hA0 hval0 hsz0
  obtain ⟨k, h⟩ := Pure.FnExactWorstNode l0_0 l0_1 a1 l2 a3 hm0_0 hw0_0 hm0_1 hw0_1 w1 hm2 hw2 w3
  refine (PFnExactWorstNode.X3.calls k A0_0 c0_0 l0_0 A0_1 c0_1 l0_1 a1 _ _ l2 a3 true W hr0_0 hc0_0 hr0_1 hc0_1 hr2 hc2 h).mono fun e W' ⟨he, bel0⟩ => ?_
  have bel : Below W.heap.size W W' := bel0
  subst he
  exact ⟨_, rfl, _, _, _, [], _, [], hW', trodAll_mk1 (shut_bool Try.underlying4 _), (trodAll_cons_mk (Below.trod laidOut (by kernel_rfl) (of_decide_eq_true (by kernel_rfl)) k0 bel lt0) (trodAll_cons_mk (Below.trod laidOut (by kernel_rfl) (of_decide_eq_true (by kernel_rfl)) k1 bel lt1) (trodAll_cons_mk (Below.trod laidOut (by kernel_rfl) (of_decide_eq_true (by kernel_rfl)) k2 bel lt2) (trodAll_cons_mk (Below.trod laidOut (by kernel_rfl) (of_decide_eq_true (by kernel_rfl)) k3 bel lt3) trodAll_mk0)))), rfl, bel.frame _, fun h => by cases h⟩
theorem over : Rows.fnExactWorstNodeRow.holds Try.pinned (OpenSpec.ofChange Rows.fnExactWorstNodeSpec) :=
  OpenClaim.holds_of_wide 7 Try.f7 rfl rfl rfl rfl rfl rfl rfl ⟨rfl, rfl, rfl, rfl, rfl⟩ rfl rfl rfl rfl rfl (by kernel_rfl) Try.func7 (by kernel_rfl)
    (of_decide_eq_true (by kernel_rfl)) (by unfold Func.isWrapper; first | (rw [if_pos (by decide +kernel)]; kernel_rfl) | (rw [if_neg (by decide +kernel)]; exact ⟨rfl, rfl⟩))
    (fun os started H enc _ => lifted os started H enc)
theorem proved : Rows.FnExactWorstNodeSaid := over
#print axioms proved
end Go.Proofs.Ytnmdcmfhjhgheaa.fnExactWorstNode
namespace Go.Proofs.Ytnmdcmfhjhgheaa
/-- The row, under a short name, for the claim. -/
theorem fnExactWorstNode_holds : Rows.FnExactWorstNodeSaid := fnExactWorstNode.proved
end Go.Proofs.Ytnmdcmfhjhgheaa
