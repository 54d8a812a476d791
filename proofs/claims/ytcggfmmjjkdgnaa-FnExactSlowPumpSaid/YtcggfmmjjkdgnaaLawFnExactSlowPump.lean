/- The row of the law FnExactSlowPump: the arguments are opened, the pure statement and the walk are put together. Written by a program of this session (wip/rowlib.py). No condition. -/
import Derived.Test.YtcggfmmjjkdgnaaRows
import Derived.Test.YtcggfmmjjkdgnaaPFnExactSlowPumpx8
import Derived.Test.YtcggfmmjjkdgnaaPureFnExactSlowPump
import Derived.Test.YtcggfmmjjkdgnaaMathO
import Derived.WalkKit
import Derived.ProofKit
import Derived.OpenShut
import Derived.ShutString
import Derived.ChangeOld
import Derived.Below
import Derived.SizedLaws
namespace Go.Proofs.Ytcggfmmjjkdgnaa.fnExactSlowPump
open Go.ChangeShapes Go.WideShapes Go.ChangeAt Go.RowKit Go.Deep Go.Proofs.YtcggfmmjjkdgnaaO Go.Proofs.Ytcggfmmjjkdgnaa.PFnExactSlowPump Go.Proofs.YtcggfmmjjkdgnaaW.PrintWords Go.Proofs.YtcggfmmjjkdgnaaW.PrintLast Go.Proofs.YtcggfmmjjkdgnaaW.PrintMore
open Go.ChangeMaps (open_string shut_string)
set_option linter.unusedVariables false
set_option linter.unusedSimpArgs false
theorem own : ownKnob Try.prog.godebug = none := by kernel_rfl
theorem laidOut : laidOutB Try.prog = true := by kernel_rfl
section
variable {H : Type} {enc : TypeId × Value → H} {w : World} {base : Nat} {held : Bool}
end
set_option maxRecDepth 100000 in
theorem lifted (os : Os) (started : os.Started) (H : Type) (enc : TypeId × Value → H) :
    ReturnsInHanded {} Try.checked os 3 .any (Rows.fnExactSlowPumpSpec.pre6 enc Try.prog Try.f3 Rows.fnExactSlowPumpRow.domain false) (Rows.fnExactSlowPumpSpec.post enc Try.prog Try.f3 false true false false) := by
  refine returnsInHanded_of_change_sized (C := Try.checked) own started (by kernel_rfl) Try.func3
    (ChangeSpec.witness6 (enc := enc) (C := Try.checked) false ⟨#[], #[.agg #[.string ByteArray.empty, .slice none 0 0], .int .i64 0], []⟩ 8 (by kernel_rfl) (by kernel_rfl) (by kernel_rfl) (by kernel_rfl)) ?_
  intro W base args ds gs before hval0 hW hcnd hsz0 _
  have hval : ∀ (j : Nat) t v, Try.f3.params[j]? = some t → args[j]? = some v → Value.okWide Try.prog W .any base t v := hval0
  have hW' := hW
  obtain ⟨p, q, hA0, hV, rfl, hfz, hnd⟩ := hW
  have hA : DataW.TrodAll enc Try.prog W 0 (fun _ => true) true Try.f3.params.toList args.toList ds p := hA0
  rw [Try.params3] at hA hval
  obtain ⟨v0, vs0, d0, ds0, p0, q0, hargs, rfl, rfl, h0, r0⟩ := trodAll_cons hA
  obtain ⟨v1, vs1, d1, ds1, p1, q1, rfl, rfl, rfl, h1, r1⟩ := trodAll_cons r0
  obtain ⟨rfl, rfl, rfl⟩ := trodAll_nil r1
  obtain rfl : args = #[v0, v1] := by cases args; simp_all
  obtain ⟨rfl, rfl⟩ := trodVars_none hV
  have k0 := h0
  have lt0 : ∀ x ∈ p0, x.block < W.heap.size := by obtain ⟨m, hm⟩ := k0; exact DataW.trod_lt m _ _ _ hm
  obtain ⟨cs0, ev0, hl0, hf0⟩ := open_agg Try.underlying24 (by kernel_rfl) (by kernel_rfl) (hval 0 24 v0 rfl rfl) h0
  obtain ⟨u0_0, y0_0, n0_0, e0_0, r0_0⟩ := hf0 0 _ rfl
  obtain ⟨a0_0, g0_0, _, w0_0⟩ := DataW.trod_string Try.underlying9 r0_0
  simp only [List.cons.injEq, and_true] at g0_0
  subst g0_0
  obtain ⟨u0_1, y0_1, n0_1, e0_1, r0_1⟩ := hf0 1 _ rfl
  obtain ⟨A0_1, c0_1, l0_1, g0_1, hc0_1, hm0_1, hr0_1, hw0_1⟩ := open_rows (Kd.slice 2 (Kd.int .i64)) (fun p => p.length ≤ 9223372036854775807 ∧ (∀ q ∈ p, (Lit.int .i64 q).wf = true)) Try.underlying22 (by kernel_rfl) (fun _ => rfl) (fun _ _ _ h => dec_nums Try.underlying44 Try.underlying2 (by kernel_rfl) (fun _ => rfl) h) r0_1
  subst g0_1
  have hcs0 : cs0 = [.string a0_0, .slice A0_1 l0_1.length c0_1] := list_is hl0 (fun j u hj => by
    match j, hj with
    | 0, hj => simp only [List.getElem?_cons_zero, Option.some.injEq] at hj; subst hj; exact e0_0
    | 1, hj => simp only [List.getElem?_cons_succ, List.getElem?_cons_zero, Option.some.injEq] at hj; subst hj; exact e0_1
    | j + 2, hj => simp at hj)
  subst hcs0
  subst ev0
  have k1 := h1
  have lt1 : ∀ x ∈ p1, x.block < W.heap.size := by obtain ⟨m, hm⟩ := k1; exact DataW.trod_lt m _ _ _ hm
  obtain ⟨a1, rfl, _, _, w1⟩ := open_int Try.underlying2 (hval 1 2 v1 rfl rfl) h1
  clear hA0 hval0 hsz0
  obtain ⟨k, h⟩ := Pure.FnExactSlowPump a0_0 l0_1 a1 w0_0 hm0_1 hw0_1 w1
  refine (PFnExactSlowPump.laws_FnExactSlowPump.calls k a0_0 A0_1 c0_1 l0_1 a1 true W hr0_1 hc0_1 h).mono fun e W' ⟨he, bel0⟩ => ?_
  have bel : Below W.heap.size W W' := bel0
  subst he
  exact ⟨_, rfl, _, _, _, [], _, [], hW', trodAll_mk1 (shut_bool Try.underlying4 _), (trodAll_cons_mk (Below.trod laidOut (by kernel_rfl) (of_decide_eq_true (by kernel_rfl)) k0 bel lt0) (trodAll_cons_mk (Below.trod laidOut (by kernel_rfl) (of_decide_eq_true (by kernel_rfl)) k1 bel lt1) trodAll_mk0)), rfl, bel.frame _, fun h => by cases h⟩
theorem over : Rows.fnExactSlowPumpRow.holds Try.pinned (OpenSpec.ofChange Rows.fnExactSlowPumpSpec) :=
  OpenClaim.holds_of_wide 3 Try.f3 rfl rfl rfl rfl rfl rfl rfl ⟨rfl, rfl, rfl, rfl, rfl⟩ rfl rfl rfl rfl rfl (by kernel_rfl) Try.func3 (by kernel_rfl)
    (of_decide_eq_true (by kernel_rfl)) (by unfold Func.isWrapper; first | (rw [if_pos (by decide +kernel)]; kernel_rfl) | (rw [if_neg (by decide +kernel)]; exact ⟨rfl, rfl⟩))
    (fun os started H enc _ => lifted os started H enc)
theorem proved : Rows.FnExactSlowPumpSaid := over
#print axioms proved
end Go.Proofs.Ytcggfmmjjkdgnaa.fnExactSlowPump
namespace Go.Proofs.Ytcggfmmjjkdgnaa
/-- The row, under a short name, for the claim. -/
theorem fnExactSlowPump_holds : Rows.FnExactSlowPumpSaid := fnExactSlowPump.proved
end Go.Proofs.Ytcggfmmjjkdgnaa
