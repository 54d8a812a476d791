/- The row of the law FnExactNetworkText: the arguments are opened, the pure statement and the walk are put together. Written by a program of this session (wip/rowlib.py). No condition. -/
import Derived.Test.YtabgkdejpkpejaaDoorRows
import Derived.Test.YtabgkdejpkpejaaDoorPFnExactNetworkTextx8
import Derived.Test.YtabgkdejpkpejaaDoorPureFnExactNetworkText
import Derived.Test.YtabgkdejpkpejaaDoorMathO
import Derived.WalkKit
import Derived.ProofKit
import Derived.OpenShut
import Derived.ShutString
import Derived.ChangeOld
import Derived.Below
import Derived.SizedLaws
import Derived.LaidMore
import Derived.Lay
import Derived.Lib.LaidTab
import Derived.Stop.LaidErr
import Derived.MakeChecks
import Derived.SevenTiedAt
import Derived.Test.YtabgkdejpkpejaaDoorCards
import Derived.Test.YtabgkdejpkpejaaDoorTie
import Derived.Test.YtabgkdejpkpejaaDoorMathT
namespace Go.Proofs.YtabgkdejpkpejaaDoor.fnExactNetworkText
open Go.ChangeShapes Go.WideShapes Go.ChangeAt Go.RowKit Go.Deep Go.Proofs.YtabgkdejpkpejaaDoorO Go.Proofs.YtabgkdejpkpejaaDoor.PFnExactNetworkText Go.Proofs.YtabgkdejpkpejaaDoorW.PrintWords Go.Proofs.YtabgkdejpkpejaaDoorW.PrintLast Go.Proofs.YtabgkdejpkpejaaDoorW.PrintMore
open Go.ChangeMaps (open_string shut_string)
open Go.Proofs.YtabgkdejpkpejaaDoorM
set_option linter.unusedVariables false
set_option linter.unusedSimpArgs false
theorem own : ownKnob Tryd.prog.godebug = none := by kernel_rfl
theorem laidOut : laidOutB Tryd.prog = true := by kernel_rfl
section
variable {H : Type} {enc : TypeId × Value → H} {w : World} {base : Nat} {held : Bool}
theorem dec40 (n : Nat) (cs : List Value) (y : DataW H × List MemPlace) (h : DataW.trod enc Tryd.prog w base (fun _ => true) held n 40 cs = some y) : ∃ p : S40, cs.length = (k40).sz ∧ (k40).K w p cs ∧ (p.f0.size ≤ 9223372036854775807 ∧ (Lit.int .i64 p.f1).wf = true ∧ (Lit.int .i64 p.f2).wf = true ∧ (Lit.int .i64 p.f3).wf = true ∧ (Lit.int .i64 p.f4).wf = true ∧ (Lit.int .i64 p.f5).wf = true) := by
  obtain ⟨hl, hf⟩ := trod_fields Tryd.underlying40 (by kernel_rfl) (by kernel_rfl) h
  obtain ⟨u0, y0, n0, e0, r0⟩ := hf 0 _ rfl
  obtain ⟨x0, g0, _, w0⟩ := DataW.trod_string Tryd.underlying9 r0
  simp only [List.cons.injEq, and_true] at g0
  subst g0
  obtain ⟨u1, y1, n1, e1, r1⟩ := hf 1 _ rfl
  obtain ⟨x1, g1, _, w1⟩ := DataW.trod_int Tryd.underlying2 r1
  simp only [List.cons.injEq, and_true] at g1
  subst g1
  obtain ⟨u2, y2, n2, e2, r2⟩ := hf 2 _ rfl
  obtain ⟨x2, g2, _, w2⟩ := DataW.trod_int Tryd.underlying2 r2
  simp only [List.cons.injEq, and_true] at g2
  subst g2
  obtain ⟨u3, y3, n3, e3, r3⟩ := hf 3 _ rfl
  obtain ⟨x3, g3, _, w3⟩ := DataW.trod_int Tryd.underlying2 r3
  simp only [List.cons.injEq, and_true] at g3
  subst g3
  obtain ⟨u4, y4, n4, e4, r4⟩ := hf 4 _ rfl
  obtain ⟨x4, g4, _, w4⟩ := DataW.trod_int Tryd.underlying2 r4
  simp only [List.cons.injEq, and_true] at g4
  subst g4
  obtain ⟨u5, y5, n5, e5, r5⟩ := hf 5 _ rfl
  obtain ⟨x5, g5, _, w5⟩ := DataW.trod_int Tryd.underlying2 r5
  simp only [List.cons.injEq, and_true] at g5
  subst g5
  have hc : cs = [.string x0, .int .i64 x1, .int .i64 x2, .int .i64 x3, .int .i64 x4, .int .i64 x5] := list_is hl (fun j u hj => by
    match j, hj with
    | 0, hj => simp only [List.getElem?_cons_zero, Option.some.injEq] at hj; subst hj; exact e0
    | 1, hj => simp only [List.getElem?_cons_succ, List.getElem?_cons_zero, Option.some.injEq] at hj; subst hj; exact e1
    | 2, hj => simp only [List.getElem?_cons_succ, List.getElem?_cons_zero, Option.some.injEq] at hj; subst hj; exact e2
    | 3, hj => simp only [List.getElem?_cons_succ, List.getElem?_cons_zero, Option.some.injEq] at hj; subst hj; exact e3
    | 4, hj => simp only [List.getElem?_cons_succ, List.getElem?_cons_zero, Option.some.injEq] at hj; subst hj; exact e4
    | 5, hj => simp only [List.getElem?_cons_succ, List.getElem?_cons_zero, Option.some.injEq] at hj; subst hj; exact e5
    | j + 6, hj => simp at hj)
  subst hc
  exact ⟨⟨x0, x1, x2, x3, x4, x5⟩, rfl, k40_mk w _, w0, w1, w2, w3, w4, w5⟩
end
theorem door_met (os : Os) (args : Array Value) : laidMetH Tryd.prog Rows.fnExactNetworkTextRow.laid ((World.doorLaid Tryd.prog 72 os).forCall (fun _ _ => 0) ⟨#[], args, []⟩).memory :=
  laidMetH_of_parts3 (fuel := 8) (laidMet_of_run' 8 (by kernel_rfl) (by kernel_rfl)) (by kernel_rfl) (by kernel_rfl)
theorem tabs_of {W : World} (h : laidMetH Tryd.prog Rows.fnExactNetworkTextRow.laid W) (hsh : W.ShapedOpen Tryd.prog) : Tabs true false false W := by
  have h' : laidMet Tryd.prog Rows.fnExactNetworkTextRow.laid W := by rw [MakeChecks.laidMetH_plain _ _ _ (by kernel_rfl)] at h; exact h
  have hp : Lib.TabIs Tryd.prog W "internal/strconv.uint64pow10" .u64 Lib.pow10Tab :=
    Lib.tabIs_of_head (g := 0) (t := 135) (e := 115) (n := 20) (by kernel_rfl) (by kernel_rfl) (by kernel_rfl) (by kernel_rfl) (by kernel_rfl) (by kernel_rfl) (show laidMet Tryd.prog (("internal/strconv.uint64pow10", Lib.tabData .u64 Lib.pow10Tab) :: _) W from h'.tail.tail)
  exact ⟨fun _ => hp, fun h => by simp at h, fun h => by simp at h⟩
set_option maxRecDepth 100000 in
theorem lifted (os : Os) (started : os.Started) (H : Type) (enc : TypeId × Value → H) :
    ReturnsInHanded {} Tryd.checked os 12 .any (fun w args => (Rows.fnExactNetworkTextSpec.pre enc Tryd.prog Tryd.f12 [] false w args ∧ laidMetH Tryd.prog Rows.fnExactNetworkTextRow.laid w) ∧ sizedMet enc Tryd.prog Tryd.f12 (OpenSpec.ofChange Rows.fnExactNetworkTextSpec) false w args) (Rows.fnExactNetworkTextSpec.post enc Tryd.prog Tryd.f12 false true false false) := by
  refine returns_and_shaped (C := Tryd.checked) (X := (fun w _ => laidMetH Tryd.prog Rows.fnExactNetworkTextRow.laid w)) (fun _ _ _ hh h => h.of_heap hh) own started (by kernel_rfl) Tryd.func12
    (ChangeSpec.witness_shaped (enc := enc) (C := Tryd.checked) (os := os) (X := (fun w _ => laidMetH Tryd.prog Rows.fnExactNetworkTextRow.laid w)) false (World.doorLaid Tryd.prog 72 os) #[.agg #[.slice none 0 0, .slice none 0 0]] 8 rfl (World.shaped_of_RefB (by kernel_rfl) (by kernel_rfl)) (by kernel_rfl) (by kernel_rfl) (by kernel_rfl) (door_met os _)) ?_
  intro W base args ds gs before hval0 hW hcnd hsz0 hL hsh _
  have hval : ∀ (j : Nat) t v, Tryd.f12.params[j]? = some t → args[j]? = some v → Value.okWide Tryd.prog W .any base t v := hval0
  have hW' := hW
  obtain ⟨p, q, hA0, hV, rfl, hfz, hnd⟩ := hW
  have hA : DataW.TrodAll enc Tryd.prog W 0 (fun _ => true) true Tryd.f12.params.toList args.toList ds p := hA0
  rw [Tryd.params12] at hA hval
  obtain ⟨v0, vs0, d0, ds0, p0, q0, hargs, rfl, rfl, h0, r0⟩ := trodAll_cons hA
  obtain ⟨rfl, rfl, rfl⟩ := trodAll_nil r0
  obtain rfl : args = #[v0] := by cases args; simp_all
  obtain ⟨rfl, rfl⟩ := trodVars_none hV
  have k0 := h0
  have lt0 : ∀ x ∈ p0, x.block < W.heap.size := by obtain ⟨m, hm⟩ := k0; exact DataW.trod_lt m _ _ _ hm
  obtain ⟨cs0, ev0, hl0, hf0⟩ := open_agg Tryd.underlying51 (by kernel_rfl) (by kernel_rfl) (hval 0 51 v0 rfl rfl) h0
  obtain ⟨u0_0, y0_0, n0_0, e0_0, r0_0⟩ := hf0 0 _ rfl
  obtain ⟨A0_0, c0_0, l0_0, g0_0, hc0_0, hm0_0, hr0_0, hw0_0⟩ := open_nums Tryd.underlying31 Tryd.underlying2 (by kernel_rfl) (fun _ => rfl) r0_0
  subst g0_0
  obtain ⟨u0_1, y0_1, n0_1, e0_1, r0_1⟩ := hf0 1 _ rfl
  obtain ⟨A0_1, c0_1, l0_1, g0_1, hc0_1, hm0_1, hr0_1, hw0_1⟩ := open_rows k40 (fun p => p.f0.size ≤ 9223372036854775807 ∧ (Lit.int .i64 p.f1).wf = true ∧ (Lit.int .i64 p.f2).wf = true ∧ (Lit.int .i64 p.f3).wf = true ∧ (Lit.int .i64 p.f4).wf = true ∧ (Lit.int .i64 p.f5).wf = true) Tryd.underlying49 (by kernel_rfl) (fun _ => rfl) (dec40) r0_1
  subst g0_1
  have hcs0 : cs0 = [.slice A0_0 l0_0.length c0_0, .slice A0_1 l0_1.length c0_1] := list_is hl0 (fun j u hj => by
    match j, hj with
    | 0, hj => simp only [List.getElem?_cons_zero, Option.some.injEq] at hj; subst hj; exact e0_0
    | 1, hj => simp only [List.getElem?_cons_succ, List.getElem?_cons_zero, Option.some.injEq] at hj; subst hj; exact e0_1
    | j + 2, hj => simp at hj)
  subst hcs0
  subst ev0
  clear hA0 hval0 hsz0
  obtain ⟨k, h⟩ := Pure.FnExactNetworkText l0_0 l0_1 hm0_0 hw0_0 hm0_1 hw0_1
  refine (PFnExactNetworkText.laws_FnExactNetworkText.calls k A0_0 c0_0 l0_0 A0_1 c0_1 l0_1 true W hr0_0 hc0_0 hr0_1 hc0_1 (tabs_of hL hsh) h).mono fun e W' ⟨he, bel0⟩ => ?_
  have bel : Below W.heap.size W W' := bel0
  subst he
  exact ⟨_, rfl, _, _, _, [], _, [], hW', trodAll_mk1 (shut_bool Tryd.underlying4 _), (trodAll_cons_mk (Below.trod laidOut (by kernel_rfl) (of_decide_eq_true (by kernel_rfl)) k0 bel lt0) trodAll_mk0), rfl, bel.frame _, fun h => by cases h⟩
theorem over : Rows.fnExactNetworkTextRow.holds Tryd.pinned (OpenSpec.ofChange Rows.fnExactNetworkTextSpec) :=
  OpenClaim.holds_of_wide 12 Tryd.f12 rfl rfl rfl rfl rfl rfl rfl ⟨rfl, rfl, rfl, rfl, rfl⟩ rfl rfl rfl rfl rfl (by kernel_rfl) Tryd.func12 (by kernel_rfl)
    (of_decide_eq_true (by kernel_rfl)) (by unfold Func.isWrapper; first | (rw [if_pos (by decide +kernel)]; kernel_rfl) | (rw [if_neg (by decide +kernel)]; exact ⟨rfl, rfl⟩))
    (fun os started H enc _ => lifted os started H enc)
theorem proved : Rows.FnExactNetworkTextSaid := over
theorem plain (f : FuncId) (fn : Func) (hf : Tryd.pinned.checked.prog.funcNamed "loop.example/g01011/laws.FnExactNetworkText" = some f) (hfn : Tryd.pinned.checked.prog.funcs[f]? = some fn) :
    true = Tryd.pinned.checked.prog.looks [] ∧ ∀ (j : Nat) t, fn.params[j]? = some t → Tryd.pinned.checked.prog.wantsStandIn t = false := by
  obtain rfl : f = 12 := Option.some.inj ((show Tryd.prog.funcNamed "loop.example/g01011/laws.FnExactNetworkText" = some 12 by kernel_rfl).symm.trans hf) |>.symm
  obtain rfl : fn = Tryd.f12 := (Option.some.inj (Tryd.func12.symm.trans hfn)).symm
  refine ⟨by kernel_rfl, fun j t ht => ?_⟩
  rw [Tryd.params12] at ht
  have hm := Array.mem_of_getElem? ht
  simp only [List.mem_toArray, List.mem_cons, List.not_mem_nil, or_false] at hm
  subst hm
  show Tryd.pinned.checked.prog.wantsStandIn _ = false
  kernel_rfl
theorem card : Rows.FnExactNetworkTextCardSaid :=
  Claim7.holds_tied_plain_at .later [] _ _ _ _ proved (fun _ h => by cases h) (by kernel_rfl) (fun _ h => by cases h) fnExactNetworkText_row_tie rfl ⟨rfl, rfl⟩ (by kernel_rfl) rfl plain (by kernel_rfl)
end Go.Proofs.YtabgkdejpkpejaaDoor.fnExactNetworkText
namespace Go.Proofs.YtabgkdejpkpejaaDoor
/-- The card, under a short name, for the claim. -/
theorem fnExactNetworkText_holds : Rows.FnExactNetworkTextCardSaid := fnExactNetworkText.card
#print axioms fnExactNetworkText_holds
end Go.Proofs.YtabgkdejpkpejaaDoor
