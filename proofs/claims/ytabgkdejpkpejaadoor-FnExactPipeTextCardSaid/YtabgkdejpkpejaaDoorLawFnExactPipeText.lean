/- The row of the law FnExactPipeText: the arguments are opened, the pure statement and the walk are put together. Written by a program of this session (wip/rowlib.py). No condition. -/
import Derived.Test.YtabgkdejpkpejaaDoorRows
import Derived.Test.YtabgkdejpkpejaaDoorPFnExactPipeTextx3
import Derived.Test.YtabgkdejpkpejaaDoorPureFnExactPipeText
import Derived.Test.YtabgkdejpkpejaaDoorMathO
import Derived.WalkKit
import Derived.ProofKit
import Derived.OpenShut
import Derived.ShutString
import Derived.ChangeOld
import Derived.Below
import Derived.SizedLaws
import Derived.LaidMore
import Derived.Lay
import Derived.Lib.LaidTab
import Derived.Stop.LaidErr
import Derived.MakeChecks
import Derived.SevenTiedAt
import Derived.Test.YtabgkdejpkpejaaDoorCards
import Derived.Test.YtabgkdejpkpejaaDoorTie
import Derived.Test.YtabgkdejpkpejaaDoorMathT
namespace Go.Proofs.YtabgkdejpkpejaaDoor.fnExactPipeText
open Go.ChangeShapes Go.WideShapes Go.ChangeAt Go.RowKit Go.Deep Go.Proofs.YtabgkdejpkpejaaDoorO Go.Proofs.YtabgkdejpkpejaaDoor.PFnExactPipeText Go.Proofs.YtabgkdejpkpejaaDoorW.PrintWords Go.Proofs.YtabgkdejpkpejaaDoorW.PrintLast Go.Proofs.YtabgkdejpkpejaaDoorW.PrintMore
open Go.ChangeMaps (open_string shut_string)
open Go.Proofs.YtabgkdejpkpejaaDoorM
set_option linter.unusedVariables false
set_option linter.unusedSimpArgs false
theorem own : ownKnob Tryd.prog.godebug = none := by kernel_rfl
theorem laidOut : laidOutB Tryd.prog = true := by kernel_rfl
section
variable {H : Type} {enc : TypeId × Value → H} {w : World} {base : Nat} {held : Bool}
end
theorem door_met (os : Os) (args : Array Value) : laidMetH Tryd.prog Rows.fnExactPipeTextRow.laid ((World.doorLaid Tryd.prog 72 os).forCall (fun _ _ => 0) ⟨#[], args, []⟩).memory :=
  laidMetH_of_parts3 (fuel := 8) (laidMet_of_run' 8 (by kernel_rfl) (by kernel_rfl)) (by kernel_rfl) (by kernel_rfl)
theorem tabs_of {W : World} (h : laidMetH Tryd.prog Rows.fnExactPipeTextRow.laid W) (hsh : W.ShapedOpen Tryd.prog) : Tabs true false false W := by
  have h' : laidMet Tryd.prog Rows.fnExactPipeTextRow.laid W := by rw [MakeChecks.laidMetH_plain _ _ _ (by kernel_rfl)] at h; exact h
  have hp : Lib.TabIs Tryd.prog W "internal/strconv.uint64pow10" .u64 Lib.pow10Tab :=
    Lib.tabIs_of_head (g := 0) (t := 135) (e := 115) (n := 20) (by kernel_rfl) (by kernel_rfl) (by kernel_rfl) (by kernel_rfl) (by kernel_rfl) (by kernel_rfl) (show laidMet Tryd.prog (("internal/strconv.uint64pow10", Lib.tabData .u64 Lib.pow10Tab) :: _) W from h'.tail.tail)
  exact ⟨fun _ => hp, fun h => by simp at h, fun h => by simp at h⟩
set_option maxRecDepth 100000 in
theorem lifted (os : Os) (started : os.Started) (H : Type) (enc : TypeId × Value → H) :
    ReturnsInHanded {} Tryd.checked os 10 .any (fun w args => (Rows.fnExactPipeTextSpec.pre enc Tryd.prog Tryd.f10 [] false w args ∧ laidMetH Tryd.prog Rows.fnExactPipeTextRow.laid w) ∧ sizedMet enc Tryd.prog Tryd.f10 (OpenSpec.ofChange Rows.fnExactPipeTextSpec) false w args) (Rows.fnExactPipeTextSpec.post enc Tryd.prog Tryd.f10 false true false false) := by
  refine returns_and_shaped (C := Tryd.checked) (X := (fun w _ => laidMetH Tryd.prog Rows.fnExactPipeTextRow.laid w)) (fun _ _ _ hh h => h.of_heap hh) own started (by kernel_rfl) Tryd.func10
    (ChangeSpec.witness_shaped (enc := enc) (C := Tryd.checked) (os := os) (X := (fun w _ => laidMetH Tryd.prog Rows.fnExactPipeTextRow.laid w)) false (World.doorLaid Tryd.prog 72 os) #[.agg #[.string ByteArray.empty, .int .i64 0, .int .i64 0, .int .i64 0, .int .i64 0, .int .i64 0]] 8 rfl (World.shaped_of_RefB (by kernel_rfl) (by kernel_rfl)) (by kernel_rfl) (by kernel_rfl) (by kernel_rfl) (door_met os _)) ?_
  intro W base args ds gs before hval0 hW hcnd hsz0 hL hsh _
  have hval : ∀ (j : Nat) t v, Tryd.f10.params[j]? = some t → args[j]? = some v → Value.okWide Tryd.prog W .any base t v := hval0
  have hW' := hW
  obtain ⟨p, q, hA0, hV, rfl, hfz, hnd⟩ := hW
  have hA : DataW.TrodAll enc Tryd.prog W 0 (fun _ => true) true Tryd.f10.params.toList args.toList ds p := hA0
  rw [Tryd.params10] at hA hval
  obtain ⟨v0, vs0, d0, ds0, p0, q0, hargs, rfl, rfl, h0, r0⟩ := trodAll_cons hA
  obtain ⟨rfl, rfl, rfl⟩ := trodAll_nil r0
  obtain rfl : args = #[v0] := by cases args; simp_all
  obtain ⟨rfl, rfl⟩ := trodVars_none hV
  have k0 := h0
  have lt0 : ∀ x ∈ p0, x.block < W.heap.size := by obtain ⟨m, hm⟩ := k0; exact DataW.trod_lt m _ _ _ hm
  obtain ⟨cs0, ev0, hl0, hf0⟩ := open_agg Tryd.underlying40 (by kernel_rfl) (by kernel_rfl) (hval 0 40 v0 rfl rfl) h0
  obtain ⟨u0_0, y0_0, n0_0, e0_0, r0_0⟩ := hf0 0 _ rfl
  obtain ⟨a0_0, g0_0, _, w0_0⟩ := DataW.trod_string Tryd.underlying9 r0_0
  simp only [List.cons.injEq, and_true] at g0_0
  subst g0_0
  obtain ⟨u0_1, y0_1, n0_1, e0_1, r0_1⟩ := hf0 1 _ rfl
  obtain ⟨a0_1, g0_1, _, w0_1⟩ := DataW.trod_int Tryd.underlying2 r0_1
  simp only [List.cons.injEq, and_true] at g0_1
  subst g0_1
  obtain ⟨u0_2, y0_2, n0_2, e0_2, r0_2⟩ := hf0 2 _ rfl
  obtain ⟨a0_2, g0_2, _, w0_2⟩ := DataW.trod_int Tryd.underlying2 r0_2
  simp only [List.cons.injEq, and_true] at g0_2
  subst g0_2
  obtain ⟨u0_3, y0_3, n0_3, e0_3, r0_3⟩ := hf0 3 _ rfl
  obtain ⟨a0_3, g0_3, _, w0_3⟩ := DataW.trod_int Tryd.underlying2 r0_3
  simp only [List.cons.injEq, and_true] at g0_3
  subst g0_3
  obtain ⟨u0_4, y0_4, n0_4, e0_4, r0_4⟩ := hf0 4 _ rfl
  obtain ⟨a0_4, g0_4, _, w0_4⟩ := DataW.trod_int Tryd.underlying2 r0_4
  simp only [List.cons.injEq, and_true] at g0_4
  subst g0_4
  obtain ⟨u0_5, y0_5, n0_5, e0_5, r0_5⟩ := hf0 5 _ rfl
  obtain ⟨a0_5, g0_5, _, w0_5⟩ := DataW.trod_int Tryd.underlying2 r0_5
  simp only [List.cons.injEq, and_true] at g0_5
  subst g0_5
  have hcs0 : cs0 = [.string a0_0, .int .i64 a0_1, .int .i64 a0_2, .int .i64 a0_3, .int .i64 a0_4, .int .i64 a0_5] := list_is hl0 (fun j u hj => by
    match j, hj with
    | 0, hj => simp only [List.getElem?_cons_zero, Option.some.injEq] at hj; subst hj; exact e0_0
    | 1, hj => simp only [List.getElem?_cons_succ, List.getElem?_cons_zero, Option.some.injEq] at hj; subst hj; exact e0_1
    | 2, hj => simp only [List.getElem?_cons_succ, List.getElem?_cons_zero, Option.some.injEq] at hj; subst hj; exact e0_2
    | 3, hj => simp only [List.getElem?_cons_succ, List.getElem?_cons_zero, Option.some.injEq] at hj; subst hj; exact e0_3
    | 4, hj => simp only [List.getElem?_cons_succ, List.getElem?_cons_zero, Option.some.injEq] at hj; subst hj; exact e0_4
    | 5, hj => simp only [List.getElem?_cons_succ, List.getElem?_cons_zero, Option.some.injEq] at hj; subst hj; exact e0_5
    | j + 6, hj => simp at hj)
  subst hcs0
  subst ev0
  clear hA0 hval0 hsz0
  obtain ⟨k, h⟩ := Pure.FnExactPipeText a0_0 a0_1 a0_2 a0_3 a0_4 a0_5 w0_0 w0_1 w0_2 w0_3 w0_4 w0_5
  refine (PFnExactPipeText.laws_FnExactPipeText.calls k a0_0 a0_1 a0_2 a0_3 a0_4 a0_5 true W (tabs_of hL hsh) h).mono fun e W' ⟨he, bel0⟩ => ?_
  have bel : Below W.heap.size W W' := bel0
  subst he
  exact ⟨_, rfl, _, _, _, [], _, [], hW', trodAll_mk1 (shut_bool Tryd.underlying4 _), (trodAll_cons_mk (Below.trod laidOut (by kernel_rfl) (of_decide_eq_true (by kernel_rfl)) k0 bel lt0) trodAll_mk0), rfl, bel.frame _, fun h => by cases h⟩
theorem over : Rows.fnExactPipeTextRow.holds Tryd.pinned (OpenSpec.ofChange Rows.fnExactPipeTextSpec) :=
  OpenClaim.holds_of_wide 10 Tryd.f10 rfl rfl rfl rfl rfl rfl rfl ⟨rfl, rfl, rfl, rfl, rfl⟩ rfl rfl rfl rfl rfl (by kernel_rfl) Tryd.func10 (by kernel_rfl)
    (of_decide_eq_true (by kernel_rfl)) (by unfold Func.isWrapper; first | (rw [if_pos (by decide +kernel)]; kernel_rfl) | (rw [if_neg (by decide +kernel)]; exact ⟨rfl, rfl⟩))
    (fun os started H enc _ => lifted os started H enc)
theorem proved : Rows.FnExactPipeTextSaid := over
theorem plain (f : FuncId) (fn : Func) (hf : Tryd.pinned.checked.prog.funcNamed "loop.example/g01011/laws.FnExactPipeText" = some f) (hfn : Tryd.pinned.checked.prog.funcs[f]? = some fn) :
    true = Tryd.pinned.checked.prog.looks [] ∧ ∀ (j : Nat) t, fn.params[j]? = some t → Tryd.pinned.checked.prog.wantsStandIn t = false := by
  obtain rfl : f = 10 := Option.some.inj ((show Tryd.prog.funcNamed "loop.example/g01011/laws.FnExactPipeText" = some 10 by kernel_rfl).symm.trans hf) |>.symm
  obtain rfl : fn = Tryd.f10 := (Option.some.inj (Tryd.func10.symm.trans hfn)).symm
  refine ⟨by kernel_rfl, fun j t ht => ?_⟩
  rw [Tryd.params10] at ht
  have hm := Array.mem_of_getElem? ht
  simp only [List.mem_toArray, List.mem_cons, List.not_mem_nil, or_false] at hm
  subst hm
  show Tryd.pinned.checked.prog.wantsStandIn _ = false
  kernel_rfl
theorem card : Rows.FnExactPipeTextCardSaid :=
  Claim7.holds_tied_plain_at .later [] _ _ _ _ proved (fun _ h => by cases h) (by kernel_rfl) (fun _ h => by cases h) fnExactPipeText_row_tie rfl ⟨rfl, rfl⟩ (by kernel_rfl) rfl plain (by kernel_rfl)
end Go.Proofs.YtabgkdejpkpejaaDoor.fnExactPipeText
namespace Go.Proofs.YtabgkdejpkpejaaDoor
/-- The card, under a short name, for the claim. -/
theorem fnExactPipeText_holds : Rows.FnExactPipeTextCardSaid := fnExactPipeText.card
#print axioms fnExactPipeText_holds
end Go.Proofs.YtabgkdejpkpejaaDoor
