/- What the library's contracts ask of package-level variables, and that it stands in whatever world comes behind. No condition. -/
import Derived.Test.YtabgkdejpkpejaaGreatDoorShelf
import Derived.Lib.LaidTab
import Derived.Below
import Derived.HandedShaped
import Derived.Handed
import Derived.Lib.AtoiTie
import Derived.Lib.ParseIntBTie
import Derived.Sort.Grow
namespace Go.Proofs.YtabgkdejpkpejaaGreatDoorM
open Go Go.Proofs Go.RowKit
set_option linter.unusedVariables false
theorem var_below {P : Program} {W W' : World} {n : String} {cs : Array Value} (h : Below W.heap.size W W') (hv : W.var? P n = some cs) : W'.var? P n = some cs := by
  unfold World.var? at *
  cases hg : P.globalNamed n with
  | none => rw [hg] at hv; simp at hv
  | some g =>
    rw [hg] at hv
    simp only [Option.bind_some] at *
    by_cases c : g < W.heap.size
    · rw [h.block g c]; exact hv
    · have : W.heap[g]? = none := Array.getElem?_eq_none (by omega)
      rw [this] at hv
      simp at hv
theorem below_grow (w : World) (k : Nat) (os : Array Obj) : Below w.heap.size w (Go.Sort.grow (w.drewN k) os) :=
  ⟨rfl, rfl, rfl, by rw [Go.Sort.size_grow]; show w.heap.size ≤ w.heap.size + _; omega, fun i hi => Go.Sort.heap_grow_old (w.drewN k) os hi⟩
theorem bsz (l : List UInt8) : (ByteArray.mk (List.toArray l)).size = l.length := by simp [ByteArray.size]
structure Tabs (p e s : Bool) (w : World) : Prop where
  pow : p = true → Lib.TabIs Tryz.prog w "internal/strconv.uint64pow10" .u64 Lib.pow10Tab
  err : e = true → ∃ t1 p1 t2 p2, w.var? Tryz.prog "strconv.ErrSyntax" = some #[.iface t1 p1] ∧ w.var? Tryz.prog "strconv.ErrRange" = some #[.iface t2 p2]
  max : s = true → ∃ m, w.cell? ⟨0, 0, none⟩ = some (.int .i64 m)
theorem Tabs.now {p e s : Bool} {w w' : World} (h : Tabs p e s w) (hb : Below w.heap.size w w') : Tabs p e s w' where
  pow hp := var_below hb (h.pow hp)
  err he := by
    obtain ⟨t1, p1, t2, p2, h1, h2⟩ := h.err he
    exact ⟨t1, p1, t2, p2, var_below hb h1, var_below hb h2⟩
  max hs := by
    obtain ⟨m, hm⟩ := h.max hs
    exact ⟨m, (hb.cell (World.block_lt_of_cell? w _ hm)).trans hm⟩
section
variable {H : Type} {enc : TypeId × Value → H}
theorem returns_and_shaped {a : Assume} {C : Checked} {os : Os} {f : FuncId} {fn : Func} {s : ChangeSpec} {conds : List PathCond} {apart fresh handsOn again : Bool} {X : World → Array Value → Prop}
    (hX : ∀ (w w' : World) (args : Array Value), w.heap = w'.heap → X w args → X w' args)
    (own : ownKnob C.prog.godebug = none) (started : os.Started) (noInit : C.prog.inits.idxOf? f = none) (hfn : C.prog.funcs[f]? = some fn)
    (witness : ∃ (w : World) (tape : Tape) (i : Input), w.os = os ∧ (w.forCall tape i).Shaped C.prog ∧ i.vars = [] ∧ Input.okWide C.prog (w.forCall tape i) .any w.heap.size f i ∧
      ((s.pre enc C.prog fn conds apart (w.forCall tape i).memory i.args ∧ X (w.forCall tape i).memory i.args) ∧ sizedMet enc C.prog fn (OpenSpec.ofChange s) apart (w.forCall tape i).memory i.args) ∧ a.holds C.prog (lone (Frame.enter C.prog f i.args .normal) [] (w.forCall tape i)))
    (contract : ∀ (W : World) (base : Nat) (args : Array Value) (ds gs : List (DataW H)) (before : List MemPlace),
      (∀ (j : Nat) t v, fn.params[j]? = some t → args[j]? = some v → Value.okWide C.prog W .any base t v) →
      DataW.Whole enc C.prog fn.params.toList s.vars apart W args.toList ds gs before →
      conds.all (PathCond.test C.prog ⟨fn.params.toList, ds, s.plain.varTypes C.prog, gs⟩) = true →
      (DataW.weightsEach C.prog (fn.params.toList ++ s.plain.varTypes C.prog) (ds ++ gs)).all (· ≤ reachBytes) = true → X W args → W.ShapedOpen C.prog →
      a.holds C.prog (lone (Frame.enter C.prog f args .normal) [] W) →
      Calls C.prog f args W fun e W' => ∃ v, e = .returned v ∧ s.post enc C.prog fn apart fresh handsOn again W args v W') :
    ReturnsInHanded a C os f .any (fun w args => (s.pre enc C.prog fn conds apart w args ∧ X w args) ∧ sizedMet enc C.prog fn (OpenSpec.ofChange s) apart w args) (s.post enc C.prog fn apart fresh handsOn again) := by
  refine returnsInHanded_of_calls own started noInit witness ?_
  intro w tape i _ hsh _ hok hpre hholds
  obtain ⟨_, _, _, fn', hfn', _, _, _, _, hval⟩ := hok
  have e : fn' = fn := Option.some.inj (hfn'.symm.trans hfn)
  subst e
  obtain ⟨⟨⟨ds, gs, before, hw, hc⟩, hx⟩, hz⟩ := hpre
  have hw' := DataW.Whole.of_heap (w' := w.forCall tape i) (by rfl) hw
  refine (contract (w.forCall tape i) w.heap.size i.args ds gs before hval hw' hc (hz.weights hw) (hX _ _ _ (by rfl) hx) hsh hholds).mono fun e W' ⟨v, he, hp⟩ => ?_
  subst he
  exact ChangeSpec.post_blind hp
end
end Go.Proofs.YtabgkdejpkpejaaGreatDoorM
