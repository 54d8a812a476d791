/- What the library's contracts ask of package-level variables, and that it stands in whatever world comes behind. No condition. -/
import Derived.Test.YtabgkdejpkpejaaDoorShelf
import Derived.Lib.LaidTab
import Derived.Below
import Derived.Sort.Grow
namespace Go.Proofs.YtabgkdejpkpejaaDoorM
open Go Go.Proofs Go.RowKit
set_option linter.unusedVariables false
theorem var_below {P : Program} {W W' : World} {n : String} {cs : Array Value} (h : Below W.heap.size W W') (hv : W.var? P n = some cs) : W'.var? P n = some cs := by
  unfold World.var? at *
  cases hg : P.globalNamed n with
  | none => rw [hg] at hv; simp at hv
  | some g =>
    rw [hg] at hv
    simp only [Option.bind_some] at *
    by_cases c : g < W.heap.size
    · rw [h.block g c]; exact hv
    · have : W.heap[g]? = none := Array.getElem?_eq_none (by omega)
      rw [this] at hv
      simp at hv
theorem below_grow (w : World) (k : Nat) (os : Array Obj) : Below w.heap.size w (Go.Sort.grow (w.drewN k) os) :=
  ⟨rfl, rfl, rfl, by rw [Go.Sort.size_grow]; show w.heap.size ≤ w.heap.size + _; omega, fun i hi => Go.Sort.heap_grow_old (w.drewN k) os hi⟩
theorem bsz (l : List UInt8) : (ByteArray.mk (List.toArray l)).size = l.length := by simp [ByteArray.size]
/-- p: the table of powers is asked for; e: the two errors of strconv; s: the greatest length for which a search is made by the machine. -/
structure Tabs (p e s : Bool) (w : World) : Prop where
  pow : p = true → Lib.TabIs Tryd.prog w "internal/strconv.uint64pow10" .u64 Lib.pow10Tab
  err : e = true → ∃ t1 p1 t2 p2, w.var? Tryd.prog "strconv.ErrSyntax" = some #[.iface t1 p1] ∧ w.var? Tryd.prog "strconv.ErrRange" = some #[.iface t2 p2]
  max : s = true → ∃ m, w.cell? ⟨3, 0, none⟩ = some (.int .i64 m)
theorem Tabs.now {p e s : Bool} {w w' : World} (h : Tabs p e s w) (hb : Below w.heap.size w w') : Tabs p e s w' where
  pow hp := var_below hb (h.pow hp)
  err he := by
    obtain ⟨t1, p1, t2, p2, h1, h2⟩ := h.err he
    exact ⟨t1, p1, t2, p2, var_below hb h1, var_below hb h2⟩
  max hs := by
    obtain ⟨m, hm⟩ := h.max hs
    exact ⟨m, (hb.cell (World.block_lt_of_cell? w _ hm)).trans hm⟩
end Go.Proofs.YtabgkdejpkpejaaDoorM
