/- How an argument that is a struct, or a slice, lies in memory: its fields and elements opened one by one, whatever their number. No program in sight. -/
import Derived.Test.YtcggfmmjjkdgnaaWWords
import Derived.Deep.Slices
import Derived.Deep.Fields
import Derived.ChangeSame
import Derived.WideShapes
namespace Go.Proofs.YtcggfmmjjkdgnaaO
open Go.RowKit Go.ChangeShapes Go.WideShapes Go.Deep Go.Proofs.YtcggfmmjjkdgnaaW.PrintWords
set_option linter.unusedVariables false
variable {H : Type} {enc : TypeId × Value → H} {P : Program} {w : World} {base : Nat} {spare : Nat → Bool} {held : Bool}
theorem trod_fields {t : TypeId} {fs : Array Field} {fuel : Nat} {cs : List Value} {x : DataW H × List MemPlace} (hs : P.underlying t = some (.struct fs)) (hone : oneCellFields P fs = true) (hC : P.cellsOf t = fs.size)
    (h : DataW.trod enc P w base spare held fuel t cs = some x) :
    cs.length = fs.size ∧ ∀ (j : Nat) (f : Field), fs[j]? = some f → ∃ (u : Value) (y : DataW H × List MemPlace) (n : Nat), cs[j]? = some u ∧ DataW.trod enc P w base spare held n f.type [u] = some y := by
  obtain ⟨ys, n, _, _, hlen, hyl, hf⟩ := DataW.trod_struct hs h
  rw [hC] at hlen
  refine ⟨hlen, fun j f hj => ?_⟩
  obtain ⟨ho, hk⟩ := hone_of hone j f hj
  have hjl : j < fs.size := (Array.getElem?_eq_some_iff.1 hj).1
  have h1 := hf j f hj
  rw [ho, hk] at h1
  have e : (cs.drop j).take 1 = [cs[j]'(by omega)] := by
    rw [List.drop_eq_getElem_cons (by omega)]
    rfl
  rw [e, List.getElem?_eq_getElem (show j < ys.length by omega)] at h1
  exact ⟨_, _, n, List.getElem?_eq_getElem (by omega), h1⟩
theorem open_agg {r : Reach} {b0 : Nat} {t : TypeId} {fs : Array Field} {v : Value} {d : DataW H} {p : List MemPlace} (hs : P.underlying t = some (.struct fs)) (hone : oneCellFields P fs = true) (hC : P.cellsOf t = fs.size)
    (hv : Value.okWide P w r b0 t v) (h : DataW.Trod enc P w base spare held t v d p) :
    ∃ cs : List Value, v = .agg cs.toArray ∧ cs.length = fs.size ∧ ∀ (j : Nat) (f : Field), fs[j]? = some f → ∃ (u : Value) (y : DataW H × List MemPlace) (n : Nat), cs[j]? = some u ∧ DataW.trod enc P w base spare held n f.type [u] = some y := by
  obtain ⟨cs, rfl, hsz⟩ := okWide_struct hs hv
  obtain ⟨l⟩ := cs
  obtain ⟨fuel, hf⟩ := h
  have hf' : DataW.trod enc P w base spare held fuel t l = some (d, p) := hf
  obtain ⟨h1, h2⟩ := trod_fields hs hone hC hf'
  exact ⟨l, rfl, h1, h2⟩
theorem open_rows {α : Type} (d : Kd α) (Q : α → Prop) {t e : TypeId} {fuel : Nat} {u : Value} {x : DataW H × List MemPlace} (ht : P.underlying t = some (.slice e)) (hC : P.cellsOf e = d.sz) (hheld : ∀ k, spare k = true)
    (hdec : ∀ (n : Nat) (cs : List Value) (y : DataW H × List MemPlace), DataW.trod enc P w base spare held n e cs = some y → ∃ p, cs.length = d.sz ∧ d.K w p cs ∧ Q p)
    (h : DataW.trod enc P w base spare held fuel t [u] = some x) : ∃ (A : Option Addr) (c : Nat) (l : List α), u = .slice A l.length c ∧ l.length ≤ c ∧ l.length ≤ 9223372036854775807 ∧ d.C w A l.length l ∧ ∀ p ∈ l, Q p := by
  rcases open_slice ht h with ⟨hcs, _⟩ | ⟨a, len, cap, m, n, D, Pl, hcs, hb, hl, hm, hmm, hx, hi⟩
  · simp only [List.cons.injEq, and_true] at hcs
    exact ⟨none, 0, [], hcs, by simp, by simp, ⟨rfl, by simp, fun h => absurd h (by simp)⟩, fun p hp => by simp at hp⟩
  · simp only [List.cons.injEq, and_true] at hcs
    rw [hheld, if_pos rfl] at hmm
    have hmax : maxLen = 9223372036854775807 := rfl
    have key : ∀ k, k ≤ len → ∃ l : List α, l.length = k ∧ ∀ i p, l[i]? = some p → Q p ∧ ∃ c, c.length = d.sz ∧ d.K w p c ∧ ∀ j v, c[j]? = some v → w.cell? (a.add (i * d.sz + j)) = some v := by
      intro k
      induction k with
      | zero => exact fun _ => ⟨[], rfl, fun i p hp => by simp at hp⟩
      | succ k ih =>
        intro hk
        obtain ⟨l, h1, h2⟩ := ih (by omega)
        obtain ⟨cs', hc, ht'⟩ := hi k (by omega)
        rw [hC] at hc
        obtain ⟨p, g1, g2, g3⟩ := hdec n cs' _ ht'
        obtain ⟨_, hcl, hat⟩ := World.cells?_some hc
        refine ⟨l ++ [p], by simp [h1], fun i q hq => ?_⟩
        by_cases hil : i < k
        · rw [List.getElem?_append_left (by omega)] at hq
          exact h2 i q hq
        · have hik : i = k := by
            have := (List.getElem?_eq_some_iff.1 hq).1
            simp [h1] at this
            omega
          subst hik
          rw [List.getElem?_append_right (by omega), h1, Nat.sub_self] at hq
          simp only [List.getElem?_cons_zero, Option.some.injEq] at hq
          subst hq
          refine ⟨g3, cs', g1, g2, fun j v hj => ?_⟩
          have hjl : j < d.sz := by rw [← g1]; exact (List.getElem?_eq_some_iff.1 hj).1
          rw [← Go.Deep.add_add, hat j hjl, hj]
    obtain ⟨l, h1, h2⟩ := key len (Nat.le_refl _)
    refine ⟨some a, cap, l, by rw [hcs, h1], by omega, by omega, ⟨rfl, by omega, fun _ => ⟨a, rfl, fun j p hp => (h2 j p hp).2⟩⟩, fun p hp => ?_⟩
    obtain ⟨j, hj, rfl⟩ := List.getElem_of_mem hp
    exact (h2 j _ (List.getElem?_eq_getElem hj)).1
theorem open_nums {k : IntKind} {t e : TypeId} {fuel : Nat} {u : Value} {x : DataW H × List MemPlace} (ht : P.underlying t = some (.slice e)) (he : P.underlying e = some (.int k)) (hC : P.cellsOf e = 1) (hheld : ∀ k, spare k = true)
    (h : DataW.trod enc P w base spare held fuel t [u] = some x) : ∃ (A : Option Addr) (c : Nat) (l : List Int), u = .slice A l.length c ∧ l.length ≤ c ∧ l.length ≤ 9223372036854775807 ∧ Kd.C (Kd.int k) w A l.length l ∧ ∀ p ∈ l, (Lit.int k p).wf = true :=
  open_rows (Kd.int k) (fun p => (Lit.int k p).wf = true) ht hC hheld (fun n cs y hy => by
    obtain ⟨p, rfl, _, hw⟩ := DataW.trod_int he hy
    exact ⟨p, rfl, rfl, hw⟩) h
theorem slice_one {t e : TypeId} {fuel : Nat} {cs : List Value} {x : DataW H × List MemPlace} (ht : P.underlying t = some (.slice e)) (h : DataW.trod enc P w base spare held fuel t cs = some x) : ∃ u, cs = [u] := by
  rcases open_slice ht h with ⟨hcs, _⟩ | ⟨a, len, cap, m, n, D, Pl, hcs, _⟩
  · exact ⟨_, hcs⟩
  · exact ⟨_, hcs⟩
theorem dec_nums {k : IntKind} {t e : TypeId} {fuel : Nat} {cs : List Value} {x : DataW H × List MemPlace} (ht : P.underlying t = some (.slice e)) (he : P.underlying e = some (.int k)) (hC : P.cellsOf e = 1) (hheld : ∀ k, spare k = true)
    (h : DataW.trod enc P w base spare held fuel t cs = some x) : ∃ p : List Int, cs.length = (Kd.slice e (Kd.int k)).sz ∧ (Kd.slice e (Kd.int k)).K w p cs ∧ p.length ≤ 9223372036854775807 ∧ ∀ q ∈ p, (Lit.int k q).wf = true := by
  obtain ⟨u, rfl⟩ := slice_one ht h
  obtain ⟨A, c, l, rfl, hc, hm, hr, hw⟩ := open_nums ht he hC hheld h
  exact ⟨l, rfl, ⟨A, c, rfl, hc, hr⟩, hm, hw⟩
theorem list_is {cs us : List Value} (h : cs.length = us.length) (hj : ∀ (j : Nat) (u : Value), us[j]? = some u → cs[j]? = some u) : cs = us := by
  apply List.ext_getElem? 
  intro j
  by_cases c : j < us.length
  · rw [List.getElem?_eq_getElem c]
    exact hj j _ (List.getElem?_eq_getElem c)
  · rw [List.getElem?_eq_none (by omega), List.getElem?_eq_none (by omega)]
end Go.Proofs.YtcggfmmjjkdgnaaO
