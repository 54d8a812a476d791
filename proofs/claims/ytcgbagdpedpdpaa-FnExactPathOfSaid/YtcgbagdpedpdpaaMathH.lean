/- Plain laws on a search through a graph of numbers: nodes are found one behind the other, each by an edge from one found ahead of it. No program in sight. No condition. -/
import Derived.Test.YtcgbagdpedpdpaaMathG
namespace Go.Proofs.YtcgbagdpedpdpaaM
set_option linter.unusedVariables false
set_option linter.unusedSimpArgs false
def oth (e : Int × Int) (x : Int) : Option Int := if x = e.1 then some e.2 else if x = e.2 then some e.1 else none
theorem oth_symm {e : Int × Int} {x y : Int} (h : oth e x = some y) : oth e y = some x := by
  unfold oth at *
  split at h
  · rename_i c
    have h := Option.some.inj h
    split
    · rename_i c'; rw [c, h, c']
    · rw [if_pos h.symm, c]
  · split at h
    · rename_i c c'
      have h := Option.some.inj h
      rw [if_pos h.symm, c']
    · exact absurd h (by simp)
theorem oth_ends {e : Int × Int} {x y : Int} (h : oth e x = some y) : (x = e.1 ∧ y = e.2) ∨ (x = e.2 ∧ y = e.1) := by
  unfold oth at h
  split at h
  · exact .inl ⟨‹_›, (Option.some.inj h).symm⟩
  · split at h
    · exact .inr ⟨‹_›, (Option.some.inj h).symm⟩
    · exact absurd h (by simp)
theorem oth_of {e : Int × Int} {x y : Int} (h : (x = e.1 ∧ y = e.2) ∨ (x = e.2 ∧ y = e.1)) : oth e x = some y := by
  unfold oth
  rcases h with ⟨h1, h2⟩ | ⟨h1, h2⟩
  · rw [if_pos h1, h2]
  · split
    · rename_i c; rw [h2, ← c, h1]
    · rw [h2]
def EL (es : List (Int × Int)) (shut : Nat → Bool) (m : Nat) (x y : Int) : Prop := ∃ i, i < m ∧ i < es.length ∧ shut i = false ∧ oth (es.getD i (0, 0)) x = some y
abbrev WayT := Int × Int × Nat
abbrev foundN (src : Int) (ws : List WayT) : List Int := src :: ws.map (·.1)
structure FoundW (es : List (Int × Int)) (shut : Nat → Bool) (n : Nat) (src : Int) (ws : List WayT) : Prop where
  nodup : (foundN src ws).Nodup
  range : ∀ y ∈ foundN src ws, 0 ≤ y ∧ y < n
  conn : ∀ y ∈ foundN src ws, Conn (EL es shut es.length) src y
  way : ∀ j : Nat, j < ws.length → (ws.getD j (0, 0, 0)).2.2 < es.length ∧ shut (ws.getD j (0, 0, 0)).2.2 = false ∧ oth (es.getD (ws.getD j (0, 0, 0)).2.2 (0, 0)) (ws.getD j (0, 0, 0)).2.1 = some (ws.getD j (0, 0, 0)).1 ∧ (ws.getD j (0, 0, 0)).2.1 ∈ (foundN src ws).take (j + 1)
def EndsIn (es : List (Int × Int)) (n : Nat) : Prop := ∀ i : Nat, i < es.length → (0 ≤ (es.getD i (0, 0)).1 ∧ (es.getD i (0, 0)).1 < n) ∧ 0 ≤ (es.getD i (0, 0)).2 ∧ (es.getD i (0, 0)).2 < n
theorem EndsIn.oth {es : List (Int × Int)} {n : Nat} (h : EndsIn es n) {i : Nat} (hi : i < es.length) {x y : Int} (ho : oth (es.getD i (0, 0)) x = some y) : 0 ≤ y ∧ y < n := by
  have := h i hi
  rcases oth_ends ho with ⟨_, e⟩ | ⟨_, e⟩ <;> (rw [e]; omega)
end Go.Proofs.YtcgbagdpedpdpaaM
