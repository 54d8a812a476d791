/- Plain laws on a search through a graph of numbers: nodes are found one behind the other, each by an edge from one found ahead of it. No program in sight. No condition. -/
import Derived.Test.YtnmdcmfhjhgheaaMathG
namespace Go.Proofs.YtnmdcmfhjhgheaaM
set_option linter.unusedVariables false
set_option linter.unusedSimpArgs false
def oth (e : Int × Int) (x : Int) : Option Int := if x = e.1 then some e.2 else if x = e.2 then some e.1 else none
theorem oth_symm {e : Int × Int} {x y : Int} (h : oth e x = some y) : oth e y = some x := by
  unfold oth at *
  split at h
  · rename_i c
    have h := Option.some.inj h
    split
    · rename_i c'; rw [c, h, c']
    · rw [if_pos h.symm, c]
  · split at h
    · rename_i c c'
      have h := Option.some.inj h
      rw [if_pos h.symm, c']
    · exact absurd h (by simp)
theorem oth_ends {e : Int × Int} {x y : Int} (h : oth e x = some y) : (x = e.1 ∧ y = e.2) ∨ (x = e.2 ∧ y = e.1) := by
  unfold oth at h
  split at h
  · exact .inl ⟨‹_›, (Option.some.inj h).symm⟩
  · split at h
    · exact .inr ⟨‹_›, (Option.some.inj h).symm⟩
    · exact absurd h (by simp)
theorem oth_of {e : Int × Int} {x y : Int} (h : (x = e.1 ∧ y = e.2) ∨ (x = e.2 ∧ y = e.1)) : oth e x = some y := by
  unfold oth
  rcases h with ⟨h1, h2⟩ | ⟨h1, h2⟩
  · rw [if_pos h1, h2]
  · split
    · rename_i c; rw [h2, ← c, h1]
    · rw [h2]
def EL (es : List (Int × Int)) (shut : Nat → Bool) (m : Nat) (x y : Int) : Prop := ∃ i, i < m ∧ i < es.length ∧ shut i = false ∧ oth (es.getD i (0, 0)) x = some y
theorem EL_symm {es : List (Int × Int)} {shut : Nat → Bool} {m : Nat} : ∀ x y, EL es shut m x y → EL es shut m y x := fun _ _ ⟨i, h1, h2, h3, h4⟩ => ⟨i, h1, h2, h3, oth_symm h4⟩
theorem EL_zero {es : List (Int × Int)} {shut : Nat → Bool} : ∀ x y, ¬ EL es shut 0 x y := fun _ _ ⟨i, h, _⟩ => by omega
theorem EL_succ {es : List (Int × Int)} {shut : Nat → Bool} {m : Nat} (h : m < es.length) (hs : shut m = false) (x y : Int) : EL es shut (m + 1) x y ↔ addE (EL es shut m) (es.getD m (0, 0)).1 (es.getD m (0, 0)).2 x y := by
  constructor
  · rintro ⟨i, h1, h2, h3, h4⟩
    by_cases c : i = m
    · subst c; exact .inr (oth_ends h4)
    · exact .inl ⟨i, by omega, h2, h3, h4⟩
  · rintro (⟨i, h1, h2, h3, h4⟩ | h')
    · exact ⟨i, by omega, h2, h3, h4⟩
    · exact ⟨m, by omega, h, hs, oth_of h'⟩
abbrev WayT := Int × Int × Nat
abbrev foundN (src : Int) (ws : List WayT) : List Int := src :: ws.map (·.1)
def sweep (es : List (Int × Int)) (shut : Nat → Bool) (src x : Int) : Nat → Nat → List WayT → List WayT
  | 0, _, ws => ws
  | d + 1, i, ws =>
    match oth (es.getD i (0, 0)) x with
    | some y => if shut i = false ∧ y ∉ foundN src ws then sweep es shut src x d (i + 1) (ws ++ [(y, x, i)]) else sweep es shut src x d (i + 1) ws
    | none => sweep es shut src x d (i + 1) ws
def bfs (es : List (Int × Int)) (shut : Nat → Bool) (src : Int) : Nat → Nat → List WayT → List WayT
  | 0, _, ws => ws
  | f + 1, k, ws => if k < ws.length + 1 then bfs es shut src f (k + 1) (sweep es shut src ((foundN src ws).getD k 0) es.length 0 ws) else ws
structure FoundW (es : List (Int × Int)) (shut : Nat → Bool) (n : Nat) (src : Int) (ws : List WayT) : Prop where
  nodup : (foundN src ws).Nodup
  range : ∀ y ∈ foundN src ws, 0 ≤ y ∧ y < n
  conn : ∀ y ∈ foundN src ws, Conn (EL es shut es.length) src y
  way : ∀ j : Nat, j < ws.length → (ws.getD j (0, 0, 0)).2.2 < es.length ∧ shut (ws.getD j (0, 0, 0)).2.2 = false ∧ oth (es.getD (ws.getD j (0, 0, 0)).2.2 (0, 0)) (ws.getD j (0, 0, 0)).2.1 = some (ws.getD j (0, 0, 0)).1 ∧ (ws.getD j (0, 0, 0)).2.1 ∈ (foundN src ws).take (j + 1)
def EndsIn (es : List (Int × Int)) (n : Nat) : Prop := ∀ i : Nat, i < es.length → (0 ≤ (es.getD i (0, 0)).1 ∧ (es.getD i (0, 0)).1 < n) ∧ 0 ≤ (es.getD i (0, 0)).2 ∧ (es.getD i (0, 0)).2 < n
theorem EndsIn.oth {es : List (Int × Int)} {n : Nat} (h : EndsIn es n) {i : Nat} (hi : i < es.length) {x y : Int} (ho : oth (es.getD i (0, 0)) x = some y) : 0 ≤ y ∧ y < n := by
  have := h i hi
  rcases oth_ends ho with ⟨_, e⟩ | ⟨_, e⟩ <;> (rw [e]; omega)
theorem foundN_snoc (src : Int) (ws : List WayT) (w : WayT) : foundN src (ws ++ [w]) = foundN src ws ++ [w.1] := by unfold foundN; simp
theorem found_add {es : List (Int × Int)} {shut : Nat → Bool} {n : Nat} {src : Int} {ws : List WayT} (hE : EndsIn es n) (h : FoundW es shut n src ws) {x y : Int} {i : Nat} (hx : x ∈ foundN src ws) (hi : i < es.length) (hs : shut i = false)
    (ho : oth (es.getD i (0, 0)) x = some y) (hy : y ∉ foundN src ws) : FoundW es shut n src (ws ++ [(y, x, i)]) where
  nodup := by
    rw [foundN_snoc, List.nodup_append]
    refine ⟨h.nodup, by simp, ?_⟩
    intro a ha b hb
    rw [List.mem_singleton.mp hb]
    intro e; rw [e] at ha; exact hy ha
  range z hz := by
    rw [foundN_snoc] at hz
    rcases List.mem_append.mp hz with g | g
    · exact h.range z g
    · rw [List.mem_singleton.mp g]; exact hE.oth hi ho
  conn z hz := by
    rw [foundN_snoc] at hz
    rcases List.mem_append.mp hz with g | g
    · exact h.conn z g
    · rw [List.mem_singleton.mp g]; exact (h.conn x hx).step ⟨i, hi, hi, hs, ho⟩
  way j hj := by
    rw [foundN_snoc]
    by_cases c : j < ws.length
    · have hw := h.way j c
      have e : (ws ++ [(y, x, i)]).getD j (0, 0, 0) = ws.getD j (0, 0, 0) := by simp only [List.getD_eq_getElem?_getD, List.getElem?_append_left c]
      rw [e]
      refine ⟨hw.1, hw.2.1, hw.2.2.1, ?_⟩
      rw [List.take_append_of_le_length (by simp; omega)]
      exact hw.2.2.2
    · have hj' : j = ws.length := by simp at hj; omega
      subst hj'
      have e : (ws ++ [(y, x, i)]).getD ws.length (0, 0, 0) = (y, x, i) := by simp
      rw [e]
      refine ⟨hi, hs, ho, ?_⟩
      rw [List.take_append_of_le_length (by simp), List.take_of_length_le (by simp)]
      exact hx
theorem sweep_spec {es : List (Int × Int)} {shut : Nat → Bool} {n : Nat} {src x : Int} (hE : EndsIn es n) : ∀ (d i : Nat) (ws : List WayT), i + d = es.length → FoundW es shut n src ws → x ∈ foundN src ws →
    ∃ ext, sweep es shut src x d i ws = ws ++ ext ∧ FoundW es shut n src (ws ++ ext) ∧ ∀ i', i ≤ i' → i' < es.length → shut i' = false → ∀ y, oth (es.getD i' (0, 0)) x = some y → y ∈ foundN src (ws ++ ext)
  | 0, i, ws, hd, h, hx => ⟨[], by simp [sweep], by simpa using h, fun i' h1 h2 => by omega⟩
  | d + 1, i, ws, hd, h, hx => by
    simp only [sweep]
    have skip : (∀ y, oth (es.getD i (0, 0)) x = some y → shut i = false → y ∈ foundN src ws) → ∃ ext, sweep es shut src x d (i + 1) ws = ws ++ ext ∧ FoundW es shut n src (ws ++ ext) ∧ ∀ i', i ≤ i' → i' < es.length → shut i' = false → ∀ y, oth (es.getD i' (0, 0)) x = some y → y ∈ foundN src (ws ++ ext) := by
      intro hk
      obtain ⟨ext, e1, e2, e3⟩ := sweep_spec hE d (i + 1) ws (by omega) h hx
      refine ⟨ext, e1, e2, fun i' h1 h2 h3 y hy => ?_⟩
      by_cases c : i' = i
      · subst c
        have := hk y hy h3
        unfold foundN at *
        rw [List.map_append]
        rcases List.mem_cons.mp this with g | g
        · rw [g]; exact List.mem_cons_self
        · exact List.mem_cons_of_mem _ (List.mem_append_left _ g)
      · exact e3 i' (by omega) h2 h3 y hy
    split
    · rename_i y ho
      by_cases c : shut i = false ∧ y ∉ foundN src ws
      · rw [if_pos c]
        obtain ⟨ext, e1, e2, e3⟩ := sweep_spec hE d (i + 1) (ws ++ [(y, x, i)]) (by omega) (found_add hE h hx (by omega) c.1 ho c.2) (by rw [foundN_snoc]; exact List.mem_append_left _ hx)
        refine ⟨(y, x, i) :: ext, by rw [e1]; simp, by simpa using e2, fun i' h1 h2 h3 z hz => ?_⟩
        have hl : ws ++ (y, x, i) :: ext = ws ++ [(y, x, i)] ++ ext := by simp
        by_cases c' : i' = i
        · subst c'
          rw [ho] at hz
          rw [← Option.some.inj hz]
          unfold foundN
          simp
        · rw [hl]; exact e3 i' (by omega) h2 h3 z hz
      · rw [if_neg c]
        refine skip fun z hz hs => ?_
        rw [ho] at hz
        rw [← Option.some.inj hz]
        exact Classical.byContradiction fun g => c ⟨hs, g⟩
    · rename_i ho
      exact skip fun z hz => by rw [ho] at hz; exact absurd hz (by simp)
theorem nodup_length : ∀ (n : Nat) (l : List Int), l.Nodup → (∀ y ∈ l, 0 ≤ y ∧ y < n) → l.length ≤ n
  | 0, l, _, hr => by
    cases l with
    | nil => exact Nat.le_refl _
    | cons a l => have := hr a List.mem_cons_self; omega
  | n + 1, l, hn, hr => by
    have h1 : (l.erase (n : Int)).length ≤ n := nodup_length n _ (hn.erase _) fun y hy => by
      have hm := List.mem_of_mem_erase hy
      have := hr y hm
      have hne : y ≠ (n : Int) := fun e => by subst e; exact (List.Nodup.not_mem_erase hn) hy
      omega
    have h2 : l.length ≤ (l.erase (n : Int)).length + 1 := by rw [List.length_erase]; split <;> omega
    omega
theorem found_length {es : List (Int × Int)} {shut : Nat → Bool} {n : Nat} {src : Int} {ws : List WayT} (h : FoundW es shut n src ws) : ws.length + 1 ≤ n := by
  have := nodup_length n _ h.nodup h.range
  simpa using this
theorem found_start {es : List (Int × Int)} {shut : Nat → Bool} {n : Nat} {src : Int} (h0 : 0 ≤ src) (h1 : src < n) : FoundW es shut n src [] where
  nodup := by simp
  range y hy := by simp at hy; subst hy; exact ⟨h0, h1⟩
  conn y hy := by simp at hy; subst hy; exact .refl
  way j hj := by simp at hj
theorem getD_foundN_append (src : Int) (ws ext : List WayT) (j : Nat) (h : j < ws.length + 1) : (foundN src (ws ++ ext)).getD j 0 = (foundN src ws).getD j 0 := by
  have e : foundN src (ws ++ ext) = foundN src ws ++ ext.map (·.1) := by simp
  rw [e, List.getD_eq_getElem?_getD, List.getElem?_append_left (by simpa using h), List.getD_eq_getElem?_getD]
theorem mem_foundN_append {src : Int} {ws ext : List WayT} {y : Int} (h : y ∈ foundN src ws) : y ∈ foundN src (ws ++ ext) := by
  have e : foundN src (ws ++ ext) = foundN src ws ++ ext.map (·.1) := by simp
  rw [e]; exact List.mem_append_left _ h
theorem getD_mem_foundN {src : Int} {ws : List WayT} {j : Nat} (h : j < ws.length + 1) : (foundN src ws).getD j 0 ∈ foundN src ws := by
  rw [List.getD_eq_getElem?_getD, List.getElem?_eq_getElem (by simpa using h)]
  exact List.getElem_mem _
theorem bfs_spec {es : List (Int × Int)} {shut : Nat → Bool} {n : Nat} {src : Int} (hE : EndsIn es n) : ∀ (f k : Nat) (ws : List WayT), n < f + k → k ≤ ws.length + 1 → FoundW es shut n src ws →
    (∀ j, j < k → ∀ y, EL es shut es.length ((foundN src ws).getD j 0) y → y ∈ foundN src ws) →
    ∃ ext, bfs es shut src f k ws = ws ++ ext ∧ FoundW es shut n src (ws ++ ext) ∧ ∀ x ∈ foundN src (ws ++ ext), ∀ y, EL es shut es.length x y → y ∈ foundN src (ws ++ ext)
  | 0, k, ws, hf, hk, h, hc => by have := found_length h; omega
  | f + 1, k, ws, hf, hk, h, hc => by
    simp only [bfs]
    by_cases c : k < ws.length + 1
    · rw [if_pos c]
      obtain ⟨ext, e1, e2, e3⟩ := sweep_spec hE es.length 0 ws (by omega) h (getD_mem_foundN c)
      rw [e1]
      obtain ⟨ext', g1, g2, g3⟩ := bfs_spec hE f (k + 1) (ws ++ ext) (by omega) (by simp; omega) e2 (fun j hj y hy => by
        by_cases c' : j = k
        · subst c'
          rw [getD_foundN_append _ _ _ _ c] at hy
          obtain ⟨i, h1, h2, h3, h4⟩ := hy
          exact e3 i (by omega) h2 h3 y h4
        · rw [getD_foundN_append _ _ _ _ (by omega)] at hy
          exact mem_foundN_append (hc j (by omega) y hy))
      exact ⟨ext ++ ext', by rw [g1, List.append_assoc], by rw [← List.append_assoc]; exact g2, by rw [← List.append_assoc]; exact g3⟩
    · rw [if_neg c]
      refine ⟨[], by simp, by simpa using h, ?_⟩
      rw [List.append_nil]
      intro x hx y hy
      obtain ⟨j, hj, e⟩ := List.mem_iff_getElem.mp hx
      have hj' : j < ws.length + 1 := by simpa using hj
      refine hc j (by omega) y ?_
      rw [List.getD_eq_getElem?_getD, List.getElem?_eq_getElem hj, e]
      exact hy
theorem bfs_all {es : List (Int × Int)} {shut : Nat → Bool} {n : Nat} {src : Int} (hE : EndsIn es n) (h0 : 0 ≤ src) (h1 : src < n) {f : Nat} (hf : n < f) :
    FoundW es shut n src (bfs es shut src f 0 []) ∧ ∀ y, y ∈ foundN src (bfs es shut src f 0 []) ↔ Conn (EL es shut es.length) src y := by
  obtain ⟨ext, e1, e2, e3⟩ := bfs_spec hE f 0 [] (by omega) (by omega) (found_start h0 h1) (fun j hj => by omega)
  rw [List.nil_append] at *
  rw [e1]
  refine ⟨e2, fun y => ⟨e2.conn y, fun c => ?_⟩⟩
  induction c with
  | refl => exact List.mem_cons_self
  | step _ e ih => exact e3 _ ih _ e
end Go.Proofs.YtnmdcmfhjhgheaaM
