/- Plain laws on the ways of a tree: the list of what a search found tells for each number the edge by which it was found; in a tree each edge is one of these. No program in sight. No condition. -/
import Derived.Test.YtnmdcmfhjhgheaaMathI
namespace Go.Proofs.YtnmdcmfhjhgheaaM
set_option linter.unusedVariables false
set_option linter.unusedSimpArgs false
def wayNo (es : List (Int × Int)) (w : WayT) : Int := if w.1 = (es.getD w.2.2 (0, 0)).2 then (w.2.2 : Int) + 1 else -(w.2.2 : Int) - 1
def byOf (es : List (Int × Int)) (n : Nat) (ws : List WayT) : List Int := ws.foldl (fun b w => b.set w.1.toNat (wayNo es w)) (List.replicate n 0)
def seenOf (n : Nat) (src : Int) (ws : List WayT) : List Bool := ws.foldl (fun b w => b.set w.1.toNat true) ((List.replicate n false).set src.toNat true)
theorem byOf_snoc (es : List (Int × Int)) (n : Nat) (ws : List WayT) (w : WayT) : byOf es n (ws ++ [w]) = (byOf es n ws).set w.1.toNat (wayNo es w) := by unfold byOf; simp
theorem seenOf_snoc (n : Nat) (src : Int) (ws : List WayT) (w : WayT) : seenOf n src (ws ++ [w]) = (seenOf n src ws).set w.1.toNat true := by unfold seenOf; simp
theorem foldl_set_length {α β : Type} (g : β → Nat) (h : β → α) : ∀ (ws : List β) (b : List α), (ws.foldl (fun b w => b.set (g w) (h w)) b).length = b.length
  | [], b => rfl
  | w :: ws, b => by rw [List.foldl_cons, foldl_set_length g h ws, List.length_set]
theorem byOf_length (es : List (Int × Int)) (n : Nat) (ws : List WayT) : (byOf es n ws).length = n := by unfold byOf; rw [foldl_set_length, List.length_replicate]
theorem seenOf_length (n : Nat) (src : Int) (ws : List WayT) : (seenOf n src ws).length = n := by unfold seenOf; rw [foldl_set_length, List.length_set, List.length_replicate]
theorem foldl_set_get {α β : Type} (g : β → Nat) (h : β → α) (d : α) (i : Nat) : ∀ (ws : List β) (b : List α), (∀ w ∈ ws, g w ≠ i) → (ws.foldl (fun b w => b.set (g w) (h w)) b).getD i d = b.getD i d
  | [], b, _ => rfl
  | w :: ws, b, hn => by
    rw [List.foldl_cons, foldl_set_get g h d i ws _ (fun v hv => hn v (List.mem_cons_of_mem _ hv))]
    have := hn w List.mem_cons_self
    simp only [List.getD_eq_getElem?_getD, List.getElem?_set]
    rw [if_neg this]
theorem seenOf_get {n : Nat} {src : Int} (h0 : 0 ≤ src) (h1 : src < n) {x : Int} (x0 : 0 ≤ x) (x1 : x < n) : ∀ ws : List WayT, (∀ y ∈ foundN src ws, 0 ≤ y ∧ y < n) → ((seenOf n src ws).getD x.toNat false = decide (x ∈ foundN src ws)) := by
  suffices key : ∀ (ws : List WayT) (b : List Bool) (l : List Int), b.length = n → (∀ w ∈ ws, 0 ≤ w.1 ∧ w.1 < n) → b.getD x.toNat false = decide (x ∈ l) → (ws.foldl (fun b w => b.set w.1.toNat true) b).getD x.toNat false = decide (x ∈ l ++ ws.map (·.1)) by
    intro ws hr
    unfold seenOf
    rw [key ws _ [src] (by simp) (fun w hw => hr _ (List.mem_cons_of_mem _ (List.mem_map_of_mem hw))) ?_]
    · rfl
    · simp only [List.getD_eq_getElem?_getD, List.getElem?_set]
      by_cases c : src.toNat = x.toNat
      · rw [if_pos c, if_pos (by simp; omega)]
        have : x = src := by omega
        simp [this]
      · rw [if_neg c]
        have hx : x.toNat < n := by omega
        have : x ≠ src := fun e => c (by rw [e])
        simp [List.getElem?_replicate, hx, this]
  intro ws
  induction ws with
  | nil => intro b l hb _ h; simpa using h
  | cons w ws ih =>
    intro b l hb hr h
    rw [List.foldl_cons, ih _ (l ++ [w.1]) (by rw [List.length_set, hb]) (fun v hv => hr v (List.mem_cons_of_mem _ hv)) ?_]
    · simp
    · have hw := hr w List.mem_cons_self
      simp only [List.getD_eq_getElem?_getD, List.getElem?_set] at h ⊢
      by_cases c : w.1.toNat = x.toNat
      · rw [if_pos c, if_pos (by omega)]
        have : x = w.1 := by omega
        simp [this]
      · rw [if_neg c]
        have : x ≠ w.1 := fun e => c (by rw [e])
        simp only [List.mem_append, List.mem_singleton, this, or_false]
        exact h
theorem foundN_get (src : Int) (ws : List WayT) (j : Nat) (h : j < ws.length) : (foundN src ws).getD (j + 1) 0 = (ws.getD j (0, 0, 0)).1 := by
  unfold foundN
  simp [List.getD_eq_getElem?_getD, List.getElem?_map, List.getElem?_eq_getElem h]
theorem byOf_get {es : List (Int × Int)} {shut : Nat → Bool} {n : Nat} {src : Int} {ws : List WayT} (h : FoundW es shut n src ws) {j : Nat} (hj : j < ws.length) :
    (byOf es n ws).getD (ws.getD j (0, 0, 0)).1.toNat 0 = wayNo es (ws.getD j (0, 0, 0)) := by
  have e : ws = ws.take j ++ (ws.getD j (0, 0, 0) :: ws.drop (j + 1)) := by
    rw [List.getD_eq_getElem?_getD, List.getElem?_eq_getElem hj, Option.getD_some, ← List.drop_eq_getElem_cons hj, List.take_append_drop]
  generalize hw : ws.getD j (0, 0, 0) = w at e ⊢
  have hn := h.nodup
  have hr := h.range
  rw [e] at hn hr
  have h2 : (foundN src (ws.take j ++ w :: ws.drop (j + 1))) = (src :: (ws.take j).map (·.1)) ++ (w.1 :: (ws.drop (j + 1)).map (·.1)) := by unfold foundN; simp
  rw [h2, List.nodup_append] at hn
  rw [h2] at hr
  unfold byOf
  rw [e, List.foldl_append, List.foldl_cons]
  have hb : ((ws.take j).foldl (fun b w => b.set w.1.toNat (wayNo es w)) (List.replicate n 0)).length = n := by rw [foldl_set_length (fun w : WayT => w.1.toNat) (wayNo es), List.length_replicate]
  have rw0 := hr w.1 (by simp)
  rw [foldl_set_get (fun w : WayT => w.1.toNat) (wayNo es) 0 w.1.toNat (ws.drop (j + 1)) _ (fun v hv => ?_)]
  · simp only [List.getD_eq_getElem?_getD, List.getElem?_set]
    rw [if_true, if_pos (by rw [hb]; omega)]
    rfl
  · have hv1 : v.1 ∈ (ws.drop (j + 1)).map (·.1) := List.mem_map_of_mem hv
    have rv := hr v.1 (by simp only [List.mem_append, List.mem_cons]; exact .inr (.inr hv1))
    have := (List.nodup_cons.1 hn.2.1).1
    intro e'
    have : v.1 = w.1 := by omega
    rw [this] at hv1
    exact absurd hv1 (List.nodup_cons.1 hn.2.1).1
theorem way_ends {es : List (Int × Int)} {shut : Nat → Bool} {n : Nat} {src : Int} {ws : List WayT} (hE : EndsIn es n) (h : FoundW es shut n src ws) {j : Nat} (hj : j < ws.length) :
    (ws.getD j (0, 0, 0)).2.2 < es.length ∧ (0 ≤ (ws.getD j (0, 0, 0)).1 ∧ (ws.getD j (0, 0, 0)).1 < n) ∧ (0 ≤ (ws.getD j (0, 0, 0)).2.1 ∧ (ws.getD j (0, 0, 0)).2.1 < n) ∧
    (((ws.getD j (0, 0, 0)).2.1 = (es.getD (ws.getD j (0, 0, 0)).2.2 (0, 0)).1 ∧ (ws.getD j (0, 0, 0)).1 = (es.getD (ws.getD j (0, 0, 0)).2.2 (0, 0)).2) ∨ ((ws.getD j (0, 0, 0)).2.1 = (es.getD (ws.getD j (0, 0, 0)).2.2 (0, 0)).2 ∧ (ws.getD j (0, 0, 0)).1 = (es.getD (ws.getD j (0, 0, 0)).2.2 (0, 0)).1)) := by
  obtain ⟨h1, h2, h3, h4⟩ := h.way j hj
  have he := oth_ends h3
  have hi := hE _ h1
  refine ⟨h1, ?_, ?_, he⟩
  · rcases he with ⟨_, e⟩ | ⟨_, e⟩ <;> (rw [e]; omega)
  · rcases he with ⟨e, _⟩ | ⟨e, _⟩ <;> (rw [e]; omega)
theorem ways_nodup {es : List (Int × Int)} {shut : Nat → Bool} {n : Nat} {src : Int} {ws : List WayT} (h : FoundW es shut n src ws) : (ws.map fun w => (w.2.2 : Int)).Nodup := by
  unfold List.Nodup
  rw [List.pairwise_map, List.pairwise_iff_getElem]
  intro i j hi hj hij e
  have hg : ∀ (k : Nat) (hk : k < ws.length), ws.getD k (0, 0, 0) = ws[k] := fun k hk => by rw [List.getD_eq_getElem?_getD, List.getElem?_eq_getElem hk]; rfl
  obtain ⟨_, _, a3, a4⟩ := h.way i hi
  obtain ⟨_, _, b3, b4⟩ := h.way j hj
  rw [hg i hi] at a3 a4
  rw [hg j hj] at b3 b4
  have e' : ws[i].2.2 = ws[j].2.2 := by omega
  rw [e'] at a3
  have ha := oth_ends a3
  have hb := oth_ends b3
  have hn := h.nodup
  have hl : (foundN src ws).length = ws.length + 1 := by simp
  have nj : (foundN src ws)[j + 1]'(by omega) = ws[j].1 := by unfold foundN; simp
  have ni : (foundN src ws)[i + 1]'(by omega) = ws[i].1 := by unfold foundN; simp
  have key : ∀ (k : Nat) (hk : k < (foundN src ws).length), k < j + 1 → (foundN src ws)[k] ≠ ws[j].1 := fun k hk hlt => by
    rw [← nj]
    exact List.pairwise_iff_getElem.1 hn k (j + 1) hk (by omega) hlt
  have k1 : ws[i].1 ≠ ws[j].1 := by rw [← ni]; exact key (i + 1) (by omega) (by omega)
  have k2 : ws[i].2.1 ≠ ws[j].1 := by
    obtain ⟨k, hk, e2⟩ := List.mem_iff_getElem.1 a4
    rw [List.getElem_take] at e2
    rw [← e2]
    rw [List.length_take] at hk
    exact key k (by omega) (by omega)
  rcases ha with ⟨a1, a2⟩ | ⟨a1, a2⟩ <;> rcases hb with ⟨b1, b2⟩ | ⟨b1, b2⟩
  · exact k1 (by rw [a2, b2])
  · exact k2 (by rw [a1, b2])
  · exact k2 (by rw [a1, b2])
  · exact k1 (by rw [a2, b2])
theorem ways_all {es : List (Int × Int)} {shut : Nat → Bool} {n : Nat} {src : Int} {ws : List WayT} (h : FoundW es shut n src ws) (hl : ws.length = es.length) {i : Nat} (hi : i < es.length) : ∃ j, j < ws.length ∧ (ws.getD j (0, 0, 0)).2.2 = i := by
  refine Classical.byContradiction fun g => ?_
  have hg : ∀ (k : Nat) (hk : k < ws.length), ws.getD k (0, 0, 0) = ws[k] := fun k hk => by rw [List.getD_eq_getElem?_getD, List.getElem?_eq_getElem hk]; rfl
  have hx : (i : Int) ∉ ws.map fun w => (w.2.2 : Int) := fun hm => by
    obtain ⟨w, hw, e⟩ := List.mem_map.1 hm
    obtain ⟨j, hj, e2⟩ := List.mem_iff_getElem.1 hw
    exact g ⟨j, hj, by rw [hg j hj, e2]; omega⟩
  have := nodup_length es.length ((i : Int) :: ws.map fun w => (w.2.2 : Int)) (List.nodup_cons.2 ⟨hx, ways_nodup h⟩) (fun y hy => by
    rcases List.mem_cons.1 hy with e | e
    · omega
    · obtain ⟨w, hw, e⟩ := List.mem_map.1 e
      obtain ⟨j, hj, e2⟩ := List.mem_iff_getElem.1 hw
      have := (h.way j hj).1
      rw [hg j hj, e2] at this
      omega)
  simp at this
  omega
theorem bfs_full {es : List (Int × Int)} {n f : Nat} {src : Int} (hE : EndsIn es n) (h0 : 0 ≤ src) (h1 : src < n) (hf : n < f) (ha : (reachS es open_ 0 f).length = n) : (bfs es open_ src f 0 []).length + 1 = n := by
  have hb := bfs_all (shut := open_) hE h0 h1 hf
  have hz := bfs_all (shut := open_) (src := 0) hE (by omega) (by omega) hf
  have hc : ∀ x : Int, 0 ≤ x → x < n → Conn (EL es open_ es.length) 0 x := fun x x0 x1 => by
    refine Classical.byContradiction fun g => ?_
    have hx : x ∉ foundN 0 (bfs es open_ 0 f 0 []) := fun hx => g ((hz.2 x).1 hx)
    have := nodup_length n _ (List.nodup_cons.2 ⟨hx, hz.1.nodup⟩) fun y hy => by
      rcases List.mem_cons.1 hy with e | e
      · rw [e]; exact ⟨x0, x1⟩
      · exact hz.1.range y e
    rw [reachS_length] at ha
    simp at this
    omega
  have e : reachS es open_ src f = numsU 0 n := rising_ext _ _ (reachS_rises hE h0 h1 hf) (numsU_rises n 0) fun x => by
    rw [mem_numsU, reachS_mem hE h0 h1 hf]
    exact ⟨fun c => by have := hb.1.range x ((hb.2 x).2 c); omega, fun hx => ((hc src h0 h1).symm EL_symm).trans (hc x hx.1 (by omega))⟩
  have := reachS_length es open_ src f
  rw [e, numsU_length] at this
  omega
end Go.Proofs.YtnmdcmfhjhgheaaM
