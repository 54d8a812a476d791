/- Plain laws on parts of a graph: labels told edge by edge, the sorted list of what is joined to a number. No program in sight. No condition. -/
import Derived.Test.YtnmdcmfhjhgheaaMathH
namespace Go.Proofs.YtnmdcmfhjhgheaaM
set_option linter.unusedVariables false
set_option linter.unusedSimpArgs false
def reachS (es : List (Int × Int)) (shut : Nat → Bool) (src : Int) (f : Nat) : List Int := (foundN src (bfs es shut src f 0 [])).mergeSort fun x y => decide (x ≤ y)
theorem reachS_mem {es : List (Int × Int)} {shut : Nat → Bool} {n f : Nat} {src : Int} (hE : EndsIn es n) (h0 : 0 ≤ src) (h1 : src < n) (hf : n < f) (y : Int) : y ∈ reachS es shut src f ↔ Conn (EL es shut es.length) src y := by
  unfold reachS
  rw [List.mem_mergeSort]
  exact (bfs_all hE h0 h1 hf).2 y
theorem reachS_sorted (es : List (Int × Int)) (shut : Nat → Bool) (src : Int) (f : Nat) : (reachS es shut src f).Pairwise (· ≤ ·) := by
  have := List.pairwise_mergeSort (le := fun x y : Int => decide (x ≤ y)) (fun a b c h1 h2 => by simp only [decide_eq_true_eq] at *; omega) (fun a b => by simp only [Bool.or_eq_true, decide_eq_true_eq]; omega) (foundN src (bfs es shut src f 0 []))
  refine this.imp fun h => ?_
  simpa using h
theorem reachS_length (es : List (Int × Int)) (shut : Nat → Bool) (src : Int) (f : Nat) : (reachS es shut src f).length = (bfs es shut src f 0 []).length + 1 := by
  unfold reachS
  rw [List.length_mergeSort]
  simp
theorem reachS_nodup {es : List (Int × Int)} {shut : Nat → Bool} {n f : Nat} {src : Int} (hE : EndsIn es n) (h0 : 0 ≤ src) (h1 : src < n) (hf : n < f) : (reachS es shut src f).Nodup := by
  unfold reachS
  exact (List.mergeSort_perm _ _).nodup_iff.2 (bfs_all hE h0 h1 hf).1.nodup
theorem reachS_rises {es : List (Int × Int)} {shut : Nat → Bool} {n f : Nat} {src : Int} (hE : EndsIn es n) (h0 : 0 ≤ src) (h1 : src < n) (hf : n < f) : (reachS es shut src f).Pairwise (· < ·) := by
  refine ((reachS_sorted es shut src f).and (reachS_nodup hE h0 h1 hf)).imp fun h => ?_
  have := h.1; have := h.2; omega
theorem rising_ext : ∀ (l m : List Int), l.Pairwise (· < ·) → m.Pairwise (· < ·) → (∀ x, x ∈ l ↔ x ∈ m) → l = m
  | [], [], _, _, _ => rfl
  | [], b :: m, _, _, h => by have := (h b).2 List.mem_cons_self; cases this
  | a :: l, [], _, _, h => by have := (h a).1 List.mem_cons_self; cases this
  | a :: l, b :: m, h1, h2, h => by
    obtain ⟨p1, q1⟩ := List.pairwise_cons.1 h1
    obtain ⟨p2, q2⟩ := List.pairwise_cons.1 h2
    have e : a = b := by
      rcases List.mem_cons.1 ((h a).1 List.mem_cons_self) with g | g
      · exact g
      · rcases List.mem_cons.1 ((h b).2 List.mem_cons_self) with g' | g'
        · exact g'.symm
        · have := p2 a g; have := p1 b g'; omega
    subst e
    rw [rising_ext l m q1 q2 fun x => ?_]
    constructor
    · intro hx
      rcases List.mem_cons.1 ((h x).1 (List.mem_cons_of_mem _ hx)) with g | g
      · have := p1 x hx; omega
      · exact g
    · intro hx
      rcases List.mem_cons.1 ((h x).2 (List.mem_cons_of_mem _ hx)) with g | g
      · have := p2 x hx; omega
      · exact g
theorem mem_numsU : ∀ (d : Nat) (a x : Int), x ∈ numsU a d ↔ a ≤ x ∧ x < a + d
  | 0, a, x => by simp [numsU]
  | d + 1, a, x => by simp only [numsU, List.mem_cons, mem_numsU d (a + 1) x]; omega
theorem numsU_rises : ∀ (d : Nat) (a : Int), (numsU a d).Pairwise (· < ·)
  | 0, _ => by simp [numsU]
  | d + 1, a => by
    simp only [numsU, List.pairwise_cons]
    exact ⟨fun x hx => by have := (mem_numsU d (a + 1) x).1 hx; omega, numsU_rises d (a + 1)⟩
def treeS (es : List (Int × Int)) : Nat → Nat → List Int → List Int → List Int × List Int
  | 0, _, acc, out => (acc, out)
  | d + 1, i, acc, out =>
    if lb out (es.getD i (0, 0)).1 = lb out (es.getD i (0, 0)).2 then treeS es d (i + 1) acc out
    else treeS es d (i + 1) (acc ++ [(i : Int)]) (relab out (lb out (es.getD i (0, 0)).2) (lb out (es.getD i (0, 0)).1))
abbrev open_ : Nat → Bool := fun _ => false
theorem lab_old {es : List (Int × Int)} {n i : Nat} {out : List Int} (hE : EndsIn es n) (hi : i < es.length) (h : Lab (EL es open_ i) n out) (c : lb out (es.getD i (0, 0)).1 = lb out (es.getD i (0, 0)).2) : ∀ x y : Int, (Conn (EL es open_ (i + 1)) x y ↔ Conn (EL es open_ i) x y) := by
  intro x y
  have he := hE i hi
  rw [conn_congr (fun u v => EL_succ hi rfl u v), conn_add_old EL_symm ((h.same _ _ he.1.1 he.1.2 he.2.1 he.2.2).1 c)]
theorem treeS_spec {es : List (Int × Int)} {n : Nat} (hE : EndsIn es n) : ∀ (d i : Nat) (acc out : List Int), i + d = es.length → Lab (EL es open_ i) n out → cntL out n + acc.length = n →
    Lab (EL es open_ es.length) n (treeS es d i acc out).2 ∧ cntL (treeS es d i acc out).2 n + (treeS es d i acc out).1.length = n
  | 0, i, acc, out, hd, h, hc => by
    simp only [treeS]
    rw [show i = es.length by omega] at h
    exact ⟨h, hc⟩
  | d + 1, i, acc, out, hd, h, hc => by
    simp only [treeS]
    have he := hE i (by omega)
    by_cases c : lb out (es.getD i (0, 0)).1 = lb out (es.getD i (0, 0)).2
    · rw [if_pos c]
      exact treeS_spec hE d (i + 1) acc out (by omega) (h.congr fun x y _ _ _ _ => (lab_old hE (by omega) h c x y).symm) hc
    · rw [if_neg c]
      refine treeS_spec hE d (i + 1) _ _ (by omega) ((h.join he.1.1 he.1.2 he.2.1 he.2.2 (.inr ⟨rfl, rfl⟩)).congr fun x y _ _ _ _ => conn_congr fun u v => (EL_succ (by omega) rfl u v).symm) ?_
      have := cntL_join h.len (h.own _ he.2.1 he.2.2) (fun g => c g.symm) (h.own _ he.1.1 he.1.2) n (Nat.le_refl _)
      have hr := h.range _ he.2.1 he.2.2
      rw [if_pos ⟨hr.1, hr.2⟩] at this
      rw [List.length_append, List.length_singleton]
      omega
theorem tree_all {es : List (Int × Int)} {n f : Nat} (hE : EndsIn es n) (hn : 0 < n) (hf : n < f) : (treeS es es.length 0 [] (numsU 0 n)).1.length = n - 1 ↔ (reachS es open_ 0 f).length = n := by
  obtain ⟨hL, hc⟩ := treeS_spec hE es.length 0 [] (numsU 0 n) (by omega) (Lab.start EL_zero n) (by rw [cntL_start n n (Nat.le_refl _)]; simp)
  have hp := cntL_pos hL hn
  have ha := cntL_all hL hn
  have hm := fun y => reachS_mem (shut := open_) (src := 0) hE (by omega) (by omega) hf y
  have hr := reachS_rises (shut := open_) (src := 0) hE (by omega) (by omega) hf
  rw [show (treeS es es.length 0 [] (numsU 0 n)).1.length = n - 1 ↔ cntL (treeS es es.length 0 [] (numsU 0 n)).2 n = 1 by omega, ha]
  have hbd : ∀ y ∈ reachS es open_ 0 f, 0 ≤ y ∧ y < (n : Int) := fun y hy => by
    have hb := (bfs_all (shut := open_) (src := 0) hE (by omega) (by omega) hf)
    exact hb.1.range y ((hb.2 y).2 ((hm y).1 hy))
  constructor
  · intro h
    have e : reachS es open_ 0 f = numsU 0 n := rising_ext _ _ hr (numsU_rises n 0) fun x => by
      rw [mem_numsU]
      exact ⟨fun hx => by have := hbd x hx; omega, fun hx => (hm x).2 (h x hx.1 (by omega))⟩
    rw [e, numsU_length]
  · intro h x h0 h1
    refine Classical.byContradiction fun g => ?_
    have hx : x ∉ reachS es open_ 0 f := fun hx => g ((hm x).1 hx)
    have : (x :: reachS es open_ 0 f).length ≤ n := nodup_length n _ (List.nodup_cons.2 ⟨hx, reachS_nodup hE (by omega) (by omega) hf⟩) fun y hy => by
      rcases List.mem_cons.1 hy with e | e
      · rw [e]; exact ⟨h0, h1⟩
      · exact hbd y e
    simp at this
    omega
end Go.Proofs.YtnmdcmfhjhgheaaM
