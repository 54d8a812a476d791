/- Plain laws on parts of a graph: labels told edge by edge, the sorted list of what is joined to a number. No program in sight. No condition. -/
import Derived.Test.YtcgbagdpedpdpaaMathH
namespace Go.Proofs.YtcgbagdpedpdpaaM
set_option linter.unusedVariables false
set_option linter.unusedSimpArgs false
def partsS (es : List (Int × Int)) (shut : Nat → Bool) : Nat → Nat → List Int → List Int
  | 0, _, out => out
  | d + 1, i, out =>
    if shut i = true then partsS es shut d (i + 1) out
    else partsS es shut d (i + 1) (relab out (if lb out (es.getD i (0, 0)).1 > lb out (es.getD i (0, 0)).2 then lb out (es.getD i (0, 0)).1 else lb out (es.getD i (0, 0)).2) (if lb out (es.getD i (0, 0)).1 < lb out (es.getD i (0, 0)).2 then lb out (es.getD i (0, 0)).1 else lb out (es.getD i (0, 0)).2))
theorem partsS_spec {es : List (Int × Int)} {shut : Nat → Bool} {n : Nat} (hE : EndsIn es n) : ∀ (d i : Nat) (out : List Int), i + d = es.length → Lab (EL es shut i) n out → Low n out →
    Lab (EL es shut es.length) n (partsS es shut d i out) ∧ Low n (partsS es shut d i out)
  | 0, i, out, hd, h, hl => by
    simp only [partsS]
    rw [show i = es.length by omega] at h
    exact ⟨h, hl⟩
  | d + 1, i, out, hd, h, hl => by
    simp only [partsS]
    have he := hE i (by omega)
    by_cases c : shut i = true
    · rw [if_pos c]
      exact partsS_spec hE d (i + 1) out (by omega) (h.congr fun x y _ _ _ _ => conn_congr fun u v => (EL_shut c u v).symm) hl
    · rw [if_neg c]
      have c' : shut i = false := by simpa using c
      refine partsS_spec hE d (i + 1) _ (by omega) ?_ ?_
      · refine (h.join he.1.1 he.1.2 he.2.1 he.2.2 ?_).congr fun x y _ _ _ _ => conn_congr fun u v => (EL_succ (by omega) c' u v).symm
        by_cases g : lb out (es.getD i (0, 0)).1 < lb out (es.getD i (0, 0)).2
        · exact .inr ⟨if_neg (by omega), if_pos g⟩
        · by_cases g' : lb out (es.getD i (0, 0)).1 > lb out (es.getD i (0, 0)).2
          · exact .inl ⟨if_pos g', if_neg g⟩
          · exact .inr ⟨if_neg g', by rw [if_neg g]; omega⟩
      · refine hl.join h.len ?_
        split <;> split <;> omega
def labelsOf (es : List (Int × Int)) (shut : Nat → Bool) (n : Nat) : List Int := partsS es shut es.length 0 (numsU 0 n)
theorem labels_lab {es : List (Int × Int)} {shut : Nat → Bool} {n : Nat} (hE : EndsIn es n) : Lab (EL es shut es.length) n (labelsOf es shut n) ∧ Low n (labelsOf es shut n) :=
  partsS_spec hE es.length 0 _ (by omega) (Lab.start EL_zero n) (Low.start n)
def reachS (es : List (Int × Int)) (shut : Nat → Bool) (src : Int) (f : Nat) : List Int := (foundN src (bfs es shut src f 0 [])).mergeSort fun x y => decide (x ≤ y)
theorem reachS_mem {es : List (Int × Int)} {shut : Nat → Bool} {n f : Nat} {src : Int} (hE : EndsIn es n) (h0 : 0 ≤ src) (h1 : src < n) (hf : n < f) (y : Int) : y ∈ reachS es shut src f ↔ Conn (EL es shut es.length) src y := by
  unfold reachS
  rw [List.mem_mergeSort]
  exact (bfs_all hE h0 h1 hf).2 y
theorem reachS_sorted (es : List (Int × Int)) (shut : Nat → Bool) (src : Int) (f : Nat) : (reachS es shut src f).Pairwise (· ≤ ·) := by
  have := List.pairwise_mergeSort (le := fun x y : Int => decide (x ≤ y)) (fun a b c h1 h2 => by simp only [decide_eq_true_eq] at *; omega) (fun a b => by simp only [Bool.or_eq_true, decide_eq_true_eq]; omega) (foundN src (bfs es shut src f 0 []))
  refine this.imp fun h => ?_
  simpa using h
theorem reachS_length (es : List (Int × Int)) (shut : Nat → Bool) (src : Int) (f : Nat) : (reachS es shut src f).length = (bfs es shut src f 0 []).length + 1 := by
  unfold reachS
  rw [List.length_mergeSort]
  simp
theorem reachS_nodup {es : List (Int × Int)} {shut : Nat → Bool} {n f : Nat} {src : Int} (hE : EndsIn es n) (h0 : 0 ≤ src) (h1 : src < n) (hf : n < f) : (reachS es shut src f).Nodup := by
  unfold reachS
  exact (List.mergeSort_perm _ _).nodup_iff.2 (bfs_all hE h0 h1 hf).1.nodup
theorem reachS_rises {es : List (Int × Int)} {shut : Nat → Bool} {n f : Nat} {src : Int} (hE : EndsIn es n) (h0 : 0 ≤ src) (h1 : src < n) (hf : n < f) : (reachS es shut src f).Pairwise (· < ·) := by
  refine ((reachS_sorted es shut src f).and (reachS_nodup hE h0 h1 hf)).imp fun h => ?_
  have := h.1; have := h.2; omega
theorem rising_ext : ∀ (l m : List Int), l.Pairwise (· < ·) → m.Pairwise (· < ·) → (∀ x, x ∈ l ↔ x ∈ m) → l = m
  | [], [], _, _, _ => rfl
  | [], b :: m, _, _, h => by have := (h b).2 List.mem_cons_self; cases this
  | a :: l, [], _, _, h => by have := (h a).1 List.mem_cons_self; cases this
  | a :: l, b :: m, h1, h2, h => by
    obtain ⟨p1, q1⟩ := List.pairwise_cons.1 h1
    obtain ⟨p2, q2⟩ := List.pairwise_cons.1 h2
    have e : a = b := by
      rcases List.mem_cons.1 ((h a).1 List.mem_cons_self) with g | g
      · exact g
      · rcases List.mem_cons.1 ((h b).2 List.mem_cons_self) with g' | g'
        · exact g'.symm
        · have := p2 a g; have := p1 b g'; omega
    subst e
    rw [rising_ext l m q1 q2 fun x => ?_]
    constructor
    · intro hx
      rcases List.mem_cons.1 ((h x).1 (List.mem_cons_of_mem _ hx)) with g | g
      · have := p1 x hx; omega
      · exact g
    · intro hx
      rcases List.mem_cons.1 ((h x).2 (List.mem_cons_of_mem _ hx)) with g | g
      · have := p2 x hx; omega
      · exact g
theorem mem_numsU : ∀ (d : Nat) (a x : Int), x ∈ numsU a d ↔ a ≤ x ∧ x < a + d
  | 0, a, x => by simp [numsU]
  | d + 1, a, x => by simp only [numsU, List.mem_cons, mem_numsU d (a + 1) x]; omega
theorem numsU_rises : ∀ (d : Nat) (a : Int), (numsU a d).Pairwise (· < ·)
  | 0, _ => by simp [numsU]
  | d + 1, a => by
    simp only [numsU, List.pairwise_cons]
    exact ⟨fun x hx => by have := (mem_numsU d (a + 1) x).1 hx; omega, numsU_rises d (a + 1)⟩
theorem reachS_filter {es : List (Int × Int)} {shut : Nat → Bool} {n f : Nat} {src : Int} (hE : EndsIn es n) (h0 : 0 ≤ src) (h1 : src < n) (hf : n < f) :
    (numsU 0 n).filter (fun j => decide (lb (labelsOf es shut n) j = lb (labelsOf es shut n) src)) = reachS es shut src f := by
  obtain ⟨hL, hl⟩ := labels_lab (shut := shut) hE
  refine rising_ext _ _ ((numsU_rises n 0).filter _) (reachS_rises hE h0 h1 hf) fun x => ?_
  rw [List.mem_filter, mem_numsU, reachS_mem hE h0 h1 hf, decide_eq_true_eq]
  constructor
  · rintro ⟨⟨a, b⟩, c⟩
    exact (hL.same src x h0 h1 a (by omega)).1 c.symm
  · intro c
    have hb := (bfs_all (shut := shut) hE h0 h1 hf)
    have hx := hb.1.range x ((hb.2 x).2 c)
    exact ⟨⟨hx.1, by omega⟩, ((hL.same src x h0 h1 hx.1 hx.2).2 c).symm⟩
abbrev open_ : Nat → Bool := fun _ => false
end Go.Proofs.YtcgbagdpedpdpaaM
