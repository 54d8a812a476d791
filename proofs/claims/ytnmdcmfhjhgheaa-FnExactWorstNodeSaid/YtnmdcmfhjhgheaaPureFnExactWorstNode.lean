/- For every network, source, list of demands and pressure the program's WorstNode answers as the reference's does and leaves its arguments as they are. No condition. -/
import Derived.Test.YtnmdcmfhjhgheaaPFnExactWorstNodex19
import Derived.Test.YtnmdcmfhjhgheaaMath
import Derived.Test.YtnmdcmfhjhgheaaMathR
import Derived.Test.YtnmdcmfhjhgheaaMathJ
namespace Go.Proofs.Ytnmdcmfhjhgheaa.Pure
open Go.RowKit Go.Proofs.Ytnmdcmfhjhgheaa.PFnExactWorstNode Go.Proofs.YtnmdcmfhjhgheaaW.PrintWords Go.Proofs.YtnmdcmfhjhgheaaW.PrintLast Go.Proofs.YtnmdcmfhjhgheaaW.PrintMore Go.Proofs.YtnmdcmfhjhgheaaM
set_option linter.unusedSimpArgs false
set_option linter.unusedVariables false
theorem roomOf_ok {a n : Int} (h : ¬ roomOf a n < 0) : n ≤ a ∧ roomOf a n = a - n := by
  unfold roomOf at *
  split at h
  · omega
  · rename_i c; rw [if_neg c]; exact ⟨by omega, rfl⟩
theorem szNet_is (ns : List Int) (qs : List S68) (a : Int) (hn : ns.length ≤ 9223372036854775807) (hq : qs.length ≤ 9223372036854775807) (hx : ∀ p ∈ qs, p.f0.size ≤ 9223372036854775807) (h0 : 0 ≤ a) (h1 : a ≤ 1048576) :
    X77.f ns qs a = some (roomOf a ((ns.length : Int) + ((qs.length : Int) + sizeP qs))) := by
  unfold X77.f X74.f
  have hz := sizeP_nonneg qs
  rw [w64 (x := a - (ns.length : Int)) (by omega) (by omega)]
  by_cases n1 : a - (ns.length : Int) < 0
  · rw [if_pos n1]; simp only [Option.bind_some]; unfold roomOf; rw [if_pos (by omega), if_pos (by omega)]
  · rw [if_neg n1]
    simp only [Option.bind_some]
    have e : X65.f qs (a - (ns.length : Int)) = some (roomOf (a - (ns.length : Int)) ((qs.length : Int) + sizeP qs)) := by unfold X65.f; rw [if_pos ⟨⟨by omega, by omega⟩, hq, hx⟩]
    rw [if_neg n1, e]
    simp only [Option.bind_some]
    unfold roomOf
    rw [show a - ((ns.length : Int) + ((qs.length : Int) + sizeP qs)) = a - (ns.length : Int) - ((qs.length : Int) + sizeP qs) by omega]
    by_cases n2 : a - (ns.length : Int) - ((qs.length : Int) + sizeP qs) < 0
    · rw [if_pos n2, if_pos (by omega)]
    · rw [if_neg n2, if_neg n2]
theorem toNet_is {ns : List Int} {qs : List S68} (hn : ns.length ≤ 1048576) (hq : qs.length ≤ 1048576) : X45.f ns qs = some (ns, qs.map cvP) := by
  unfold X45.f X35.f X75.f
  rw [if_pos (by omega), if_pos (by omega)]; rfl
theorem eqNet_refl {ns : List Int} {ps : List S73} (hn : ns.length ≤ 1048576) (hq : ps.length ≤ 1048576) : X67.f ns ps ns ps = some true := by
  unfold X67.f X41.f X71.f
  rw [if_pos (by omega), if_pos (by omega)]; simp [pipesEq_refl]
theorem cv_size {qs : List S68} {m : Nat} (h : sizeP qs ≤ (m : Int)) : ∀ p ∈ qs.map cvP, p.f0.size ≤ m := by
  intro p hp
  obtain ⟨q, hq, rfl⟩ := List.mem_map.mp hp
  have := sizeP_elem h q hq
  show q.f0.size ≤ m
  omega
abbrev SP := S73
def edges (ps : List SP) : List (Int × Int) := ps.map fun p => (p.f1, p.f2)
def shutOf (cl : List Int) (i : Nat) : Bool := decide ((i : Int) ∈ cl)
theorem edges_length (ps : List SP) : (edges ps).length = ps.length := by unfold edges; simp
theorem edges_get {ps : List SP} {i : Nat} (h : i < ps.length) : (edges ps).getD i (0, 0) = ((ps.getD i z73).f1, (ps.getD i z73).f2) := by
  unfold edges
  simp [List.getD_eq_getElem?_getD, List.getElem?_map, List.getElem?_eq_getElem h]
theorem ends_of {ns : List Int} {ps : List SP} (h : netOk ns ps = true) : EndsIn (edges ps) ns.length := fun i hi => by
  rw [edges_length] at hi
  have := (netOk_pipe h i hi).2
  rw [edges_get hi]
  exact ⟨this.1, this.2.1⟩
structure Small (ns : List Int) (ps : List SP) : Prop where
  n1 : 1 ≤ ns.length
  n16 : ns.length ≤ 16
  p20 : ps.length ≤ 20
  ends : EndsIn (edges ps) ns.length
theorem small_of {ns : List Int} {ps : List SP} (h : netOk ns ps = true) : Small ns ps := ⟨(netOk_parts h).1.1, (netOk_parts h).1.2, (netOk_parts h).2.1, ends_of h⟩
theorem Small.pipe {ns : List Int} {ps : List SP} (h : Small ns ps) {i : Nat} (hi : i < ps.length) : (0 ≤ (ps.getD i z73).f1 ∧ (ps.getD i z73).f1 < ns.length) ∧ (0 ≤ (ps.getD i z73).f2 ∧ (ps.getD i z73).f2 < ns.length) := by
  have := h.ends i (by rw [edges_length]; exact hi)
  rw [edges_get hi] at this
  exact this
theorem shut_nil : shutOf [] = open_ := by funext i; unfold shutOf; simp
theorem rd_nat (l : List Int) (i : Nat) : rd l (i : Int) = l.getD i 0 := by unfold rd; rw [Int.toNat_natCast]
theorem drop_one (l : List Int) (i : Nat) (h : i < l.length) : l.drop i = l.getD i 0 :: l.drop (i + 1) := by
  rw [List.drop_eq_getElem_cons h, List.getD_eq_getElem?_getD, List.getElem?_eq_getElem h]; rfl
theorem w_succ {i : Nat} (h : i ≤ 4611686018427387904) : wrap64 ((i : Int) + 1) = ((i + 1 : Nat) : Int) := by
  rw [w64 (by omega) (by omega)]; push_cast; rfl
theorem index_is (l : List Int) (a : Int) (hl : l.length ≤ 4611686018427387904) : ∀ (d K i : Nat), i + d = l.length → d < K →
    ∃ r, X15.l0 K l a (l.length : Int) (i : Int) = some r ∧ decide (r ≥ 0) = decide (a ∈ l.drop i)
  | d, 0, i, hd, hk => by omega
  | 0, K + 1, i, hd, hk => by
    simp only [X15.l0]
    rw [if_neg (by omega), List.drop_of_length_le (by omega)]
    exact ⟨-1, rfl, by simp⟩
  | d + 1, K + 1, i, hd, hk => by
    simp only [X15.l0]
    rw [if_pos (by omega), if_pos (by omega), if_pos (by omega), rd_nat, drop_one l i (by omega)]
    by_cases c : a = l.getD i 0
    · rw [if_pos c]
      exact ⟨_, rfl, by rw [← c, decide_eq_true (show (i : Int) ≥ 0 by omega), decide_eq_true (List.mem_cons_self)]⟩
    · rw [if_neg c, w_succ (by omega)]
      obtain ⟨r, h1, h2⟩ := index_is l a hl d K (i + 1) (by omega) (by omega)
      exact ⟨r, h1, by rw [h2]; simp only [List.mem_cons, c, false_or]⟩
theorem contains_is (l : List Int) (a : Int) {K : Nat} (hl : l.length ≤ 100) (hk : 100 < K) : X14.f K l a = some (decide (a ∈ l)) := by
  obtain ⟨r, h1, h2⟩ := index_is l a (by omega) l.length K 0 (by omega) (by omega)
  unfold X14.f X15.f
  rw [show (0 : Int) = ((0 : Nat) : Int) from rfl, h1]
  simp only [Option.bind_some]
  rw [show ((0 : Nat) : Int) = (0 : Int) from rfl, h2, List.drop_zero]
theorem other_is (s : ByteArray) (a b c d e x : Int) : X40.f s a b c d e x = some (match oth (a, b) x with | some y => (y, true) | none => (0, false)) := by
  unfold X40.f oth
  by_cases c1 : x = a
  · rw [if_pos c1, if_pos c1]
  · rw [if_neg c1, if_neg c1]
    by_cases c2 : x = b
    · rw [if_pos c2, if_pos c2]
    · rw [if_neg c2, if_neg c2]
theorem reached_l1 (ns : List Int) (ps : List SP) (cl : List Int) (src x : Int) (kk : Nat) (hkk : kk ≤ 100) (hm : ps.length ≤ 20) (hcl : cl.length ≤ 60) : ∀ (d K i : Nat) (ws : List WayT), i + d = ps.length → d + 110 ≤ K → ws.length + d ≤ 80 → kk < ws.length + 1 → (foundN src ws).getD kk 0 = x →
    X4.l1 K cl (foundN src ws) (kk : Int) ps (ps.length : Int) (i : Int) ns ps = X4.l0 (K - (d + 1)) cl (foundN src (sweep (edges ps) (shutOf cl) src x d i ws)) ((kk + 1 : Nat) : Int) ns ps
  | d, 0, i, ws, hd, hK, _, _, _ => by omega
  | 0, K + 1, i, ws, hd, hK, hw, hk, hx => by
    simp only [X4.l1, sweep]
    rw [if_neg (by omega), w_succ (by omega)]
    rfl
  | d + 1, K + 1, i, ws, hd, hK, hw, hk, hx => by
    simp only [X4.l1, sweep]
    have hlen : ((foundN src ws).length : Int) = (ws.length : Int) + 1 := by simp
    rw [if_pos (by omega), if_pos (by omega), if_pos (by omega), if_pos (by omega), if_pos (by rw [hlen]; omega), rd_nat, hx, rdP_impl, other_is, edges_get (by omega), show K + 1 - (d + 1 + 1) = K - (d + 1) by omega]
    have ih := reached_l1 ns ps cl src x kk hkk hm hcl d K (i + 1)
    rw [Option.bind_some]
    cases ho : oth ((ps.getD i z73).f1, (ps.getD i z73).f2) x with
    | none =>
      simp only [Bool.false_eq_true, if_false]
      rw [w_succ (by omega)]
      exact ih ws (by omega) (by omega) (by omega) hk hx
    | some y =>
      simp only [if_true]
      rw [contains_is cl (i : Int) (by omega) (by omega), Option.bind_some]
      by_cases c1 : (i : Int) ∈ cl
      · rw [if_pos (by simpa using c1), w_succ (by omega), if_neg (fun h => by have := h.1; unfold shutOf at this; simp [c1] at this)]
        exact ih ws (by omega) (by omega) (by omega) hk hx
      · rw [if_neg (by simpa using c1), contains_is (foundN src ws) y (by simp; omega) (by omega), Option.bind_some]
        have hs : shutOf cl i = false := by unfold shutOf; simpa using c1
        by_cases c2 : y ∈ foundN src ws
        · rw [if_pos (by simpa using c2), w_succ (by omega), if_neg (fun h => h.2 c2)]
          exact ih ws (by omega) (by omega) (by omega) hk hx
        · rw [if_neg (by simpa using c2), if_pos (by simp; omega), w_succ (by omega), if_pos ⟨hs, c2⟩, show foundN src ws ++ [y] = foundN src (ws ++ [(y, x, i)]) by simp]
          exact ih (ws ++ [(y, x, i)]) (by omega) (by omega) (by simp; omega) (by simp; omega) (by rw [getD_foundN_append _ _ _ _ hk, hx])
theorem reached_l0 {ns : List Int} {ps : List SP} {cl : List Int} {n : Nat} (hE : EndsIn (edges ps) n) (hn : n ≤ 16) (hm : ps.length ≤ 20) (hcl : cl.length ≤ 60) {src : Int} : ∀ (f K k : Nat) (ws : List WayT), n < f + k → k ≤ ws.length + 1 → FoundW (edges ps) (shutOf cl) n src ws → f * (ps.length + 2) + 200 ≤ K →
    X4.l0 K cl (foundN src ws) (k : Int) ns ps = some ((foundN src (bfs (edges ps) (shutOf cl) src f k ws)).mergeSort fun x y => decide (x ≤ y))
  | 0, K, k, ws, hf, hk, h, hK => by have := found_length h; omega
  | f + 1, 0, k, ws, hf, hk, h, hK => by omega
  | f + 1, K + 1, k, ws, hf, hk, h, hK => by
    have hl := found_length h
    have hlen : ((foundN src ws).length : Int) = (ws.length : Int) + 1 := by simp
    rw [Nat.add_mul, Nat.one_mul] at hK
    simp only [X4.l0, bfs]
    by_cases c : k < ws.length + 1
    · have h1 := reached_l1 ns ps cl src _ k (by omega) hm hcl ps.length K 0 ws (by omega) (by omega) (by omega) c rfl
      rw [show ((0 : Nat) : Int) = (0 : Int) from rfl] at h1
      rw [if_pos (by rw [hlen]; omega), if_pos c, h1]
      obtain ⟨ext, e1, e2, e3⟩ := sweep_spec (shut := shutOf cl) (src := src) hE (edges ps).length 0 ws (by omega) h (getD_mem_foundN c)
      rw [edges_length] at e1 ⊢
      rw [e1]
      exact reached_l0 hE hn hm hcl f (K - (ps.length + 1)) (k + 1) (ws ++ ext) (by omega) (by simp; omega) e2 (by omega)
    · rw [if_neg (by rw [hlen]; omega), if_neg c]
      unfold X61.f
      rw [if_pos ⟨by simp, by simp; omega⟩, Option.bind_some]
theorem reached_is {ns : List Int} {ps : List SP} {cl : List Int} {src : Int} (h : Small ns ps) (hcl : cl.length ≤ 60) (h0 : 0 ≤ src) (h1 : src < ns.length) {K : Nat} (hK : 600 ≤ K) :
    X4.f K ns ps src cl = some (reachS (edges ps) (shutOf cl) src 17) := by
  unfold X4.f reachS
  rw [show ([src] : List Int) = foundN src [] from rfl, show (0 : Int) = ((0 : Nat) : Int) from rfl]
  have := h.n16; have := h.p20
  exact reached_l0 h.ends h.n16 h.p20 hcl 17 K 0 [] (by omega) (by simp) (found_start h0 h1) (by omega)
theorem relab_cons (v : Int) (l : List Int) (H L : Int) : relab (v :: l) H L = (if v = H then L else v) :: relab l H L := rfl
theorem set_step (l : List Int) (j : Nat) (h : j < l.length) (v : Int) : (l.set j v).take (j + 1) = l.take j ++ [v] ∧ (l.set j v).drop (j + 1) = l.drop (j + 1) := by
  refine ⟨take_set l j h v, ?_⟩
  rw [List.drop_set_of_lt (by omega)]
theorem stree_l2 (ns : List Int) (ps : List SP) (acc : List Int) (i lo hi : Int) : ∀ (d K j : Nat) (cur : List Int), j + d = cur.length → cur.length ≤ 100 → d + 100 ≤ K →
    X12.l2 K acc cur i lo hi (j : Int) ns ps = X12.l1 (K - (d + 1)) acc (cur.take j ++ relab (cur.drop j) hi lo) (wrap64 (i + 1)) ns ps
  | d, 0, j, cur, hd, hl, hK => by omega
  | 0, K + 1, j, cur, hd, hl, hK => by
    simp only [X12.l2]
    rw [if_neg (by omega), List.take_of_length_le (by omega), List.drop_of_length_le (by omega)]
    simp [relab]
  | d + 1, K + 1, j, cur, hd, hl, hK => by
    simp only [X12.l2]
    rw [if_pos (by omega), if_pos (by omega), rd_nat, w_succ (by omega), Int.toNat_natCast, show K + 1 - (d + 1 + 1) = K - (d + 1) by omega, drop_one cur j (by omega)]
    have hs := set_step cur j (by omega) lo
    by_cases c : cur.getD j 0 = hi
    · rw [if_pos c, stree_l2 ns ps acc i lo hi d K (j + 1) _ (by rw [List.length_set]; omega) (by rw [List.length_set]; omega) (by omega), hs.1, hs.2, relab_cons, if_pos c, List.append_assoc, List.singleton_append]
    · rw [if_neg c, stree_l2 ns ps acc i lo hi d K (j + 1) _ (by omega) (by omega) (by omega)]
      have e : cur.take (j + 1) = cur.take j ++ [cur.getD j 0] := by
        rw [List.take_succ_eq_append_getElem (by omega), List.getD_eq_getElem?_getD, List.getElem?_eq_getElem (by omega)]; rfl
      rw [e, relab_cons, if_neg c, List.append_assoc, List.singleton_append]
theorem stree_l1 {ns : List Int} {ps : List SP} (h : Small ns ps) : ∀ (d K i : Nat) (acc out : List Int), i + d = ps.length → acc.length ≤ i → out.length = ns.length → d * (ns.length + 3) + 200 ≤ K →
    X12.l1 K acc out (i : Int) ns ps = some (treeS (edges ps) d i acc out).1
  | d, 0, i, acc, out, hd, ha, ho, hK => by omega
  | 0, K + 1, i, acc, out, hd, ha, ho, hK => by
    simp only [X12.l1, treeS]
    rw [if_neg (by omega)]
  | d + 1, K + 1, i, acc, out, hd, ha, ho, hK => by
    have h16 := h.n16
    have h20 := h.p20
    have hr := h.pipe (i := i) (by omega)
    rw [Nat.add_mul, Nat.one_mul] at hK
    simp only [X12.l1, treeS]
    rw [if_pos (by omega), if_pos (by omega), rdP_impl, if_pos hr.1.1, if_pos (by rw [ho]; exact hr.1.2), if_pos hr.2.1, if_pos (by rw [ho]; exact hr.2.2), edges_get (by omega)]
    by_cases c : lb out (ps.getD i z73).f1 = lb out (ps.getD i z73).f2
    · rw [if_pos c, if_pos (show rd out _ = rd out _ from c), w_succ (by omega)]
      exact stree_l1 h d K (i + 1) acc out (by omega) (by omega) ho (by omega)
    · rw [if_neg c, if_neg (show ¬ rd out _ = rd out _ from c), if_pos (by omega)]
      have := stree_l2 ns ps (acc ++ [(i : Int)]) (i : Int) (rd out (ps.getD i z73).f1) (rd out (ps.getD i z73).f2) ns.length K 0 out (by omega) (by omega) (by omega)
      rw [show ((0 : Nat) : Int) = (0 : Int) from rfl] at this
      rw [this, List.take_zero, List.nil_append, List.drop_zero, w_succ (by omega)]
      exact stree_l1 h d (K - (ns.length + 1)) (i + 1) _ _ (by omega) (by rw [List.length_append, List.length_singleton]; omega) (by rw [relab_length]; exact ho) (by omega)
theorem stree_l0 {ns : List Int} {ps : List SP} (h : Small ns ps) : ∀ (d K j : Nat), j + d = ns.length → d + 700 ≤ K →
    X12.l0 K [] (numsU 0 j) (j : Int) ns ps = some (treeS (edges ps) (edges ps).length 0 [] (numsU 0 ns.length)).1
  | d, 0, j, hd, hK => by omega
  | 0, K + 1, j, hd, hK => by
    have h16 := h.n16
    have h20 := h.p20
    simp only [X12.l0]
    rw [if_neg (by omega), show j = ns.length by omega, show (0 : Int) = ((0 : Nat) : Int) from rfl, stree_l1 h ps.length K 0 _ _ (by omega) (by simp) (numsU_length _ _) (by
      have : ps.length * (ns.length + 3) ≤ 20 * 19 := Nat.mul_le_mul h20 (by omega)
      omega), edges_length]
  | d + 1, K + 1, j, hd, hK => by
    have h16 := h.n16
    have h20 := h.p20
    simp only [X12.l0]
    rw [if_pos (by omega), if_pos (by rw [numsU_length]; omega), w_succ (by omega), show numsU 0 j ++ [(j : Int)] = numsU 0 (j + 1) by rw [numsU_snoc, Int.zero_add]]
    exact stree_l0 h d K (j + 1) (by omega) (by omega)
theorem stree_is {ns : List Int} {ps : List SP} (h : Small ns ps) {K : Nat} (hK : 800 ≤ K) : X12.f K ns ps = some (treeS (edges ps) (edges ps).length 0 [] (numsU 0 ns.length)).1 := by
  have h16 := h.n16
  unfold X12.f
  exact stree_l0 h ns.length K 0 (by omega) (by omega)
theorem beq_cast (a b : Nat) : (((a : Int)) == ((b : Int))) = decide (a = b) := by
  rw [Bool.eq_iff_iff]; simp; omega
def treeB (ns : List Int) (ps : List SP) : Bool := decide (ps.length + 1 = ns.length) && decide ((treeS (edges ps) (edges ps).length 0 [] (numsU 0 ns.length)).1.length = ps.length)
theorem stree_B {ns : List Int} {ps : List SP} (h : Small ns ps) {K : Nat} (hK : 800 ≤ K) : X28.f K ns ps = some (treeB ns ps) := by
  have h1 := h.n1
  have h16 := h.n16
  unfold X28.f treeB
  rw [w64 (x := (ns.length : Int) - 1) (by omega) (by omega)]
  by_cases c : ps.length + 1 = ns.length
  · rw [if_pos (by omega), stree_is h hK, Option.bind_some, beq_cast, decide_eq_true c, Bool.true_and]
  · rw [if_neg (by omega), decide_eq_false c, Bool.false_and]
theorem itree_B {ns : List Int} {ps : List SP} (h : Small ns ps) {K : Nat} (hK : 800 ≤ K) : X19.f K ns ps = some (treeB ns ps) := by
  have h1 := h.n1
  have h16 := h.n16
  unfold X19.f treeB
  rw [w64 (x := (ns.length : Int) - 1) (by omega) (by omega)]
  by_cases c : ps.length + 1 = ns.length
  · rw [if_pos (by omega), reached_is h (by simp) (by omega) (by omega) (by omega), Option.bind_some, beq_cast, decide_eq_true c, Bool.true_and, shut_nil]
    have := tree_all (f := 17) h.ends (by omega) (by omega)
    congr 1
    rw [decide_eq_decide, ← this]
    omega
  · rw [if_neg (by omega), decide_eq_false c, Bool.false_and]
abbrev SW := S82
def cvW (w : WayT) : SW := ⟨w.1, w.2.1, (w.2.2 : Int)⟩
theorem contains_is' (l : List Int) (a : Int) {K : Nat} (hl : l.length ≤ 100) (hk : 100 < K) : X14.f K l a = some (decide (a ∈ l)) := contains_is l a hl hk
theorem ways_l1 (ns : List Int) (ps : List SP) (src x : Int) (kk : Nat) (hkk : kk ≤ 100) (hm : ps.length ≤ 20) : ∀ (d K i : Nat) (ws : List WayT), i + d = ps.length → d + 110 ≤ K → ws.length + d ≤ 80 → kk < ws.length + 1 → (foundN src ws).getD kk 0 = x →
    X5.l1 K (ws.map cvW) (foundN src ws) (kk : Int) ps (ps.length : Int) (i : Int) ns ps = X5.l0 (K - (d + 1)) ((sweep (edges ps) open_ src x d i ws).map cvW) (foundN src (sweep (edges ps) open_ src x d i ws)) ((kk + 1 : Nat) : Int) ns ps
  | d, 0, i, ws, hd, hK, _, _, _ => by omega
  | 0, K + 1, i, ws, hd, hK, hw, hk, hx => by
    simp only [X5.l1, sweep]
    rw [if_neg (by omega), w_succ (by omega)]
    rfl
  | d + 1, K + 1, i, ws, hd, hK, hw, hk, hx => by
    simp only [X5.l1, sweep]
    have hlen : ((foundN src ws).length : Int) = (ws.length : Int) + 1 := by simp
    rw [if_pos (by omega), if_pos (by omega), if_pos (by omega), if_pos (by omega), if_pos (by rw [hlen]; omega), rd_nat, hx, rdP_impl, other_is, edges_get (by omega), show K + 1 - (d + 1 + 1) = K - (d + 1) by omega]
    have ih := ways_l1 ns ps src x kk hkk hm d K (i + 1)
    rw [Option.bind_some]
    cases ho : oth ((ps.getD i z73).f1, (ps.getD i z73).f2) x with
    | none =>
      simp only [Bool.false_eq_true, if_false]
      rw [w_succ (by omega)]
      exact ih ws (by omega) (by omega) (by omega) hk hx
    | some y =>
      simp only [if_true]
      rw [contains_is (foundN src ws) y (by simp; omega) (by omega), Option.bind_some]
      by_cases c2 : y ∈ foundN src ws
      · rw [if_pos (by simpa using c2), w_succ (by omega), if_neg (fun h => h.2 c2)]
        exact ih ws (by omega) (by omega) (by omega) hk hx
      · have hg : rd (foundN src ws ++ [y]) (kk : Int) = x := by
          rw [rd_nat, List.getD_eq_getElem?_getD, List.getElem?_append_left (by simp; omega), ← List.getD_eq_getElem?_getD, hx]
        have e1 : foundN src ws ++ [y] = foundN src (ws ++ [(y, x, i)]) := by simp
        have e2 : ws.map cvW ++ [(⟨y, x, (i : Int)⟩ : SW)] = (ws ++ [(y, x, i)]).map cvW := by simp [cvW]
        rw [if_neg (by simpa using c2), if_pos (by simp; omega), Option.bind_some, if_pos (by simp; omega), if_pos (by rw [List.length_map]; omega), hg, w_succ (by omega), if_pos ⟨trivial, c2⟩, e1, e2]
        exact ih (ws ++ [(y, x, i)]) (by omega) (by omega) (by simp; omega) (by simp; omega) (by rw [getD_foundN_append _ _ _ _ hk, hx])
theorem ways_l0 {ns : List Int} {ps : List SP} {n : Nat} (hE : EndsIn (edges ps) n) (hn : n ≤ 16) (hm : ps.length ≤ 20) {src : Int} : ∀ (f K k : Nat) (ws : List WayT), n < f + k → k ≤ ws.length + 1 → FoundW (edges ps) open_ n src ws → f * (ps.length + 2) + 200 ≤ K →
    X5.l0 K (ws.map cvW) (foundN src ws) (k : Int) ns ps = some ((bfs (edges ps) open_ src f k ws).map cvW)
  | 0, K, k, ws, hf, hk, h, hK => by have := found_length h; omega
  | f + 1, 0, k, ws, hf, hk, h, hK => by omega
  | f + 1, K + 1, k, ws, hf, hk, h, hK => by
    have hl := found_length h
    have hlen : ((foundN src ws).length : Int) = (ws.length : Int) + 1 := by simp
    rw [Nat.add_mul, Nat.one_mul] at hK
    simp only [X5.l0, bfs]
    by_cases c : k < ws.length + 1
    · have h1 := ways_l1 ns ps src _ k (by omega) hm ps.length K 0 ws (by omega) (by omega) (by omega) c rfl
      rw [show ((0 : Nat) : Int) = (0 : Int) from rfl] at h1
      rw [if_pos (by rw [hlen]; omega), if_pos c, h1]
      obtain ⟨ext, e1, e2, e3⟩ := sweep_spec (shut := open_) (src := src) hE (edges ps).length 0 ws (by omega) h (getD_mem_foundN c)
      rw [edges_length] at e1 ⊢
      rw [e1]
      exact ways_l0 hE hn hm f (K - (ps.length + 1)) (k + 1) (ws ++ ext) (by omega) (by simp; omega) e2 (by omega)
    · rw [if_neg (by rw [hlen]; omega), if_neg c]
abbrev waysB (ps : List SP) (src : Int) : List WayT := bfs (edges ps) open_ src 17 0 []
theorem ways_is {ns : List Int} {ps : List SP} {src : Int} (h : Small ns ps) (h0 : 0 ≤ src) (h1 : src < ns.length) {K : Nat} (hK : 600 ≤ K) : X5.f K ns ps src = some ((waysB ps src).map cvW) := by
  unfold X5.f
  rw [show ([src] : List Int) = foundN src [] from rfl, show (0 : Int) = ((0 : Nat) : Int) from rfl, show ([] : List SW) = ([] : List WayT).map cvW from rfl]
  have := h.n16; have := h.p20
  exact ways_l0 h.ends h.n16 h.p20 17 K 0 [] (by omega) (by simp) (found_start h0 h1) (by omega)
theorem rdB (l : List Bool) (x : Int) : rdOf false l x = l.getD x.toNat false := rfl
theorem sweep_one (es : List (Int × Int)) (src x : Int) (d i : Nat) (ws : List WayT) : sweep es open_ src x (d + 1) i ws = sweep es open_ src x d (i + 1) (sweep es open_ src x 1 i ws) := by
  simp only [sweep]
  split
  · split <;> rfl
  · rfl
theorem sweep1_found {es : List (Int × Int)} {n : Nat} {src x : Int} {kk i : Nat} {ws : List WayT} (hE : EndsIn es n) (h : FoundW es open_ n src ws) (hi : i < es.length) (hk : kk < ws.length + 1) (hx : (foundN src ws).getD kk 0 = x) :
    FoundW es open_ n src (sweep es open_ src x 1 i ws) ∧ kk < (sweep es open_ src x 1 i ws).length + 1 ∧ (foundN src (sweep es open_ src x 1 i ws)).getD kk 0 = x := by
  have hm : x ∈ foundN src ws := by rw [← hx]; exact getD_mem_foundN hk
  simp only [sweep]
  split
  · rename_i y ho
    by_cases c : True ∧ y ∉ foundN src ws
    · rw [if_pos c]
      exact ⟨found_add hE h hm hi rfl ho c.2, by rw [List.length_append]; omega, by rw [getD_foundN_append _ _ _ _ hk, hx]⟩
    · rw [if_neg c]; exact ⟨h, hk, hx⟩
  · exact ⟨h, hk, hx⟩
theorem order_j2 {ns : List Int} {ps : List SP} (h : Small ns ps) {src x : Int} {kk : Nat} {i : Nat} (hi : i < ps.length) (hne : (ps.getD i z73).f1 ≠ (ps.getD i z73).f2) (s0 : 0 ≤ src) (s1 : src < ns.length) {ws : List WayT} (hF : FoundW (edges ps) open_ ns.length src ws)
    (hk : kk < ws.length + 1) (hx : (foundN src ws).getD kk 0 = x) (hp : (ps.getD i z73).f1 = x → (ps.getD i z73).f2 ∈ foundN src ws) (K : Nat) :
    X6.j2 (K + 1) (foundN src ws) (byOf (edges ps) ns.length ws) (seenOf ns.length src ws) (kk : Int) (i : Int) ps false ns ps = X6.l1 K (foundN src (sweep (edges ps) open_ src x 1 i ws)) (byOf (edges ps) ns.length (sweep (edges ps) open_ src x 1 i ws)) (seenOf ns.length src (sweep (edges ps) open_ src x 1 i ws)) (kk : Int) ((i + 1 : Nat) : Int) ns ps := by
  have h16 := h.n16
  have h20 := h.p20
  have hr := h.pipe hi
  have hl := found_length hF
  have hsl := seenOf_length ns.length src ws
  have hbl := byOf_length (edges ps) ns.length ws
  have hlen : ((foundN src ws).length : Int) = (ws.length : Int) + 1 := by simp
  have hg := edges_get hi
  simp only [X6.j2, sweep]
  rw [hg, if_neg (by simp), if_pos (by omega), if_pos (by omega), if_pos (by omega), if_pos (by rw [hlen]; omega), rd_nat, hx, rdP_impl, rdB, w_succ (by omega)]
  obtain ⟨p, hpe⟩ : ∃ p, ps.getD i z73 = p := ⟨_, rfl⟩
  rw [hpe] at hr hne hp hg ⊢
  by_cases c1 : p.f2 = x
  · have c2 : p.f1 ≠ x := fun e => hne (by rw [e, c1])
    have ho : oth (p.f1, p.f2) x = some p.f1 := by unfold oth; rw [if_neg (fun e => c2 e.symm), if_pos c1.symm]
    rw [ho, if_pos c1, if_pos hr.1.1, if_pos (by rw [hsl]; exact hr.1.2), seenOf_get s0 s1 hr.1.1 hr.1.2 ws hF.range]
    dsimp only
    by_cases c3 : p.f1 ∈ foundN src ws
    · rw [if_pos (by simpa using c3), if_neg (fun g => g.2 c3)]
    · rw [if_neg (by simpa using c3), if_pos (by rw [hbl]; exact hr.1.2), if_pos (by simp; omega), if_pos ⟨trivial, c3⟩]
      have e : wayNo (edges ps) (p.f1, x, i) = wrap64 (wrap64 (-(i : Int)) - 1) := by
        unfold wayNo
        dsimp only
        rw [hg, if_neg hne, w64 (x := -(i : Int)) (by omega) (by omega), w64 (by omega) (by omega)]
      rw [byOf_snoc, seenOf_snoc, foundN_snoc, e]
  · rw [if_neg c1]
    by_cases c2 : p.f1 = x
    · have ho : oth (p.f1, p.f2) x = some p.f2 := by unfold oth; rw [if_pos c2.symm]
      rw [ho]
      dsimp only
      rw [if_neg (fun g => g.2 (hp c2))]
    · have ho : oth (p.f1, p.f2) x = none := by unfold oth; rw [if_neg (fun e => c2 e.symm), if_neg (fun e => c1 e.symm)]
      rw [ho]
theorem order_j2t {ns : List Int} {ps : List SP} (h : Small ns ps) {src x : Int} {kk : Nat} {i : Nat} (hi : i < ps.length) (hne : (ps.getD i z73).f1 ≠ (ps.getD i z73).f2) {ws : List WayT} (hF : FoundW (edges ps) open_ ns.length src ws)
    (hk : kk < ws.length + 1) (hx : (foundN src ws).getD kk 0 = x) (c1 : (ps.getD i z73).f1 = x) (c3 : (ps.getD i z73).f2 ∉ foundN src ws) (K : Nat) :
    X6.j2 (K + 1) (foundN src ws) (byOf (edges ps) ns.length ws) (seenOf ns.length src ws) (kk : Int) (i : Int) ps true ns ps = X6.l1 K (foundN src (sweep (edges ps) open_ src x 1 i ws)) (byOf (edges ps) ns.length (sweep (edges ps) open_ src x 1 i ws)) (seenOf ns.length src (sweep (edges ps) open_ src x 1 i ws)) (kk : Int) ((i + 1 : Nat) : Int) ns ps := by
  have h16 := h.n16
  have h20 := h.p20
  have hr := h.pipe hi
  have hl := found_length hF
  have hsl := seenOf_length ns.length src ws
  have hbl := byOf_length (edges ps) ns.length ws
  have hlen : ((foundN src ws).length : Int) = (ws.length : Int) + 1 := by simp
  have hg := edges_get hi
  simp only [X6.j2, sweep]
  rw [hg, if_pos trivial, rdP_impl, w_succ (by omega)]
  obtain ⟨p, hpe⟩ : ∃ p, ps.getD i z73 = p := ⟨_, rfl⟩
  rw [hpe] at hr hne hg c1 c3 ⊢
  have ho : oth (p.f1, p.f2) x = some p.f2 := by unfold oth; rw [if_pos c1.symm]
  have e : wayNo (edges ps) (p.f2, x, i) = ((i + 1 : Nat) : Int) := by
    unfold wayNo
    dsimp only
    rw [hg, if_pos rfl]
    push_cast
    rfl
  have hy : rd (foundN src ws ++ [p.f2]) (kk : Int) = x := by
    rw [rd_nat, List.getD_eq_getElem?_getD, List.getElem?_append_left (by simp; omega), ← List.getD_eq_getElem?_getD, hx]
  rw [ho]
  dsimp only
  rw [if_pos (show True ∧ p.f2 ∉ foundN src ws from ⟨trivial, c3⟩), if_pos (by omega), if_pos (by omega), if_pos hr.2.1, if_pos (by rw [hsl]; exact hr.2.2), Option.bind_some, if_pos (by rw [hbl]; exact hr.2.2), Option.bind_some, if_pos (by simp; omega), Option.bind_some, if_pos (by omega), if_pos (by rw [List.length_append, List.length_singleton]; push_cast; omega), hy, if_neg (fun g => hne (by rw [c1, g])), byOf_snoc, seenOf_snoc, foundN_snoc, e]
theorem order_l1 {ns : List Int} {ps : List SP} (h : Small ns ps) (hne : ∀ i : Nat, i < ps.length → (ps.getD i z73).f1 ≠ (ps.getD i z73).f2) {src x : Int} {kk : Nat} (s0 : 0 ≤ src) (s1 : src < ns.length) : ∀ (d K i : Nat) (ws : List WayT), i + d = ps.length → 2 * d + 110 ≤ K → kk < ws.length + 1 → (foundN src ws).getD kk 0 = x → FoundW (edges ps) open_ ns.length src ws →
    X6.l1 K (foundN src ws) (byOf (edges ps) ns.length ws) (seenOf ns.length src ws) (kk : Int) (i : Int) ns ps = X6.l0 (K - (2 * d + 1)) (foundN src (sweep (edges ps) open_ src x d i ws)) (byOf (edges ps) ns.length (sweep (edges ps) open_ src x d i ws)) (seenOf ns.length src (sweep (edges ps) open_ src x d i ws)) ((kk + 1 : Nat) : Int) ns ps
  | d, 0, i, ws, hd, hK, _, _, _ => by omega
  | d, 1, i, ws, hd, hK, _, _, _ => by omega
  | 0, K + 2, i, ws, hd, hK, hk, hx, hF => by
    have := h.n16
    have hl := found_length hF
    simp only [X6.l1, sweep]
    rw [if_neg (by omega), w_succ (by omega)]
    rfl
  | d + 1, K + 2, i, ws, hd, hK, hk, hx, hF => by
    have h16 := h.n16
    have h20 := h.p20
    have hi : i < ps.length := by omega
    have hr := h.pipe hi
    have hl := found_length hF
    have hsl := seenOf_length ns.length src ws
    have hlen : ((foundN src ws).length : Int) = (ws.length : Int) + 1 := by simp
    obtain ⟨f1, f2, f3⟩ := sweep1_found h.ends hF (show i < (edges ps).length by rw [edges_length]; exact hi) hk hx
    have ih := order_l1 h hne s0 s1 d K (i + 1) (sweep (edges ps) open_ src x 1 i ws) (by omega) (by omega) f2 f3 f1
    rw [sweep_one, show K + 2 - (2 * (d + 1) + 1) = K - (2 * d + 1) by omega, ← ih]
    simp only [X6.l1]
    rw [if_pos (by omega), if_pos (by omega), if_pos (by omega), if_pos (by rw [hlen]; omega), rd_nat, hx, rdP_impl]
    by_cases c1 : (ps.getD i z73).f1 = x
    · rw [if_pos c1, if_pos hr.2.1, if_pos (by rw [hsl]; exact hr.2.2), rdB, seenOf_get s0 s1 hr.2.1 hr.2.2 ws hF.range]
      by_cases c3 : (ps.getD i z73).f2 ∈ foundN src ws
      · rw [decide_eq_true c3, Bool.not_true]
        exact order_j2 h hi (hne i hi) s0 s1 hF hk hx (fun _ => c3) K
      · rw [decide_eq_false c3, Bool.not_false]
        exact order_j2t h hi (hne i hi) hF hk hx c1 c3 K
    · rw [if_neg c1]
      exact order_j2 h hi (hne i hi) s0 s1 hF hk hx (fun e => absurd e c1) K
theorem order_l0 {ns : List Int} {ps : List SP} (h : Small ns ps) (hne : ∀ i : Nat, i < ps.length → (ps.getD i z73).f1 ≠ (ps.getD i z73).f2) {src : Int} (s0 : 0 ≤ src) (s1 : src < ns.length) : ∀ (f K k : Nat) (ws : List WayT), ns.length < f + k → k ≤ ws.length + 1 → FoundW (edges ps) open_ ns.length src ws → f * (2 * ps.length + 2) + 200 ≤ K →
    X6.l0 K (foundN src ws) (byOf (edges ps) ns.length ws) (seenOf ns.length src ws) (k : Int) ns ps = some (foundN src (bfs (edges ps) open_ src f k ws), byOf (edges ps) ns.length (bfs (edges ps) open_ src f k ws))
  | 0, K, k, ws, hf, hk, hF, hK => by have := found_length hF; omega
  | f + 1, 0, k, ws, hf, hk, hF, hK => by omega
  | f + 1, K + 1, k, ws, hf, hk, hF, hK => by
    have h16 := h.n16
    have h20 := h.p20
    have hl := found_length hF
    have hlen : ((foundN src ws).length : Int) = (ws.length : Int) + 1 := by simp
    rw [Nat.add_mul, Nat.one_mul] at hK
    simp only [X6.l0, bfs]
    by_cases c : k < ws.length + 1
    · have h1 := order_l1 h hne s0 s1 ps.length K 0 ws (by omega) (by omega) c rfl hF
      rw [show ((0 : Nat) : Int) = (0 : Int) from rfl] at h1
      rw [if_pos (by rw [hlen]; omega), if_pos c, h1]
      obtain ⟨ext, e1, e2, e3⟩ := sweep_spec (shut := open_) (src := src) h.ends (edges ps).length 0 ws (by omega) hF (getD_mem_foundN c)
      rw [edges_length] at e1 ⊢
      rw [e1]
      exact order_l0 h hne s0 s1 f (K - (2 * ps.length + 1)) (k + 1) (ws ++ ext) (by omega) (by simp; omega) e2 (by omega)
    · rw [if_neg (by rw [hlen]; omega), if_neg c]
theorem order_is {ns : List Int} {ps : List SP} (h : Small ns ps) (hne : ∀ i : Nat, i < ps.length → (ps.getD i z73).f1 ≠ (ps.getD i z73).f2) {src : Int} (s0 : 0 ≤ src) (s1 : src < ns.length) {K : Nat} (hK : 1000 ≤ K) : X6.f K ns ps src = some (foundN src (waysB ps src), byOf (edges ps) ns.length (waysB ps src)) := by
  have h16 := h.n16
  have h20 := h.p20
  unfold X6.f
  rw [if_pos (by omega), Int.toNat_natCast, if_pos (by omega), if_pos (by omega), Option.bind_some, if_pos s0, if_pos (by rw [List.length_replicate]; exact s1)]
  have := order_l0 h hne s0 s1 17 K 0 [] (by omega) (by simp) (found_start s0 s1) (by omega)
  exact this
theorem wayNo_cases {ps : List SP} {w : WayT} (hw : w.2.2 < ps.length) : (w.1 = (ps.getD w.2.2 z73).f2 ∧ wayNo (edges ps) w = (w.2.2 : Int) + 1) ∨ (w.1 ≠ (ps.getD w.2.2 z73).f2 ∧ wayNo (edges ps) w = -(w.2.2 : Int) - 1) := by
  unfold wayNo
  rw [edges_get hw]
  by_cases c : w.1 = (ps.getD w.2.2 z73).f2
  · rw [if_pos c]; exact .inl ⟨c, rfl⟩
  · rw [if_neg c]; exact .inr ⟨c, rfl⟩
theorem before_is (ns : List Int) {ps : List SP} (h20 : ps.length ≤ 20) {w : WayT} (hw : w.2.2 < ps.length) (hne : (ps.getD w.2.2 z73).f1 ≠ (ps.getD w.2.2 z73).f2)
    (he : (w.2.1 = (ps.getD w.2.2 z73).f1 ∧ w.1 = (ps.getD w.2.2 z73).f2) ∨ (w.2.1 = (ps.getD w.2.2 z73).f2 ∧ w.1 = (ps.getD w.2.2 z73).f1)) : X50.f ns ps (wayNo (edges ps) w) = some w.2.1 := by
  unfold X50.f
  rcases wayNo_cases hw with ⟨c, e⟩ | ⟨c, e⟩
  · rw [e, if_pos (by omega), w64 (by omega) (by omega), show (w.2.2 : Int) + 1 - 1 = (w.2.2 : Int) by omega, if_pos (by omega), if_pos (by omega), rdP_impl]
    rcases he with ⟨g, _⟩ | ⟨_, g⟩
    · rw [g]
    · exact absurd (g.symm.trans c) hne
  · rw [e, if_neg (by omega), w64 (x := -(-(w.2.2 : Int) - 1)) (by omega) (by omega), w64 (by omega) (by omega), show -(-(w.2.2 : Int) - 1) - 1 = (w.2.2 : Int) by omega, if_pos (by omega), if_pos (by omega), rdP_impl]
    rcases he with ⟨_, g⟩ | ⟨g, _⟩
    · exact absurd g c
    · rw [g]
theorem tree_ways {ns : List Int} {ps : List SP} (h : Small ns ps) (ht : treeB ns ps = true) {src : Int} (s0 : 0 ≤ src) (s1 : src < ns.length) : (waysB ps src).length = ps.length ∧ FoundW (edges ps) open_ ns.length src (waysB ps src) := by
  have h1 := h.n1
  have h16 := h.n16
  unfold treeB at ht
  simp only [Bool.and_eq_true, decide_eq_true_eq] at ht
  have ha := (tree_all (f := 17) h.ends (by omega) (by omega)).1 (by omega)
  have hb := bfs_full h.ends s0 s1 (show ns.length < 17 by omega) ha
  refine ⟨?_, (bfs_all (shut := open_) h.ends s0 s1 (by omega)).1⟩
  show (bfs (edges ps) open_ src 17 0 []).length = _
  omega
theorem drop_way (W : List WayT) (i : Nat) (h : i < W.length) : W.drop i = W.getD i (0, 0, 0) :: W.drop (i + 1) := by
  rw [List.drop_eq_getElem_cons h, List.getD_eq_getElem?_getD, List.getElem?_eq_getElem h]; rfl
theorem rdW (W : List WayT) (i : Nat) (h : i < W.length) : X7 (W.map cvW) (i : Int) = cvW (W.getD i (0, 0, 0)) := by
  unfold X7
  rw [Int.toNat_natCast]
  simp [List.getD_eq_getElem?_getD, List.getElem?_eq_getElem h]
theorem way_pipe {ns : List Int} {ps : List SP} (h : Small ns ps) {src : Int} {W : List WayT} (hF : FoundW (edges ps) open_ ns.length src W) {i : Nat} (hi : i < W.length) :
    (W.getD i (0, 0, 0)).2.2 < ps.length ∧ (0 ≤ (W.getD i (0, 0, 0)).1 ∧ (W.getD i (0, 0, 0)).1 < ns.length) ∧ (0 ≤ (W.getD i (0, 0, 0)).2.1 ∧ (W.getD i (0, 0, 0)).2.1 < ns.length) ∧
    (((W.getD i (0, 0, 0)).2.1 = (ps.getD (W.getD i (0, 0, 0)).2.2 z73).f1 ∧ (W.getD i (0, 0, 0)).1 = (ps.getD (W.getD i (0, 0, 0)).2.2 z73).f2) ∨ ((W.getD i (0, 0, 0)).2.1 = (ps.getD (W.getD i (0, 0, 0)).2.2 z73).f2 ∧ (W.getD i (0, 0, 0)).1 = (ps.getD (W.getD i (0, 0, 0)).2.2 z73).f1)) := by
  obtain ⟨a, b, c, d⟩ := way_ends h.ends hF hi
  rw [edges_length] at a
  rw [edges_get a] at d
  exact ⟨a, b, c, d⟩
def alongW (ps : List SP) (fs : List Int) (w : WayT) : Int := if w.1 = ((edges ps).getD w.2.2 (0, 0)).2 then fs.getD w.2.2 0 else -(fs.getD w.2.2 0)
def dropW (ps : List SP) (fs : List Int) (w : WayT) : Int := dropI (ps.getD w.2.2 z73).f3 (ps.getD w.2.2 z73).f4 (alongW ps fs w)
structure PipesOk (ps : List SP) (fs : List Int) : Prop where
  ne : ∀ i : Nat, i < ps.length → (ps.getD i z73).f1 ≠ (ps.getD i z73).f2
  len : ∀ i : Nat, i < ps.length → 1 ≤ (ps.getD i z73).f3 ∧ (ps.getD i z73).f3 ≤ 10000
  wid : ∀ i : Nat, i < ps.length → 20 ≤ (ps.getD i z73).f4 ∧ (ps.getD i z73).f4 ≤ 1000
  flow : ∀ i : Nat, i < ps.length → -100000 ≤ fs.getD i 0 ∧ fs.getD i 0 ≤ 100000
  same : fs.length = ps.length
theorem pipes_dims {ns : List Int} {ps : List SP} (h : netOk ns ps = true) (i : Nat) (hi : i < ps.length) : (1 ≤ (ps.getD i z73).f3 ∧ (ps.getD i z73).f3 ≤ 10000) ∧ (20 ≤ (ps.getD i z73).f4 ∧ (ps.getD i z73).f4 ≤ 1000) := by
  have := (netOk_pipe h i hi).1
  unfold pipeOk at this
  simp only [Bool.and_eq_true, decide_eq_true_eq] at this
  exact ⟨this.2.2.2.2.1, this.2.2.2.2.2.1⟩
theorem pipesOk_of {ns : List Int} {ps : List SP} {fs : List Int} (h : netOk ns ps = true) (hf : ∀ i : Nat, i < ps.length → -100000 ≤ fs.getD i 0 ∧ fs.getD i 0 ≤ 100000) (hs : fs.length = ps.length) : PipesOk ps fs :=
  ⟨fun i hi => (netOk_pipe h i hi).2.2.2, fun i hi => (pipes_dims h i hi).1, fun i hi => (pipes_dims h i hi).2, hf, hs⟩
theorem pipeNo_is (ns : List Int) {ps : List SP} (h20 : ps.length ≤ 20) {w : WayT} (hw : w.2.2 < ps.length) : X64.f ns ps (wayNo (edges ps) w) = some (w.2.2 : Int) := by
  unfold X64.f
  have e : absI (wayNo (edges ps) w) - 1 = (w.2.2 : Int) := by
    rcases wayNo_cases hw with ⟨_, e⟩ | ⟨_, e⟩ <;> (rw [e]; unfold absI; split <;> omega)
  have hb : -1048576 ≤ wayNo (edges ps) w ∧ wayNo (edges ps) w ≤ 1048576 := by rcases wayNo_cases hw with ⟨_, e⟩ | ⟨_, e⟩ <;> (rw [e]; omega)
  rw [e, if_pos ⟨hb, by omega, by omega⟩]
theorem along_is {ps : List SP} {fs : List Int} (h20 : ps.length ≤ 20) (hP : PipesOk ps fs) {w : WayT} (hw : w.2.2 < ps.length) : X57.f fs (wayNo (edges ps) w) = some (alongW ps fs w) := by
  have hs := hP.same
  have hf := hP.flow _ hw
  unfold X57.f alongW
  rw [edges_get hw]
  rcases wayNo_cases hw with ⟨c, e⟩ | ⟨c, e⟩
  · rw [e, if_pos (by omega), w64 (by omega) (by omega), show (w.2.2 : Int) + 1 - 1 = (w.2.2 : Int) by omega, if_pos (by omega), if_pos (by omega), rd_nat, if_pos c]
  · rw [e, if_neg (by omega), w64 (x := -(-(w.2.2 : Int) - 1)) (by omega) (by omega), w64 (x := -(-(w.2.2 : Int) - 1) - 1) (by omega) (by omega), show -(-(w.2.2 : Int) - 1) - 1 = (w.2.2 : Int) by omega, if_pos (by omega), if_pos (by omega), rd_nat, if_neg c, w64 (by omega) (by omega)]
theorem ialong_is (ns : List Int) {ps : List SP} {fs : List Int} (hP : PipesOk ps fs) {w : WayT} (hw : w.2.2 < ps.length) : X72.f w.1 w.2.1 (w.2.2 : Int) ns ps fs = some (alongW ps fs w) := by
  have hs := hP.same
  have hf := hP.flow _ hw
  unfold X72.f alongW
  rw [edges_get hw, if_pos (by omega), if_pos (by omega), rdP_impl, rd_nat]
  by_cases c : w.1 = (ps.getD w.2.2 z73).f2
  · rw [if_pos c.symm, if_pos (by omega), if_pos c]
  · rw [if_neg (fun e => c e.symm), if_pos (by omega), if_neg c, w64 (by omega) (by omega)]
theorem along_range {ps : List SP} {fs : List Int} (hP : PipesOk ps fs) {w : WayT} (hw : w.2.2 < ps.length) : -100000 ≤ alongW ps fs w ∧ alongW ps fs w ≤ 100000 := by
  have hf := hP.flow _ hw
  unfold alongW
  split <;> omega
def bigW (ps : List SP) (fs : List Int) (w : WayT) : Bool := decide (absI (dropW ps fs w) > 100000000)
theorem sdrop_is (ns : List Int) {ps : List SP} {fs : List Int} (hP : PipesOk ps fs) {w : WayT} (hw : w.2.2 < ps.length) : X63.f ns ps (w.2.2 : Int) (alongW ps fs w) = some (if bigW ps fs w = true then 0 else dropW ps fs w, if bigW ps fs w = true then 6 else 0) := by
  unfold X63.f bigW dropW
  rw [rdP_impl, if_pos ⟨⟨by omega, by omega⟩, hP.len _ hw, hP.wid _ hw, along_range hP hw⟩]
  simp only [decide_eq_true_eq]
theorem idrop_is {ps : List SP} {fs : List Int} (hP : PipesOk ps fs) {w : WayT} (hw : w.2.2 < ps.length) (s : ByteArray) (a b c : Int) : X60.f s a b (ps.getD w.2.2 z73).f3 (ps.getD w.2.2 z73).f4 c (alongW ps fs w) = some (dropW ps fs w) := by
  unfold X60.f dropW
  rw [if_pos ⟨hP.len _ hw, hP.wid _ hw, along_range hP hw⟩]
def dropsB (ps : List SP) (fs : List Int) : Nat → Nat → Bool
  | 0, _ => true
  | d + 1, i => !decide (absI (dropI (ps.getD i z73).f3 (ps.getD i z73).f4 (fs.getD i 0)) > 100000000) && dropsB ps fs d (i + 1)
theorem dropsB_iff (ps : List SP) (fs : List Int) : ∀ (d i : Nat), dropsB ps fs d i = true ↔ ∀ j : Nat, i ≤ j → j < i + d → ¬ absI (dropI (ps.getD j z73).f3 (ps.getD j z73).f4 (fs.getD j 0)) > 100000000
  | 0, i => ⟨fun _ j h1 h2 => by omega, fun _ => rfl⟩
  | d + 1, i => by
    simp only [dropsB, Bool.and_eq_true, dropsB_iff ps fs d (i + 1)]
    constructor
    · rintro ⟨a, b⟩ j h1 h2
      by_cases c : j = i
      · rw [c]; simpa using a
      · exact b j (by omega) (by omega)
    · intro h
      exact ⟨by simpa using h i (by omega) (by omega), fun j h1 h2 => h j (by omega) (by omega)⟩
theorem drops_l0 {ps : List SP} {fs : List Int} (h20 : ps.length ≤ 20) (hP : PipesOk ps fs) : ∀ (d K i : Nat), i + d = ps.length → d < K → X10.l0 K fs ps (ps.length : Int) (i : Int) = some (dropsB ps fs d i)
  | d, 0, i, hd, hK => by omega
  | 0, K + 1, i, hd, hK => by
    simp only [X10.l0, dropsB]
    rw [if_neg (by omega)]
  | d + 1, K + 1, i, hd, hK => by
    have hi : i < ps.length := by omega
    have hs := hP.same
    have hb := drop_bound (d := (ps.getD i z73).f4) (hP.len i hi).1 (hP.len i hi).2 (hP.flow i hi).1 (hP.flow i hi).2
    simp only [X10.l0, dropsB]
    rw [if_pos (by omega), if_pos (by omega), if_pos (by omega), if_pos (by omega), rdP_impl, rd_nat]
    unfold X60.f X54.f
    rw [if_pos ⟨hP.len i hi, hP.wid i hi, hP.flow i hi⟩, Option.bind_some, if_pos (by omega), Option.bind_some]
    by_cases c : absI (dropI (ps.getD i z73).f3 (ps.getD i z73).f4 (fs.getD i 0)) > 100000000
    · rw [if_pos c, decide_eq_true c]; rfl
    · rw [if_neg c, decide_eq_false c, w_succ (by omega), Bool.not_false, Bool.true_and]
      exact drops_l0 h20 hP d K (i + 1) (by omega) (by omega)
theorem drops_is (ns : List Int) {ps : List SP} {fs : List Int} (h20 : ps.length ≤ 20) (hP : PipesOk ps fs) {K : Nat} (hK : 21 ≤ K) : X10.f K ns ps fs = some (dropsB ps fs ps.length 0) := by
  unfold X10.f
  exact drops_l0 h20 hP ps.length K 0 (by omega) (by omega)
theorem big_sign {ps : List SP} {fs : List Int} (hP : PipesOk ps fs) {w : WayT} (hw : w.2.2 < ps.length) : absI (dropW ps fs w) = absI (dropI (ps.getD w.2.2 z73).f3 (ps.getD w.2.2 z73).f4 (fs.getD w.2.2 0)) := by
  unfold dropW alongW
  split
  · rfl
  · rw [drop_neg (hP.wid _ hw).1 (hP.wid _ hw).2]
    unfold absI
    split <;> split <;> omega
theorem big_any {ns : List Int} {ps : List SP} {fs : List Int} (h : Small ns ps) (ht : treeB ns ps = true) (hP : PipesOk ps fs) {src : Int} (s0 : 0 ≤ src) (s1 : src < ns.length) : (waysB ps src).any (bigW ps fs) = !dropsB ps fs ps.length 0 := by
  obtain ⟨hl, hF⟩ := tree_ways h ht s0 s1
  generalize waysB ps src = ws at hl hF
  have hg : ∀ (k : Nat) (hk : k < ws.length), ws.getD k (0, 0, 0) = ws[k] := fun k hk => by rw [List.getD_eq_getElem?_getD, List.getElem?_eq_getElem hk]; rfl
  have key : dropsB ps fs ps.length 0 = true ↔ ¬ ws.any (bigW ps fs) = true := by
    rw [dropsB_iff, List.any_eq_true]
    constructor
    · rintro ha ⟨w, hw, hb⟩
      obtain ⟨j, hj, e⟩ := List.mem_iff_getElem.1 hw
      have hwl := (hF.way j hj).1
      rw [hg j hj, e, edges_length] at hwl
      unfold bigW at hb
      rw [decide_eq_true_eq, big_sign hP hwl] at hb
      exact ha _ (by omega) (by omega) hb
    · intro ha j _ hj
      obtain ⟨k, hk, e⟩ := ways_all hF (by rw [hl, edges_length]) (show j < (edges ps).length by rw [edges_length]; omega)
      intro hb
      refine ha ⟨ws.getD k (0, 0, 0), by rw [hg k hk]; exact List.getElem_mem _, ?_⟩
      unfold bigW
      rw [decide_eq_true_eq, big_sign hP (by rw [e]; omega), e]
      exact hb
  cases hd : dropsB ps fs ps.length 0
  · rw [hd] at key
    simpa using key
  · rw [hd] at key
    simpa using key
def stepD (ps : List SP) (fs : List Int) (out : List Int) (w : WayT) : List Int := out.set w.1.toNat (wrap64 (out.getD w.2.1.toNat 0 - wrap64 (2 * dropW ps fs w)))
theorem sdiff_l0 {ns : List Int} {ps : List SP} {fs : List Int} (h : Small ns ps) (hP : PipesOk ps fs) {src : Int} {W : List WayT} (hF : FoundW (edges ps) open_ ns.length src W) : ∀ (d K i : Nat) (out : List Int), i + d = W.length → out.length = ns.length → d < K →
    X13.l0 K fs (foundN src W) (byOf (edges ps) ns.length W) out ((i + 1 : Nat) : Int) ns ps = some (if (W.drop i).any (bigW ps fs) = true then ([], false) else ((W.drop i).foldl (stepD ps fs) out, true))
  | d, 0, i, out, hd, ho, hK => by omega
  | 0, K + 1, i, out, hd, ho, hK => by
    have hlen : ((foundN src W).length : Int) = (W.length : Int) + 1 := by simp
    simp only [X13.l0]
    rw [if_neg (by rw [hlen]; omega), List.drop_of_length_le (by omega)]
    rfl
  | d + 1, K + 1, i, out, hd, ho, hK => by
    have h16 := h.n16
    have h20 := h.p20
    have hi : i < W.length := by omega
    have hl := found_length hF
    have hlen : ((foundN src W).length : Int) = (W.length : Int) + 1 := by simp
    have hbl := byOf_length (edges ps) ns.length W
    obtain ⟨a, b, c, e⟩ := way_pipe h hF hi
    have e1 : rd (foundN src W) ((i + 1 : Nat) : Int) = (W.getD i (0, 0, 0)).1 := by rw [rd_nat, foundN_get _ _ _ hi]
    have e2 : rd (byOf (edges ps) ns.length W) (W.getD i (0, 0, 0)).1 = wayNo (edges ps) (W.getD i (0, 0, 0)) := byOf_get hF hi
    simp only [X13.l0]
    rw [if_pos (by rw [hlen]; omega), if_pos (by omega), e1, if_pos b.1, if_pos (by rw [hbl]; exact b.2), e2, drop_way W i hi, List.any_cons, List.foldl_cons]
    generalize W.getD i (0, 0, 0) = w at *
    rw [pipeNo_is ns h20 a, Option.bind_some, along_is h20 hP a, Option.bind_some, sdrop_is ns hP a, Option.bind_some]
    dsimp only
    by_cases g : bigW ps fs w = true
    · simp only [g, if_true, Bool.true_or]
      rw [if_neg (by omega)]
    · simp only [g, Bool.false_eq_true, if_false, Bool.false_or]
      rw [if_pos trivial, before_is ns h20 a (hP.ne _ a) e, Option.bind_some, if_pos c.1, if_pos (by rw [ho]; exact c.2), if_pos (by rw [ho]; exact b.2), w_succ (by omega)]
      exact sdiff_l0 h hP hF d K (i + 1) (stepD ps fs out w) (by omega) (by unfold stepD; rw [List.length_set]; exact ho) (by omega)
theorem idiff_l0 {ns : List Int} {ps : List SP} {fs : List Int} (h : Small ns ps) (hP : PipesOk ps fs) {src : Int} {W : List WayT} (hF : FoundW (edges ps) open_ ns.length src W) : ∀ (d K i : Nat) (out : List Int), i + d = W.length → out.length = ns.length → d < K →
    X8.l0 K fs out (W.map cvW) (W.length : Int) (i : Int) ns ps = some ((W.drop i).foldl (stepD ps fs) out)
  | d, 0, i, out, hd, ho, hK => by omega
  | 0, K + 1, i, out, hd, ho, hK => by
    simp only [X8.l0]
    rw [if_neg (by omega), List.drop_of_length_le (by omega)]
    rfl
  | d + 1, K + 1, i, out, hd, ho, hK => by
    have h16 := h.n16
    have h20 := h.p20
    have hi : i < W.length := by omega
    have hl := found_length hF
    obtain ⟨a, b, c, e⟩ := way_pipe h hF hi
    simp only [X8.l0]
    rw [if_pos (by omega), if_pos (by omega), if_pos (by rw [List.length_map]; omega), rdW W i hi, drop_way W i hi, List.foldl_cons]
    generalize W.getD i (0, 0, 0) = w at *
    have hA : X72.f (cvW w).f0 (cvW w).f1 (cvW w).f2 ns ps fs = some (alongW ps fs w) := ialong_is ns hP a
    have hR : X1 ps (cvW w).f2 = ps.getD w.2.2 z73 := rdP_impl ps w.2.2
    rw [if_pos (show 0 ≤ (cvW w).f1 from c.1), if_pos (show (cvW w).f1 < (out.length : Int) by rw [ho]; exact c.2), if_pos (show 0 ≤ (cvW w).f2 from Int.natCast_nonneg _), if_pos (show (cvW w).f2 < (ps.length : Int) from Int.ofNat_lt.2 a), hA, Option.bind_some, hR, idrop_is hP a, Option.bind_some, if_pos (show 0 ≤ (cvW w).f0 from b.1), if_pos (show (cvW w).f0 < (out.length : Int) by rw [ho]; exact b.2), w_succ (by omega)]
    exact idiff_l0 h hP hF d K (i + 1) (stepD ps fs out w) (by omega) (by unfold stepD; rw [List.length_set]; exact ho) (by omega)
def diffsOf (ns : List Int) (ps : List SP) (fs : List Int) (src head : Int) : List Int := (waysB ps src).foldl (stepD ps fs) ((List.replicate ns.length 0).set src.toNat head)
theorem stepD_length {ps : List SP} {fs : List Int} : ∀ (W : List WayT) (out : List Int), (W.foldl (stepD ps fs) out).length = out.length
  | [], out => rfl
  | w :: W, out => by rw [List.foldl_cons, stepD_length W]; unfold stepD; rw [List.length_set]
theorem diffsOf_length (ns : List Int) (ps : List SP) (fs : List Int) (src head : Int) : (diffsOf ns ps fs src head).length = ns.length := by unfold diffsOf; rw [stepD_length, List.length_set, List.length_replicate]
theorem sdiffs_is {ns : List Int} {ps : List SP} {fs : List Int} (h : Small ns ps) (ht : treeB ns ps = true) (hP : PipesOk ps fs) {src head : Int} (s0 : 0 ≤ src) (s1 : src < ns.length) {K : Nat} (hK : 1000 ≤ K) :
    X13.f K ns ps src fs head = some (if dropsB ps fs ps.length 0 = true then (diffsOf ns ps fs src head, true) else ([], false)) := by
  have h16 := h.n16
  have hF := (tree_ways h ht s0 s1).2
  have hl := found_length hF
  unfold X13.f
  rw [order_is h hP.ne s0 s1 hK, Option.bind_some, if_pos (by omega), Int.toNat_natCast, if_pos (by omega), Option.bind_some, if_pos s0, if_pos (by rw [List.length_replicate]; exact s1)]
  have := sdiff_l0 h hP hF (waysB ps src).length K 0 ((List.replicate ns.length 0).set src.toNat head) (by omega) (by rw [List.length_set, List.length_replicate]) (by omega)
  rw [show ((0 + 1 : Nat) : Int) = (1 : Int) from rfl] at this
  rw [this, List.drop_zero, big_any h ht hP s0 s1]
  cases dropsB ps fs ps.length 0 <;> rfl
theorem idiffs_is {ns : List Int} {ps : List SP} {fs : List Int} (h : Small ns ps) (ht : treeB ns ps = true) (hP : PipesOk ps fs) {src head : Int} (s0 : 0 ≤ src) (s1 : src < ns.length) {K : Nat} (hK : 1000 ≤ K) :
    X8.f K ns ps src fs head = some (diffsOf ns ps fs src head) := by
  have h16 := h.n16
  have hF := (tree_ways h ht s0 s1).2
  have hl := found_length hF
  unfold X8.f
  rw [if_pos (by omega), Int.toNat_natCast, if_pos (by omega), Option.bind_some, if_pos s0, if_pos (by rw [List.length_replicate]; exact s1), ways_is h s0 s1 (by omega), Option.bind_some, List.length_map]
  have := idiff_l0 h hP hF (waysB ps src).length K 0 ((List.replicate ns.length 0).set src.toNat head) (by omega) (by rw [List.length_set, List.length_replicate]) (by omega)
  rw [show ((0 : Nat) : Int) = (0 : Int) from rfl] at this
  rw [this, List.drop_zero]
  rfl
def stepT (ps : List SP) (st : List Int × List Int) (w : WayT) : List Int × List Int :=
  (st.1.set w.2.1.toNat (wrap64 (st.1.getD w.2.1.toNat 0 + st.1.getD w.1.toNat 0)), st.2.set w.2.2 (if w.1 = (ps.getD w.2.2 z73).f2 then st.1.getD w.1.toNat 0 else wrap64 (-(st.1.getD w.1.toNat 0))))
def runT (ps : List SP) (W : List WayT) : Nat → List Int × List Int → List Int × List Int
  | 0, st => st
  | d + 1, st => runT ps W d (stepT ps st (W.getD d (0, 0, 0)))
def badT (ps : List SP) (W : List WayT) : Nat → List Int × List Int → Bool
  | 0, _ => false
  | d + 1, st => decide (st.1.getD (W.getD d (0, 0, 0)).1.toNat 0 > 100000) || badT ps W d (stepT ps st (W.getD d (0, 0, 0)))
theorem runT_succ (ps : List SP) (W : List WayT) (d : Nat) (st : List Int × List Int) : runT ps W (d + 1) st = runT ps W d (stepT ps st (W.getD d (0, 0, 0))) := rfl
theorem badT_succ (ps : List SP) (W : List WayT) (d : Nat) (st : List Int × List Int) : badT ps W (d + 1) st = (decide (st.1.getD (W.getD d (0, 0, 0)).1.toNat 0 > 100000) || badT ps W d (stepT ps st (W.getD d (0, 0, 0)))) := rfl
theorem stepT_len {ps : List SP} {st : List Int × List Int} {w : WayT} : (stepT ps st w).1.length = st.1.length ∧ (stepT ps st w).2.length = st.2.length := by unfold stepT; simp
theorem runT_len {ps : List SP} {W : List WayT} : ∀ (d : Nat) (st : List Int × List Int), (runT ps W d st).2.length = st.2.length
  | 0, _ => rfl
  | d + 1, st => (runT_len d _).trans stepT_len.2
theorem netOk_ne {ns : List Int} {ps : List SP} (h : netOk ns ps = true) : ∀ i : Nat, i < ps.length → (ps.getD i z73).f1 ≠ (ps.getD i z73).f2 := fun i hi => (netOk_pipe h i hi).2.2.2
theorem sset_cons (a b : List Int) (c : Bool) : (some (a, c)).bind (fun x : List Int × Bool => some x) = some (a, c) := rfl
theorem strees_l0 {ns : List Int} {ps : List SP} (h : Small ns ps) (hne : ∀ i : Nat, i < ps.length → (ps.getD i z73).f1 ≠ (ps.getD i z73).f2) {src : Int} {W : List WayT} (hF : FoundW (edges ps) open_ ns.length src W) : ∀ (d K : Nat) (s f : List Int), d ≤ W.length → s.length = ns.length → f.length = ps.length → d < K →
    X20.l0 K (foundN src W) (byOf (edges ps) ns.length W) s f (d : Int) ns ps = some (if badT ps W d (s, f) = true then ([], false) else ((runT ps W d (s, f)).2, true))
  | d, 0, s, f, hd, hs, hf, hK => by omega
  | 0, K + 1, s, f, hd, hs, hf, hK => by
    simp only [X20.l0]
    rw [if_neg (by omega)]
    rfl
  | d + 1, K + 1, s, f, hd, hs, hf, hK => by
    have h16 := h.n16
    have h20 := h.p20
    have hi : d < W.length := by omega
    have hl := found_length hF
    have hlen : ((foundN src W).length : Int) = (W.length : Int) + 1 := by simp
    have hbl := byOf_length (edges ps) ns.length W
    obtain ⟨a, b, c, e⟩ := way_pipe h hF hi
    have e1 : rd (foundN src W) ((d + 1 : Nat) : Int) = (W.getD d (0, 0, 0)).1 := by rw [rd_nat, foundN_get _ _ _ hi]
    have e2 : rd (byOf (edges ps) ns.length W) (W.getD d (0, 0, 0)).1 = wayNo (edges ps) (W.getD d (0, 0, 0)) := byOf_get hF hi
    have e3 : ∀ i : Int, rd s i = s.getD i.toNat 0 := fun i => rfl
    have e4 : wrap64 (((d + 1 : Nat) : Int) - 1) = (d : Int) := by rw [w64 (by omega) (by omega)]; omega
    simp only [X20.l0]
    rw [if_pos (show ((d + 1 : Nat) : Int) > 0 by omega), if_pos (show (0 : Int) ≤ ((d + 1 : Nat) : Int) by omega), if_pos (by rw [hlen]; omega), e1, if_pos b.1, if_pos (by rw [hbl]; exact b.2), if_pos (by rw [hs]; exact b.2), e2, e4, e3, badT_succ, runT_succ]
    generalize W.getD d (0, 0, 0) = w at a b c e ⊢
    by_cases g : s.getD w.1.toNat 0 > 100000
    · rw [if_pos g, decide_eq_true g, Bool.true_or]
      rfl
    · rw [if_neg g, decide_eq_false g, Bool.false_or, before_is ns h20 a (hne _ a) e, Option.bind_some, if_pos c.1, if_pos (by rw [hs]; exact c.2), Option.bind_some, e3]
      have hst := stepT_len (ps := ps) (st := (s, f)) (w := w)
      rcases wayNo_cases a with ⟨c1, e5⟩ | ⟨c1, e5⟩
      · rw [e5, if_pos (by omega), w64 (x := (w.2.2 : Int) + 1 - 1) (by omega) (by omega), show (w.2.2 : Int) + 1 - 1 = (w.2.2 : Int) by omega, if_pos (by omega), if_pos (by omega), Int.toNat_natCast]
        have e6 : stepT ps (s, f) w = (s.set w.2.1.toNat (wrap64 (s.getD w.2.1.toNat 0 + s.getD w.1.toNat 0)), f.set w.2.2 (s.getD w.1.toNat 0)) := by unfold stepT; rw [if_pos c1]
        rw [e6]
        exact strees_l0 h hne hF d K _ _ (by omega) (by rw [List.length_set]; exact hs) (by rw [List.length_set]; exact hf) (by omega)
      · rw [e5, if_neg (by omega), w64 (x := -(-(w.2.2 : Int) - 1)) (by omega) (by omega), w64 (x := -(-(w.2.2 : Int) - 1) - 1) (by omega) (by omega), show -(-(w.2.2 : Int) - 1) - 1 = (w.2.2 : Int) by omega, if_pos (by omega), if_pos (by omega), Int.toNat_natCast]
        have e6 : stepT ps (s, f) w = (s.set w.2.1.toNat (wrap64 (s.getD w.2.1.toNat 0 + s.getD w.1.toNat 0)), f.set w.2.2 (wrap64 (-(s.getD w.1.toNat 0)))) := by unfold stepT; rw [if_neg c1]
        rw [e6]
        exact strees_l0 h hne hF d K _ _ (by omega) (by rw [List.length_set]; exact hs) (by rw [List.length_set]; exact hf) (by omega)
theorem itrees_l0 {ns : List Int} {ps : List SP} (h : Small ns ps) (hne : ∀ i : Nat, i < ps.length → (ps.getD i z73).f1 ≠ (ps.getD i z73).f2) {src : Int} {W : List WayT} (hF : FoundW (edges ps) open_ ns.length src W) : ∀ (d K : Nat) (s f : List Int), d ≤ W.length → s.length = ns.length → f.length = ps.length → d < K →
    X2.l0 K s f (W.map cvW) ((d : Int) - 1) ns ps = some (runT ps W d (s, f)).2
  | d, 0, s, f, hd, hs, hf, hK => by omega
  | 0, K + 1, s, f, hd, hs, hf, hK => by
    simp only [X2.l0]
    rw [if_neg (by omega)]
    rfl
  | d + 1, K + 1, s, f, hd, hs, hf, hK => by
    have h16 := h.n16
    have h20 := h.p20
    have hi : d < W.length := by omega
    have hl := found_length hF
    obtain ⟨a, b, c, e⟩ := way_pipe h hF hi
    have e4 : ((d + 1 : Nat) : Int) - 1 = (d : Int) := by omega
    have e5 : wrap64 ((d : Int) - 1) = (d : Int) - 1 := w64 (by omega) (by omega)
    simp only [X2.l0, runT]
    rw [e4, if_pos (show (d : Int) ≥ 0 by omega), if_pos (show (0 : Int) ≤ (d : Int) by omega), if_pos (by rw [List.length_map]; omega), rdW W d hi, e5]
    generalize W.getD d (0, 0, 0) = w at a b c e ⊢
    have n1 : (cvW w).f0 = w.1 := rfl
    have n2 : (cvW w).f1 = w.2.1 := rfl
    have n3 : (cvW w).f2 = (w.2.2 : Int) := rfl
    rw [n1, n2, n3, if_pos c.1, if_pos (by rw [hs]; exact c.2), if_pos b.1, if_pos (by rw [hs]; exact b.2), Option.bind_some, if_pos (show (0 : Int) ≤ (w.2.2 : Int) by omega), if_pos (by rw [hf]; omega), Option.bind_some, if_pos (by omega), rdP_impl, Int.toNat_natCast]
    have hx : w.2.1.toNat ≠ w.1.toNat := by
      have := hne _ a
      rcases e with ⟨g1, g2⟩ | ⟨g1, g2⟩ <;> omega
    have hq : rd (s.set w.2.1.toNat (wrap64 (rd s w.2.1 + rd s w.1))) w.1 = s.getD w.1.toNat 0 := by
      unfold rd
      simp only [List.getD_eq_getElem?_getD, List.getElem?_set]
      rw [if_neg hx]
    rw [hq]
    have e3 : ∀ i : Int, rd s i = s.getD i.toNat 0 := fun i => rfl
    rw [e3, e3]
    by_cases c1 : (ps.getD w.2.2 z73).f1 = w.1
    · have c2 : ¬ w.1 = (ps.getD w.2.2 z73).f2 := fun g => hne _ a (c1.trans g)
      have e6 : stepT ps (s, f) w = (s.set w.2.1.toNat (wrap64 (s.getD w.2.1.toNat 0 + s.getD w.1.toNat 0)), f.set w.2.2 (wrap64 (-(s.getD w.1.toNat 0)))) := by unfold stepT; rw [if_neg c2]
      rw [if_pos c1, e6, List.set_set]
      exact itrees_l0 h hne hF d K _ _ (by omega) (by rw [List.length_set]; exact hs) (by rw [List.length_set]; exact hf) (by omega)
    · have c2 : w.1 = (ps.getD w.2.2 z73).f2 := by
        rcases e with ⟨_, g⟩ | ⟨_, g⟩
        · exact g
        · exact absurd g.symm c1
      have e6 : stepT ps (s, f) w = (s.set w.2.1.toNat (wrap64 (s.getD w.2.1.toNat 0 + s.getD w.1.toNat 0)), f.set w.2.2 (s.getD w.1.toNat 0)) := by unfold stepT; rw [if_pos c2]
      rw [if_neg c1, e6]
      exact itrees_l0 h hne hF d K _ _ (by omega) (by rw [List.length_set]; exact hs) (by rw [List.length_set]; exact hf) (by omega)
theorem allIn_iff (lo hi : Int) (l : List Int) : allIn lo hi l = true ↔ ∀ i : Nat, i < l.length → lo ≤ l.getD i 0 ∧ l.getD i 0 ≤ hi := by
  unfold allIn
  rw [List.all_eq_true]
  constructor
  · intro h i hi'
    have := h (l.getD i 0) (by rw [List.getD_eq_getElem?_getD, List.getElem?_eq_getElem hi']; exact List.getElem_mem hi')
    exact of_decide_eq_true this
  · intro h x hx
    obtain ⟨i, hi', e⟩ := List.mem_iff_getElem.1 hx
    have := h i hi'
    rw [List.getD_eq_getElem?_getD, List.getElem?_eq_getElem hi', Option.getD_some, e] at this
    exact decide_eq_true this
theorem getD_set_int (l : List Int) (i j : Nat) (x : Int) : (l.set i x).getD j 0 = if i = j ∧ j < l.length then x else l.getD j 0 := by
  simp only [List.getD_eq_getElem?_getD, List.getElem?_set]
  by_cases c : i = j
  · subst c
    by_cases c2 : i < l.length
    · simp [c2]
    · simp [c2]
  · simp [c]
theorem runT_all {ps : List SP} {W : List WayT} (hD : ∀ i j : Nat, i < W.length → j < i → (W.getD j (0, 0, 0)).2.2 ≠ (W.getD i (0, 0, 0)).2.2) (hp : ∀ i : Nat, i < W.length → (W.getD i (0, 0, 0)).2.2 < ps.length) : ∀ (d : Nat) (s f : List Int) (B : Int), d ≤ W.length → 0 ≤ B → B * 2 ^ d ≤ 4611686018427387904 → (∀ i : Nat, 0 ≤ s.getD i 0 ∧ s.getD i 0 ≤ B) → f.length = ps.length →
    (allIn (-100000) 100000 (runT ps W d (s, f)).2 = true ↔ badT ps W d (s, f) = false ∧ ∀ i : Nat, i < ps.length → (∀ j : Nat, j < d → (W.getD j (0, 0, 0)).2.2 ≠ i) → -100000 ≤ f.getD i 0 ∧ f.getD i 0 ≤ 100000)
  | 0, s, f, B, _, _, _, _, hf => by
    simp only [runT, badT]
    rw [allIn_iff, hf]
    exact ⟨fun h => ⟨trivial, fun i hi _ => h i hi⟩, fun h i hi => h.2 i hi (fun j hj => by omega)⟩
  | d + 1, s, f, B, hd, hB0, hB, hs, hf => by
    have hpd := hp d (by omega)
    simp only [runT, badT]
    have h1 : B * 2 ≤ 4611686018427387904 ∧ (B * 2) * 2 ^ d ≤ 4611686018427387904 := by
      have e : B * 2 ^ (d + 1) = (B * 2) * 2 ^ d := by rw [Int.pow_succ, Int.mul_comm ((2 : Int) ^ d) 2, Int.mul_assoc]
      rw [e] at hB
      have h2 : (1 : Int) ≤ 2 ^ d := by have := Int.pow_pos (n := 2) (m := d) (by omega); omega
      have h3 : (B * 2) * 1 ≤ (B * 2) * 2 ^ d := Int.mul_le_mul_of_nonneg_left h2 (by omega)
      omega
    have hst : stepT ps (s, f) (W.getD d (0, 0, 0)) = ((stepT ps (s, f) (W.getD d (0, 0, 0))).1, (stepT ps (s, f) (W.getD d (0, 0, 0))).2) := rfl
    have hs' : ∀ i : Nat, 0 ≤ (stepT ps (s, f) (W.getD d (0, 0, 0))).1.getD i 0 ∧ (stepT ps (s, f) (W.getD d (0, 0, 0))).1.getD i 0 ≤ B * 2 := fun i => by
      unfold stepT
      dsimp only
      have a := hs (W.getD d (0, 0, 0)).2.1.toNat
      have b := hs (W.getD d (0, 0, 0)).1.toNat
      have c := hs i
      rw [getD_set_int, w64 (by omega) (by omega)]
      split <;> omega
    have hf' : (stepT ps (s, f) (W.getD d (0, 0, 0))).2.length = ps.length := stepT_len.2.trans hf
    rw [hst, runT_all hD hp d _ _ (B * 2) (by omega) (by omega) h1.2 hs' hf', ← hst]
    have hq := hs (W.getD d (0, 0, 0)).1.toNat
    have hv : ∀ i : Nat, (stepT ps (s, f) (W.getD d (0, 0, 0))).2.getD i 0 = if (W.getD d (0, 0, 0)).2.2 = i then (if (W.getD d (0, 0, 0)).1 = (ps.getD (W.getD d (0, 0, 0)).2.2 z73).f2 then s.getD (W.getD d (0, 0, 0)).1.toNat 0 else -(s.getD (W.getD d (0, 0, 0)).1.toNat 0)) else f.getD i 0 := fun i => by
      unfold stepT
      dsimp only
      rw [getD_set_int, w64 (x := -(s.getD (W.getD d (0, 0, 0)).1.toNat 0)) (by omega) (by omega)]
      by_cases c : (W.getD d (0, 0, 0)).2.2 = i
      · rw [if_pos c, if_pos ⟨c, by omega⟩]
      · rw [if_neg c, if_neg (fun g => c g.1)]
    constructor
    · rintro ⟨g1, g2⟩
      have g3 := g2 (W.getD d (0, 0, 0)).2.2 hpd (fun j hj => hD d j (by omega) hj)
      rw [hv, if_pos rfl] at g3
      refine ⟨?_, fun i hi hj => ?_⟩
      · rw [g1, Bool.or_false]
        refine decide_eq_false ?_
        split at g3 <;> omega
      · have := g2 i hi (fun j hj2 => hj j (by omega))
        rw [hv, if_neg (hj d (by omega))] at this
        exact this
    · rintro ⟨g1, g2⟩
      rw [Bool.or_eq_false_iff] at g1
      have g3 := of_decide_eq_false g1.1
      refine ⟨g1.2, fun i hi hj => ?_⟩
      rw [hv]
      by_cases c : (W.getD d (0, 0, 0)).2.2 = i
      · rw [if_pos c]
        split <;> omega
      · rw [if_neg c]
        refine g2 i hi (fun j hj2 => ?_)
        by_cases c2 : j = d
        · rw [c2]; exact c
        · exact hj j (by omega)
def flowsOf (ps : List SP) (src : Int) (dem : List Int) : List Int := (runT ps (waysB ps src) (waysB ps src).length (dem, List.replicate ps.length 0)).2
def tooT (ps : List SP) (src : Int) (dem : List Int) : Bool := badT ps (waysB ps src) (waysB ps src).length (dem, List.replicate ps.length 0)
theorem flowsOf_length (ps : List SP) (src : Int) (dem : List Int) : (flowsOf ps src dem).length = ps.length := by unfold flowsOf; rw [runT_len, List.length_replicate]
theorem streeF_is {ns : List Int} {ps : List SP} (h : Small ns ps) (hne : ∀ i : Nat, i < ps.length → (ps.getD i z73).f1 ≠ (ps.getD i z73).f2) (ht : treeB ns ps = true) {src : Int} {dem : List Int} (hl : dem.length = ns.length) (s0 : 0 ≤ src) (s1 : src < ns.length) {K : Nat} (hK : 1000 ≤ K) :
    X20.f K ns ps src dem = some (if tooT ps src dem = true then ([], false) else (flowsOf ps src dem, true)) := by
  have h16 := h.n16
  have h20 := h.p20
  have hF := (tree_ways h ht s0 s1).2
  have hw := found_length hF
  have hlen : ((foundN src (waysB ps src)).length : Int) = ((waysB ps src).length : Int) + 1 := by simp
  have ho : X79.f dem = some dem := by unfold X79.f; rw [Option.bind_some, if_pos (by simp; omega)]; rfl
  unfold X20.f
  rw [order_is h hne s0 s1 hK, Option.bind_some, ho, Option.bind_some, if_pos (by omega), Int.toNat_natCast, if_pos (by omega)]
  dsimp only
  rw [hlen, w64 (by omega) (by omega), show ((waysB ps src).length : Int) + 1 - 1 = ((waysB ps src).length : Int) by omega]
  exact strees_l0 h hne hF (waysB ps src).length K dem (List.replicate ps.length 0) (Nat.le_refl _) hl (by simp) (by omega)
theorem itreeF_is {ns : List Int} {ps : List SP} (h : Small ns ps) (hne : ∀ i : Nat, i < ps.length → (ps.getD i z73).f1 ≠ (ps.getD i z73).f2) (ht : treeB ns ps = true) {src : Int} {dem : List Int} (hl : dem.length = ns.length) (s0 : 0 ≤ src) (s1 : src < ns.length) {K : Nat} (hK : 1000 ≤ K) :
    X2.f K ns ps src dem = some (flowsOf ps src dem) := by
  have h16 := h.n16
  have h20 := h.p20
  have hF := (tree_ways h ht s0 s1).2
  have hw := found_length hF
  have ho : X53.f dem = some dem := by unfold X53.f; rw [if_pos (by omega)]
  unfold X2.f
  rw [ho, Option.bind_some, if_pos (by omega), Int.toNat_natCast, if_pos (by omega), ways_is h s0 s1 (by omega), Option.bind_some, List.length_map, w64 (by omega) (by omega)]
  exact itrees_l0 h hne hF (waysB ps src).length K dem (List.replicate ps.length 0) (Nat.le_refl _) hl (by simp) (by omega)
theorem too_all {ns : List Int} {ps : List SP} (h : Small ns ps) (ht : treeB ns ps = true) {src : Int} {dem : List Int} (hd : allIn 0 100000 dem = true) (s0 : 0 ≤ src) (s1 : src < ns.length) :
    allIn (-100000) 100000 (flowsOf ps src dem) = !tooT ps src dem := by
  have h16 := h.n16
  have hF := (tree_ways h ht s0 s1).2
  have hw := found_length hF
  have hn := ways_nodup hF
  have hg : ∀ (k : Nat) (hk : k < (waysB ps src).length), (waysB ps src).getD k (0, 0, 0) = (waysB ps src)[k] := fun k hk => by rw [List.getD_eq_getElem?_getD, List.getElem?_eq_getElem hk]; rfl
  have hD : ∀ i j : Nat, i < (waysB ps src).length → j < i → ((waysB ps src).getD j (0, 0, 0)).2.2 ≠ ((waysB ps src).getD i (0, 0, 0)).2.2 := fun i j hi hj e => by
    unfold List.Nodup at hn
    rw [List.pairwise_map] at hn
    have := List.pairwise_iff_getElem.1 hn j i (by omega) hi hj
    rw [hg j (by omega), hg i hi] at e
    exact this (by rw [e])
  have hp : ∀ i : Nat, i < (waysB ps src).length → ((waysB ps src).getD i (0, 0, 0)).2.2 < ps.length := fun i hi => (way_pipe h hF hi).1
  have hs : ∀ i : Nat, 0 ≤ dem.getD i 0 ∧ dem.getD i 0 ≤ 100000 := fun i => by
    by_cases c : i < dem.length
    · exact (allIn_iff 0 100000 dem).1 hd i c
    · rw [List.getD_eq_getElem?_getD, List.getElem?_eq_none (by omega)]; simp
  have hB : (100000 : Int) * 2 ^ (waysB ps src).length ≤ 4611686018427387904 := by
    have : (waysB ps src).length ≤ 15 := by omega
    have h2 : (2 : Int) ^ (waysB ps src).length ≤ 2 ^ 15 := by
      have := Nat.pow_le_pow_right (n := 2) (by omega) this
      have e : ((2 ^ (waysB ps src).length : Nat) : Int) ≤ ((2 ^ 15 : Nat) : Int) := Int.ofNat_le.2 this
      simpa using e
    have h3 : (2 : Int) ^ 15 = 32768 := by decide
    omega
  have key := runT_all (ps := ps) hD hp (waysB ps src).length dem (List.replicate ps.length 0) 100000 (Nat.le_refl _) (by omega) hB hs (by simp)
  have hz : ∀ i : Nat, i < ps.length → (∀ j : Nat, j < (waysB ps src).length → ((waysB ps src).getD j (0, 0, 0)).2.2 ≠ i) → -100000 ≤ (List.replicate ps.length (0 : Int)).getD i 0 ∧ (List.replicate ps.length (0 : Int)).getD i 0 ≤ 100000 := fun i hi _ => by
    rw [List.getD_eq_getElem?_getD, List.getElem?_replicate, if_pos hi]; simp
  show allIn (-100000) 100000 (runT ps (waysB ps src) (waysB ps src).length (dem, List.replicate ps.length 0)).2 = !badT ps (waysB ps src) (waysB ps src).length (dem, List.replicate ps.length 0)
  cases c : badT ps (waysB ps src) (waysB ps src).length (dem, List.replicate ps.length 0) with
  | false => rw [key.2 ⟨c, hz⟩]; rfl
  | true =>
    cases c2 : allIn (-100000) 100000 (runT ps (waysB ps src) (waysB ps src).length (dem, List.replicate ps.length 0)).2 with
    | false => rfl
    | true => have := (key.1 c2).1; rw [c] at this; exact absurd this (by simp)
def demOk (ns dem : List Int) : Bool := allIn 0 100000 dem && decide (dem.length = ns.length)
theorem sdem_l0 (ns : List Int) (ps : List SP) (dem : List Int) (hl : dem.length ≤ 1048576) : ∀ (d K i : Nat), i + d = dem.length → d < K →
    X23.l0 K dem (i : Int) ns ps = some (allIn 0 100000 (dem.drop i) && decide (dem.length = ns.length))
  | d, 0, i, hd, hK => by omega
  | 0, K + 1, i, hd, hK => by
    simp only [X23.l0]
    rw [if_neg (by omega), List.drop_of_length_le (by omega)]
    by_cases c : dem.length = ns.length
    · simp [allIn, c]
    · have c' : ¬ ((dem.length : Int) = (ns.length : Int)) := by omega
      simp [allIn, c, c']
  | d + 1, K + 1, i, hd, hK => by
    have hi : i < dem.length := by omega
    have e : dem.drop i = dem.getD i 0 :: dem.drop (i + 1) := by rw [List.drop_eq_getElem_cons hi, List.getD_eq_getElem?_getD, List.getElem?_eq_getElem hi]; rfl
    have hin : X46.f (rd dem (i : Int)) 0 100000 = some (decide (0 ≤ dem.getD i 0 ∧ dem.getD i 0 ≤ 100000)) := by rw [rd_nat]; rfl
    simp only [X23.l0]
    rw [if_pos (by omega), if_pos (by omega), hin, Option.bind_some, e, w_succ (by omega), sdem_l0 ns ps dem hl d K (i + 1) (by omega) (by omega)]
    unfold allIn
    rw [List.all_cons]
    by_cases c : 0 ≤ dem.getD i 0 ∧ dem.getD i 0 ≤ 100000
    · rw [decide_eq_true c, if_pos rfl, Bool.true_and]
    · rw [decide_eq_false c, if_neg (by simp), Bool.false_and, Bool.false_and]
theorem sdem_is (ns : List Int) (ps : List SP) {dem : List Int} (hl : dem.length ≤ 1048576) {K : Nat} (hK : 1048600 ≤ K) : X23.f K ns ps dem = some (demOk ns dem) := by
  unfold X23.f
  have := sdem_l0 ns ps dem hl dem.length K 0 (by omega) (by omega)
  rw [List.drop_zero] at this
  exact this
def beginN (ns : List Int) (ps : List SP) (x : Int) (dem : List Int) : Int :=
  if netOk ns ps = true then (if 0 ≤ x ∧ x ≤ (ns.length : Int) - 1 then (if demOk ns dem = true then (if treeB ns ps = true then 0 else 6) else 7) else 2) else 1
theorem sbegin_is {ns : List Int} {ps : List SP} {x : Int} {dem : List Int} (hs : ns.length ≤ 4611686018427387904 ∧ ∀ p ∈ ps, p.f0.size ≤ 9000000000000000000) (hl : dem.length ≤ 1048576) {K : Nat} (hK : 1048600 ≤ K) : X42.f K ns ps x dem = some (beginN ns ps x dem) := by
  have hA : X34.f ns ps x = some (askN ns ps x) := by unfold X34.f; rw [if_pos hs]
  unfold X42.f beginN
  rw [hA, Option.bind_some, sdem_is ns ps hl hK, Option.bind_some]
  unfold askN
  by_cases c1 : netOk ns ps = true
  · have ht := stree_B (small_of c1) (K := K) (by omega)
    rw [if_pos c1, if_pos c1]
    by_cases c2 : 0 ≤ x ∧ x ≤ (ns.length : Int) - 1
    · rw [if_pos c2, if_pos c2, if_pos rfl, ht]
      cases demOk ns dem <;> cases treeB ns ps <;> rfl
    · rw [if_neg c2, if_neg c2, if_neg (show ¬ (2 : Int) = 0 by omega)]
  · rw [if_neg c1, if_neg c1, if_neg (show ¬ (1 : Int) = 0 by omega)]
theorem icode_is {ns : List Int} {ps : List SP} {x hd : Int} {dem fs : List Int} (hs : ns.length ≤ 4611686018427387904 ∧ ∀ p ∈ ps, p.f0.size ≤ 9000000000000000000) (hl : dem.length ≤ 1048576) (hh : 0 ≤ hd ∧ hd ≤ 100000000) {K : Nat} (hK : 1000 ≤ K) : X11.f K ns ps x hd dem fs true = some (beginN ns ps x dem) := by
  obtain ⟨K, rfl⟩ : ∃ m, K = m + 3 := ⟨K - 3, by omega⟩
  have hV : X38.f ns ps = some (netOk ns ps) := by unfold X38.f; rw [if_pos hs]
  have hN : X26.f ns ps x = some (decide (0 ≤ x ∧ x ≤ (ns.length : Int) - 1)) := by unfold X26.f; rw [if_pos hs.1]
  have hP : X39.f hd = some (decide (0 ≤ hd ∧ hd ≤ 100000000)) := rfl
  have hA : X36.f dem 0 100000 = some (allIn 0 100000 dem) := by unfold X36.f; rw [if_pos (by omega)]
  unfold beginN X11.f
  rw [hV, Option.bind_some, hN, Option.bind_some, hP, Option.bind_some, decide_eq_true hh]
  by_cases c1 : netOk ns ps = true
  · have ht := itree_B (small_of c1) (K := K) (by omega)
    rw [if_pos c1, if_pos c1]
    by_cases c2 : 0 ≤ x ∧ x ≤ (ns.length : Int) - 1
    · rw [if_pos c2, decide_eq_true c2, if_pos rfl]
      simp only [X11.j0, Bool.not_true]
      rw [if_neg (by simp), if_pos trivial, hA, Option.bind_some]
      unfold demOk
      by_cases c3 : dem.length = ns.length
      · rw [if_pos (by omega), decide_eq_true c3, Bool.and_true]
        cases c4 : allIn 0 100000 dem <;> cases c5 : treeB ns ps <;> simp [X11.j1, X11.j2, ht, c5]
      · rw [if_neg (by omega), decide_eq_false c3, Bool.and_false]
        simp [X11.j1]
    · rw [if_neg c2, decide_eq_false c2, if_neg (by simp)]
      simp [X11.j0]
  · rw [if_neg c1, if_neg c1]
theorem begin_zero {ns : List Int} {ps : List SP} {x : Int} {dem : List Int} (h : beginN ns ps x dem = 0) : netOk ns ps = true ∧ (0 ≤ x ∧ x ≤ (ns.length : Int) - 1) ∧ (allIn 0 100000 dem = true ∧ dem.length = ns.length) ∧ treeB ns ps = true := by
  unfold beginN at h
  split at h
  · split at h
    · split at h
      · split at h
        · rename_i c _
          unfold demOk at c
          simp only [Bool.and_eq_true, decide_eq_true_eq] at c
          exact ⟨‹_›, ‹_›, c, ‹_›⟩
        · omega
      · omega
    · omega
  · omega
def preN (ns : List Int) (ps : List SP) (x hd nd : Int) (dem : List Int) : Int :=
  if netOk ns ps = true then (if (0 ≤ x ∧ x ≤ (ns.length : Int) - 1) ∧ (0 ≤ hd ∧ hd ≤ 100000000) ∧ 0 ≤ nd ∧ nd ≤ 100000000 then (if demOk ns dem = true then (if treeB ns ps = true then 0 else 6) else 7) else 2) else 1
def servedN (ns : List Int) (ps : List SP) (x hd : Int) (dem : List Int) : List Int × Int :=
  if tooT ps x dem = true then ([], 5) else (if dropsB ps (flowsOf ps x dem) ps.length 0 = true then (diffsOf ns ps (flowsOf ps x dem) x hd, 0) else ([], 5))
theorem pre_zero {ns : List Int} {ps : List SP} {x hd nd : Int} {dem : List Int} (h : preN ns ps x hd nd dem = 0) : netOk ns ps = true ∧ ((0 ≤ x ∧ x ≤ (ns.length : Int) - 1) ∧ (0 ≤ hd ∧ hd ≤ 100000000) ∧ 0 ≤ nd ∧ nd ≤ 100000000) ∧ (allIn 0 100000 dem = true ∧ dem.length = ns.length) ∧ treeB ns ps = true := by
  unfold preN at h
  split at h
  · split at h
    · split at h
      · split at h
        · rename_i c _
          unfold demOk at c
          simp only [Bool.and_eq_true, decide_eq_true_eq] at c
          exact ⟨‹_›, ‹_›, c, ‹_›⟩
        · omega
      · omega
    · omega
  · omega
theorem tree_flows_ok {ns : List Int} {ps : List SP} (hn : netOk ns ps = true) (ht : treeB ns ps = true) {x : Int} {dem : List Int} (hd : allIn 0 100000 dem = true) (x0 : 0 ≤ x) (x1 : x < ns.length) (c : tooT ps x dem = false) : PipesOk ps (flowsOf ps x dem) := by
  have hl := flowsOf_length ps x dem
  have ha := too_all (small_of hn) ht hd x0 x1
  rw [c] at ha
  exact pipesOk_of hn (fun i hi => (allIn_iff _ _ _).1 ha i (by rw [hl]; exact hi)) hl
theorem sserved_is {ns : List Int} {ps : List SP} {x hd nd : Int} {dem : List Int} (g : preN ns ps x hd nd dem = 0) {h0 : Int} {K : Nat} (hK : 1000 ≤ K) : X44.f K ns ps x dem h0 = some (servedN ns ps x h0 dem) := by
  obtain ⟨g1, g2, g3, g4⟩ := pre_zero g
  have hS := small_of g1
  have x1 : x < ns.length := by omega
  unfold X44.f servedN
  rw [streeF_is hS (netOk_ne g1) g4 g3.2 g2.1.1 x1 hK, Option.bind_some]
  cases c : tooT ps x dem with
  | true => simp
  | false =>
    simp only [Bool.false_eq_true, if_false, if_true]
    rw [sdiffs_is hS g4 (tree_flows_ok g1 g4 g3.1 g2.1.1 x1 c) g2.1.1 x1 hK, Option.bind_some]
    cases dropsB ps (flowsOf ps x dem) ps.length 0 <;> simp
theorem icode_any {ns : List Int} {ps : List SP} {x hd : Int} {dem fs : List Int} (hs : ns.length ≤ 4611686018427387904 ∧ ∀ p ∈ ps, p.f0.size ≤ 9000000000000000000) (hl : dem.length ≤ 1048576) {K : Nat} (hK : 1000 ≤ K) : X11.f K ns ps x hd dem fs true = some (preN ns ps x hd 0 dem) := by
  by_cases hh : 0 ≤ hd ∧ hd ≤ 100000000
  · rw [icode_is hs hl hh hK]
    unfold beginN preN
    by_cases c0 : netOk ns ps = true
    · by_cases c : 0 ≤ x ∧ x ≤ (ns.length : Int) - 1
      · rw [if_pos c0, if_pos c0, if_pos c, if_pos (show (0 ≤ x ∧ x ≤ (ns.length : Int) - 1) ∧ (0 ≤ hd ∧ hd ≤ 100000000) ∧ (0 : Int) ≤ 0 ∧ (0 : Int) ≤ 100000000 from ⟨c, hh, by omega⟩)]
      · rw [if_pos c0, if_pos c0, if_neg c, if_neg (fun g => c g.1)]
    · rw [if_neg c0, if_neg c0]
  · obtain ⟨K, rfl⟩ : ∃ m, K = m + 3 := ⟨K - 3, by omega⟩
    have hV : X38.f ns ps = some (netOk ns ps) := by unfold X38.f; rw [if_pos hs]
    have hN : X26.f ns ps x = some (decide (0 ≤ x ∧ x ≤ (ns.length : Int) - 1)) := by unfold X26.f; rw [if_pos hs.1]
    have hP : X39.f hd = some (decide (0 ≤ hd ∧ hd ≤ 100000000)) := rfl
    unfold preN X11.f
    rw [hV, Option.bind_some, hN, Option.bind_some, hP, Option.bind_some, decide_eq_false hh, if_neg (show ¬ ((0 ≤ x ∧ x ≤ (ns.length : Int) - 1) ∧ (0 ≤ hd ∧ hd ≤ 100000000) ∧ (0 : Int) ≤ 0 ∧ (0 : Int) ≤ 100000000) from fun g => hh g.2.1)]
    cases netOk ns ps <;> simp [X11.j0]
theorem idemand_is {ns : List Int} {ps : List SP} {x hd nd : Int} {dem : List Int} (hs : ns.length ≤ 4611686018427387904 ∧ ∀ p ∈ ps, p.f0.size ≤ 9000000000000000000) (hl : dem.length ≤ 1048576) {K : Nat} (hK : 1000 ≤ K) :
    X32.f K ns ps x dem hd nd = some (if preN ns ps x hd nd dem = 0 then servedN ns ps x hd dem else ([], preN ns ps x hd nd dem)) := by
  have hP : X39.f nd = some (decide (0 ≤ nd ∧ nd ≤ 100000000)) := rfl
  unfold X32.f
  rw [icode_any hs hl hK, Option.bind_some, hP, Option.bind_some]
  by_cases c1 : netOk ns ps = true
  case neg =>
    have e : ∀ nd, preN ns ps x hd nd dem = 1 := fun nd => by unfold preN; rw [if_neg c1]
    rw [e, e, if_pos rfl, if_neg (by omega)]
  have n1 : preN ns ps x hd 0 dem ≠ 1 := by
    unfold preN
    rw [if_pos c1]
    split
    · split
      · split <;> omega
      · omega
    · omega
  rw [if_neg n1]
  by_cases c2 : 0 ≤ nd ∧ nd ≤ 100000000
  case neg =>
    have e : preN ns ps x hd nd dem = 2 := by unfold preN; rw [if_pos c1, if_neg (fun g => c2 g.2.2)]
    rw [decide_eq_false c2, if_neg (by simp), e, if_neg (by omega)]
  have e : preN ns ps x hd nd dem = preN ns ps x hd 0 dem := by
    unfold preN
    by_cases c3 : (0 ≤ x ∧ x ≤ (ns.length : Int) - 1) ∧ 0 ≤ hd ∧ hd ≤ 100000000
    · rw [if_pos (show (0 ≤ x ∧ x ≤ (ns.length : Int) - 1) ∧ (0 ≤ hd ∧ hd ≤ 100000000) ∧ 0 ≤ nd ∧ nd ≤ 100000000 from ⟨c3.1, c3.2, c2⟩), if_pos (show (0 ≤ x ∧ x ≤ (ns.length : Int) - 1) ∧ (0 ≤ hd ∧ hd ≤ 100000000) ∧ (0 : Int) ≤ 0 ∧ (0 : Int) ≤ 100000000 from ⟨c3.1, c3.2, by omega⟩)]
    · rw [if_neg (show ¬ ((0 ≤ x ∧ x ≤ (ns.length : Int) - 1) ∧ (0 ≤ hd ∧ hd ≤ 100000000) ∧ 0 ≤ nd ∧ nd ≤ 100000000) from fun g => c3 ⟨g.1, g.2.1⟩), if_neg (show ¬ ((0 ≤ x ∧ x ≤ (ns.length : Int) - 1) ∧ (0 ≤ hd ∧ hd ≤ 100000000) ∧ (0 : Int) ≤ 0 ∧ (0 : Int) ≤ 100000000) from fun g => c3 ⟨g.1, g.2.1⟩)]
  rw [decide_eq_true c2, if_pos rfl, e]
  by_cases g : preN ns ps x hd 0 dem = 0
  case neg => rw [if_neg g, if_neg g]
  obtain ⟨g1, g2, g3, g4⟩ := pre_zero g
  have hS := small_of g1
  have h20 := hS.p20
  have x1 : x < ns.length := by omega
  have hA : X36.f (flowsOf ps x dem) (-100000) 100000 = some (!tooT ps x dem) := by unfold X36.f; rw [if_pos (by rw [flowsOf_length]; omega), too_all hS g4 g3.1 g2.1.1 x1]
  rw [if_pos g, if_pos g, itreeF_is hS (netOk_ne g1) g4 g3.2 g2.1.1 x1 hK, Option.bind_some, hA, Option.bind_some]
  unfold servedN
  cases c : tooT ps x dem with
  | true => simp
  | false =>
    have hF := tree_flows_ok g1 g4 g3.1 g2.1.1 x1 c
    simp only [Bool.not_false, if_true, Bool.false_eq_true, if_false]
    rw [drops_is ns h20 hF (by omega), Option.bind_some]
    by_cases c5 : dropsB ps (flowsOf ps x dem) ps.length 0 = true
    · rw [if_pos c5, if_pos c5, idiffs_is hS g4 hF g2.1.1 x1 hK, Option.bind_some]
    · rw [if_neg c5, if_neg c5]
theorem served_length {ns : List Int} {ps : List SP} {x hd : Int} {dem : List Int} (h : (servedN ns ps x hd dem).2 = 0) : (servedN ns ps x hd dem).1.length = ns.length := by
  unfold servedN at h ⊢
  split at h
  · simp at h
  · rename_i c
    rw [if_neg c]
    split at h
    · rename_i c2
      rw [if_pos c2]
      exact diffsOf_length _ _ _ _ _
    · simp at h
theorem spre_is {ns : List Int} {ps : List SP} {x p : Int} {dem : List Int} (hs : ns.length ≤ 4611686018427387904 ∧ ∀ p ∈ ps, p.f0.size ≤ 9000000000000000000) (hl : dem.length ≤ 1048576) {K : Nat} (hK : 1048600 ≤ K) {hd nd : Int} (he : (0 ≤ p ∧ p ≤ 100000000) ↔ (0 ≤ hd ∧ hd ≤ 100000000) ∧ 0 ≤ nd ∧ nd ≤ 100000000) {α : Type} (f : Int → Option α) (y : Option α) :
    ((X34.f ns ps x).bind fun a => if a = 0 then ((X51.f p).bind fun b => if b = true then ((X42.f K ns ps x dem).bind fun c => if c = 0 then y else f c) else f 2) else f a) = if preN ns ps x hd nd dem = 0 then y else f (preN ns ps x hd nd dem) := by
  have hA : X34.f ns ps x = some (askN ns ps x) := by unfold X34.f; rw [if_pos hs]
  have hP : X51.f p = some (decide (0 ≤ p ∧ p ≤ 100000000)) := rfl
  rw [hA, Option.bind_some, hP, Option.bind_some, sbegin_is hs hl hK, Option.bind_some]
  unfold askN beginN preN
  by_cases c1 : netOk ns ps = true
  case neg => simp only [if_neg c1, if_neg (show ¬ (1 : Int) = 0 by omega)]
  by_cases c2 : 0 ≤ x ∧ x ≤ (ns.length : Int) - 1
  case neg => simp only [if_pos c1, if_neg c2, if_neg (show ¬ ((0 ≤ x ∧ x ≤ (ns.length : Int) - 1) ∧ (0 ≤ hd ∧ hd ≤ 100000000) ∧ 0 ≤ nd ∧ nd ≤ 100000000) from fun g => c2 g.1), if_neg (show ¬ (2 : Int) = 0 by omega)]
  simp only [if_pos c1, if_pos c2, if_true]
  by_cases c3 : 0 ≤ p ∧ p ≤ 100000000
  · rw [decide_eq_true c3, if_pos rfl, if_pos (show (0 ≤ x ∧ x ≤ (ns.length : Int) - 1) ∧ (0 ≤ hd ∧ hd ≤ 100000000) ∧ 0 ≤ nd ∧ nd ≤ 100000000 from ⟨c2, he.1 c3⟩)]
  · rw [decide_eq_false c3, if_neg (by simp), if_neg (show ¬ ((0 ≤ x ∧ x ≤ (ns.length : Int) - 1) ∧ (0 ≤ hd ∧ hd ≤ 100000000) ∧ 0 ≤ nd ∧ nd ≤ 100000000) from fun g => c3 (he.2 g.2)), if_neg (show ¬ (2 : Int) = 0 by omega)]
def worstF (dem lst : List Int) : Nat → Nat → Int → Int
  | 0, _, b => b
  | d + 1, i, b => worstF dem lst d (i + 1) (if dem.getD i 0 > 0 then (if b < 0 then (i : Int) else (if lst.getD i 0 < lst.getD b.toNat 0 then (i : Int) else b)) else b)
def worstA (lst : List Int) (b : Int) : Int × Int × Int := if b < 0 then (0, 0, 3) else (b, lst.getD b.toNat 0, 0)
theorem sworst_l0 {dem lst : List Int} (hl : dem.length = lst.length) (h16 : lst.length ≤ 16) : ∀ (d K i : Nat) (b : Int), i + d = lst.length → b < (i : Int) → d < K → X21.l0 K dem lst b (i : Int) = some (worstA lst (worstF dem lst d i b))
  | d, 0, i, b, hd, hb, hK => by omega
  | 0, K + 1, i, b, hd, hb, hK => by
    simp only [X21.l0, worstF]
    rw [if_neg (by omega)]
    unfold worstA
    by_cases c : b < 0
    · rw [if_pos c, if_pos c]
    · rw [if_neg c, if_neg c, if_pos (by omega), if_pos (by omega)]; rfl
  | d + 1, K + 1, i, b, hd, hb, hK => by
    have e : rd lst b = lst.getD b.toNat 0 := rfl
    simp only [X21.l0, worstF]
    rw [if_pos (by omega), if_pos (by omega), if_pos (by omega), rd_nat, rd_nat, w_succ (by omega), e]
    by_cases c : dem.getD i 0 > 0
    · rw [if_pos c, if_pos c]
      by_cases c2 : b < 0
      · rw [if_pos c2, if_pos c2]; exact sworst_l0 hl h16 d K (i + 1) _ (by omega) (by omega) (by omega)
      · rw [if_neg c2, if_neg c2, if_pos (by omega), if_pos (by omega)]
        by_cases c3 : lst.getD i 0 < lst.getD b.toNat 0
        · rw [if_pos c3, if_pos c3]; exact sworst_l0 hl h16 d K (i + 1) _ (by omega) (by omega) (by omega)
        · rw [if_neg c3, if_neg c3]; exact sworst_l0 hl h16 d K (i + 1) _ (by omega) (by omega) (by omega)
    · rw [if_neg c, if_neg c]; exact sworst_l0 hl h16 d K (i + 1) _ (by omega) (by omega) (by omega)
theorem iworst_l0 {dem lst : List Int} (hl : dem.length = lst.length) (h16 : lst.length ≤ 16) : ∀ (d K i : Nat) (b : Int), i + d = lst.length → b < (i : Int) → d < K → X18.l0 K dem lst b lst (lst.length : Int) (i : Int) = some (worstA lst (worstF dem lst d i b))
  | d, 0, i, b, hd, hb, hK => by omega
  | 0, K + 1, i, b, hd, hb, hK => by
    simp only [X18.l0, worstF]
    rw [if_neg (by omega)]
    unfold worstA
    by_cases c : b < 0
    · rw [if_pos c, if_pos c]
    · rw [if_neg c, if_neg c, if_pos (by omega), if_pos (by omega)]; rfl
  | d + 1, K + 1, i, b, hd, hb, hK => by
    have e : rd lst b = lst.getD b.toNat 0 := rfl
    simp only [X18.l0, worstF]
    rw [if_pos (by omega), if_pos (by omega), if_pos (by omega), if_pos (by omega), rd_nat, rd_nat, w_succ (by omega), e]
    by_cases c : dem.getD i 0 > 0
    · rw [if_pos c, if_pos c]
      by_cases c2 : b < 0
      · rw [if_pos c2, if_pos c2]; exact iworst_l0 hl h16 d K (i + 1) _ (by omega) (by omega) (by omega)
      · rw [if_neg c2, if_neg c2, if_pos (by omega), if_pos (by omega)]
        by_cases c3 : lst.getD i 0 < lst.getD b.toNat 0
        · rw [if_pos c3, if_pos c3]; exact iworst_l0 hl h16 d K (i + 1) _ (by omega) (by omega) (by omega)
        · rw [if_neg c3, if_neg c3]; exact iworst_l0 hl h16 d K (i + 1) _ (by omega) (by omega) (by omega)
    · rw [if_neg c, if_neg c]; exact iworst_l0 hl h16 d K (i + 1) _ (by omega) (by omega) (by omega)
def worstV (ns : List Int) (ps : List SP) (x : Int) (dem : List Int) (hd : Int) : Int × Int × Int :=
  if preN ns ps x hd 0 dem = 0 then (if (servedN ns ps x hd dem).2 = 0 then worstA (servedN ns ps x hd dem).1 (worstF dem (servedN ns ps x hd dem).1 ns.length 0 (-1)) else (0, 0, (servedN ns ps x hd dem).2)) else (0, 0, preN ns ps x hd 0 dem)
theorem FnExactWorstNode : ∀ (l0_0 : List (Int)) (l0_1 : List (S68)) (a1 : Int) (l2 : List (Int)) (a3 : Int), (l0_0.length ≤ 9223372036854775807) → (∀ p ∈ l0_0, (Lit.int .i64 p).wf = true) → (l0_1.length ≤ 9223372036854775807) → (∀ p ∈ l0_1, p.f0.size ≤ 9223372036854775807 ∧ (Lit.int .i64 p.f1).wf = true ∧ (Lit.int .i64 p.f2).wf = true ∧ (Lit.int .i64 p.f3).wf = true ∧ (Lit.int .i64 p.f4).wf = true ∧ (Lit.int .i64 p.f5).wf = true) → ((Lit.int .i64 a1).wf = true) → (l2.length ≤ 9223372036854775807) → (∀ p ∈ l2, (Lit.int .i64 p).wf = true) → ((Lit.int .i64 a3).wf = true) → ∃ k, X3.f k l0_0 l0_1 a1 l2 a3 = some true := by
  intro ns qs x l hd hn hw hq hx hwx hl0 hwl hwd
  have hxs : ∀ p ∈ qs, p.f0.size ≤ 9223372036854775807 := fun p hp => (hx p hp).1
  have hz := sizeP_nonneg qs
  refine ⟨1048800, ?_⟩
  unfold X3.f
  by_cases n0 : (l.length : Int) > 1048576
  · rw [if_pos n0]
  rw [if_neg n0]
  simp only [X3.j0]
  rw [szNet_is ns qs 1048576 hn hq hxs (by omega) (by omega)]
  simp only [Option.bind_some]
  by_cases n1 : roomOf 1048576 ((ns.length : Int) + ((qs.length : Int) + sizeP qs)) < 0
  · rw [if_pos n1]
  rw [if_neg n1]
  have b1 := roomOf_ok n1
  have tn : X45.f ns qs = some (ns, qs.map cvP) := toNet_is (by omega) (by omega)
  have en : X67.f ns (qs.map cvP) ns (qs.map cvP) = some true := eqNet_refl (by omega) (by simp; omega)
  have hc := cv_size (qs := qs) (m := 1048576) (by omega)
  have hs : ns.length ≤ 4611686018427387904 ∧ ∀ p ∈ qs.map cvP, p.f0.size ≤ 9000000000000000000 := ⟨by omega, fun p hp => by have := hc p hp; omega⟩
  generalize qs.map cvP = ps at *
  have sv : ∀ K, 1048600 ≤ K → X21.f K ns ps x l hd = some (worstV ns ps x l hd) := by
    intro K hK
    unfold X21.f worstV
    rw [spre_is (hd := hd) (nd := 0) hs (by omega) hK (by omega) (fun a => some ((0 : Int), (0 : Int), a))]
    by_cases g : preN ns ps x hd 0 l = 0
    · obtain ⟨g1, g2, g3, g4⟩ := pre_zero g
      have h16 := (small_of g1).n16
      rw [if_pos g, if_pos g, sserved_is g (by omega), Option.bind_some]
      by_cases c : (servedN ns ps x hd l).2 = 0
      · have hl := served_length c
        rw [if_pos c, if_pos c]
        have := sworst_l0 (dem := l) (lst := (servedN ns ps x hd l).1) (by omega) (by omega) ns.length K 0 (-1) (by omega) (by omega) (by omega)
        exact this
      · rw [if_neg c, if_neg c]
    · rw [if_neg g, if_neg g]
  have iv : ∀ K, 1048600 ≤ K → X18.f K ns ps x l hd = some (worstV ns ps x l hd) := by
    intro K hK
    unfold X18.f worstV
    rw [idemand_is hs (by omega) (by omega), Option.bind_some]
    by_cases g : preN ns ps x hd 0 l = 0
    · obtain ⟨g1, g2, g3, g4⟩ := pre_zero g
      have h16 := (small_of g1).n16
      rw [if_pos g, if_pos g]
      by_cases c : (servedN ns ps x hd l).2 = 0
      · have hl := served_length c
        rw [if_pos c, if_pos c]
        have := iworst_l0 (dem := l) (lst := (servedN ns ps x hd l).1) (by omega) (by omega) ns.length K 0 (-1) (by omega) (by omega) (by omega)
        exact this
      · rw [if_neg c, if_neg c]
    · rw [if_neg g, if_neg g]
      simp only []
      rw [if_neg g]
  have tl : X35.f l = some l := by unfold X35.f; rw [if_pos (by omega)]
  have el : X41.f l l = some true := by unfold X41.f; rw [if_pos (by omega)]; simp
  generalize worstV ns ps x l hd = R at sv iv
  simp [tn, en, sv, iv, tl, el, X3.j0, X3.j1, X3.j2, X3.j3, X3.j4]

end Go.Proofs.Ytnmdcmfhjhgheaa.Pure
