/- For every network, source, list of flows and pressure the program's PressuresOf answers as the reference's does, leaves its arguments as they are, and hands out memory of its own. No condition. -/
import Derived.Test.YtnmdcmfhjhgheaaPFnExactPressuresOfx18
import Derived.Test.YtnmdcmfhjhgheaaMath
import Derived.Test.YtnmdcmfhjhgheaaMathR
import Derived.Test.YtnmdcmfhjhgheaaMathJ
namespace Go.Proofs.Ytnmdcmfhjhgheaa.Pure
open Go.RowKit Go.Proofs.Ytnmdcmfhjhgheaa.PFnExactPressuresOf Go.Proofs.YtnmdcmfhjhgheaaW.PrintWords Go.Proofs.YtnmdcmfhjhgheaaW.PrintLast Go.Proofs.YtnmdcmfhjhgheaaW.PrintMore Go.Proofs.YtnmdcmfhjhgheaaM
set_option linter.unusedSimpArgs false
set_option linter.unusedVariables false
theorem roomOf_ok {a n : Int} (h : ¬ roomOf a n < 0) : n ≤ a ∧ roomOf a n = a - n := by
  unfold roomOf at *
  split at h
  · omega
  · rename_i c; rw [if_neg c]; exact ⟨by omega, rfl⟩
theorem szNet_is (ns : List Int) (qs : List S68) (a : Int) (hn : ns.length ≤ 9223372036854775807) (hq : qs.length ≤ 9223372036854775807) (hx : ∀ p ∈ qs, p.f0.size ≤ 9223372036854775807) (h0 : 0 ≤ a) (h1 : a ≤ 1048576) :
    laws_szNetwork.f ns qs a = some (roomOf a ((ns.length : Int) + ((qs.length : Int) + sizeP qs))) := by
  unfold laws_szNetwork.f laws_szInt64S.f
  have hz := sizeP_nonneg qs
  rw [w64 (x := a - (ns.length : Int)) (by omega) (by omega)]
  by_cases n1 : a - (ns.length : Int) < 0
  · rw [if_pos n1]; simp only [Option.bind_some]; unfold roomOf; rw [if_pos (by omega), if_pos (by omega)]
  · rw [if_neg n1]
    simp only [Option.bind_some]
    have e : laws_szPipeS_.f qs (a - (ns.length : Int)) = some (roomOf (a - (ns.length : Int)) ((qs.length : Int) + sizeP qs)) := by unfold laws_szPipeS_.f; rw [if_pos ⟨⟨by omega, by omega⟩, hq, hx⟩]
    rw [if_neg n1, e]
    simp only [Option.bind_some]
    unfold roomOf
    rw [show a - ((ns.length : Int) + ((qs.length : Int) + sizeP qs)) = a - (ns.length : Int) - ((qs.length : Int) + sizeP qs) by omega]
    by_cases n2 : a - (ns.length : Int) - ((qs.length : Int) + sizeP qs) < 0
    · rw [if_pos n2, if_pos (by omega)]
    · rw [if_neg n2, if_neg n2]
theorem toNet_is {ns : List Int} {qs : List S68} (hn : ns.length ≤ 1048576) (hq : qs.length ≤ 1048576) : laws_toNetwork.f ns qs = some (ns, qs.map cvP) := by
  unfold laws_toNetwork.f laws_toInt64S_.f laws_toPipeS_.f
  rw [if_pos (by omega), if_pos (by omega)]; rfl
theorem eqNet_refl {ns : List Int} {ps : List S73} (hn : ns.length ≤ 1048576) (hq : ps.length ≤ 1048576) : laws_eqNetwork.f ns ps ns ps = some true := by
  unfold laws_eqNetwork.f laws_eqInt64S_.f laws_eqPipeS_.f
  rw [if_pos (by omega), if_pos (by omega)]; simp [pipesEq_refl]
theorem cv_size {qs : List S68} {m : Nat} (h : sizeP qs ≤ (m : Int)) : ∀ p ∈ qs.map cvP, p.f0.size ≤ m := by
  intro p hp
  obtain ⟨q, hq, rfl⟩ := List.mem_map.mp hp
  have := sizeP_elem h q hq
  show q.f0.size ≤ m
  omega
theorem markNet_is {ns : List Int} {ps : List S73} (hn : ns.length ≤ 1048576) (hq : ps.length ≤ 1048576) : laws_markNetwork.f ns ps 1 = some (1 + (ns.length : Int) + 6 * (ps.length : Int), marks 1 ns.length, marksP (1 + (ns.length : Int)) ps.length) := by
  unfold laws_markNetwork.f laws_markInt64S_.f laws_markPipeS_.f
  rw [if_pos ⟨by omega, by omega⟩]
  simp only [Option.bind_some]
  rw [if_pos ⟨by omega, by omega⟩]; rfl
theorem markI_is {l : List Int} (h : l.length ≤ 1048576) : laws_markInt64S_.f l 1 = some (1 + (l.length : Int), marks 1 l.length) := by
  unfold laws_markInt64S_.f; rw [if_pos ⟨by omega, by omega⟩]
theorem heldI_is {n : Nat} (h : n ≤ 1048576) : laws_heldInt64S_.f (marks 1 n) 1 = some (1 + (n : Int)) := by
  unfold laws_heldInt64S_.f; rw [if_pos ⟨by omega, by rw [marks_length]; omega⟩, held_marks]
theorem eqI_refl {l : List Int} (h : l.length ≤ 1048576) : laws_eqInt64S_.f l l = some true := by
  unfold laws_eqInt64S_.f; rw [if_pos (by omega)]; simp
abbrev SP := S73
def edges (ps : List SP) : List (Int × Int) := ps.map fun p => (p.f1, p.f2)
def shutOf (cl : List Int) (i : Nat) : Bool := decide ((i : Int) ∈ cl)
theorem edges_length (ps : List SP) : (edges ps).length = ps.length := by unfold edges; simp
theorem edges_get {ps : List SP} {i : Nat} (h : i < ps.length) : (edges ps).getD i (0, 0) = ((ps.getD i z73).f1, (ps.getD i z73).f2) := by
  unfold edges
  simp [List.getD_eq_getElem?_getD, List.getElem?_map, List.getElem?_eq_getElem h]
theorem ends_of {ns : List Int} {ps : List SP} (h : netOk ns ps = true) : EndsIn (edges ps) ns.length := fun i hi => by
  rw [edges_length] at hi
  have := (netOk_pipe h i hi).2
  rw [edges_get hi]
  exact ⟨this.1, this.2.1⟩
/-- What the walks through a network lean on. -/
structure Small (ns : List Int) (ps : List SP) : Prop where
  n1 : 1 ≤ ns.length
  n16 : ns.length ≤ 16
  p20 : ps.length ≤ 20
  ends : EndsIn (edges ps) ns.length
theorem small_of {ns : List Int} {ps : List SP} (h : netOk ns ps = true) : Small ns ps := ⟨(netOk_parts h).1.1, (netOk_parts h).1.2, (netOk_parts h).2.1, ends_of h⟩
theorem Small.pipe {ns : List Int} {ps : List SP} (h : Small ns ps) {i : Nat} (hi : i < ps.length) : (0 ≤ (ps.getD i z73).f1 ∧ (ps.getD i z73).f1 < ns.length) ∧ (0 ≤ (ps.getD i z73).f2 ∧ (ps.getD i z73).f2 < ns.length) := by
  have := h.ends i (by rw [edges_length]; exact hi)
  rw [edges_get hi] at this
  exact this
theorem shut_nil : shutOf [] = open_ := by funext i; unfold shutOf; simp
theorem rd_nat (l : List Int) (i : Nat) : rd l (i : Int) = l.getD i 0 := by unfold rd; rw [Int.toNat_natCast]
theorem drop_one (l : List Int) (i : Nat) (h : i < l.length) : l.drop i = l.getD i 0 :: l.drop (i + 1) := by
  rw [List.drop_eq_getElem_cons h, List.getD_eq_getElem?_getD, List.getElem?_eq_getElem h]; rfl
theorem w_succ {i : Nat} (h : i ≤ 4611686018427387904) : wrap64 ((i : Int) + 1) = ((i + 1 : Nat) : Int) := by
  rw [w64 (by omega) (by omega)]; push_cast; rfl
theorem index_is (l : List Int) (a : Int) (hl : l.length ≤ 4611686018427387904) : ∀ (d K i : Nat), i + d = l.length → d < K →
    ∃ r, slices_Index_int64_int64.l0 K l a (l.length : Int) (i : Int) = some r ∧ decide (r ≥ 0) = decide (a ∈ l.drop i)
  | d, 0, i, hd, hk => by omega
  | 0, K + 1, i, hd, hk => by
    simp only [slices_Index_int64_int64.l0]
    rw [if_neg (by omega), List.drop_of_length_le (by omega)]
    exact ⟨-1, rfl, by simp⟩
  | d + 1, K + 1, i, hd, hk => by
    simp only [slices_Index_int64_int64.l0]
    rw [if_pos (by omega), if_pos (by omega), if_pos (by omega), rd_nat, drop_one l i (by omega)]
    by_cases c : a = l.getD i 0
    · rw [if_pos c]
      exact ⟨_, rfl, by rw [← c, decide_eq_true (show (i : Int) ≥ 0 by omega), decide_eq_true (List.mem_cons_self)]⟩
    · rw [if_neg c, w_succ (by omega)]
      obtain ⟨r, h1, h2⟩ := index_is l a hl d K (i + 1) (by omega) (by omega)
      exact ⟨r, h1, by rw [h2]; simp only [List.mem_cons, c, false_or]⟩
theorem contains_is (l : List Int) (a : Int) {K : Nat} (hl : l.length ≤ 100) (hk : 100 < K) : slices_Contains_int64_int64.f K l a = some (decide (a ∈ l)) := by
  obtain ⟨r, h1, h2⟩ := index_is l a (by omega) l.length K 0 (by omega) (by omega)
  unfold slices_Contains_int64_int64.f slices_Index_int64_int64.f
  rw [show (0 : Int) = ((0 : Nat) : Int) from rfl, h1]
  simp only [Option.bind_some]
  rw [show ((0 : Nat) : Int) = (0 : Int) from rfl, h2, List.drop_zero]
theorem other_is (s : ByteArray) (a b c d e x : Int) : impl_Pipe_other.f s a b c d e x = some (match oth (a, b) x with | some y => (y, true) | none => (0, false)) := by
  unfold impl_Pipe_other.f oth
  by_cases c1 : x = a
  · rw [if_pos c1, if_pos c1]
  · rw [if_neg c1, if_neg c1]
    by_cases c2 : x = b
    · rw [if_pos c2, if_pos c2]
    · rw [if_neg c2, if_neg c2]
theorem reached_l1 (ns : List Int) (ps : List SP) (cl : List Int) (src x : Int) (kk : Nat) (hkk : kk ≤ 100) (hm : ps.length ≤ 20) (hcl : cl.length ≤ 60) : ∀ (d K i : Nat) (ws : List WayT), i + d = ps.length → d + 110 ≤ K → ws.length + d ≤ 80 → kk < ws.length + 1 → (foundN src ws).getD kk 0 = x →
    impl_Network_reached.l1 K cl (foundN src ws) (kk : Int) ps (ps.length : Int) (i : Int) ns ps = impl_Network_reached.l0 (K - (d + 1)) cl (foundN src (sweep (edges ps) (shutOf cl) src x d i ws)) ((kk + 1 : Nat) : Int) ns ps
  | d, 0, i, ws, hd, hK, _, _, _ => by omega
  | 0, K + 1, i, ws, hd, hK, hw, hk, hx => by
    simp only [impl_Network_reached.l1, sweep]
    rw [if_neg (by omega), w_succ (by omega)]
    rfl
  | d + 1, K + 1, i, ws, hd, hK, hw, hk, hx => by
    simp only [impl_Network_reached.l1, sweep]
    have hlen : ((foundN src ws).length : Int) = (ws.length : Int) + 1 := by simp
    rw [if_pos (by omega), if_pos (by omega), if_pos (by omega), if_pos (by omega), if_pos (by rw [hlen]; omega), rd_nat, hx, rdP_impl, other_is, edges_get (by omega), show K + 1 - (d + 1 + 1) = K - (d + 1) by omega]
    have ih := reached_l1 ns ps cl src x kk hkk hm hcl d K (i + 1)
    rw [Option.bind_some]
    cases ho : oth ((ps.getD i z73).f1, (ps.getD i z73).f2) x with
    | none =>
      simp only [Bool.false_eq_true, if_false]
      rw [w_succ (by omega)]
      exact ih ws (by omega) (by omega) (by omega) hk hx
    | some y =>
      simp only [if_true]
      rw [contains_is cl (i : Int) (by omega) (by omega), Option.bind_some]
      by_cases c1 : (i : Int) ∈ cl
      · rw [if_pos (by simpa using c1), w_succ (by omega), if_neg (fun h => by have := h.1; unfold shutOf at this; simp [c1] at this)]
        exact ih ws (by omega) (by omega) (by omega) hk hx
      · rw [if_neg (by simpa using c1), contains_is (foundN src ws) y (by simp; omega) (by omega), Option.bind_some]
        have hs : shutOf cl i = false := by unfold shutOf; simpa using c1
        by_cases c2 : y ∈ foundN src ws
        · rw [if_pos (by simpa using c2), w_succ (by omega), if_neg (fun h => h.2 c2)]
          exact ih ws (by omega) (by omega) (by omega) hk hx
        · rw [if_neg (by simpa using c2), if_pos (by simp; omega), w_succ (by omega), if_pos ⟨hs, c2⟩, show foundN src ws ++ [y] = foundN src (ws ++ [(y, x, i)]) by simp]
          exact ih (ws ++ [(y, x, i)]) (by omega) (by omega) (by simp; omega) (by simp; omega) (by rw [getD_foundN_append _ _ _ _ hk, hx])
theorem reached_l0 {ns : List Int} {ps : List SP} {cl : List Int} {n : Nat} (hE : EndsIn (edges ps) n) (hn : n ≤ 16) (hm : ps.length ≤ 20) (hcl : cl.length ≤ 60) {src : Int} : ∀ (f K k : Nat) (ws : List WayT), n < f + k → k ≤ ws.length + 1 → FoundW (edges ps) (shutOf cl) n src ws → f * (ps.length + 2) + 200 ≤ K →
    impl_Network_reached.l0 K cl (foundN src ws) (k : Int) ns ps = some ((foundN src (bfs (edges ps) (shutOf cl) src f k ws)).mergeSort fun x y => decide (x ≤ y))
  | 0, K, k, ws, hf, hk, h, hK => by have := found_length h; omega
  | f + 1, 0, k, ws, hf, hk, h, hK => by omega
  | f + 1, K + 1, k, ws, hf, hk, h, hK => by
    have hl := found_length h
    have hlen : ((foundN src ws).length : Int) = (ws.length : Int) + 1 := by simp
    rw [Nat.add_mul, Nat.one_mul] at hK
    simp only [impl_Network_reached.l0, bfs]
    by_cases c : k < ws.length + 1
    · have h1 := reached_l1 ns ps cl src _ k (by omega) hm hcl ps.length K 0 ws (by omega) (by omega) (by omega) c rfl
      rw [show ((0 : Nat) : Int) = (0 : Int) from rfl] at h1
      rw [if_pos (by rw [hlen]; omega), if_pos c, h1]
      obtain ⟨ext, e1, e2, e3⟩ := sweep_spec (shut := shutOf cl) (src := src) hE (edges ps).length 0 ws (by omega) h (getD_mem_foundN c)
      rw [edges_length] at e1 ⊢
      rw [e1]
      exact reached_l0 hE hn hm hcl f (K - (ps.length + 1)) (k + 1) (ws ++ ext) (by omega) (by simp; omega) e2 (by omega)
    · rw [if_neg (by rw [hlen]; omega), if_neg c]
      unfold slices_Sort_int64_int64.f
      rw [if_pos ⟨by simp, by simp; omega⟩, Option.bind_some]
theorem reached_is {ns : List Int} {ps : List SP} {cl : List Int} {src : Int} (h : Small ns ps) (hcl : cl.length ≤ 60) (h0 : 0 ≤ src) (h1 : src < ns.length) {K : Nat} (hK : 600 ≤ K) :
    impl_Network_reached.f K ns ps src cl = some (reachS (edges ps) (shutOf cl) src 17) := by
  unfold impl_Network_reached.f reachS
  rw [show ([src] : List Int) = foundN src [] from rfl, show (0 : Int) = ((0 : Nat) : Int) from rfl]
  have := h.n16; have := h.p20
  exact reached_l0 h.ends h.n16 h.p20 hcl 17 K 0 [] (by omega) (by simp) (found_start h0 h1) (by omega)
theorem relab_cons (v : Int) (l : List Int) (H L : Int) : relab (v :: l) H L = (if v = H then L else v) :: relab l H L := rfl
theorem set_step (l : List Int) (j : Nat) (h : j < l.length) (v : Int) : (l.set j v).take (j + 1) = l.take j ++ [v] ∧ (l.set j v).drop (j + 1) = l.drop (j + 1) := by
  refine ⟨take_set l j h v, ?_⟩
  rw [List.drop_set_of_lt (by omega)]
theorem stree_l2 (ns : List Int) (ps : List SP) (acc : List Int) (i lo hi : Int) : ∀ (d K j : Nat) (cur : List Int), j + d = cur.length → cur.length ≤ 100 → d + 100 ≤ K →
    spec_l04Tree.l2 K acc cur i lo hi (j : Int) ns ps = spec_l04Tree.l1 (K - (d + 1)) acc (cur.take j ++ relab (cur.drop j) hi lo) (wrap64 (i + 1)) ns ps
  | d, 0, j, cur, hd, hl, hK => by omega
  | 0, K + 1, j, cur, hd, hl, hK => by
    simp only [spec_l04Tree.l2]
    rw [if_neg (by omega), List.take_of_length_le (by omega), List.drop_of_length_le (by omega)]
    simp [relab]
  | d + 1, K + 1, j, cur, hd, hl, hK => by
    simp only [spec_l04Tree.l2]
    rw [if_pos (by omega), if_pos (by omega), rd_nat, w_succ (by omega), Int.toNat_natCast, show K + 1 - (d + 1 + 1) = K - (d + 1) by omega, drop_one cur j (by omega)]
    have hs := set_step cur j (by omega) lo
    by_cases c : cur.getD j 0 = hi
    · rw [if_pos c, stree_l2 ns ps acc i lo hi d K (j + 1) _ (by rw [List.length_set]; omega) (by rw [List.length_set]; omega) (by omega), hs.1, hs.2, relab_cons, if_pos c, List.append_assoc, List.singleton_append]
    · rw [if_neg c, stree_l2 ns ps acc i lo hi d K (j + 1) _ (by omega) (by omega) (by omega)]
      have e : cur.take (j + 1) = cur.take j ++ [cur.getD j 0] := by
        rw [List.take_succ_eq_append_getElem (by omega), List.getD_eq_getElem?_getD, List.getElem?_eq_getElem (by omega)]; rfl
      rw [e, relab_cons, if_neg c, List.append_assoc, List.singleton_append]
theorem stree_l1 {ns : List Int} {ps : List SP} (h : Small ns ps) : ∀ (d K i : Nat) (acc out : List Int), i + d = ps.length → acc.length ≤ i → out.length = ns.length → d * (ns.length + 3) + 200 ≤ K →
    spec_l04Tree.l1 K acc out (i : Int) ns ps = some (treeS (edges ps) d i acc out).1
  | d, 0, i, acc, out, hd, ha, ho, hK => by omega
  | 0, K + 1, i, acc, out, hd, ha, ho, hK => by
    simp only [spec_l04Tree.l1, treeS]
    rw [if_neg (by omega)]
  | d + 1, K + 1, i, acc, out, hd, ha, ho, hK => by
    have h16 := h.n16
    have h20 := h.p20
    have hr := h.pipe (i := i) (by omega)
    rw [Nat.add_mul, Nat.one_mul] at hK
    simp only [spec_l04Tree.l1, treeS]
    rw [if_pos (by omega), if_pos (by omega), rdP_impl, if_pos hr.1.1, if_pos (by rw [ho]; exact hr.1.2), if_pos hr.2.1, if_pos (by rw [ho]; exact hr.2.2), edges_get (by omega)]
    by_cases c : lb out (ps.getD i z73).f1 = lb out (ps.getD i z73).f2
    · rw [if_pos c, if_pos (show rd out _ = rd out _ from c), w_succ (by omega)]
      exact stree_l1 h d K (i + 1) acc out (by omega) (by omega) ho (by omega)
    · rw [if_neg c, if_neg (show ¬ rd out _ = rd out _ from c), if_pos (by omega)]
      have := stree_l2 ns ps (acc ++ [(i : Int)]) (i : Int) (rd out (ps.getD i z73).f1) (rd out (ps.getD i z73).f2) ns.length K 0 out (by omega) (by omega) (by omega)
      rw [show ((0 : Nat) : Int) = (0 : Int) from rfl] at this
      rw [this, List.take_zero, List.nil_append, List.drop_zero, w_succ (by omega)]
      exact stree_l1 h d (K - (ns.length + 1)) (i + 1) _ _ (by omega) (by rw [List.length_append, List.length_singleton]; omega) (by rw [relab_length]; exact ho) (by omega)
theorem stree_l0 {ns : List Int} {ps : List SP} (h : Small ns ps) : ∀ (d K j : Nat), j + d = ns.length → d + 700 ≤ K →
    spec_l04Tree.l0 K [] (numsU 0 j) (j : Int) ns ps = some (treeS (edges ps) (edges ps).length 0 [] (numsU 0 ns.length)).1
  | d, 0, j, hd, hK => by omega
  | 0, K + 1, j, hd, hK => by
    have h16 := h.n16
    have h20 := h.p20
    simp only [spec_l04Tree.l0]
    rw [if_neg (by omega), show j = ns.length by omega, show (0 : Int) = ((0 : Nat) : Int) from rfl, stree_l1 h ps.length K 0 _ _ (by omega) (by simp) (numsU_length _ _) (by
      have : ps.length * (ns.length + 3) ≤ 20 * 19 := Nat.mul_le_mul h20 (by omega)
      omega), edges_length]
  | d + 1, K + 1, j, hd, hK => by
    have h16 := h.n16
    have h20 := h.p20
    simp only [spec_l04Tree.l0]
    rw [if_pos (by omega), if_pos (by rw [numsU_length]; omega), w_succ (by omega), show numsU 0 j ++ [(j : Int)] = numsU 0 (j + 1) by rw [numsU_snoc, Int.zero_add]]
    exact stree_l0 h d K (j + 1) (by omega) (by omega)
theorem stree_is {ns : List Int} {ps : List SP} (h : Small ns ps) {K : Nat} (hK : 800 ≤ K) : spec_l04Tree.f K ns ps = some (treeS (edges ps) (edges ps).length 0 [] (numsU 0 ns.length)).1 := by
  have h16 := h.n16
  unfold spec_l04Tree.f
  exact stree_l0 h ns.length K 0 (by omega) (by omega)
theorem beq_cast (a b : Nat) : (((a : Int)) == ((b : Int))) = decide (a = b) := by
  rw [Bool.eq_iff_iff]; simp; omega
/-- When a network is a tree. -/
def treeB (ns : List Int) (ps : List SP) : Bool := decide (ps.length + 1 = ns.length) && decide ((treeS (edges ps) (edges ps).length 0 [] (numsU 0 ns.length)).1.length = ps.length)
theorem stree_B {ns : List Int} {ps : List SP} (h : Small ns ps) {K : Nat} (hK : 800 ≤ K) : spec_l04IsTree.f K ns ps = some (treeB ns ps) := by
  have h1 := h.n1
  have h16 := h.n16
  unfold spec_l04IsTree.f treeB
  rw [w64 (x := (ns.length : Int) - 1) (by omega) (by omega)]
  by_cases c : ps.length + 1 = ns.length
  · rw [if_pos (by omega), stree_is h hK, Option.bind_some, beq_cast, decide_eq_true c, Bool.true_and]
  · rw [if_neg (by omega), decide_eq_false c, Bool.false_and]
theorem itree_B {ns : List Int} {ps : List SP} (h : Small ns ps) {K : Nat} (hK : 800 ≤ K) : impl_Network_isTree.f K ns ps = some (treeB ns ps) := by
  have h1 := h.n1
  have h16 := h.n16
  unfold impl_Network_isTree.f treeB
  rw [w64 (x := (ns.length : Int) - 1) (by omega) (by omega)]
  by_cases c : ps.length + 1 = ns.length
  · rw [if_pos (by omega), reached_is h (by simp) (by omega) (by omega) (by omega), Option.bind_some, beq_cast, decide_eq_true c, Bool.true_and, shut_nil]
    have := tree_all (f := 17) h.ends (by omega) (by omega)
    congr 1
    rw [decide_eq_decide, ← this]
    omega
  · rw [if_neg (by omega), decide_eq_false c, Bool.false_and]
abbrev SW := S82
def cvW (w : WayT) : SW := ⟨w.1, w.2.1, (w.2.2 : Int)⟩
theorem contains_is' (l : List Int) (a : Int) {K : Nat} (hl : l.length ≤ 100) (hk : 100 < K) : slices_Contains_int64_int64.f K l a = some (decide (a ∈ l)) := contains_is l a hl hk
theorem ways_l1 (ns : List Int) (ps : List SP) (src x : Int) (kk : Nat) (hkk : kk ≤ 100) (hm : ps.length ≤ 20) : ∀ (d K i : Nat) (ws : List WayT), i + d = ps.length → d + 110 ≤ K → ws.length + d ≤ 80 → kk < ws.length + 1 → (foundN src ws).getD kk 0 = x →
    impl_Network_ways.l1 K (ws.map cvW) (foundN src ws) (kk : Int) ps (ps.length : Int) (i : Int) ns ps = impl_Network_ways.l0 (K - (d + 1)) ((sweep (edges ps) open_ src x d i ws).map cvW) (foundN src (sweep (edges ps) open_ src x d i ws)) ((kk + 1 : Nat) : Int) ns ps
  | d, 0, i, ws, hd, hK, _, _, _ => by omega
  | 0, K + 1, i, ws, hd, hK, hw, hk, hx => by
    simp only [impl_Network_ways.l1, sweep]
    rw [if_neg (by omega), w_succ (by omega)]
    rfl
  | d + 1, K + 1, i, ws, hd, hK, hw, hk, hx => by
    simp only [impl_Network_ways.l1, sweep]
    have hlen : ((foundN src ws).length : Int) = (ws.length : Int) + 1 := by simp
    rw [if_pos (by omega), if_pos (by omega), if_pos (by omega), if_pos (by omega), if_pos (by rw [hlen]; omega), rd_nat, hx, rdP_impl, other_is, edges_get (by omega), show K + 1 - (d + 1 + 1) = K - (d + 1) by omega]
    have ih := ways_l1 ns ps src x kk hkk hm d K (i + 1)
    rw [Option.bind_some]
    cases ho : oth ((ps.getD i z73).f1, (ps.getD i z73).f2) x with
    | none =>
      simp only [Bool.false_eq_true, if_false]
      rw [w_succ (by omega)]
      exact ih ws (by omega) (by omega) (by omega) hk hx
    | some y =>
      simp only [if_true]
      rw [contains_is (foundN src ws) y (by simp; omega) (by omega), Option.bind_some]
      by_cases c2 : y ∈ foundN src ws
      · rw [if_pos (by simpa using c2), w_succ (by omega), if_neg (fun h => h.2 c2)]
        exact ih ws (by omega) (by omega) (by omega) hk hx
      · have hg : rd (foundN src ws ++ [y]) (kk : Int) = x := by
          rw [rd_nat, List.getD_eq_getElem?_getD, List.getElem?_append_left (by simp; omega), ← List.getD_eq_getElem?_getD, hx]
        have e1 : foundN src ws ++ [y] = foundN src (ws ++ [(y, x, i)]) := by simp
        have e2 : ws.map cvW ++ [(⟨y, x, (i : Int)⟩ : SW)] = (ws ++ [(y, x, i)]).map cvW := by simp [cvW]
        rw [if_neg (by simpa using c2), if_pos (by simp; omega), Option.bind_some, if_pos (by simp; omega), if_pos (by rw [List.length_map]; omega), hg, w_succ (by omega), if_pos ⟨trivial, c2⟩, e1, e2]
        exact ih (ws ++ [(y, x, i)]) (by omega) (by omega) (by simp; omega) (by simp; omega) (by rw [getD_foundN_append _ _ _ _ hk, hx])
theorem ways_l0 {ns : List Int} {ps : List SP} {n : Nat} (hE : EndsIn (edges ps) n) (hn : n ≤ 16) (hm : ps.length ≤ 20) {src : Int} : ∀ (f K k : Nat) (ws : List WayT), n < f + k → k ≤ ws.length + 1 → FoundW (edges ps) open_ n src ws → f * (ps.length + 2) + 200 ≤ K →
    impl_Network_ways.l0 K (ws.map cvW) (foundN src ws) (k : Int) ns ps = some ((bfs (edges ps) open_ src f k ws).map cvW)
  | 0, K, k, ws, hf, hk, h, hK => by have := found_length h; omega
  | f + 1, 0, k, ws, hf, hk, h, hK => by omega
  | f + 1, K + 1, k, ws, hf, hk, h, hK => by
    have hl := found_length h
    have hlen : ((foundN src ws).length : Int) = (ws.length : Int) + 1 := by simp
    rw [Nat.add_mul, Nat.one_mul] at hK
    simp only [impl_Network_ways.l0, bfs]
    by_cases c : k < ws.length + 1
    · have h1 := ways_l1 ns ps src _ k (by omega) hm ps.length K 0 ws (by omega) (by omega) (by omega) c rfl
      rw [show ((0 : Nat) : Int) = (0 : Int) from rfl] at h1
      rw [if_pos (by rw [hlen]; omega), if_pos c, h1]
      obtain ⟨ext, e1, e2, e3⟩ := sweep_spec (shut := open_) (src := src) hE (edges ps).length 0 ws (by omega) h (getD_mem_foundN c)
      rw [edges_length] at e1 ⊢
      rw [e1]
      exact ways_l0 hE hn hm f (K - (ps.length + 1)) (k + 1) (ws ++ ext) (by omega) (by simp; omega) e2 (by omega)
    · rw [if_neg (by rw [hlen]; omega), if_neg c]
/-- The ways from a source. -/
abbrev waysB (ps : List SP) (src : Int) : List WayT := bfs (edges ps) open_ src 17 0 []
theorem ways_is {ns : List Int} {ps : List SP} {src : Int} (h : Small ns ps) (h0 : 0 ≤ src) (h1 : src < ns.length) {K : Nat} (hK : 600 ≤ K) : impl_Network_ways.f K ns ps src = some ((waysB ps src).map cvW) := by
  unfold impl_Network_ways.f
  rw [show ([src] : List Int) = foundN src [] from rfl, show (0 : Int) = ((0 : Nat) : Int) from rfl, show ([] : List SW) = ([] : List WayT).map cvW from rfl]
  have := h.n16; have := h.p20
  exact ways_l0 h.ends h.n16 h.p20 17 K 0 [] (by omega) (by simp) (found_start h0 h1) (by omega)
theorem rdB (l : List Bool) (x : Int) : rdOf false l x = l.getD x.toNat false := rfl
theorem sweep_one (es : List (Int × Int)) (src x : Int) (d i : Nat) (ws : List WayT) : sweep es open_ src x (d + 1) i ws = sweep es open_ src x d (i + 1) (sweep es open_ src x 1 i ws) := by
  simp only [sweep]
  split
  · split <;> rfl
  · rfl
/-- One more edge at a number: what was found holds on. -/
theorem sweep1_found {es : List (Int × Int)} {n : Nat} {src x : Int} {kk i : Nat} {ws : List WayT} (hE : EndsIn es n) (h : FoundW es open_ n src ws) (hi : i < es.length) (hk : kk < ws.length + 1) (hx : (foundN src ws).getD kk 0 = x) :
    FoundW es open_ n src (sweep es open_ src x 1 i ws) ∧ kk < (sweep es open_ src x 1 i ws).length + 1 ∧ (foundN src (sweep es open_ src x 1 i ws)).getD kk 0 = x := by
  have hm : x ∈ foundN src ws := by rw [← hx]; exact getD_mem_foundN hk
  simp only [sweep]
  split
  · rename_i y ho
    by_cases c : True ∧ y ∉ foundN src ws
    · rw [if_pos c]
      exact ⟨found_add hE h hm hi rfl ho c.2, by rw [List.length_append]; omega, by rw [getD_foundN_append _ _ _ _ hk, hx]⟩
    · rw [if_neg c]; exact ⟨h, hk, hx⟩
  · exact ⟨h, hk, hx⟩
/-- The reference's step where the pipe does not begin at the node, or its end is known. -/
theorem order_j2 {ns : List Int} {ps : List SP} (h : Small ns ps) {src x : Int} {kk : Nat} {i : Nat} (hi : i < ps.length) (hne : (ps.getD i z73).f1 ≠ (ps.getD i z73).f2) (s0 : 0 ≤ src) (s1 : src < ns.length) {ws : List WayT} (hF : FoundW (edges ps) open_ ns.length src ws)
    (hk : kk < ws.length + 1) (hx : (foundN src ws).getD kk 0 = x) (hp : (ps.getD i z73).f1 = x → (ps.getD i z73).f2 ∈ foundN src ws) (K : Nat) :
    spec_l07Order.j2 (K + 1) (foundN src ws) (byOf (edges ps) ns.length ws) (seenOf ns.length src ws) (kk : Int) (i : Int) ps false ns ps = spec_l07Order.l1 K (foundN src (sweep (edges ps) open_ src x 1 i ws)) (byOf (edges ps) ns.length (sweep (edges ps) open_ src x 1 i ws)) (seenOf ns.length src (sweep (edges ps) open_ src x 1 i ws)) (kk : Int) ((i + 1 : Nat) : Int) ns ps := by
  have h16 := h.n16
  have h20 := h.p20
  have hr := h.pipe hi
  have hl := found_length hF
  have hsl := seenOf_length ns.length src ws
  have hbl := byOf_length (edges ps) ns.length ws
  have hlen : ((foundN src ws).length : Int) = (ws.length : Int) + 1 := by simp
  have hg := edges_get hi
  simp only [spec_l07Order.j2, sweep]
  rw [hg, if_neg (by simp), if_pos (by omega), if_pos (by omega), if_pos (by omega), if_pos (by rw [hlen]; omega), rd_nat, hx, rdP_impl, rdB, w_succ (by omega)]
  obtain ⟨p, hpe⟩ : ∃ p, ps.getD i z73 = p := ⟨_, rfl⟩
  rw [hpe] at hr hne hp hg ⊢
  by_cases c1 : p.f2 = x
  · have c2 : p.f1 ≠ x := fun e => hne (by rw [e, c1])
    have ho : oth (p.f1, p.f2) x = some p.f1 := by unfold oth; rw [if_neg (fun e => c2 e.symm), if_pos c1.symm]
    rw [ho, if_pos c1, if_pos hr.1.1, if_pos (by rw [hsl]; exact hr.1.2), seenOf_get s0 s1 hr.1.1 hr.1.2 ws hF.range]
    dsimp only
    by_cases c3 : p.f1 ∈ foundN src ws
    · rw [if_pos (by simpa using c3), if_neg (fun g => g.2 c3)]
    · rw [if_neg (by simpa using c3), if_pos (by rw [hbl]; exact hr.1.2), if_pos (by simp; omega), if_pos ⟨trivial, c3⟩]
      have e : wayNo (edges ps) (p.f1, x, i) = wrap64 (wrap64 (-(i : Int)) - 1) := by
        unfold wayNo
        dsimp only
        rw [hg, if_neg hne, w64 (x := -(i : Int)) (by omega) (by omega), w64 (by omega) (by omega)]
      rw [byOf_snoc, seenOf_snoc, foundN_snoc, e]
  · rw [if_neg c1]
    by_cases c2 : p.f1 = x
    · have ho : oth (p.f1, p.f2) x = some p.f2 := by unfold oth; rw [if_pos c2.symm]
      rw [ho]
      dsimp only
      rw [if_neg (fun g => g.2 (hp c2))]
    · have ho : oth (p.f1, p.f2) x = none := by unfold oth; rw [if_neg (fun e => c2 e.symm), if_neg (fun e => c1 e.symm)]
      rw [ho]
/-- The reference's step where the pipe begins at the node and its end is new. -/
theorem order_j2t {ns : List Int} {ps : List SP} (h : Small ns ps) {src x : Int} {kk : Nat} {i : Nat} (hi : i < ps.length) (hne : (ps.getD i z73).f1 ≠ (ps.getD i z73).f2) {ws : List WayT} (hF : FoundW (edges ps) open_ ns.length src ws)
    (hk : kk < ws.length + 1) (hx : (foundN src ws).getD kk 0 = x) (c1 : (ps.getD i z73).f1 = x) (c3 : (ps.getD i z73).f2 ∉ foundN src ws) (K : Nat) :
    spec_l07Order.j2 (K + 1) (foundN src ws) (byOf (edges ps) ns.length ws) (seenOf ns.length src ws) (kk : Int) (i : Int) ps true ns ps = spec_l07Order.l1 K (foundN src (sweep (edges ps) open_ src x 1 i ws)) (byOf (edges ps) ns.length (sweep (edges ps) open_ src x 1 i ws)) (seenOf ns.length src (sweep (edges ps) open_ src x 1 i ws)) (kk : Int) ((i + 1 : Nat) : Int) ns ps := by
  have h16 := h.n16
  have h20 := h.p20
  have hr := h.pipe hi
  have hl := found_length hF
  have hsl := seenOf_length ns.length src ws
  have hbl := byOf_length (edges ps) ns.length ws
  have hlen : ((foundN src ws).length : Int) = (ws.length : Int) + 1 := by simp
  have hg := edges_get hi
  simp only [spec_l07Order.j2, sweep]
  rw [hg, if_pos trivial, rdP_impl, w_succ (by omega)]
  obtain ⟨p, hpe⟩ : ∃ p, ps.getD i z73 = p := ⟨_, rfl⟩
  rw [hpe] at hr hne hg c1 c3 ⊢
  have ho : oth (p.f1, p.f2) x = some p.f2 := by unfold oth; rw [if_pos c1.symm]
  have e : wayNo (edges ps) (p.f2, x, i) = ((i + 1 : Nat) : Int) := by
    unfold wayNo
    dsimp only
    rw [hg, if_pos rfl]
    push_cast
    rfl
  have hy : rd (foundN src ws ++ [p.f2]) (kk : Int) = x := by
    rw [rd_nat, List.getD_eq_getElem?_getD, List.getElem?_append_left (by simp; omega), ← List.getD_eq_getElem?_getD, hx]
  rw [ho]
  dsimp only
  rw [if_pos (show True ∧ p.f2 ∉ foundN src ws from ⟨trivial, c3⟩), if_pos (by omega), if_pos (by omega), if_pos hr.2.1, if_pos (by rw [hsl]; exact hr.2.2), Option.bind_some, if_pos (by rw [hbl]; exact hr.2.2), Option.bind_some, if_pos (by simp; omega), Option.bind_some, if_pos (by omega), if_pos (by rw [List.length_append, List.length_singleton]; push_cast; omega), hy, if_neg (fun g => hne (by rw [c1, g])), byOf_snoc, seenOf_snoc, foundN_snoc, e]
theorem order_l1 {ns : List Int} {ps : List SP} (h : Small ns ps) (hne : ∀ i : Nat, i < ps.length → (ps.getD i z73).f1 ≠ (ps.getD i z73).f2) {src x : Int} {kk : Nat} (s0 : 0 ≤ src) (s1 : src < ns.length) : ∀ (d K i : Nat) (ws : List WayT), i + d = ps.length → 2 * d + 110 ≤ K → kk < ws.length + 1 → (foundN src ws).getD kk 0 = x → FoundW (edges ps) open_ ns.length src ws →
    spec_l07Order.l1 K (foundN src ws) (byOf (edges ps) ns.length ws) (seenOf ns.length src ws) (kk : Int) (i : Int) ns ps = spec_l07Order.l0 (K - (2 * d + 1)) (foundN src (sweep (edges ps) open_ src x d i ws)) (byOf (edges ps) ns.length (sweep (edges ps) open_ src x d i ws)) (seenOf ns.length src (sweep (edges ps) open_ src x d i ws)) ((kk + 1 : Nat) : Int) ns ps
  | d, 0, i, ws, hd, hK, _, _, _ => by omega
  | d, 1, i, ws, hd, hK, _, _, _ => by omega
  | 0, K + 2, i, ws, hd, hK, hk, hx, hF => by
    have := h.n16
    have hl := found_length hF
    simp only [spec_l07Order.l1, sweep]
    rw [if_neg (by omega), w_succ (by omega)]
    rfl
  | d + 1, K + 2, i, ws, hd, hK, hk, hx, hF => by
    have h16 := h.n16
    have h20 := h.p20
    have hi : i < ps.length := by omega
    have hr := h.pipe hi
    have hl := found_length hF
    have hsl := seenOf_length ns.length src ws
    have hlen : ((foundN src ws).length : Int) = (ws.length : Int) + 1 := by simp
    obtain ⟨f1, f2, f3⟩ := sweep1_found h.ends hF (show i < (edges ps).length by rw [edges_length]; exact hi) hk hx
    have ih := order_l1 h hne s0 s1 d K (i + 1) (sweep (edges ps) open_ src x 1 i ws) (by omega) (by omega) f2 f3 f1
    rw [sweep_one, show K + 2 - (2 * (d + 1) + 1) = K - (2 * d + 1) by omega, ← ih]
    simp only [spec_l07Order.l1]
    rw [if_pos (by omega), if_pos (by omega), if_pos (by omega), if_pos (by rw [hlen]; omega), rd_nat, hx, rdP_impl]
    by_cases c1 : (ps.getD i z73).f1 = x
    · rw [if_pos c1, if_pos hr.2.1, if_pos (by rw [hsl]; exact hr.2.2), rdB, seenOf_get s0 s1 hr.2.1 hr.2.2 ws hF.range]
      by_cases c3 : (ps.getD i z73).f2 ∈ foundN src ws
      · rw [decide_eq_true c3, Bool.not_true]
        exact order_j2 h hi (hne i hi) s0 s1 hF hk hx (fun _ => c3) K
      · rw [decide_eq_false c3, Bool.not_false]
        exact order_j2t h hi (hne i hi) hF hk hx c1 c3 K
    · rw [if_neg c1]
      exact order_j2 h hi (hne i hi) s0 s1 hF hk hx (fun e => absurd e c1) K
theorem order_l0 {ns : List Int} {ps : List SP} (h : Small ns ps) (hne : ∀ i : Nat, i < ps.length → (ps.getD i z73).f1 ≠ (ps.getD i z73).f2) {src : Int} (s0 : 0 ≤ src) (s1 : src < ns.length) : ∀ (f K k : Nat) (ws : List WayT), ns.length < f + k → k ≤ ws.length + 1 → FoundW (edges ps) open_ ns.length src ws → f * (2 * ps.length + 2) + 200 ≤ K →
    spec_l07Order.l0 K (foundN src ws) (byOf (edges ps) ns.length ws) (seenOf ns.length src ws) (k : Int) ns ps = some (foundN src (bfs (edges ps) open_ src f k ws), byOf (edges ps) ns.length (bfs (edges ps) open_ src f k ws))
  | 0, K, k, ws, hf, hk, hF, hK => by have := found_length hF; omega
  | f + 1, 0, k, ws, hf, hk, hF, hK => by omega
  | f + 1, K + 1, k, ws, hf, hk, hF, hK => by
    have h16 := h.n16
    have h20 := h.p20
    have hl := found_length hF
    have hlen : ((foundN src ws).length : Int) = (ws.length : Int) + 1 := by simp
    rw [Nat.add_mul, Nat.one_mul] at hK
    simp only [spec_l07Order.l0, bfs]
    by_cases c : k < ws.length + 1
    · have h1 := order_l1 h hne s0 s1 ps.length K 0 ws (by omega) (by omega) c rfl hF
      rw [show ((0 : Nat) : Int) = (0 : Int) from rfl] at h1
      rw [if_pos (by rw [hlen]; omega), if_pos c, h1]
      obtain ⟨ext, e1, e2, e3⟩ := sweep_spec (shut := open_) (src := src) h.ends (edges ps).length 0 ws (by omega) hF (getD_mem_foundN c)
      rw [edges_length] at e1 ⊢
      rw [e1]
      exact order_l0 h hne s0 s1 f (K - (2 * ps.length + 1)) (k + 1) (ws ++ ext) (by omega) (by simp; omega) e2 (by omega)
    · rw [if_neg (by rw [hlen]; omega), if_neg c]
theorem order_is {ns : List Int} {ps : List SP} (h : Small ns ps) (hne : ∀ i : Nat, i < ps.length → (ps.getD i z73).f1 ≠ (ps.getD i z73).f2) {src : Int} (s0 : 0 ≤ src) (s1 : src < ns.length) {K : Nat} (hK : 1000 ≤ K) : spec_l07Order.f K ns ps src = some (foundN src (waysB ps src), byOf (edges ps) ns.length (waysB ps src)) := by
  have h16 := h.n16
  have h20 := h.p20
  unfold spec_l07Order.f
  rw [if_pos (by omega), Int.toNat_natCast, if_pos (by omega), if_pos (by omega), Option.bind_some, if_pos s0, if_pos (by rw [List.length_replicate]; exact s1)]
  have := order_l0 h hne s0 s1 17 K 0 [] (by omega) (by simp) (found_start s0 s1) (by omega)
  exact this
/-- The flow along a way. -/
def alongW (ps : List SP) (fs : List Int) (w : WayT) : Int := if w.1 = ((edges ps).getD w.2.2 (0, 0)).2 then fs.getD w.2.2 0 else -(fs.getD w.2.2 0)
/-- The drop of the flow along a way. -/
def dropW (ps : List SP) (fs : List Int) (w : WayT) : Int := dropI (ps.getD w.2.2 z73).f3 (ps.getD w.2.2 z73).f4 (alongW ps fs w)
/-- What the pipes and flows are told to be. -/
structure PipesOk (ps : List SP) (fs : List Int) : Prop where
  ne : ∀ i : Nat, i < ps.length → (ps.getD i z73).f1 ≠ (ps.getD i z73).f2
  len : ∀ i : Nat, i < ps.length → 1 ≤ (ps.getD i z73).f3 ∧ (ps.getD i z73).f3 ≤ 10000
  wid : ∀ i : Nat, i < ps.length → 20 ≤ (ps.getD i z73).f4 ∧ (ps.getD i z73).f4 ≤ 1000
  flow : ∀ i : Nat, i < ps.length → -100000 ≤ fs.getD i 0 ∧ fs.getD i 0 ≤ 100000
  same : fs.length = ps.length
theorem pipes_dims {ns : List Int} {ps : List SP} (h : netOk ns ps = true) (i : Nat) (hi : i < ps.length) : (1 ≤ (ps.getD i z73).f3 ∧ (ps.getD i z73).f3 ≤ 10000) ∧ (20 ≤ (ps.getD i z73).f4 ∧ (ps.getD i z73).f4 ≤ 1000) := by
  have := (netOk_pipe h i hi).1
  unfold pipeOk at this
  simp only [Bool.and_eq_true, decide_eq_true_eq] at this
  exact ⟨this.2.2.2.2.1, this.2.2.2.2.2.1⟩
theorem pipesOk_of {ns : List Int} {ps : List SP} {fs : List Int} (h : netOk ns ps = true) (hf : ∀ i : Nat, i < ps.length → -100000 ≤ fs.getD i 0 ∧ fs.getD i 0 ≤ 100000) (hs : fs.length = ps.length) : PipesOk ps fs :=
  ⟨fun i hi => (netOk_pipe h i hi).2.2.2, fun i hi => (pipes_dims h i hi).1, fun i hi => (pipes_dims h i hi).2, hf, hs⟩
theorem wayNo_cases {ps : List SP} {w : WayT} (hw : w.2.2 < ps.length) : (w.1 = (ps.getD w.2.2 z73).f2 ∧ wayNo (edges ps) w = (w.2.2 : Int) + 1) ∨ (w.1 ≠ (ps.getD w.2.2 z73).f2 ∧ wayNo (edges ps) w = -(w.2.2 : Int) - 1) := by
  unfold wayNo
  rw [edges_get hw]
  by_cases c : w.1 = (ps.getD w.2.2 z73).f2
  · rw [if_pos c]; exact .inl ⟨c, rfl⟩
  · rw [if_neg c]; exact .inr ⟨c, rfl⟩
theorem pipeNo_is (ns : List Int) {ps : List SP} (h20 : ps.length ≤ 20) {w : WayT} (hw : w.2.2 < ps.length) : spec_l07Pipe.f ns ps (wayNo (edges ps) w) = some (w.2.2 : Int) := by
  unfold spec_l07Pipe.f
  have e : absI (wayNo (edges ps) w) - 1 = (w.2.2 : Int) := by
    rcases wayNo_cases hw with ⟨_, e⟩ | ⟨_, e⟩ <;> (rw [e]; unfold absI; split <;> omega)
  have hb : -1048576 ≤ wayNo (edges ps) w ∧ wayNo (edges ps) w ≤ 1048576 := by rcases wayNo_cases hw with ⟨_, e⟩ | ⟨_, e⟩ <;> (rw [e]; omega)
  rw [e, if_pos ⟨hb, by omega, by omega⟩]
theorem before_is (ns : List Int) {ps : List SP} (h20 : ps.length ≤ 20) {w : WayT} (hw : w.2.2 < ps.length) (hne : (ps.getD w.2.2 z73).f1 ≠ (ps.getD w.2.2 z73).f2)
    (he : (w.2.1 = (ps.getD w.2.2 z73).f1 ∧ w.1 = (ps.getD w.2.2 z73).f2) ∨ (w.2.1 = (ps.getD w.2.2 z73).f2 ∧ w.1 = (ps.getD w.2.2 z73).f1)) : spec_l07Before.f ns ps (wayNo (edges ps) w) = some w.2.1 := by
  unfold spec_l07Before.f
  rcases wayNo_cases hw with ⟨c, e⟩ | ⟨c, e⟩
  · rw [e, if_pos (by omega), w64 (by omega) (by omega), show (w.2.2 : Int) + 1 - 1 = (w.2.2 : Int) by omega, if_pos (by omega), if_pos (by omega), rdP_impl]
    rcases he with ⟨g, _⟩ | ⟨_, g⟩
    · rw [g]
    · exact absurd (g.symm.trans c) hne
  · rw [e, if_neg (by omega), w64 (x := -(-(w.2.2 : Int) - 1)) (by omega) (by omega), w64 (by omega) (by omega), show -(-(w.2.2 : Int) - 1) - 1 = (w.2.2 : Int) by omega, if_pos (by omega), if_pos (by omega), rdP_impl]
    rcases he with ⟨_, g⟩ | ⟨g, _⟩
    · exact absurd g c
    · rw [g]
theorem along_is {ps : List SP} {fs : List Int} (h20 : ps.length ≤ 20) (hP : PipesOk ps fs) {w : WayT} (hw : w.2.2 < ps.length) : spec_l07Along.f fs (wayNo (edges ps) w) = some (alongW ps fs w) := by
  have hs := hP.same
  have hf := hP.flow _ hw
  unfold spec_l07Along.f alongW
  rw [edges_get hw]
  rcases wayNo_cases hw with ⟨c, e⟩ | ⟨c, e⟩
  · rw [e, if_pos (by omega), w64 (by omega) (by omega), show (w.2.2 : Int) + 1 - 1 = (w.2.2 : Int) by omega, if_pos (by omega), if_pos (by omega), rd_nat, if_pos c]
  · rw [e, if_neg (by omega), w64 (x := -(-(w.2.2 : Int) - 1)) (by omega) (by omega), w64 (x := -(-(w.2.2 : Int) - 1) - 1) (by omega) (by omega), show -(-(w.2.2 : Int) - 1) - 1 = (w.2.2 : Int) by omega, if_pos (by omega), if_pos (by omega), rd_nat, if_neg c, w64 (by omega) (by omega)]
theorem ialong_is (ns : List Int) {ps : List SP} {fs : List Int} (hP : PipesOk ps fs) {w : WayT} (hw : w.2.2 < ps.length) : impl_way_along.f w.1 w.2.1 (w.2.2 : Int) ns ps fs = some (alongW ps fs w) := by
  have hs := hP.same
  have hf := hP.flow _ hw
  unfold impl_way_along.f alongW
  rw [edges_get hw, if_pos (by omega), if_pos (by omega), rdP_impl, rd_nat]
  by_cases c : w.1 = (ps.getD w.2.2 z73).f2
  · rw [if_pos c.symm, if_pos (by omega), if_pos c]
  · rw [if_neg (fun e => c e.symm), if_pos (by omega), if_neg c, w64 (by omega) (by omega)]
theorem along_range {ps : List SP} {fs : List Int} (hP : PipesOk ps fs) {w : WayT} (hw : w.2.2 < ps.length) : -100000 ≤ alongW ps fs w ∧ alongW ps fs w ≤ 100000 := by
  have hf := hP.flow _ hw
  unfold alongW
  split <;> omega
/-- Too great a drop. -/
def bigW (ps : List SP) (fs : List Int) (w : WayT) : Bool := decide (absI (dropW ps fs w) > 100000000)
theorem sdrop_is (ns : List Int) {ps : List SP} {fs : List Int} (hP : PipesOk ps fs) {w : WayT} (hw : w.2.2 < ps.length) : spec_l03Drop.f ns ps (w.2.2 : Int) (alongW ps fs w) = some (if bigW ps fs w = true then 0 else dropW ps fs w, if bigW ps fs w = true then 6 else 0) := by
  unfold spec_l03Drop.f bigW dropW
  rw [rdP_impl, if_pos ⟨⟨by omega, by omega⟩, hP.len _ hw, hP.wid _ hw, along_range hP hw⟩]
  simp only [decide_eq_true_eq]
theorem idrop_is {ps : List SP} {fs : List Int} (hP : PipesOk ps fs) {w : WayT} (hw : w.2.2 < ps.length) (s : ByteArray) (a b c : Int) : impl_Pipe_drop.f s a b (ps.getD w.2.2 z73).f3 (ps.getD w.2.2 z73).f4 c (alongW ps fs w) = some (dropW ps fs w) := by
  unfold impl_Pipe_drop.f dropW
  rw [if_pos ⟨hP.len _ hw, hP.wid _ hw, along_range hP hw⟩]
/-- No drop is too great. -/
def dropsB (ps : List SP) (fs : List Int) : Nat → Nat → Bool
  | 0, _ => true
  | d + 1, i => !decide (absI (dropI (ps.getD i z73).f3 (ps.getD i z73).f4 (fs.getD i 0)) > 100000000) && dropsB ps fs d (i + 1)
theorem dropsB_iff (ps : List SP) (fs : List Int) : ∀ (d i : Nat), dropsB ps fs d i = true ↔ ∀ j : Nat, i ≤ j → j < i + d → ¬ absI (dropI (ps.getD j z73).f3 (ps.getD j z73).f4 (fs.getD j 0)) > 100000000
  | 0, i => ⟨fun _ j h1 h2 => by omega, fun _ => rfl⟩
  | d + 1, i => by
    simp only [dropsB, Bool.and_eq_true, dropsB_iff ps fs d (i + 1)]
    constructor
    · rintro ⟨a, b⟩ j h1 h2
      by_cases c : j = i
      · rw [c]; simpa using a
      · exact b j (by omega) (by omega)
    · intro h
      exact ⟨by simpa using h i (by omega) (by omega), fun j h1 h2 => h j (by omega) (by omega)⟩
theorem drops_l0 {ps : List SP} {fs : List Int} (h20 : ps.length ≤ 20) (hP : PipesOk ps fs) : ∀ (d K i : Nat), i + d = ps.length → d < K → impl_Network_dropsOk.l0 K fs ps (ps.length : Int) (i : Int) = some (dropsB ps fs d i)
  | d, 0, i, hd, hK => by omega
  | 0, K + 1, i, hd, hK => by
    simp only [impl_Network_dropsOk.l0, dropsB]
    rw [if_neg (by omega)]
  | d + 1, K + 1, i, hd, hK => by
    have hi : i < ps.length := by omega
    have hs := hP.same
    have hb := drop_bound (d := (ps.getD i z73).f4) (hP.len i hi).1 (hP.len i hi).2 (hP.flow i hi).1 (hP.flow i hi).2
    simp only [impl_Network_dropsOk.l0, dropsB]
    rw [if_pos (by omega), if_pos (by omega), if_pos (by omega), if_pos (by omega), rdP_impl, rd_nat]
    unfold impl_Pipe_drop.f impl_abs.f
    rw [if_pos ⟨hP.len i hi, hP.wid i hi, hP.flow i hi⟩, Option.bind_some, if_pos (by omega), Option.bind_some]
    by_cases c : absI (dropI (ps.getD i z73).f3 (ps.getD i z73).f4 (fs.getD i 0)) > 100000000
    · rw [if_pos c, decide_eq_true c]; rfl
    · rw [if_neg c, decide_eq_false c, w_succ (by omega), Bool.not_false, Bool.true_and]
      exact drops_l0 h20 hP d K (i + 1) (by omega) (by omega)
theorem drops_is (ns : List Int) {ps : List SP} {fs : List Int} (h20 : ps.length ≤ 20) (hP : PipesOk ps fs) {K : Nat} (hK : 21 ≤ K) : impl_Network_dropsOk.f K ns ps fs = some (dropsB ps fs ps.length 0) := by
  unfold impl_Network_dropsOk.f
  exact drops_l0 h20 hP ps.length K 0 (by omega) (by omega)
theorem big_sign {ps : List SP} {fs : List Int} (hP : PipesOk ps fs) {w : WayT} (hw : w.2.2 < ps.length) : absI (dropW ps fs w) = absI (dropI (ps.getD w.2.2 z73).f3 (ps.getD w.2.2 z73).f4 (fs.getD w.2.2 0)) := by
  unfold dropW alongW
  split
  · rfl
  · rw [drop_neg (hP.wid _ hw).1 (hP.wid _ hw).2]
    unfold absI
    split <;> split <;> omega
/-- A tree's ways are all its pipes. -/
theorem tree_ways {ns : List Int} {ps : List SP} (h : Small ns ps) (ht : treeB ns ps = true) {src : Int} (s0 : 0 ≤ src) (s1 : src < ns.length) : (waysB ps src).length = ps.length ∧ FoundW (edges ps) open_ ns.length src (waysB ps src) := by
  have h1 := h.n1
  have h16 := h.n16
  unfold treeB at ht
  simp only [Bool.and_eq_true, decide_eq_true_eq] at ht
  have ha := (tree_all (f := 17) h.ends (by omega) (by omega)).1 (by omega)
  have hb := bfs_full h.ends s0 s1 (show ns.length < 17 by omega) ha
  refine ⟨?_, (bfs_all (shut := open_) h.ends s0 s1 (by omega)).1⟩
  show (bfs (edges ps) open_ src 17 0 []).length = _
  omega
theorem big_any {ns : List Int} {ps : List SP} {fs : List Int} (h : Small ns ps) (ht : treeB ns ps = true) (hP : PipesOk ps fs) {src : Int} (s0 : 0 ≤ src) (s1 : src < ns.length) : (waysB ps src).any (bigW ps fs) = !dropsB ps fs ps.length 0 := by
  obtain ⟨hl, hF⟩ := tree_ways h ht s0 s1
  generalize waysB ps src = ws at hl hF
  have hg : ∀ (k : Nat) (hk : k < ws.length), ws.getD k (0, 0, 0) = ws[k] := fun k hk => by rw [List.getD_eq_getElem?_getD, List.getElem?_eq_getElem hk]; rfl
  have key : dropsB ps fs ps.length 0 = true ↔ ¬ ws.any (bigW ps fs) = true := by
    rw [dropsB_iff, List.any_eq_true]
    constructor
    · rintro ha ⟨w, hw, hb⟩
      obtain ⟨j, hj, e⟩ := List.mem_iff_getElem.1 hw
      have hwl := (hF.way j hj).1
      rw [hg j hj, e, edges_length] at hwl
      unfold bigW at hb
      rw [decide_eq_true_eq, big_sign hP hwl] at hb
      exact ha _ (by omega) (by omega) hb
    · intro ha j _ hj
      obtain ⟨k, hk, e⟩ := ways_all hF (by rw [hl, edges_length]) (show j < (edges ps).length by rw [edges_length]; omega)
      intro hb
      refine ha ⟨ws.getD k (0, 0, 0), by rw [hg k hk]; exact List.getElem_mem _, ?_⟩
      unfold bigW
      rw [decide_eq_true_eq, big_sign hP (by rw [e]; omega), e]
      exact hb
  cases hd : dropsB ps fs ps.length 0
  · rw [hd] at key
    simpa using key
  · rw [hd] at key
    simpa using key
theorem drop_way (W : List WayT) (i : Nat) (h : i < W.length) : W.drop i = W.getD i (0, 0, 0) :: W.drop (i + 1) := by
  rw [List.drop_eq_getElem_cons h, List.getD_eq_getElem?_getD, List.getElem?_eq_getElem h]; rfl
theorem rdW (W : List WayT) (i : Nat) (h : i < W.length) : rd_T82 (W.map cvW) (i : Int) = cvW (W.getD i (0, 0, 0)) := by
  unfold rd_T82
  rw [Int.toNat_natCast]
  simp [List.getD_eq_getElem?_getD, List.getElem?_eq_getElem h]
theorem way_pipe {ns : List Int} {ps : List SP} (h : Small ns ps) {src : Int} {W : List WayT} (hF : FoundW (edges ps) open_ ns.length src W) {i : Nat} (hi : i < W.length) :
    (W.getD i (0, 0, 0)).2.2 < ps.length ∧ (0 ≤ (W.getD i (0, 0, 0)).1 ∧ (W.getD i (0, 0, 0)).1 < ns.length) ∧ (0 ≤ (W.getD i (0, 0, 0)).2.1 ∧ (W.getD i (0, 0, 0)).2.1 < ns.length) ∧
    (((W.getD i (0, 0, 0)).2.1 = (ps.getD (W.getD i (0, 0, 0)).2.2 z73).f1 ∧ (W.getD i (0, 0, 0)).1 = (ps.getD (W.getD i (0, 0, 0)).2.2 z73).f2) ∨ ((W.getD i (0, 0, 0)).2.1 = (ps.getD (W.getD i (0, 0, 0)).2.2 z73).f2 ∧ (W.getD i (0, 0, 0)).1 = (ps.getD (W.getD i (0, 0, 0)).2.2 z73).f1)) := by
  obtain ⟨a, b, c, d⟩ := way_ends h.ends hF hi
  rw [edges_length] at a
  rw [edges_get a] at d
  exact ⟨a, b, c, d⟩
/-- The pressure of the water between the ends of a way. -/
def staticW (ns : List Int) (w : WayT) : Int := rdiv (981 * (ns.getD w.1.toNat 0 - ns.getD w.2.1.toNat 0)) 10
/-- One more node's pressure. -/
def stepP (ns : List Int) (ps : List SP) (fs : List Int) (out : List Int) (w : WayT) : List Int := out.set w.1.toNat (wrap64 (wrap64 (out.getD w.2.1.toNat 0 - dropW ps fs w) - staticW ns w))
/-- Elevations within their bounds. -/
def ElevOk (ns : List Int) : Prop := ∀ i : Nat, i < ns.length → -100000 ≤ ns.getD i 0 ∧ ns.getD i 0 ≤ 100000
theorem static_both {ns : List Int} (hE : ElevOk ns) {w : WayT} (b : 0 ≤ w.1 ∧ w.1 < ns.length) (c : 0 ≤ w.2.1 ∧ w.2.1 < ns.length) :
    spec_l07Static.f (rd ns w.2.1) (rd ns w.1) = some (staticW ns w) ∧ impl_divRound.f (wrap64 (981 * wrap64 (rd ns w.1 - rd ns w.2.1))) 10 = some (staticW ns w) := by
  have h1 := hE w.1.toNat (by omega)
  have h2 := hE w.2.1.toNat (by omega)
  unfold spec_l07Static.f spec_l01Div_.f impl_divRound.f staticW rd
  generalize ns.getD w.1.toNat 0 = u at *
  generalize ns.getD w.2.1.toNat 0 = v at *
  rw [w64 (x := u - v) (by omega) (by omega), w64 (by omega) (by omega), if_pos (by omega)]
  exact ⟨rfl, rfl⟩
theorem spress_l0 {ns : List Int} {ps : List SP} {fs : List Int} (hE : ElevOk ns) (h : Small ns ps) (hP : PipesOk ps fs) {src : Int} {W : List WayT} (hF : FoundW (edges ps) open_ ns.length src W) : ∀ (d K i : Nat) (out : List Int), i + d = W.length → out.length = ns.length → d < K →
    spec_l07Pressures.l0 K fs (foundN src W) (byOf (edges ps) ns.length W) out ((i + 1 : Nat) : Int) ns ps = some (if (W.drop i).any (bigW ps fs) = true then ([], false) else ((W.drop i).foldl (stepP ns ps fs) out, true))
  | d, 0, i, out, hd, ho, hK => by omega
  | 0, K + 1, i, out, hd, ho, hK => by
    have hlen : ((foundN src W).length : Int) = (W.length : Int) + 1 := by simp
    simp only [spec_l07Pressures.l0]
    rw [if_neg (by rw [hlen]; omega), List.drop_of_length_le (by omega)]
    rfl
  | d + 1, K + 1, i, out, hd, ho, hK => by
    have h16 := h.n16
    have h20 := h.p20
    have hi : i < W.length := by omega
    have hl := found_length hF
    have hlen : ((foundN src W).length : Int) = (W.length : Int) + 1 := by simp
    have hbl := byOf_length (edges ps) ns.length W
    obtain ⟨a, b, c, e⟩ := way_pipe h hF hi
    have e1 : rd (foundN src W) ((i + 1 : Nat) : Int) = (W.getD i (0, 0, 0)).1 := by rw [rd_nat, foundN_get _ _ _ hi]
    have e2 : rd (byOf (edges ps) ns.length W) (W.getD i (0, 0, 0)).1 = wayNo (edges ps) (W.getD i (0, 0, 0)) := byOf_get hF hi
    simp only [spec_l07Pressures.l0]
    rw [if_pos (by rw [hlen]; omega), if_pos (by omega), e1, if_pos b.1, if_pos (by rw [hbl]; exact b.2), e2, drop_way W i hi, List.any_cons, List.foldl_cons]
    generalize W.getD i (0, 0, 0) = w at *
    rw [before_is ns h20 a (hP.ne _ a) e, Option.bind_some, pipeNo_is ns h20 a, Option.bind_some, along_is h20 hP a, Option.bind_some, sdrop_is ns hP a, Option.bind_some]
    dsimp only
    by_cases g : bigW ps fs w = true
    · simp only [g, if_true, Bool.true_or]
      rw [if_neg (by omega)]
    · simp only [g, Bool.false_eq_true, if_false, Bool.false_or]
      rw [if_pos trivial, if_pos c.1, if_pos (show w.2.1 < (out.length : Int) by rw [ho]; exact c.2), if_pos c.2, if_pos b.2, (static_both hE b c).1, Option.bind_some, if_pos (show w.1 < (out.length : Int) by rw [ho]; exact b.2), w_succ (by omega)]
      exact spress_l0 hE h hP hF d K (i + 1) (stepP ns ps fs out w) (by omega) (by unfold stepP; rw [List.length_set]; exact ho) (by omega)
theorem ipress_l0 {ns : List Int} {ps : List SP} {fs : List Int} (hE : ElevOk ns) (h : Small ns ps) (hP : PipesOk ps fs) {src : Int} {W : List WayT} (hF : FoundW (edges ps) open_ ns.length src W) : ∀ (d K i : Nat) (out : List Int), i + d = W.length → out.length = ns.length → d < K →
    impl_Network_pressures.l0 K fs out (W.map cvW) (W.length : Int) (i : Int) ns ps = some ((W.drop i).foldl (stepP ns ps fs) out)
  | d, 0, i, out, hd, ho, hK => by omega
  | 0, K + 1, i, out, hd, ho, hK => by
    simp only [impl_Network_pressures.l0]
    rw [if_neg (by omega), List.drop_of_length_le (by omega)]
    rfl
  | d + 1, K + 1, i, out, hd, ho, hK => by
    have h16 := h.n16
    have h20 := h.p20
    have hi : i < W.length := by omega
    have hl := found_length hF
    obtain ⟨a, b, c, e⟩ := way_pipe h hF hi
    simp only [impl_Network_pressures.l0]
    rw [if_pos (by omega), if_pos (by omega), if_pos (by rw [List.length_map]; omega), rdW W i hi, drop_way W i hi, List.foldl_cons]
    generalize W.getD i (0, 0, 0) = w at *
    have hA : impl_way_along.f (cvW w).f0 (cvW w).f1 (cvW w).f2 ns ps fs = some (alongW ps fs w) := ialong_is ns hP a
    have hR : rd_T73 ps (cvW w).f2 = ps.getD w.2.2 z73 := rdP_impl ps w.2.2
    have hT : impl_divRound.f (wrap64 (981 * wrap64 (rd ns (cvW w).f0 - rd ns (cvW w).f1))) 10 = some (staticW ns w) := (static_both hE b c).2
    rw [if_pos (show 0 ≤ (cvW w).f0 from b.1), if_pos (show (cvW w).f0 < (ns.length : Int) from b.2), if_pos (show 0 ≤ (cvW w).f1 from c.1), if_pos (show (cvW w).f1 < (ns.length : Int) from c.2), hT, Option.bind_some, if_pos (show (cvW w).f1 < (out.length : Int) by rw [ho]; exact c.2), if_pos (show 0 ≤ (cvW w).f2 from Int.natCast_nonneg _), if_pos (show (cvW w).f2 < (ps.length : Int) from Int.ofNat_lt.2 a), hA, Option.bind_some, hR, idrop_is hP a, Option.bind_some, if_pos (show (cvW w).f0 < (out.length : Int) by rw [ho]; exact b.2), w_succ (by omega)]
    exact ipress_l0 hE h hP hF d K (i + 1) (stepP ns ps fs out w) (by omega) (by unfold stepP; rw [List.length_set]; exact ho) (by omega)
/-- The pressures of all nodes. -/
def pressOf (ns : List Int) (ps : List SP) (fs : List Int) (src head : Int) : List Int := (waysB ps src).foldl (stepP ns ps fs) ((List.replicate ns.length 0).set src.toNat head)
theorem stepP_length {ns : List Int} {ps : List SP} {fs : List Int} : ∀ (W : List WayT) (out : List Int), (W.foldl (stepP ns ps fs) out).length = out.length
  | [], out => rfl
  | w :: W, out => by rw [List.foldl_cons, stepP_length W]; unfold stepP; rw [List.length_set]
theorem pressOf_length (ns : List Int) (ps : List SP) (fs : List Int) (src head : Int) : (pressOf ns ps fs src head).length = ns.length := by unfold pressOf; rw [stepP_length, List.length_set, List.length_replicate]
theorem spresss_is {ns : List Int} {ps : List SP} {fs : List Int} (hE : ElevOk ns) (h : Small ns ps) (ht : treeB ns ps = true) (hP : PipesOk ps fs) {src head : Int} (s0 : 0 ≤ src) (s1 : src < ns.length) {K : Nat} (hK : 1000 ≤ K) :
    spec_l07Pressures.f K ns ps src fs head = some (if dropsB ps fs ps.length 0 = true then (pressOf ns ps fs src head, true) else ([], false)) := by
  have h16 := h.n16
  have hF := (tree_ways h ht s0 s1).2
  have hl := found_length hF
  unfold spec_l07Pressures.f
  rw [order_is h hP.ne s0 s1 hK, Option.bind_some, if_pos (by omega), Int.toNat_natCast, if_pos (by omega), Option.bind_some, if_pos s0, if_pos (by rw [List.length_replicate]; exact s1)]
  have := spress_l0 hE h hP hF (waysB ps src).length K 0 ((List.replicate ns.length 0).set src.toNat head) (by omega) (by rw [List.length_set, List.length_replicate]) (by omega)
  rw [show ((0 + 1 : Nat) : Int) = (1 : Int) from rfl] at this
  rw [this, List.drop_zero, big_any h ht hP s0 s1]
  cases dropsB ps fs ps.length 0 <;> rfl
theorem ipresss_is {ns : List Int} {ps : List SP} {fs : List Int} (hE : ElevOk ns) (h : Small ns ps) (ht : treeB ns ps = true) (hP : PipesOk ps fs) {src head : Int} (s0 : 0 ≤ src) (s1 : src < ns.length) {K : Nat} (hK : 1000 ≤ K) :
    impl_Network_pressures.f K ns ps src fs head = some (pressOf ns ps fs src head) := by
  have h16 := h.n16
  have hF := (tree_ways h ht s0 s1).2
  have hl := found_length hF
  unfold impl_Network_pressures.f
  rw [if_pos (by omega), Int.toNat_natCast, if_pos (by omega), Option.bind_some, if_pos s0, if_pos (by rw [List.length_replicate]; exact s1), ways_is h s0 s1 (by omega), Option.bind_some, List.length_map]
  have := ipress_l0 hE h hP hF (waysB ps src).length K 0 ((List.replicate ns.length 0).set src.toNat head) (by omega) (by rw [List.length_set, List.length_replicate]) (by omega)
  rw [show ((0 : Nat) : Int) = (0 : Int) from rfl] at this
  rw [this, List.drop_zero]
  rfl
theorem flows_ok {ps : List SP} {fs : List Int} (h : flowsOkI ps fs = true) : (∀ i : Nat, i < ps.length → -100000 ≤ fs.getD i 0 ∧ fs.getD i 0 ≤ 100000) ∧ fs.length = ps.length := by
  unfold flowsOkI at h
  simp only [Bool.and_eq_true, decide_eq_true_eq] at h
  exact ⟨fun i hi => flowsB_at h.1 i (by omega), h.2⟩
/-- The code of a network, a source, flows and a pressure. -/
def givenN (ns : List Int) (ps : List SP) (x hd : Int) (fs : List Int) : Int :=
  if netOk ns ps = true then (if (0 ≤ x ∧ x ≤ (ns.length : Int) - 1) ∧ 0 ≤ hd ∧ hd ≤ 100000000 then (if flowsOkI ps fs = true then (if treeB ns ps = true then 0 else 6) else 7) else 2) else 1
theorem sgiven_is {ns : List Int} {ps : List SP} {x hd : Int} {fs : List Int} (hs : ns.length ≤ 4611686018427387904 ∧ ∀ p ∈ ps, p.f0.size ≤ 9000000000000000000) (hf : fs.length ≤ 1048576) {K : Nat} (hK : 1000 ≤ K) : spec_l07Given.f K ns ps x hd fs = some (givenN ns ps x hd fs) := by
  have hA : spec_l07Ask_.f ns ps x = some (askN ns ps x) := by unfold spec_l07Ask_.f; rw [if_pos hs]
  have hP : spec_l03Press.f hd = some (decide (0 ≤ hd ∧ hd ≤ 100000000)) := rfl
  have hF : spec_l07Flows_.f ns ps fs = some (flowsOkI ps fs) := by unfold spec_l07Flows_.f; rw [if_pos (by omega)]
  unfold spec_l07Given.f givenN
  rw [hA, Option.bind_some, hP, hF]
  unfold askN
  by_cases c1 : netOk ns ps = true
  · have ht := stree_B (small_of c1) (K := K) (by omega)
    rw [if_pos c1, if_pos c1]
    by_cases c2 : 0 ≤ x ∧ x ≤ (ns.length : Int) - 1
    · by_cases c3 : 0 ≤ hd ∧ hd ≤ 100000000
      · rw [if_pos c2, if_pos (show (0 ≤ x ∧ x ≤ (ns.length : Int) - 1) ∧ 0 ≤ hd ∧ hd ≤ 100000000 from ⟨c2, c3⟩), if_pos rfl, decide_eq_true c3, Option.bind_some, ht]
        cases flowsOkI ps fs <;> cases treeB ns ps <;> rfl
      · rw [if_pos c2, if_neg (show ¬ ((0 ≤ x ∧ x ≤ (ns.length : Int) - 1) ∧ 0 ≤ hd ∧ hd ≤ 100000000) from fun g => c3 g.2), if_pos rfl, decide_eq_false c3]
        rfl
    · rw [if_neg c2, if_neg (show ¬ ((0 ≤ x ∧ x ≤ (ns.length : Int) - 1) ∧ 0 ≤ hd ∧ hd ≤ 100000000) from fun g => c2 g.1), if_neg (show ¬ (2 : Int) = 0 by omega)]
  · rw [if_neg c1, if_neg c1, if_neg (show ¬ (1 : Int) = 0 by omega)]
theorem igiven_is {ns : List Int} {ps : List SP} {x hd : Int} {fs : List Int} (hs : ns.length ≤ 4611686018427387904 ∧ ∀ p ∈ ps, p.f0.size ≤ 9000000000000000000) (hf : fs.length ≤ 1048576) {K : Nat} (hK : 1000 ≤ K) : impl_flowsCode.f K ns ps x fs hd = some (givenN ns ps x hd fs) := by
  obtain ⟨K, rfl⟩ : ∃ m, K = m + 3 := ⟨K - 3, by omega⟩
  have hV : impl_ValidNetwork_.f ns ps = some (netOk ns ps) := by unfold impl_ValidNetwork_.f; rw [if_pos hs]
  have hN : impl_Network_hasNode_.f ns ps x = some (decide (0 ≤ x ∧ x ≤ (ns.length : Int) - 1)) := by unfold impl_Network_hasNode_.f; rw [if_pos hs.1]
  have hP : impl_pressureOk.f hd = some (decide (0 ≤ hd ∧ hd ≤ 100000000)) := rfl
  have hF : impl_Network_flowsOk_.f ns ps fs = some (flowsOkI ps fs) := by unfold impl_Network_flowsOk_.f; rw [if_pos (by omega)]
  unfold impl_flowsCode.f givenN impl_treeCode.f
  rw [hV, Option.bind_some, hN, Option.bind_some, hP, Option.bind_some]
  by_cases c1 : netOk ns ps = true
  · have ht := itree_B (small_of c1) (K := K) (by omega)
    rw [if_pos c1, if_pos c1]
    by_cases c2 : 0 ≤ x ∧ x ≤ (ns.length : Int) - 1
    · by_cases c3 : 0 ≤ hd ∧ hd ≤ 100000000
      · rw [if_pos (show (0 ≤ x ∧ x ≤ (ns.length : Int) - 1) ∧ 0 ≤ hd ∧ hd ≤ 100000000 from ⟨c2, c3⟩), decide_eq_true c2, decide_eq_true c3]
        cases c4 : flowsOkI ps fs <;> cases c5 : treeB ns ps <;> simp [impl_treeCode.j0, impl_treeCode.j1, impl_treeCode.j2, hF, ht, c4, c5]
      · rw [if_neg (show ¬ ((0 ≤ x ∧ x ≤ (ns.length : Int) - 1) ∧ 0 ≤ hd ∧ hd ≤ 100000000) from fun g => c3 g.2), decide_eq_true c2, decide_eq_false c3]
        simp [impl_treeCode.j0]
    · rw [if_neg (show ¬ ((0 ≤ x ∧ x ≤ (ns.length : Int) - 1) ∧ 0 ≤ hd ∧ hd ≤ 100000000) from fun g => c2 g.1), decide_eq_false c2]
      simp [impl_treeCode.j0]
  · rw [if_neg c1, if_neg c1]; rfl
theorem given_zero {ns : List Int} {ps : List SP} {x hd : Int} {fs : List Int} (h : givenN ns ps x hd fs = 0) : netOk ns ps = true ∧ (0 ≤ x ∧ x ≤ (ns.length : Int) - 1) ∧ flowsOkI ps fs = true ∧ treeB ns ps = true := by
  unfold givenN at h
  split at h
  · split at h
    · split at h
      · split at h
        · exact ⟨‹_›, (‹_ ∧ _› : (0 ≤ x ∧ x ≤ (ns.length : Int) - 1) ∧ _).1, ‹_›, ‹_›⟩
        · omega
      · omega
    · omega
  · omega
def pressV (ns : List Int) (ps : List SP) (x : Int) (fs : List Int) (hd : Int) : List Int × Int :=
  if givenN ns ps x hd fs = 0 then (if dropsB ps fs ps.length 0 = true then (pressOf ns ps fs x hd, 0) else ([], 5)) else ([], givenN ns ps x hd fs)
theorem elev_of {ns : List Int} {ps : List SP} (h : netOk ns ps = true) : ElevOk ns := fun i hi => by
  have := (netOk_parts h).2.2.2
  exact flowsB_at (show flowsB ns = true from this) i hi
theorem FnExactPressuresOf : ∀ (l0_0 : List (Int)) (l0_1 : List (S68)) (a1 : Int) (l2 : List (Int)) (a3 : Int), (l0_0.length ≤ 9223372036854775807) → (∀ p ∈ l0_0, (Lit.int .i64 p).wf = true) → (l0_1.length ≤ 9223372036854775807) → (∀ p ∈ l0_1, p.f0.size ≤ 9223372036854775807 ∧ (Lit.int .i64 p.f1).wf = true ∧ (Lit.int .i64 p.f2).wf = true ∧ (Lit.int .i64 p.f3).wf = true ∧ (Lit.int .i64 p.f4).wf = true ∧ (Lit.int .i64 p.f5).wf = true) → ((Lit.int .i64 a1).wf = true) → (l2.length ≤ 9223372036854775807) → (∀ p ∈ l2, (Lit.int .i64 p).wf = true) → ((Lit.int .i64 a3).wf = true) → ∃ k, laws_FnExactPressuresOf.f k l0_0 l0_1 a1 l2 a3 = some true := by
  intro ns qs x l hd hn hw hq hx hwx hl0 hwl hwd
  have hxs : ∀ p ∈ qs, p.f0.size ≤ 9223372036854775807 := fun p hp => (hx p hp).1
  have hz := sizeP_nonneg qs
  refine ⟨1100, ?_⟩
  unfold laws_FnExactPressuresOf.f
  by_cases n0 : (l.length : Int) > 1048576
  · rw [if_pos n0]
  rw [if_neg n0]
  simp only [laws_FnExactPressuresOf.j0]
  rw [szNet_is ns qs 1048576 hn hq hxs (by omega) (by omega)]
  simp only [Option.bind_some]
  by_cases n1 : roomOf 1048576 ((ns.length : Int) + ((qs.length : Int) + sizeP qs)) < 0
  · rw [if_pos n1]
  rw [if_neg n1]
  have b1 := roomOf_ok n1
  have tn : laws_toNetwork.f ns qs = some (ns, qs.map cvP) := toNet_is (by omega) (by omega)
  have en : laws_eqNetwork.f ns (qs.map cvP) ns (qs.map cvP) = some true := eqNet_refl (by omega) (by simp; omega)
  have mn := markNet_is (ns := ns) (ps := qs.map cvP) (by omega) (by simp; omega)
  have hc := cv_size (qs := qs) (m := 1048576) (by omega)
  have hs : ns.length ≤ 4611686018427387904 ∧ ∀ p ∈ qs.map cvP, p.f0.size ≤ 9000000000000000000 := ⟨by omega, fun p hp => by have := hc p hp; omega⟩
  have hlq : (qs.map cvP).length = qs.length := by simp
  generalize qs.map cvP = ps at *
  have hok : givenN ns ps x hd l = 0 → ElevOk ns ∧ Small ns ps ∧ PipesOk ps l ∧ treeB ns ps = true ∧ 0 ≤ x ∧ x < ns.length := fun g => by
    obtain ⟨g1, g2, g3, g4⟩ := given_zero g
    obtain ⟨g5, g6⟩ := flows_ok g3
    exact ⟨elev_of g1, small_of g1, pipesOk_of g1 g5 g6, g4, g2.1, by omega⟩
  have sv : ∀ K, 1000 ≤ K → spec_PressuresOf.f K ns ps x l hd = some (pressV ns ps x l hd) := by
    intro K hK
    unfold spec_PressuresOf.f pressV
    rw [sgiven_is hs (by omega) hK, Option.bind_some]
    by_cases g : givenN ns ps x hd l = 0
    · obtain ⟨hE, hS, hP, ht, x0, x1⟩ := hok g
      rw [if_pos g, if_pos g, spresss_is hE hS ht hP x0 x1 hK, Option.bind_some]
      cases dropsB ps l ps.length 0 <;> simp
    · rw [if_neg g, if_neg g]
  have iv : ∀ K, 1000 ≤ K → impl_PressuresOf.f K ns ps x l hd = some (pressV ns ps x l hd) := by
    intro K hK
    unfold impl_PressuresOf.f pressV
    rw [igiven_is hs (by omega) hK, Option.bind_some]
    by_cases g : givenN ns ps x hd l = 0
    · obtain ⟨hE, hS, hP, ht, x0, x1⟩ := hok g
      rw [if_pos g, if_pos g, drops_is ns hS.p20 hP (by omega), Option.bind_some]
      by_cases c : dropsB ps l ps.length 0 = true
      · rw [if_pos c, if_pos c, ipresss_is hE hS ht hP x0 x1 hK, Option.bind_some]
      · rw [if_neg c, if_neg c]
    · rw [if_neg g, if_neg g]
  have hl : (pressV ns ps x l hd).1.length ≤ 1048576 := by
    unfold pressV
    split
    · split
      · show (pressOf ns ps l x hd).length ≤ _
        rw [pressOf_length]; omega
      · simp
    · simp
  have tl : laws_toInt64S_.f l = some l := by unfold laws_toInt64S_.f; rw [if_pos (by omega)]
  have el := eqI_refl (l := l) (by omega)
  have ml : laws_markInt64S_.f l (1 + (ns.length : Int) + 6 * (ps.length : Int)) = some (1 + (ns.length : Int) + 6 * (ps.length : Int) + (l.length : Int), marks (1 + (ns.length : Int) + 6 * (ps.length : Int)) l.length) := by
    unfold laws_markInt64S_.f; rw [if_pos ⟨by omega, by omega⟩]
  generalize pressV ns ps x l hd = R at sv iv hl
  have e1 := eqI_refl hl
  have m1 := markI_is hl
  have h1 := heldI_is hl
  have h0 : ¬ (1 + (ns.length : Int) + 6 * (qs.length : Int) < 0) := by omega
  have h0' : ¬ (1 + (ns.length : Int) + 6 * (ps.length : Int) < 0) := by omega
  have h3 : ¬ (1 + (ns.length : Int) + 6 * (ps.length : Int) + (l.length : Int) < 0) := by omega
  have h2 : ¬ (1 + (R.1.length : Int) < 0) := by omega
  simp [tn, en, sv, iv, e1, m1, h1, mn, tl, el, ml, h3, h0, h0', h2, laws_FnExactPressuresOf.j0, laws_FnExactPressuresOf.j1, laws_FnExactPressuresOf.j2, laws_FnExactPressuresOf.j3, laws_FnExactPressuresOf.j4, laws_FnExactPressuresOf.j5, laws_FnExactPressuresOf.j6, laws_FnExactPressuresOf.j7, laws_FnExactPressuresOf.j8, laws_FnExactPressuresOf.j9, laws_FnExactPressuresOf.j10, laws_FnExactPressuresOf.j11]

end Go.Proofs.Ytnmdcmfhjhgheaa.Pure
