/- For every network the program's NetworkTree answers as the reference's NetworkTree does, leaves the network as it is, and hands out memory of its own. No condition. -/
import Derived.Test.YtcgbagdpedpdpaaPFnExactNetworkTreex11
import Derived.Test.YtcgbagdpedpdpaaMath
import Derived.Test.YtcgbagdpedpdpaaMathR
import Derived.Test.YtcgbagdpedpdpaaMathI
namespace Go.Proofs.Ytcgbagdpedpdpaa.Pure
open Go.RowKit Go.Proofs.Ytcgbagdpedpdpaa.PFnExactNetworkTree Go.Proofs.YtcgbagdpedpdpaaW.PrintWords Go.Proofs.YtcgbagdpedpdpaaW.PrintLast Go.Proofs.YtcgbagdpedpdpaaW.PrintMore Go.Proofs.YtcgbagdpedpdpaaM
set_option linter.unusedSimpArgs false
set_option linter.unusedVariables false
theorem roomOf_ok {a n : Int} (h : ¬ roomOf a n < 0) : n ≤ a ∧ roomOf a n = a - n := by
  unfold roomOf at *
  split at h
  · omega
  · rename_i c; rw [if_neg c]; exact ⟨by omega, rfl⟩
theorem szNet_is (ns : List Int) (qs : List S85) (a : Int) (hn : ns.length ≤ 9223372036854775807) (hq : qs.length ≤ 9223372036854775807) (hx : ∀ p ∈ qs, p.f0.size ≤ 9223372036854775807) (h0 : 0 ≤ a) (h1 : a ≤ 1048576) :
    laws_szNetwork.f ns qs a = some (roomOf a ((ns.length : Int) + ((qs.length : Int) + sizeP qs))) := by
  unfold laws_szNetwork.f laws_szInt64S.f
  have hz := sizeP_nonneg qs
  rw [w64 (x := a - (ns.length : Int)) (by omega) (by omega)]
  by_cases n1 : a - (ns.length : Int) < 0
  · rw [if_pos n1]; simp only [Option.bind_some]; unfold roomOf; rw [if_pos (by omega), if_pos (by omega)]
  · rw [if_neg n1]
    simp only [Option.bind_some]
    have e : laws_szPipeS_.f qs (a - (ns.length : Int)) = some (roomOf (a - (ns.length : Int)) ((qs.length : Int) + sizeP qs)) := by unfold laws_szPipeS_.f; rw [if_pos ⟨⟨by omega, by omega⟩, hq, hx⟩]
    rw [if_neg n1, e]
    simp only [Option.bind_some]
    unfold roomOf
    rw [show a - ((ns.length : Int) + ((qs.length : Int) + sizeP qs)) = a - (ns.length : Int) - ((qs.length : Int) + sizeP qs) by omega]
    by_cases n2 : a - (ns.length : Int) - ((qs.length : Int) + sizeP qs) < 0
    · rw [if_pos n2, if_pos (by omega)]
    · rw [if_neg n2, if_neg n2]
theorem toNet_is {ns : List Int} {qs : List S85} (hn : ns.length ≤ 1048576) (hq : qs.length ≤ 1048576) : laws_toNetwork.f ns qs = some (ns, qs.map cvP) := by
  unfold laws_toNetwork.f laws_toInt64S_.f laws_toPipeS_.f
  rw [if_pos (by omega), if_pos (by omega)]; rfl
theorem eqNet_refl {ns : List Int} {ps : List S60} (hn : ns.length ≤ 1048576) (hq : ps.length ≤ 1048576) : laws_eqNetwork.f ns ps ns ps = some true := by
  unfold laws_eqNetwork.f laws_eqInt64S_.f laws_eqPipeS_.f
  rw [if_pos (by omega), if_pos (by omega)]; simp [pipesEq_refl]
theorem cv_size {qs : List S85} {m : Nat} (h : sizeP qs ≤ (m : Int)) : ∀ p ∈ qs.map cvP, p.f0.size ≤ m := by
  intro p hp
  obtain ⟨q, hq, rfl⟩ := List.mem_map.mp hp
  have := sizeP_elem h q hq
  show q.f0.size ≤ m
  omega
theorem markNet_is {ns : List Int} {ps : List S60} (hn : ns.length ≤ 1048576) (hq : ps.length ≤ 1048576) : laws_markNetwork.f ns ps 1 = some (1 + (ns.length : Int) + 6 * (ps.length : Int), marks 1 ns.length, marksP (1 + (ns.length : Int)) ps.length) := by
  unfold laws_markNetwork.f laws_markInt64S_.f laws_markPipeS_.f
  rw [if_pos ⟨by omega, by omega⟩]
  simp only [Option.bind_some]
  rw [if_pos ⟨by omega, by omega⟩]; rfl
theorem markI_is {l : List Int} (h : l.length ≤ 1048576) : laws_markInt64S_.f l 1 = some (1 + (l.length : Int), marks 1 l.length) := by
  unfold laws_markInt64S_.f; rw [if_pos ⟨by omega, by omega⟩]
theorem heldI_is {n : Nat} (h : n ≤ 1048576) : laws_heldInt64S_.f (marks 1 n) 1 = some (1 + (n : Int)) := by
  unfold laws_heldInt64S_.f; rw [if_pos ⟨by omega, by rw [marks_length]; omega⟩, held_marks]
theorem eqI_refl {l : List Int} (h : l.length ≤ 1048576) : laws_eqInt64S_.f l l = some true := by
  unfold laws_eqInt64S_.f; rw [if_pos (by omega)]; simp
abbrev SP := S60
def edges (ps : List SP) : List (Int × Int) := ps.map fun p => (p.f1, p.f2)
def shutOf (cl : List Int) (i : Nat) : Bool := decide ((i : Int) ∈ cl)
theorem edges_length (ps : List SP) : (edges ps).length = ps.length := by unfold edges; simp
theorem edges_get {ps : List SP} {i : Nat} (h : i < ps.length) : (edges ps).getD i (0, 0) = ((ps.getD i z60).f1, (ps.getD i z60).f2) := by
  unfold edges
  simp [List.getD_eq_getElem?_getD, List.getElem?_map, List.getElem?_eq_getElem h]
theorem ends_of {ns : List Int} {ps : List SP} (h : netOk ns ps = true) : EndsIn (edges ps) ns.length := fun i hi => by
  rw [edges_length] at hi
  have := (netOk_pipe h i hi).2
  rw [edges_get hi]
  exact ⟨this.1, this.2.1⟩
/-- What the walks through a network lean on. -/
structure Small (ns : List Int) (ps : List SP) : Prop where
  n1 : 1 ≤ ns.length
  n16 : ns.length ≤ 16
  p20 : ps.length ≤ 20
  ends : EndsIn (edges ps) ns.length
theorem small_of {ns : List Int} {ps : List SP} (h : netOk ns ps = true) : Small ns ps := ⟨(netOk_parts h).1.1, (netOk_parts h).1.2, (netOk_parts h).2.1, ends_of h⟩
theorem Small.pipe {ns : List Int} {ps : List SP} (h : Small ns ps) {i : Nat} (hi : i < ps.length) : (0 ≤ (ps.getD i z60).f1 ∧ (ps.getD i z60).f1 < ns.length) ∧ (0 ≤ (ps.getD i z60).f2 ∧ (ps.getD i z60).f2 < ns.length) := by
  have := h.ends i (by rw [edges_length]; exact hi)
  rw [edges_get hi] at this
  exact this
theorem shut_nil : shutOf [] = open_ := by funext i; unfold shutOf; simp
theorem rd_nat (l : List Int) (i : Nat) : rd l (i : Int) = l.getD i 0 := by unfold rd; rw [Int.toNat_natCast]
theorem drop_one (l : List Int) (i : Nat) (h : i < l.length) : l.drop i = l.getD i 0 :: l.drop (i + 1) := by
  rw [List.drop_eq_getElem_cons h, List.getD_eq_getElem?_getD, List.getElem?_eq_getElem h]; rfl
theorem w_succ {i : Nat} (h : i ≤ 4611686018427387904) : wrap64 ((i : Int) + 1) = ((i + 1 : Nat) : Int) := by
  rw [w64 (by omega) (by omega)]; push_cast; rfl
theorem index_is (l : List Int) (a : Int) (hl : l.length ≤ 4611686018427387904) : ∀ (d K i : Nat), i + d = l.length → d < K →
    ∃ r, slices_Index_int64_int64.l0 K l a (l.length : Int) (i : Int) = some r ∧ decide (r ≥ 0) = decide (a ∈ l.drop i)
  | d, 0, i, hd, hk => by omega
  | 0, K + 1, i, hd, hk => by
    simp only [slices_Index_int64_int64.l0]
    rw [if_neg (by omega), List.drop_of_length_le (by omega)]
    exact ⟨-1, rfl, by simp⟩
  | d + 1, K + 1, i, hd, hk => by
    simp only [slices_Index_int64_int64.l0]
    rw [if_pos (by omega), if_pos (by omega), if_pos (by omega), rd_nat, drop_one l i (by omega)]
    by_cases c : a = l.getD i 0
    · rw [if_pos c]
      exact ⟨_, rfl, by rw [← c, decide_eq_true (show (i : Int) ≥ 0 by omega), decide_eq_true (List.mem_cons_self)]⟩
    · rw [if_neg c, w_succ (by omega)]
      obtain ⟨r, h1, h2⟩ := index_is l a hl d K (i + 1) (by omega) (by omega)
      exact ⟨r, h1, by rw [h2]; simp only [List.mem_cons, c, false_or]⟩
theorem contains_is (l : List Int) (a : Int) {K : Nat} (hl : l.length ≤ 100) (hk : 100 < K) : slices_Contains_int64_int64.f K l a = some (decide (a ∈ l)) := by
  obtain ⟨r, h1, h2⟩ := index_is l a (by omega) l.length K 0 (by omega) (by omega)
  unfold slices_Contains_int64_int64.f slices_Index_int64_int64.f
  rw [show (0 : Int) = ((0 : Nat) : Int) from rfl, h1]
  simp only [Option.bind_some]
  rw [show ((0 : Nat) : Int) = (0 : Int) from rfl, h2, List.drop_zero]
theorem other_is (s : ByteArray) (a b c d e x : Int) : impl_Pipe_other.f s a b c d e x = some (match oth (a, b) x with | some y => (y, true) | none => (0, false)) := by
  unfold impl_Pipe_other.f oth
  by_cases c1 : x = a
  · rw [if_pos c1, if_pos c1]
  · rw [if_neg c1, if_neg c1]
    by_cases c2 : x = b
    · rw [if_pos c2, if_pos c2]
    · rw [if_neg c2, if_neg c2]
theorem reached_l1 (ns : List Int) (ps : List SP) (cl : List Int) (src x : Int) (kk : Nat) (hkk : kk ≤ 100) (hm : ps.length ≤ 20) (hcl : cl.length ≤ 60) : ∀ (d K i : Nat) (ws : List WayT), i + d = ps.length → d + 110 ≤ K → ws.length + d ≤ 80 → kk < ws.length + 1 → (foundN src ws).getD kk 0 = x →
    impl_Network_reached.l1 K cl (foundN src ws) (kk : Int) ps (ps.length : Int) (i : Int) ns ps = impl_Network_reached.l0 (K - (d + 1)) cl (foundN src (sweep (edges ps) (shutOf cl) src x d i ws)) ((kk + 1 : Nat) : Int) ns ps
  | d, 0, i, ws, hd, hK, _, _, _ => by omega
  | 0, K + 1, i, ws, hd, hK, hw, hk, hx => by
    simp only [impl_Network_reached.l1, sweep]
    rw [if_neg (by omega), w_succ (by omega)]
    rfl
  | d + 1, K + 1, i, ws, hd, hK, hw, hk, hx => by
    simp only [impl_Network_reached.l1, sweep]
    have hlen : ((foundN src ws).length : Int) = (ws.length : Int) + 1 := by simp
    rw [if_pos (by omega), if_pos (by omega), if_pos (by omega), if_pos (by omega), if_pos (by rw [hlen]; omega), rd_nat, hx, rdP_impl, other_is, edges_get (by omega), show K + 1 - (d + 1 + 1) = K - (d + 1) by omega]
    have ih := reached_l1 ns ps cl src x kk hkk hm hcl d K (i + 1)
    rw [Option.bind_some]
    cases ho : oth ((ps.getD i z60).f1, (ps.getD i z60).f2) x with
    | none =>
      simp only [Bool.false_eq_true, if_false]
      rw [w_succ (by omega)]
      exact ih ws (by omega) (by omega) (by omega) hk hx
    | some y =>
      simp only [if_true]
      rw [contains_is cl (i : Int) (by omega) (by omega), Option.bind_some]
      by_cases c1 : (i : Int) ∈ cl
      · rw [if_pos (by simpa using c1), w_succ (by omega), if_neg (fun h => by have := h.1; unfold shutOf at this; simp [c1] at this)]
        exact ih ws (by omega) (by omega) (by omega) hk hx
      · rw [if_neg (by simpa using c1), contains_is (foundN src ws) y (by simp; omega) (by omega), Option.bind_some]
        have hs : shutOf cl i = false := by unfold shutOf; simpa using c1
        by_cases c2 : y ∈ foundN src ws
        · rw [if_pos (by simpa using c2), w_succ (by omega), if_neg (fun h => h.2 c2)]
          exact ih ws (by omega) (by omega) (by omega) hk hx
        · rw [if_neg (by simpa using c2), if_pos (by simp; omega), w_succ (by omega), if_pos ⟨hs, c2⟩, show foundN src ws ++ [y] = foundN src (ws ++ [(y, x, i)]) by simp]
          exact ih (ws ++ [(y, x, i)]) (by omega) (by omega) (by simp; omega) (by simp; omega) (by rw [getD_foundN_append _ _ _ _ hk, hx])
theorem reached_l0 {ns : List Int} {ps : List SP} {cl : List Int} {n : Nat} (hE : EndsIn (edges ps) n) (hn : n ≤ 16) (hm : ps.length ≤ 20) (hcl : cl.length ≤ 60) {src : Int} : ∀ (f K k : Nat) (ws : List WayT), n < f + k → k ≤ ws.length + 1 → FoundW (edges ps) (shutOf cl) n src ws → f * (ps.length + 2) + 200 ≤ K →
    impl_Network_reached.l0 K cl (foundN src ws) (k : Int) ns ps = some ((foundN src (bfs (edges ps) (shutOf cl) src f k ws)).mergeSort fun x y => decide (x ≤ y))
  | 0, K, k, ws, hf, hk, h, hK => by have := found_length h; omega
  | f + 1, 0, k, ws, hf, hk, h, hK => by omega
  | f + 1, K + 1, k, ws, hf, hk, h, hK => by
    have hl := found_length h
    have hlen : ((foundN src ws).length : Int) = (ws.length : Int) + 1 := by simp
    rw [Nat.add_mul, Nat.one_mul] at hK
    simp only [impl_Network_reached.l0, bfs]
    by_cases c : k < ws.length + 1
    · have h1 := reached_l1 ns ps cl src _ k (by omega) hm hcl ps.length K 0 ws (by omega) (by omega) (by omega) c rfl
      rw [show ((0 : Nat) : Int) = (0 : Int) from rfl] at h1
      rw [if_pos (by rw [hlen]; omega), if_pos c, h1]
      obtain ⟨ext, e1, e2, e3⟩ := sweep_spec (shut := shutOf cl) (src := src) hE (edges ps).length 0 ws (by omega) h (getD_mem_foundN c)
      rw [edges_length] at e1 ⊢
      rw [e1]
      exact reached_l0 hE hn hm hcl f (K - (ps.length + 1)) (k + 1) (ws ++ ext) (by omega) (by simp; omega) e2 (by omega)
    · rw [if_neg (by rw [hlen]; omega), if_neg c]
      unfold slices_Sort_int64_int64.f
      rw [if_pos ⟨by simp, by simp; omega⟩, Option.bind_some]
theorem reached_is {ns : List Int} {ps : List SP} {cl : List Int} {src : Int} (h : Small ns ps) (hcl : cl.length ≤ 60) (h0 : 0 ≤ src) (h1 : src < ns.length) {K : Nat} (hK : 600 ≤ K) :
    impl_Network_reached.f K ns ps src cl = some (reachS (edges ps) (shutOf cl) src 17) := by
  unfold impl_Network_reached.f reachS
  rw [show ([src] : List Int) = foundN src [] from rfl, show (0 : Int) = ((0 : Nat) : Int) from rfl]
  have := h.n16; have := h.p20
  exact reached_l0 h.ends h.n16 h.p20 hcl 17 K 0 [] (by omega) (by simp) (found_start h0 h1) (by omega)
theorem set_rep {α : Type} (A : List α) (x v : α) (d : Nat) : (A ++ List.replicate (d + 1) v).set A.length x = A ++ [x] ++ List.replicate d v := by
  rw [List.set_append_right _ _ (Nat.le_refl _), Nat.sub_self, List.replicate_succ, List.set_cons_zero, List.append_assoc]; rfl
theorem iparts_l0 {ns : List Int} {ps : List SP} {cl : List Int} (h : Small ns ps) (hcl : cl.length ≤ 60) : ∀ (d K j : Nat), j + d = ns.length → d + 700 ≤ K →
    impl_Network_parts.l0 K cl ((numsU 0 j).map (fun x => (reachS (edges ps) (shutOf cl) x 17).getD 0 0) ++ List.replicate d 0) (ns.length : Int) (j : Int) ns ps = some ((numsU 0 ns.length).map (fun x => (reachS (edges ps) (shutOf cl) x 17).getD 0 0))
  | d, 0, j, hd, hK => by omega
  | 0, K + 1, j, hd, hK => by
    simp only [impl_Network_parts.l0]
    rw [if_neg (by omega), show j = ns.length by omega]
    simp
  | d + 1, K + 1, j, hd, hK => by
    have h16 := h.n16
    have h20 := h.p20
    simp only [impl_Network_parts.l0]
    rw [if_pos (by omega), reached_is h hcl (by omega) (by omega) (by omega), Option.bind_some, if_pos (by rw [reachS_length]; omega), if_pos (by omega), if_pos (by simp [numsU_length]; omega), w_succ (by omega), Int.toNat_natCast]
    have e : ((numsU 0 j).map (fun x => (reachS (edges ps) (shutOf cl) x 17).getD 0 0)).length = j := by rw [List.length_map, numsU_length]
    have := set_rep ((numsU 0 j).map (fun x => (reachS (edges ps) (shutOf cl) x 17).getD 0 0)) (rd (reachS (edges ps) (shutOf cl) (j : Int) 17) 0) 0 d
    rw [e] at this
    rw [this, show rd (reachS (edges ps) (shutOf cl) (j : Int) 17) 0 = (reachS (edges ps) (shutOf cl) (0 + (j : Int)) 17).getD 0 0 by rw [Int.zero_add]; rfl]
    have e2 : (numsU 0 j).map (fun x => (reachS (edges ps) (shutOf cl) x 17).getD 0 0) ++ [(reachS (edges ps) (shutOf cl) (0 + (j : Int)) 17).getD 0 0] = (numsU 0 (j + 1)).map (fun x => (reachS (edges ps) (shutOf cl) x 17).getD 0 0) := by rw [numsU_snoc, List.map_append]; rfl
    rw [e2]
    exact iparts_l0 h hcl d K (j + 1) (by omega) (by omega)
theorem iparts_is {ns : List Int} {ps : List SP} {cl : List Int} (h : Small ns ps) (hcl : cl.length ≤ 60) {K : Nat} (hK : 800 ≤ K) : impl_Network_parts.f K ns ps cl = some (labelsOf (edges ps) (shutOf cl) ns.length) := by
  have h16 := h.n16
  unfold impl_Network_parts.f
  rw [if_pos (by omega), Int.toNat_natCast, if_pos (by omega), Option.bind_some, List.length_replicate]
  have := iparts_l0 h hcl ns.length K 0 (by omega) (by omega)
  rw [labels_map h.ends (by omega)] at this
  exact this
theorem relab_cons (v : Int) (l : List Int) (H L : Int) : relab (v :: l) H L = (if v = H then L else v) :: relab l H L := rfl
theorem set_step (l : List Int) (j : Nat) (h : j < l.length) (v : Int) : (l.set j v).take (j + 1) = l.take j ++ [v] ∧ (l.set j v).drop (j + 1) = l.drop (j + 1) := by
  refine ⟨take_set l j h v, ?_⟩
  rw [List.drop_set_of_lt (by omega)]
theorem stree_l2 (ns : List Int) (ps : List SP) (acc : List Int) (i lo hi : Int) : ∀ (d K j : Nat) (cur : List Int), j + d = cur.length → cur.length ≤ 100 → d + 100 ≤ K →
    spec_l04Tree.l2 K acc cur i lo hi (j : Int) ns ps = spec_l04Tree.l1 (K - (d + 1)) acc (cur.take j ++ relab (cur.drop j) hi lo) (wrap64 (i + 1)) ns ps
  | d, 0, j, cur, hd, hl, hK => by omega
  | 0, K + 1, j, cur, hd, hl, hK => by
    simp only [spec_l04Tree.l2]
    rw [if_neg (by omega), List.take_of_length_le (by omega), List.drop_of_length_le (by omega)]
    simp [relab]
  | d + 1, K + 1, j, cur, hd, hl, hK => by
    simp only [spec_l04Tree.l2]
    rw [if_pos (by omega), if_pos (by omega), rd_nat, w_succ (by omega), Int.toNat_natCast, show K + 1 - (d + 1 + 1) = K - (d + 1) by omega, drop_one cur j (by omega)]
    have hs := set_step cur j (by omega) lo
    by_cases c : cur.getD j 0 = hi
    · rw [if_pos c, stree_l2 ns ps acc i lo hi d K (j + 1) _ (by rw [List.length_set]; omega) (by rw [List.length_set]; omega) (by omega), hs.1, hs.2, relab_cons, if_pos c, List.append_assoc, List.singleton_append]
    · rw [if_neg c, stree_l2 ns ps acc i lo hi d K (j + 1) _ (by omega) (by omega) (by omega)]
      have e : cur.take (j + 1) = cur.take j ++ [cur.getD j 0] := by
        rw [List.take_succ_eq_append_getElem (by omega), List.getD_eq_getElem?_getD, List.getElem?_eq_getElem (by omega)]; rfl
      rw [e, relab_cons, if_neg c, List.append_assoc, List.singleton_append]
theorem stree_l1 {ns : List Int} {ps : List SP} (h : Small ns ps) : ∀ (d K i : Nat) (acc out : List Int), i + d = ps.length → acc.length ≤ i → out.length = ns.length → d * (ns.length + 3) + 200 ≤ K →
    spec_l04Tree.l1 K acc out (i : Int) ns ps = some (treeS (edges ps) d i acc out).1
  | d, 0, i, acc, out, hd, ha, ho, hK => by omega
  | 0, K + 1, i, acc, out, hd, ha, ho, hK => by
    simp only [spec_l04Tree.l1, treeS]
    rw [if_neg (by omega)]
  | d + 1, K + 1, i, acc, out, hd, ha, ho, hK => by
    have h16 := h.n16
    have h20 := h.p20
    have hr := h.pipe (i := i) (by omega)
    rw [Nat.add_mul, Nat.one_mul] at hK
    simp only [spec_l04Tree.l1, treeS]
    rw [if_pos (by omega), if_pos (by omega), rdP_impl, if_pos hr.1.1, if_pos (by rw [ho]; exact hr.1.2), if_pos hr.2.1, if_pos (by rw [ho]; exact hr.2.2), edges_get (by omega)]
    by_cases c : lb out (ps.getD i z60).f1 = lb out (ps.getD i z60).f2
    · rw [if_pos c, if_pos (show rd out _ = rd out _ from c), w_succ (by omega)]
      exact stree_l1 h d K (i + 1) acc out (by omega) (by omega) ho (by omega)
    · rw [if_neg c, if_neg (show ¬ rd out _ = rd out _ from c), if_pos (by omega)]
      have := stree_l2 ns ps (acc ++ [(i : Int)]) (i : Int) (rd out (ps.getD i z60).f1) (rd out (ps.getD i z60).f2) ns.length K 0 out (by omega) (by omega) (by omega)
      rw [show ((0 : Nat) : Int) = (0 : Int) from rfl] at this
      rw [this, List.take_zero, List.nil_append, List.drop_zero, w_succ (by omega)]
      exact stree_l1 h d (K - (ns.length + 1)) (i + 1) _ _ (by omega) (by rw [List.length_append, List.length_singleton]; omega) (by rw [relab_length]; exact ho) (by omega)
theorem stree_l0 {ns : List Int} {ps : List SP} (h : Small ns ps) : ∀ (d K j : Nat), j + d = ns.length → d + 700 ≤ K →
    spec_l04Tree.l0 K [] (numsU 0 j) (j : Int) ns ps = some (treeS (edges ps) (edges ps).length 0 [] (numsU 0 ns.length)).1
  | d, 0, j, hd, hK => by omega
  | 0, K + 1, j, hd, hK => by
    have h16 := h.n16
    have h20 := h.p20
    simp only [spec_l04Tree.l0]
    rw [if_neg (by omega), show j = ns.length by omega, show (0 : Int) = ((0 : Nat) : Int) from rfl, stree_l1 h ps.length K 0 _ _ (by omega) (by simp) (numsU_length _ _) (by
      have : ps.length * (ns.length + 3) ≤ 20 * 19 := Nat.mul_le_mul h20 (by omega)
      omega), edges_length]
  | d + 1, K + 1, j, hd, hK => by
    have h16 := h.n16
    have h20 := h.p20
    simp only [spec_l04Tree.l0]
    rw [if_pos (by omega), if_pos (by rw [numsU_length]; omega), w_succ (by omega), show numsU 0 j ++ [(j : Int)] = numsU 0 (j + 1) by rw [numsU_snoc, Int.zero_add]]
    exact stree_l0 h d K (j + 1) (by omega) (by omega)
theorem stree_is {ns : List Int} {ps : List SP} (h : Small ns ps) {K : Nat} (hK : 800 ≤ K) : spec_l04Tree.f K ns ps = some (treeS (edges ps) (edges ps).length 0 [] (numsU 0 ns.length)).1 := by
  have h16 := h.n16
  unfold spec_l04Tree.f
  exact stree_l0 h ns.length K 0 (by omega) (by omega)
theorem EL_prefix {A : List (Int × Int)} {e : Int × Int} (x y : Int) : EL (A ++ [e]) open_ A.length x y ↔ EL A open_ A.length x y := by
  constructor
  · rintro ⟨i, h1, _, h3, h4⟩
    refine ⟨i, h1, h1, h3, ?_⟩
    rwa [List.getD_eq_getElem?_getD, List.getElem?_append_left h1, ← List.getD_eq_getElem?_getD] at h4
  · rintro ⟨i, h1, _, h3, h4⟩
    refine ⟨i, h1, by simp; omega, h3, ?_⟩
    rwa [List.getD_eq_getElem?_getD, List.getElem?_append_left h1, ← List.getD_eq_getElem?_getD]
theorem EL_snoc {A : List (Int × Int)} {e : Int × Int} (x y : Int) : EL (A ++ [e]) open_ (A ++ [e]).length x y ↔ addE (EL A open_ A.length) e.1 e.2 x y := by
  have h := EL_succ (es := A ++ [e]) (shut := open_) (m := A.length) (by simp) rfl x y
  have hg : (A ++ [e]).getD A.length (0, 0) = e := by simp
  rw [hg] at h
  rw [show (A ++ [e]).length = A.length + 1 by simp, h]
  unfold addE
  rw [EL_prefix]
theorem pipe_eta (p : SP) : (⟨p.f0, p.f1, p.f2, p.f3, p.f4, p.f5⟩ : SP) = p := by cases p; rfl
theorem edges_snoc (A : List SP) (p : SP) : edges (A ++ [p]) = edges A ++ [(p.f1, p.f2)] := by unfold edges; simp
/-- The program's walk: the pipes taken so far make a network of their own, in which what is joined is what is joined over all pipes so far. -/
theorem itree_l0 {ns : List Int} {ps : List SP} (h : Small ns ps) : ∀ (d K i : Nat) (acc out : List Int) (P : List SP), i + d = ps.length → acc.length ≤ i → P.length ≤ i → EndsIn (edges P) ns.length → Lab (EL (edges ps) open_ i) ns.length out →
    (∀ x y : Int, Conn (EL (edges P) open_ (edges P).length) x y ↔ Conn (EL (edges ps) open_ i) x y) → d + 900 ≤ K →
    impl_Network_tree.l0 K acc ps (ps.length : Int) (i : Int) ns P = some (treeS (edges ps) d i acc out).1
  | d, 0, i, acc, out, P, hd, ha, hp, hE, hL, hc, hK => by omega
  | 0, K + 1, i, acc, out, P, hd, ha, hp, hE, hL, hc, hK => by
    simp only [impl_Network_tree.l0, treeS]
    rw [if_neg (by omega)]
  | d + 1, K + 1, i, acc, out, P, hd, ha, hp, hE, hL, hc, hK => by
    have h20 := h.p20
    have hr := h.pipe (i := i) (by omega)
    have hS : Small ns P := ⟨h.n1, h.n16, by omega, hE⟩
    have hLP := (labels_lab (shut := open_) hE).1
    have hl := hLP.len
    simp only [impl_Network_tree.l0, treeS]
    rw [if_pos (by omega), if_pos (by omega), if_pos (by omega), iparts_is hS (by simp) (by omega), Option.bind_some, rdP_impl, shut_nil, if_pos hr.1.1, if_pos (by rw [hl]; exact hr.1.2), if_pos hr.2.1, if_pos (by rw [hl]; exact hr.2.2), edges_get (by omega)]
    have e : (lb (labelsOf (edges P) open_ ns.length) (ps.getD i z60).f1 = lb (labelsOf (edges P) open_ ns.length) (ps.getD i z60).f2) ↔ (lb out (ps.getD i z60).f1 = lb out (ps.getD i z60).f2) := by
      rw [hLP.same _ _ hr.1.1 hr.1.2 hr.2.1 hr.2.2, hL.same _ _ hr.1.1 hr.1.2 hr.2.1 hr.2.2, hc]
    have hg := edges_get (ps := ps) (i := i) (by omega)
    by_cases c : lb out (ps.getD i z60).f1 = lb out (ps.getD i z60).f2
    · rw [if_pos c, if_pos (show rd _ _ = rd _ _ from e.2 c), w_succ (by omega)]
      have hold := lab_old h.ends (by rw [edges_length]; omega) hL (by rw [hg]; exact c)
      exact itree_l0 h d K (i + 1) acc out P (by omega) (by omega) (by omega) hE (hL.congr fun x y _ _ _ _ => (hold x y).symm) (fun x y => (hc x y).trans (hold x y).symm) (by omega)
    · rw [if_neg c, if_neg (show ¬ rd _ _ = rd _ _ from fun g => c (e.1 g)), if_pos (by omega), if_pos (by omega), w_succ (by omega), pipe_eta]
      have hsucc : ∀ x y : Int, EL (edges ps) open_ (i + 1) x y ↔ addE (EL (edges ps) open_ i) (ps.getD i z60).f1 (ps.getD i z60).f2 x y := fun x y => by
        have := EL_succ (es := edges ps) (shut := open_) (m := i) (by rw [edges_length]; omega) rfl x y
        rw [hg] at this
        exact this
      refine itree_l0 h d K (i + 1) _ _ (P ++ [ps.getD i z60]) (by omega) (by rw [List.length_append, List.length_singleton]; omega) (by rw [List.length_append, List.length_singleton]; omega) ?_ ?_ ?_ (by omega)
      · intro j hj
        rw [edges_snoc] at hj ⊢
        rw [List.length_append, List.length_singleton] at hj
        by_cases g : j < (edges P).length
        · rw [List.getD_eq_getElem?_getD, List.getElem?_append_left g, ← List.getD_eq_getElem?_getD]
          exact hE j g
        · have : j = (edges P).length := by omega
          subst this
          have hz : (edges P ++ [((ps.getD i z60).f1, (ps.getD i z60).f2)]).getD (edges P).length (0, 0) = ((ps.getD i z60).f1, (ps.getD i z60).f2) := by simp
          rw [hz]
          exact hr
      · exact (hL.join hr.1.1 hr.1.2 hr.2.1 hr.2.2 (.inr ⟨rfl, rfl⟩)).congr fun x y _ _ _ _ => conn_congr fun u v => (hsucc u v).symm
      · intro x y
        rw [edges_snoc, conn_congr EL_snoc, conn_congr hsucc, conn_add, conn_add, hc, hc, hc, hc, hc]
theorem itree_is {ns : List Int} {ps : List SP} (h : Small ns ps) {K : Nat} (hK : 1000 ≤ K) : impl_Network_tree.f K ns ps = some (treeS (edges ps) (edges ps).length 0 [] (numsU 0 ns.length)).1 := by
  have h20 := h.p20
  unfold impl_Network_tree.f
  rw [edges_length]
  refine itree_l0 h ps.length K 0 [] (numsU 0 ns.length) [] (by omega) (by simp) (by simp) (fun i hi => by simp [edges] at hi) (Lab.start EL_zero _) (fun x y => conn_congr fun u v => ?_) (by omega)
  constructor
  · rintro ⟨i, h1, _⟩; simp [edges] at h1
  · rintro ⟨i, h1, _⟩; omega
theorem treeS_length {es : List (Int × Int)} : ∀ (d i : Nat) (acc out : List Int), (treeS es d i acc out).1.length ≤ acc.length + d
  | 0, i, acc, out => by simp [treeS]
  | d + 1, i, acc, out => by
    simp only [treeS]
    split
    · have := treeS_length (es := es) d (i + 1) acc out; omega
    · have := treeS_length (es := es) d (i + 1) (acc ++ [(i : Int)]) (relab out (lb out (es.getD i (0, 0)).2) (lb out (es.getD i (0, 0)).1))
      rw [List.length_append, List.length_singleton] at this
      omega
def treeV (ns : List Int) (ps : List SP) : List Int × Int := if netOk ns ps = true then ((treeS (edges ps) (edges ps).length 0 [] (numsU 0 ns.length)).1, 0) else ([], 1)
theorem FnExactNetworkTree : ∀ (l0_0 : List (Int)) (l0_1 : List (S85)), (l0_0.length ≤ 9223372036854775807) → (∀ p ∈ l0_0, (Lit.int .i64 p).wf = true) → (l0_1.length ≤ 9223372036854775807) → (∀ p ∈ l0_1, p.f0.size ≤ 9223372036854775807 ∧ (Lit.int .i64 p.f1).wf = true ∧ (Lit.int .i64 p.f2).wf = true ∧ (Lit.int .i64 p.f3).wf = true ∧ (Lit.int .i64 p.f4).wf = true ∧ (Lit.int .i64 p.f5).wf = true) → ∃ k, laws_FnExactNetworkTree.f k l0_0 l0_1 = some true := by
  intro ns qs hn hw hq hx
  have hxs : ∀ p ∈ qs, p.f0.size ≤ 9223372036854775807 := fun p hp => (hx p hp).1
  have hz := sizeP_nonneg qs
  refine ⟨1100, ?_⟩
  unfold laws_FnExactNetworkTree.f
  rw [szNet_is ns qs 1048576 hn hq hxs (by omega) (by omega)]
  simp only [Option.bind_some]
  by_cases n1 : roomOf 1048576 ((ns.length : Int) + ((qs.length : Int) + sizeP qs)) < 0
  · rw [if_pos n1]
  rw [if_neg n1]
  have b1 := roomOf_ok n1
  have tn : laws_toNetwork.f ns qs = some (ns, qs.map cvP) := toNet_is (by omega) (by omega)
  have en : laws_eqNetwork.f ns (qs.map cvP) ns (qs.map cvP) = some true := eqNet_refl (by omega) (by simp; omega)
  have mn := markNet_is (ns := ns) (ps := qs.map cvP) (by omega) (by simp; omega)
  have hc := cv_size (qs := qs) (m := 1048576) (by omega)
  have hs : ns.length ≤ 4611686018427387904 ∧ ∀ p ∈ qs.map cvP, p.f0.size ≤ 9000000000000000000 := ⟨by omega, fun p hp => by have := hc p hp; omega⟩
  have so : spec_l04Ok_.f ns (qs.map cvP) = some (netOk ns (qs.map cvP)) := by unfold spec_l04Ok_.f; rw [if_pos hs]
  have io : impl_ValidNetwork_.f ns (qs.map cvP) = some (netOk ns (qs.map cvP)) := by unfold impl_ValidNetwork_.f; rw [if_pos hs]
  have hlq : (qs.map cvP).length = qs.length := by simp
  generalize qs.map cvP = ps at *
  have sv : ∀ K, 1000 ≤ K → spec_NetworkTree.f K ns ps = some (treeV ns ps) := by
    intro K hK
    unfold spec_NetworkTree.f treeV
    rw [so, Option.bind_some]
    by_cases h : netOk ns ps = true
    · rw [if_pos h, if_pos h, stree_is (small_of h) (by omega), Option.bind_some]
    · rw [if_neg h, if_neg h]
  have iv : ∀ K, 1000 ≤ K → impl_NetworkTree.f K ns ps = some (treeV ns ps) := by
    intro K hK
    unfold impl_NetworkTree.f treeV
    rw [io, Option.bind_some]
    by_cases h : netOk ns ps = true
    · rw [if_pos h, if_pos h, itree_is (small_of h) hK, Option.bind_some]
    · rw [if_neg h, if_neg h]
  have hl : (treeV ns ps).1.length ≤ 1048576 := by
    unfold treeV
    split
    · have := treeS_length (es := edges ps) (edges ps).length 0 [] (numsU 0 ns.length)
      rw [edges_length] at this
      show (treeS (edges ps) (edges ps).length 0 [] (numsU 0 ns.length)).1.length ≤ _
      rw [edges_length]
      simp at this
      omega
    · simp
  generalize treeV ns ps = R at sv iv hl
  have e1 := eqI_refl hl
  have m1 := markI_is hl
  have h1 := heldI_is hl
  have h0 : ¬ (1 + (ns.length : Int) + 6 * (qs.length : Int) < 0) := by omega
  have h0' : ¬ (1 + (ns.length : Int) + 6 * (ps.length : Int) < 0) := by omega
  have h2 : ¬ (1 + (R.1.length : Int) < 0) := by omega
  simp [tn, en, sv, iv, e1, m1, h1, mn, h0, h0', h2, laws_FnExactNetworkTree.j0, laws_FnExactNetworkTree.j1, laws_FnExactNetworkTree.j2, laws_FnExactNetworkTree.j3, laws_FnExactNetworkTree.j4, laws_FnExactNetworkTree.j5, laws_FnExactNetworkTree.j6, laws_FnExactNetworkTree.j7, laws_FnExactNetworkTree.j8, laws_FnExactNetworkTree.j9]

end Go.Proofs.Ytcgbagdpedpdpaa.Pure
