/- For every network, node and list of closed pipes the program's ReachedWithout answers as the reference's does, leaves its arguments as they are, and hands out memory of its own. No condition. -/
import Derived.Test.YtcgbagdpedpdpaaPFnExactReachedWithoutx11
import Derived.Test.YtcgbagdpedpdpaaMath
import Derived.Test.YtcgbagdpedpdpaaMathR
import Derived.Test.YtcgbagdpedpdpaaMathI
namespace Go.Proofs.Ytcgbagdpedpdpaa.Pure
open Go.RowKit Go.Proofs.Ytcgbagdpedpdpaa.PFnExactReachedWithout Go.Proofs.YtcgbagdpedpdpaaW.PrintWords Go.Proofs.YtcgbagdpedpdpaaW.PrintLast Go.Proofs.YtcgbagdpedpdpaaW.PrintMore Go.Proofs.YtcgbagdpedpdpaaM
set_option linter.unusedSimpArgs false
set_option linter.unusedVariables false
theorem roomOf_ok {a n : Int} (h : ¬ roomOf a n < 0) : n ≤ a ∧ roomOf a n = a - n := by
  unfold roomOf at *
  split at h
  · omega
  · rename_i c; rw [if_neg c]; exact ⟨by omega, rfl⟩
theorem szNet_is (ns : List Int) (qs : List S85) (a : Int) (hn : ns.length ≤ 9223372036854775807) (hq : qs.length ≤ 9223372036854775807) (hx : ∀ p ∈ qs, p.f0.size ≤ 9223372036854775807) (h0 : 0 ≤ a) (h1 : a ≤ 1048576) :
    laws_szNetwork.f ns qs a = some (roomOf a ((ns.length : Int) + ((qs.length : Int) + sizeP qs))) := by
  unfold laws_szNetwork.f laws_szInt64S.f
  have hz := sizeP_nonneg qs
  rw [w64 (x := a - (ns.length : Int)) (by omega) (by omega)]
  by_cases n1 : a - (ns.length : Int) < 0
  · rw [if_pos n1]; simp only [Option.bind_some]; unfold roomOf; rw [if_pos (by omega), if_pos (by omega)]
  · rw [if_neg n1]
    simp only [Option.bind_some]
    have e : laws_szPipeS_.f qs (a - (ns.length : Int)) = some (roomOf (a - (ns.length : Int)) ((qs.length : Int) + sizeP qs)) := by unfold laws_szPipeS_.f; rw [if_pos ⟨⟨by omega, by omega⟩, hq, hx⟩]
    rw [if_neg n1, e]
    simp only [Option.bind_some]
    unfold roomOf
    rw [show a - ((ns.length : Int) + ((qs.length : Int) + sizeP qs)) = a - (ns.length : Int) - ((qs.length : Int) + sizeP qs) by omega]
    by_cases n2 : a - (ns.length : Int) - ((qs.length : Int) + sizeP qs) < 0
    · rw [if_pos n2, if_pos (by omega)]
    · rw [if_neg n2, if_neg n2]
theorem toNet_is {ns : List Int} {qs : List S85} (hn : ns.length ≤ 1048576) (hq : qs.length ≤ 1048576) : laws_toNetwork.f ns qs = some (ns, qs.map cvP) := by
  unfold laws_toNetwork.f laws_toInt64S_.f laws_toPipeS_.f
  rw [if_pos (by omega), if_pos (by omega)]; rfl
theorem eqNet_refl {ns : List Int} {ps : List S60} (hn : ns.length ≤ 1048576) (hq : ps.length ≤ 1048576) : laws_eqNetwork.f ns ps ns ps = some true := by
  unfold laws_eqNetwork.f laws_eqInt64S_.f laws_eqPipeS_.f
  rw [if_pos (by omega), if_pos (by omega)]; simp [pipesEq_refl]
theorem cv_size {qs : List S85} {m : Nat} (h : sizeP qs ≤ (m : Int)) : ∀ p ∈ qs.map cvP, p.f0.size ≤ m := by
  intro p hp
  obtain ⟨q, hq, rfl⟩ := List.mem_map.mp hp
  have := sizeP_elem h q hq
  show q.f0.size ≤ m
  omega
theorem markNet_is {ns : List Int} {ps : List S60} (hn : ns.length ≤ 1048576) (hq : ps.length ≤ 1048576) : laws_markNetwork.f ns ps 1 = some (1 + (ns.length : Int) + 6 * (ps.length : Int), marks 1 ns.length, marksP (1 + (ns.length : Int)) ps.length) := by
  unfold laws_markNetwork.f laws_markInt64S_.f laws_markPipeS_.f
  rw [if_pos ⟨by omega, by omega⟩]
  simp only [Option.bind_some]
  rw [if_pos ⟨by omega, by omega⟩]; rfl
theorem markI_is {l : List Int} (h : l.length ≤ 1048576) : laws_markInt64S_.f l 1 = some (1 + (l.length : Int), marks 1 l.length) := by
  unfold laws_markInt64S_.f; rw [if_pos ⟨by omega, by omega⟩]
theorem heldI_is {n : Nat} (h : n ≤ 1048576) : laws_heldInt64S_.f (marks 1 n) 1 = some (1 + (n : Int)) := by
  unfold laws_heldInt64S_.f; rw [if_pos ⟨by omega, by rw [marks_length]; omega⟩, held_marks]
theorem eqI_refl {l : List Int} (h : l.length ≤ 1048576) : laws_eqInt64S_.f l l = some true := by
  unfold laws_eqInt64S_.f; rw [if_pos (by omega)]; simp
abbrev SP := S60
def edges (ps : List SP) : List (Int × Int) := ps.map fun p => (p.f1, p.f2)
def shutOf (cl : List Int) (i : Nat) : Bool := decide ((i : Int) ∈ cl)
theorem edges_length (ps : List SP) : (edges ps).length = ps.length := by unfold edges; simp
theorem edges_get {ps : List SP} {i : Nat} (h : i < ps.length) : (edges ps).getD i (0, 0) = ((ps.getD i z60).f1, (ps.getD i z60).f2) := by
  unfold edges
  simp [List.getD_eq_getElem?_getD, List.getElem?_map, List.getElem?_eq_getElem h]
theorem ends_of {ns : List Int} {ps : List SP} (h : netOk ns ps = true) : EndsIn (edges ps) ns.length := fun i hi => by
  rw [edges_length] at hi
  have := (netOk_pipe h i hi).2
  rw [edges_get hi]
  exact ⟨this.1, this.2.1⟩
/-- What the walks through a network lean on. -/
structure Small (ns : List Int) (ps : List SP) : Prop where
  n1 : 1 ≤ ns.length
  n16 : ns.length ≤ 16
  p20 : ps.length ≤ 20
  ends : EndsIn (edges ps) ns.length
theorem small_of {ns : List Int} {ps : List SP} (h : netOk ns ps = true) : Small ns ps := ⟨(netOk_parts h).1.1, (netOk_parts h).1.2, (netOk_parts h).2.1, ends_of h⟩
theorem Small.pipe {ns : List Int} {ps : List SP} (h : Small ns ps) {i : Nat} (hi : i < ps.length) : (0 ≤ (ps.getD i z60).f1 ∧ (ps.getD i z60).f1 < ns.length) ∧ (0 ≤ (ps.getD i z60).f2 ∧ (ps.getD i z60).f2 < ns.length) := by
  have := h.ends i (by rw [edges_length]; exact hi)
  rw [edges_get hi] at this
  exact this
theorem shut_nil : shutOf [] = open_ := by funext i; unfold shutOf; simp
theorem rd_nat (l : List Int) (i : Nat) : rd l (i : Int) = l.getD i 0 := by unfold rd; rw [Int.toNat_natCast]
theorem drop_one (l : List Int) (i : Nat) (h : i < l.length) : l.drop i = l.getD i 0 :: l.drop (i + 1) := by
  rw [List.drop_eq_getElem_cons h, List.getD_eq_getElem?_getD, List.getElem?_eq_getElem h]; rfl
theorem w_succ {i : Nat} (h : i ≤ 4611686018427387904) : wrap64 ((i : Int) + 1) = ((i + 1 : Nat) : Int) := by
  rw [w64 (by omega) (by omega)]; push_cast; rfl
theorem index_is (l : List Int) (a : Int) (hl : l.length ≤ 4611686018427387904) : ∀ (d K i : Nat), i + d = l.length → d < K →
    ∃ r, slices_Index_int64_int64.l0 K l a (l.length : Int) (i : Int) = some r ∧ decide (r ≥ 0) = decide (a ∈ l.drop i)
  | d, 0, i, hd, hk => by omega
  | 0, K + 1, i, hd, hk => by
    simp only [slices_Index_int64_int64.l0]
    rw [if_neg (by omega), List.drop_of_length_le (by omega)]
    exact ⟨-1, rfl, by simp⟩
  | d + 1, K + 1, i, hd, hk => by
    simp only [slices_Index_int64_int64.l0]
    rw [if_pos (by omega), if_pos (by omega), if_pos (by omega), rd_nat, drop_one l i (by omega)]
    by_cases c : a = l.getD i 0
    · rw [if_pos c]
      exact ⟨_, rfl, by rw [← c, decide_eq_true (show (i : Int) ≥ 0 by omega), decide_eq_true (List.mem_cons_self)]⟩
    · rw [if_neg c, w_succ (by omega)]
      obtain ⟨r, h1, h2⟩ := index_is l a hl d K (i + 1) (by omega) (by omega)
      exact ⟨r, h1, by rw [h2]; simp only [List.mem_cons, c, false_or]⟩
theorem contains_is (l : List Int) (a : Int) {K : Nat} (hl : l.length ≤ 100) (hk : 100 < K) : slices_Contains_int64_int64.f K l a = some (decide (a ∈ l)) := by
  obtain ⟨r, h1, h2⟩ := index_is l a (by omega) l.length K 0 (by omega) (by omega)
  unfold slices_Contains_int64_int64.f slices_Index_int64_int64.f
  rw [show (0 : Int) = ((0 : Nat) : Int) from rfl, h1]
  simp only [Option.bind_some]
  rw [show ((0 : Nat) : Int) = (0 : Int) from rfl, h2, List.drop_zero]
theorem other_is (s : ByteArray) (a b c d e x : Int) : impl_Pipe_other.f s a b c d e x = some (match oth (a, b) x with | some y => (y, true) | none => (0, false)) := by
  unfold impl_Pipe_other.f oth
  by_cases c1 : x = a
  · rw [if_pos c1, if_pos c1]
  · rw [if_neg c1, if_neg c1]
    by_cases c2 : x = b
    · rw [if_pos c2, if_pos c2]
    · rw [if_neg c2, if_neg c2]
theorem reached_l1 (ns : List Int) (ps : List SP) (cl : List Int) (src x : Int) (kk : Nat) (hkk : kk ≤ 100) (hm : ps.length ≤ 20) (hcl : cl.length ≤ 60) : ∀ (d K i : Nat) (ws : List WayT), i + d = ps.length → d + 110 ≤ K → ws.length + d ≤ 80 → kk < ws.length + 1 → (foundN src ws).getD kk 0 = x →
    impl_Network_reached.l1 K cl (foundN src ws) (kk : Int) ps (ps.length : Int) (i : Int) ns ps = impl_Network_reached.l0 (K - (d + 1)) cl (foundN src (sweep (edges ps) (shutOf cl) src x d i ws)) ((kk + 1 : Nat) : Int) ns ps
  | d, 0, i, ws, hd, hK, _, _, _ => by omega
  | 0, K + 1, i, ws, hd, hK, hw, hk, hx => by
    simp only [impl_Network_reached.l1, sweep]
    rw [if_neg (by omega), w_succ (by omega)]
    rfl
  | d + 1, K + 1, i, ws, hd, hK, hw, hk, hx => by
    simp only [impl_Network_reached.l1, sweep]
    have hlen : ((foundN src ws).length : Int) = (ws.length : Int) + 1 := by simp
    rw [if_pos (by omega), if_pos (by omega), if_pos (by omega), if_pos (by omega), if_pos (by rw [hlen]; omega), rd_nat, hx, rdP_impl, other_is, edges_get (by omega), show K + 1 - (d + 1 + 1) = K - (d + 1) by omega]
    have ih := reached_l1 ns ps cl src x kk hkk hm hcl d K (i + 1)
    rw [Option.bind_some]
    cases ho : oth ((ps.getD i z60).f1, (ps.getD i z60).f2) x with
    | none =>
      simp only [Bool.false_eq_true, if_false]
      rw [w_succ (by omega)]
      exact ih ws (by omega) (by omega) (by omega) hk hx
    | some y =>
      simp only [if_true]
      rw [contains_is cl (i : Int) (by omega) (by omega), Option.bind_some]
      by_cases c1 : (i : Int) ∈ cl
      · rw [if_pos (by simpa using c1), w_succ (by omega), if_neg (fun h => by have := h.1; unfold shutOf at this; simp [c1] at this)]
        exact ih ws (by omega) (by omega) (by omega) hk hx
      · rw [if_neg (by simpa using c1), contains_is (foundN src ws) y (by simp; omega) (by omega), Option.bind_some]
        have hs : shutOf cl i = false := by unfold shutOf; simpa using c1
        by_cases c2 : y ∈ foundN src ws
        · rw [if_pos (by simpa using c2), w_succ (by omega), if_neg (fun h => h.2 c2)]
          exact ih ws (by omega) (by omega) (by omega) hk hx
        · rw [if_neg (by simpa using c2), if_pos (by simp; omega), w_succ (by omega), if_pos ⟨hs, c2⟩, show foundN src ws ++ [y] = foundN src (ws ++ [(y, x, i)]) by simp]
          exact ih (ws ++ [(y, x, i)]) (by omega) (by omega) (by simp; omega) (by simp; omega) (by rw [getD_foundN_append _ _ _ _ hk, hx])
theorem reached_l0 {ns : List Int} {ps : List SP} {cl : List Int} {n : Nat} (hE : EndsIn (edges ps) n) (hn : n ≤ 16) (hm : ps.length ≤ 20) (hcl : cl.length ≤ 60) {src : Int} : ∀ (f K k : Nat) (ws : List WayT), n < f + k → k ≤ ws.length + 1 → FoundW (edges ps) (shutOf cl) n src ws → f * (ps.length + 2) + 200 ≤ K →
    impl_Network_reached.l0 K cl (foundN src ws) (k : Int) ns ps = some ((foundN src (bfs (edges ps) (shutOf cl) src f k ws)).mergeSort fun x y => decide (x ≤ y))
  | 0, K, k, ws, hf, hk, h, hK => by have := found_length h; omega
  | f + 1, 0, k, ws, hf, hk, h, hK => by omega
  | f + 1, K + 1, k, ws, hf, hk, h, hK => by
    have hl := found_length h
    have hlen : ((foundN src ws).length : Int) = (ws.length : Int) + 1 := by simp
    rw [Nat.add_mul, Nat.one_mul] at hK
    simp only [impl_Network_reached.l0, bfs]
    by_cases c : k < ws.length + 1
    · have h1 := reached_l1 ns ps cl src _ k (by omega) hm hcl ps.length K 0 ws (by omega) (by omega) (by omega) c rfl
      rw [show ((0 : Nat) : Int) = (0 : Int) from rfl] at h1
      rw [if_pos (by rw [hlen]; omega), if_pos c, h1]
      obtain ⟨ext, e1, e2, e3⟩ := sweep_spec (shut := shutOf cl) (src := src) hE (edges ps).length 0 ws (by omega) h (getD_mem_foundN c)
      rw [edges_length] at e1 ⊢
      rw [e1]
      exact reached_l0 hE hn hm hcl f (K - (ps.length + 1)) (k + 1) (ws ++ ext) (by omega) (by simp; omega) e2 (by omega)
    · rw [if_neg (by rw [hlen]; omega), if_neg c]
      unfold slices_Sort_int64_int64.f
      rw [if_pos ⟨by simp, by simp; omega⟩, Option.bind_some]
theorem reached_is {ns : List Int} {ps : List SP} {cl : List Int} {src : Int} (h : Small ns ps) (hcl : cl.length ≤ 60) (h0 : 0 ≤ src) (h1 : src < ns.length) {K : Nat} (hK : 600 ≤ K) :
    impl_Network_reached.f K ns ps src cl = some (reachS (edges ps) (shutOf cl) src 17) := by
  unfold impl_Network_reached.f reachS
  rw [show ([src] : List Int) = foundN src [] from rfl, show (0 : Int) = ((0 : Nat) : Int) from rfl]
  have := h.n16; have := h.p20
  exact reached_l0 h.ends h.n16 h.p20 hcl 17 K 0 [] (by omega) (by simp) (found_start h0 h1) (by omega)
theorem has_is (l : List Int) (a : Int) (hl : l.length ≤ 4611686018427387904) : ∀ (d K i : Nat), i + d = l.length → d < K → spec_l00Has.l0 K l a (i : Int) = some (decide (a ∈ l.drop i))
  | d, 0, i, hd, hk => by omega
  | 0, K + 1, i, hd, hk => by
    simp only [spec_l00Has.l0]
    rw [if_neg (by omega), List.drop_of_length_le (by omega)]
    simp
  | d + 1, K + 1, i, hd, hk => by
    simp only [spec_l00Has.l0]
    rw [if_pos (by omega), if_pos (by omega), rd_nat, drop_one l i (by omega)]
    by_cases c : l.getD i 0 = a
    · rw [if_pos c, ← c, decide_eq_true (List.mem_cons_self)]
    · rw [if_neg c, w_succ (by omega), has_is l a hl d K (i + 1) (by omega) (by omega)]
      have : ¬ a = l.getD i 0 := fun h => c h.symm
      simp only [List.mem_cons, this, false_or]
theorem relab_cons (v : Int) (l : List Int) (H L : Int) : relab (v :: l) H L = (if v = H then L else v) :: relab l H L := rfl
theorem set_step (l : List Int) (j : Nat) (h : j < l.length) (v : Int) : (l.set j v).take (j + 1) = l.take j ++ [v] ∧ (l.set j v).drop (j + 1) = l.drop (j + 1) := by
  refine ⟨take_set l j h v, ?_⟩
  rw [List.drop_set_of_lt (by omega)]
theorem sparts_l2 (ns : List Int) (ps : List SP) (cl : List Int) (i lo hi : Int) : ∀ (d K j : Nat) (cur : List Int), j + d = cur.length → cur.length ≤ 100 → d + 100 ≤ K →
    spec_l04Parts.l2 K cl cur i lo hi (j : Int) ns ps = spec_l04Parts.l1 (K - (d + 1)) cl (cur.take j ++ relab (cur.drop j) hi lo) (wrap64 (i + 1)) ns ps
  | d, 0, j, cur, hd, hl, hK => by omega
  | 0, K + 1, j, cur, hd, hl, hK => by
    simp only [spec_l04Parts.l2]
    rw [if_neg (by omega), List.take_of_length_le (by omega), List.drop_of_length_le (by omega)]
    simp [relab]
  | d + 1, K + 1, j, cur, hd, hl, hK => by
    simp only [spec_l04Parts.l2]
    rw [if_pos (by omega), if_pos (by omega), rd_nat, w_succ (by omega), Int.toNat_natCast, show K + 1 - (d + 1 + 1) = K - (d + 1) by omega, drop_one cur j (by omega)]
    have hs := set_step cur j (by omega) lo
    by_cases c : cur.getD j 0 = hi
    · rw [if_pos c, sparts_l2 ns ps cl i lo hi d K (j + 1) _ (by rw [List.length_set]; omega) (by rw [List.length_set]; omega) (by omega), hs.1, hs.2, relab_cons, if_pos c, List.append_assoc, List.singleton_append]
    · rw [if_neg c, sparts_l2 ns ps cl i lo hi d K (j + 1) _ (by omega) (by omega) (by omega)]
      have e : cur.take (j + 1) = cur.take j ++ [cur.getD j 0] := by
        rw [List.take_succ_eq_append_getElem (by omega), List.getD_eq_getElem?_getD, List.getElem?_eq_getElem (by omega)]; rfl
      rw [e, relab_cons, if_neg c, List.append_assoc, List.singleton_append]
theorem sparts_l1 {ns : List Int} {ps : List SP} {cl : List Int} (h : Small ns ps) (hcl : cl.length ≤ 60) : ∀ (d K i : Nat) (out : List Int), i + d = ps.length → out.length = ns.length → d * (ns.length + 3) + 200 ≤ K →
    spec_l04Parts.l1 K cl out (i : Int) ns ps = some (partsS (edges ps) (shutOf cl) d i out)
  | d, 0, i, out, hd, ho, hK => by omega
  | 0, K + 1, i, out, hd, ho, hK => by
    simp only [spec_l04Parts.l1, partsS]
    rw [if_neg (by omega)]
  | d + 1, K + 1, i, out, hd, ho, hK => by
    have h16 := h.n16
    have h20 := h.p20
    have hr := h.pipe (i := i) (by omega)
    rw [Nat.add_mul, Nat.one_mul] at hK
    simp only [spec_l04Parts.l1, partsS]
    rw [if_pos (by omega)]
    unfold spec_l00Has.f
    rw [show (0 : Int) = ((0 : Nat) : Int) from rfl, has_is cl (i : Int) (by omega) cl.length K 0 (by omega) (by omega), Option.bind_some, List.drop_zero]
    by_cases c : (i : Int) ∈ cl
    · rw [if_pos (by simpa using c), if_pos (show shutOf cl i = true by unfold shutOf; simpa using c), w_succ (by omega)]
      exact sparts_l1 h hcl d K (i + 1) out (by omega) ho (by omega)
    · rw [if_neg (by simpa using c), if_neg (show ¬ shutOf cl i = true by unfold shutOf; simpa using c)]
      rw [show ((0 : Nat) : Int) = (0 : Int) from rfl, if_pos (by omega), rdP_impl, if_pos hr.1.1, if_pos (by rw [ho]; exact hr.1.2), if_pos hr.2.1, if_pos (by rw [ho]; exact hr.2.2), edges_get (by omega)]
      unfold spec_l00Min.f spec_l00Max.f
      show Option.bind (if rd out (ps.getD i z60).f1 < rd out (ps.getD i z60).f2 then some (rd out (ps.getD i z60).f1) else some (rd out (ps.getD i z60).f2)) _ = _
      have e1 : (if rd out (ps.getD i z60).f1 < rd out (ps.getD i z60).f2 then some (rd out (ps.getD i z60).f1) else some (rd out (ps.getD i z60).f2)) = some (if lb out (ps.getD i z60).f1 < lb out (ps.getD i z60).f2 then lb out (ps.getD i z60).f1 else lb out (ps.getD i z60).f2) := by
        unfold rd lb; split <;> rfl
      have e2 : (if rd out (ps.getD i z60).f1 > rd out (ps.getD i z60).f2 then some (rd out (ps.getD i z60).f1) else some (rd out (ps.getD i z60).f2)) = some (if lb out (ps.getD i z60).f1 > lb out (ps.getD i z60).f2 then lb out (ps.getD i z60).f1 else lb out (ps.getD i z60).f2) := by
        unfold rd lb; split <;> rfl
      rw [e1, Option.bind_some, e2, Option.bind_some]
      have := sparts_l2 ns ps cl (i : Int) (if lb out (ps.getD i z60).f1 < lb out (ps.getD i z60).f2 then lb out (ps.getD i z60).f1 else lb out (ps.getD i z60).f2) (if lb out (ps.getD i z60).f1 > lb out (ps.getD i z60).f2 then lb out (ps.getD i z60).f1 else lb out (ps.getD i z60).f2) ns.length K 0 out (by omega) (by omega) (by omega)
      rw [show ((0 : Nat) : Int) = (0 : Int) from rfl] at this
      rw [this, List.take_zero, List.nil_append, List.drop_zero, w_succ (by omega)]
      exact sparts_l1 h hcl d (K - (ns.length + 1)) (i + 1) _ (by omega) (by rw [relab_length]; exact ho) (by omega)
theorem sparts_l0 {ns : List Int} {ps : List SP} {cl : List Int} (h : Small ns ps) (hcl : cl.length ≤ 60) : ∀ (d K j : Nat), j + d = ns.length → d + 700 ≤ K →
    spec_l04Parts.l0 K cl (numsU 0 j) (j : Int) ns ps = some (labelsOf (edges ps) (shutOf cl) ns.length)
  | d, 0, j, hd, hK => by omega
  | 0, K + 1, j, hd, hK => by
    have h16 := h.n16
    have h20 := h.p20
    simp only [spec_l04Parts.l0]
    rw [if_neg (by omega), show j = ns.length by omega, show (0 : Int) = ((0 : Nat) : Int) from rfl, sparts_l1 h hcl ps.length K 0 _ (by omega) (numsU_length _ _) (by
      have : ps.length * (ns.length + 3) ≤ 20 * 19 := Nat.mul_le_mul h20 (by omega)
      omega)]
    unfold labelsOf
    rw [edges_length]
    rfl
  | d + 1, K + 1, j, hd, hK => by
    have h16 := h.n16
    have h20 := h.p20
    simp only [spec_l04Parts.l0]
    rw [if_pos (by omega), if_pos (by rw [numsU_length]; omega), w_succ (by omega), show numsU 0 j ++ [(j : Int)] = numsU 0 (j + 1) by rw [numsU_snoc, Int.zero_add]]
    exact sparts_l0 h hcl d K (j + 1) (by omega) (by omega)
theorem sparts_is {ns : List Int} {ps : List SP} {cl : List Int} (h : Small ns ps) (hcl : cl.length ≤ 60) {K : Nat} (hK : 800 ≤ K) : spec_l04Parts.f K ns ps cl = some (labelsOf (edges ps) (shutOf cl) ns.length) := by
  have h16 := h.n16
  unfold spec_l04Parts.f
  exact sparts_l0 h hcl ns.length K 0 (by omega) (by omega)
/-- Rising numbers from lo to hi. -/
def Rises (l : List Int) (lo hi : Int) : Prop := (∀ i : Nat, i < l.length → lo ≤ l.getD i 0 ∧ l.getD i 0 ≤ hi) ∧ ∀ i : Nat, 0 < i → i < l.length → l.getD (i - 1) 0 < l.getD i 0
theorem w_pred {i : Nat} (h0 : 0 < i) (h : i ≤ 4611686018427387904) : wrap64 ((i : Int) - 1) = ((i - 1 : Nat) : Int) := by
  rw [w64 (by omega) (by omega)]; omega
theorem srises_l0 (l : List Int) (lo hi : Int) (hl : l.length ≤ 1048576) : ∀ (d K i : Nat), i + d = l.length → d < K →
    ∃ b, spec_l00Rises.l0 K l lo hi (i : Int) = some b ∧ (b = true ↔ (∀ j : Nat, i ≤ j → j < l.length → lo ≤ l.getD j 0 ∧ l.getD j 0 ≤ hi) ∧ ∀ j : Nat, i ≤ j → 0 < j → j < l.length → l.getD (j - 1) 0 < l.getD j 0)
  | d, 0, i, hd, hK => by omega
  | 0, K + 1, i, hd, hK => by
    simp only [spec_l00Rises.l0]
    rw [if_neg (by omega)]
    exact ⟨true, rfl, fun _ => ⟨fun j h1 h2 => by omega, fun j h1 _ h2 => by omega⟩, fun _ => rfl⟩
  | d + 1, K + 1, i, hd, hK => by
    simp only [spec_l00Rises.l0]
    obtain ⟨b, hb, hi'⟩ := srises_l0 l lo hi hl d K (i + 1) (by omega) (by omega)
    rw [if_pos (by omega), if_pos (by omega), rd_nat]
    unfold spec_l00In_.f
    rw [Option.bind_some]
    by_cases c : lo ≤ l.getD i 0 ∧ l.getD i 0 ≤ hi
    · rw [if_pos (by simpa using c)]
      by_cases c0 : 0 < i
      · rw [if_pos (by omega), w_pred c0 (by omega), if_pos (by omega), if_pos (by omega), rd_nat]
        by_cases c1 : l.getD (i - 1) 0 < l.getD i 0
        · rw [if_neg (by omega), w_succ (by omega)]
          refine ⟨b, hb, hi'.trans ⟨fun h => ⟨fun j h1 h2 => ?_, fun j h1 h2 h3 => ?_⟩, fun h => ⟨fun j h1 h2 => h.1 j (by omega) h2, fun j h1 h2 h3 => h.2 j (by omega) h2 h3⟩⟩⟩
          · by_cases e : j = i
            · rw [e]; exact c
            · exact h.1 j (by omega) h2
          · by_cases e : j = i
            · rw [e]; exact c1
            · exact h.2 j (by omega) h2 h3
        · rw [if_pos (by omega)]
          exact ⟨false, rfl, fun h => by simp at h, fun h => absurd (h.2 i (Nat.le_refl _) c0 (by omega)) c1⟩
      · rw [if_neg (by omega), w_succ (by omega)]
        refine ⟨b, hb, hi'.trans ⟨fun h => ⟨fun j h1 h2 => ?_, fun j h1 h2 h3 => h.2 j (by omega) h2 h3⟩, fun h => ⟨fun j h1 h2 => h.1 j (by omega) h2, fun j h1 h2 h3 => h.2 j (by omega) h2 h3⟩⟩⟩
        by_cases e : j = i
        · rw [e]; exact c
        · exact h.1 j (by omega) h2
    · rw [if_neg (by simpa using c)]
      exact ⟨false, rfl, fun h => by simp at h, fun h => absurd (h.1 i (Nat.le_refl _) (by omega)) c⟩
theorem srises_is (l : List Int) (lo hi : Int) (hl : l.length ≤ 1048576) {K : Nat} (hK : l.length < K) : ∃ b, spec_l00Rises.f K l lo hi = some b ∧ (b = true ↔ Rises l lo hi) := by
  obtain ⟨b, hb, hi'⟩ := srises_l0 l lo hi hl l.length K 0 (by omega) (by omega)
  exact ⟨b, hb, hi'.trans ⟨fun h => ⟨fun i h1 => h.1 i (by omega) h1, fun i h0 h1 => h.2 i (by omega) h0 h1⟩, fun h => ⟨fun j _ h2 => h.1 j h2, fun j _ h2 h3 => h.2 j h2 h3⟩⟩⟩
theorem incr_l0 (l : List Int) (hl : l.length ≤ 1048576) : ∀ (d K i : Nat), l.length ≤ i + d → 0 < i → d < K →
    ∃ b, impl_increasing.l0 K l (i : Int) = some b ∧ (b = true ↔ ∀ j : Nat, i ≤ j → j < l.length → l.getD (j - 1) 0 < l.getD j 0)
  | d, 0, i, hd, h0, hK => by omega
  | 0, K + 1, i, hd, h0, hK => by
    simp only [impl_increasing.l0]
    rw [if_neg (by omega)]
    exact ⟨true, rfl, fun _ j h1 h2 => by omega, fun _ => rfl⟩
  | d + 1, K + 1, i, hd, h0, hK => by
    simp only [impl_increasing.l0]
    by_cases g : i < l.length
    · obtain ⟨b, hb, hi'⟩ := incr_l0 l hl d K (i + 1) (by omega) (by omega) (by omega)
      rw [if_pos (by omega), if_pos (by omega), w_pred h0 (by omega), if_pos (by omega), if_pos (by omega), rd_nat, rd_nat]
      by_cases c1 : l.getD (i - 1) 0 < l.getD i 0
      · rw [if_neg (by omega), w_succ (by omega)]
        refine ⟨b, hb, hi'.trans ⟨fun h j h1 h2 => ?_, fun h j h1 h2 => h j (by omega) h2⟩⟩
        by_cases e : j = i
        · rw [e]; exact c1
        · exact h j (by omega) h2
      · rw [if_pos (by omega)]
        exact ⟨false, rfl, fun h => by simp at h, fun h => absurd (h i (Nat.le_refl _) g) c1⟩
    · rw [if_neg (by omega)]
      exact ⟨true, rfl, fun _ j h1 h2 => by omega, fun _ => rfl⟩
theorem rises_pair {l : List Int} {lo hi : Int} (h : Rises l lo hi) : ∀ d i : Nat, 0 < d → i + d < l.length → l.getD i 0 < l.getD (i + d) 0
  | 0, i, h0, _ => by omega
  | d + 1, i, _, hd => by
    have h1 := h.2 (i + (d + 1)) (by omega) hd
    rw [show i + (d + 1) - 1 = i + d by omega] at h1
    by_cases c : d = 0
    · subst c; exact h1
    · have := rises_pair h d i (by omega) (by omega); omega
theorem rises_length {l : List Int} {n : Nat} (h : Rises l 0 ((n : Int) - 1)) : l.length ≤ n := by
  refine nodup_length n l ?_ fun y hy => ?_
  · refine List.pairwise_iff_getElem.2 fun i j hi hj hij => ?_
    have := rises_pair h (j - i) i (by omega) (by omega)
    rw [show i + (j - i) = j by omega] at this
    simp only [List.getD_eq_getElem?_getD, List.getElem?_eq_getElem hi, List.getElem?_eq_getElem hj, Option.getD_some] at this
    omega
  · obtain ⟨i, hi, rfl⟩ := List.mem_iff_getElem.1 hy
    have := h.1 i hi
    simp only [List.getD_eq_getElem?_getD, List.getElem?_eq_getElem hi, Option.getD_some] at this
    omega
theorem ihas_is (ns : List Int) (ps : List SP) (l : List Int) (hl : l.length ≤ 1048576) (hm : ps.length ≤ 1048576) {K : Nat} (hK : l.length < K) : ∃ b, impl_Network_hasPipes.f K ns ps l = some b ∧ (b = true ↔ Rises l 0 ((ps.length : Int) - 1)) := by
  obtain ⟨b, hb, hi⟩ := incr_l0 l hl l.length K 1 (by omega) (by omega) hK
  unfold impl_Network_hasPipes.f impl_increasing.f impl_allWithin.f
  rw [show (1 : Int) = ((1 : Nat) : Int) from rfl, hb, Option.bind_some, w64 (x := (ps.length : Int) - ((1 : Nat) : Int)) (by omega) (by omega)]
  have ha : allIn 0 ((ps.length : Int) - ((1 : Nat) : Int)) l = true ↔ ∀ i : Nat, i < l.length → 0 ≤ l.getD i 0 ∧ l.getD i 0 ≤ (ps.length : Int) - 1 := by
    unfold allIn
    rw [List.all_eq_true]
    constructor
    · intro h i h1
      have := h (l[i]) (List.getElem_mem h1)
      simp only [decide_eq_true_eq] at this
      simp only [List.getD_eq_getElem?_getD, List.getElem?_eq_getElem h1, Option.getD_some]
      exact this
    · intro h x hx
      obtain ⟨i, h1, rfl⟩ := List.mem_iff_getElem.1 hx
      have := h i h1
      simp only [List.getD_eq_getElem?_getD, List.getElem?_eq_getElem h1, Option.getD_some] at this
      simpa using this
  by_cases c : b = true
  · rw [if_pos c, if_pos (by omega), Option.bind_some]
    exact ⟨_, rfl, ha.trans ⟨fun h => ⟨h, fun i h0 h1 => hi.1 c i (by omega) h1⟩, fun h => h.1⟩⟩
  · rw [if_neg c]
    exact ⟨false, rfl, fun h => by simp at h, fun h => absurd (hi.2 fun j h0 h1 => h.2 j (by omega) h1) c⟩
/-- What both sides say of a list of closed pipes. -/
theorem closed_both (ns : List Int) (ps : List SP) (l : List Int) (hl : l.length ≤ 1048576) (hm : ps.length ≤ 1048576) : ∃ b : Bool, (b = true ↔ Rises l 0 ((ps.length : Int) - 1)) ∧ ∀ K, l.length < K → spec_l04Closed.f K ns ps l = some b ∧ impl_Network_hasPipes.f K ns ps l = some b := by
  obtain ⟨b, _, hb⟩ := srises_is l 0 ((ps.length : Int) - 1) hl (Nat.lt_succ_self l.length)
  refine ⟨b, hb, fun K hK => ⟨?_, ?_⟩⟩
  · obtain ⟨b', h', hb'⟩ := srises_is l 0 ((ps.length : Int) - 1) hl hK
    unfold spec_l04Closed.f
    rw [w64 (x := (ps.length : Int) - 1) (by omega) (by omega), h', Option.bind_some, Bool.eq_iff_iff.2 (hb'.trans hb.symm)]
  · obtain ⟨b', h', hb'⟩ := ihas_is ns ps l hl hm hK
    rw [h', Bool.eq_iff_iff.2 (hb'.trans hb.symm)]
theorem sreach_l0 (L : List Int) (x : Int) (h0 : 0 ≤ x) (h1 : x < L.length) (hL : L.length ≤ 100) : ∀ (d K j : Nat) (acc : List Int), j + d = L.length → d < K → acc.length ≤ j →
    spec_ReachedWithout.l0 K x L acc (j : Int) = some (acc ++ (numsU (j : Int) d).filter (fun y => decide (lb L y = lb L x)), 0)
  | d, 0, j, acc, hd, hK, ha => by omega
  | 0, K + 1, j, acc, hd, hK, ha => by
    simp only [spec_ReachedWithout.l0]
    rw [if_neg (by omega), show numsU (j : Int) 0 = [] from rfl, List.filter_nil, List.append_nil]
  | d + 1, K + 1, j, acc, hd, hK, ha => by
    simp only [spec_ReachedWithout.l0]
    rw [if_pos (by omega), if_pos (by omega), if_pos h0, if_pos h1, w_succ (by omega)]
    by_cases c : lb L (j : Int) = lb L x
    · rw [if_pos (show rd L _ = rd L _ from c), if_pos (by omega), sreach_l0 L x h0 h1 hL d K (j + 1) _ (by omega) (by omega) (by rw [List.length_append, List.length_singleton]; omega), numsU, List.filter_cons_of_pos (by simpa using c), List.append_assoc]
      rfl
    · rw [if_neg (show ¬ rd L _ = rd L _ from c), sreach_l0 L x h0 h1 hL d K (j + 1) _ (by omega) (by omega) (by omega), numsU, List.filter_cons_of_neg (by simpa using c)]
      rfl
def reachV (ns : List Int) (ps : List SP) (x : Int) (l : List Int) (b : Bool) : List Int × Int := if netOk ns ps = true then (if 0 ≤ x ∧ x ≤ (ns.length : Int) - 1 then (if b = true then (reachS (edges ps) (shutOf l) x 17, 0) else ([], 2)) else ([], 2)) else ([], 1)
theorem FnExactReachedWithout : ∀ (l0_0 : List (Int)) (l0_1 : List (S85)) (a1 : Int) (l2 : List (Int)), (l0_0.length ≤ 9223372036854775807) → (∀ p ∈ l0_0, (Lit.int .i64 p).wf = true) → (l0_1.length ≤ 9223372036854775807) → (∀ p ∈ l0_1, p.f0.size ≤ 9223372036854775807 ∧ (Lit.int .i64 p.f1).wf = true ∧ (Lit.int .i64 p.f2).wf = true ∧ (Lit.int .i64 p.f3).wf = true ∧ (Lit.int .i64 p.f4).wf = true ∧ (Lit.int .i64 p.f5).wf = true) → ((Lit.int .i64 a1).wf = true) → (l2.length ≤ 9223372036854775807) → (∀ p ∈ l2, (Lit.int .i64 p).wf = true) → ∃ k, laws_FnExactReachedWithout.f k l0_0 l0_1 a1 l2 = some true := by
  intro ns qs x l hn hw hq hx hwx hl0 hwl
  have hxs : ∀ p ∈ qs, p.f0.size ≤ 9223372036854775807 := fun p hp => (hx p hp).1
  have hz := sizeP_nonneg qs
  refine ⟨l.length + 1100, ?_⟩
  unfold laws_FnExactReachedWithout.f
  by_cases n0 : (l.length : Int) > 1048576
  · rw [if_pos n0]
  rw [if_neg n0]
  simp only [laws_FnExactReachedWithout.j0]
  rw [szNet_is ns qs 1048576 hn hq hxs (by omega) (by omega)]
  simp only [Option.bind_some]
  by_cases n1 : roomOf 1048576 ((ns.length : Int) + ((qs.length : Int) + sizeP qs)) < 0
  · rw [if_pos n1]
  rw [if_neg n1]
  have b1 := roomOf_ok n1
  have tn : laws_toNetwork.f ns qs = some (ns, qs.map cvP) := toNet_is (by omega) (by omega)
  have en : laws_eqNetwork.f ns (qs.map cvP) ns (qs.map cvP) = some true := eqNet_refl (by omega) (by simp; omega)
  have mn := markNet_is (ns := ns) (ps := qs.map cvP) (by omega) (by simp; omega)
  have hc := cv_size (qs := qs) (m := 1048576) (by omega)
  have hs : ns.length ≤ 4611686018427387904 ∧ ∀ p ∈ qs.map cvP, p.f0.size ≤ 9000000000000000000 := ⟨by omega, fun p hp => by have := hc p hp; omega⟩
  have so : spec_l04Ok_.f ns (qs.map cvP) = some (netOk ns (qs.map cvP)) := by unfold spec_l04Ok_.f; rw [if_pos hs]
  have io : impl_ValidNetwork_.f ns (qs.map cvP) = some (netOk ns (qs.map cvP)) := by unfold impl_ValidNetwork_.f; rw [if_pos hs]
  have hlq : (qs.map cvP).length = qs.length := by simp
  generalize qs.map cvP = ps at *
  obtain ⟨b, hb, hcl⟩ := closed_both ns ps l (by omega) (by omega)
  have sn : spec_l04Node_.f ns ps x = some (decide (0 ≤ x ∧ x ≤ (ns.length : Int) - 1)) := by unfold spec_l04Node_.f; rw [if_pos hs.1]
  have ih : impl_Network_hasNode_.f ns ps x = some (decide (0 ≤ x ∧ x ≤ (ns.length : Int) - 1)) := by unfold impl_Network_hasNode_.f; rw [if_pos hs.1]
  have sv : ∀ K, l.length + 1000 ≤ K → spec_ReachedWithout.f K ns ps x l = some (reachV ns ps x l b) := by
    intro K hK
    obtain ⟨K, rfl⟩ : ∃ m, K = m + 1 := ⟨K - 1, by omega⟩
    unfold spec_ReachedWithout.f reachV
    rw [so, Option.bind_some, sn, (hcl (K + 1) (by omega)).1, Option.bind_some, Option.bind_some]
    simp only [spec_ReachedWithout.j0]
    by_cases h : netOk ns ps = true
    · rw [if_pos h, if_pos h]
      by_cases g : 0 ≤ x ∧ x ≤ (ns.length : Int) - 1
      · rw [if_pos (by simpa using g), if_pos g]
        by_cases c : b = true
        · have hS := small_of h
          have hR := hb.1 c
          have h20 := rises_length hR
          have hp := hS.p20
          have hLl := (labels_lab (shut := shutOf l) hS.ends).1.len
          rw [c, if_neg (by simp), if_pos rfl, sparts_is hS (by omega) (by omega), Option.bind_some, show (0 : Int) = ((0 : Nat) : Int) from rfl, sreach_l0 _ x g.1 (by rw [hLl]; omega) (by rw [hLl]; have := hS.n16; omega) ns.length K 0 [] (by rw [hLl]; omega) (by have := hS.n16; omega) (by simp), List.nil_append]
          have := reachS_filter (es := edges ps) (shut := shutOf l) (n := ns.length) (f := 17) (src := x) hS.ends g.1 (by omega) (by have := hS.n16; omega)
          rw [show (((0 : Nat) : Int)) = (0 : Int) from rfl, this]
        · rw [Bool.eq_false_iff.2 c, if_pos (by simp), if_neg (by simp)]
      · rw [if_neg (by simpa using g), if_neg g, if_pos trivial]
    · rw [if_neg h, if_neg h]
  have iv : ∀ K, l.length + 1000 ≤ K → impl_ReachedWithout.f K ns ps x l = some (reachV ns ps x l b) := by
    intro K hK
    unfold impl_ReachedWithout.f reachV
    rw [io, Option.bind_some, ih, (hcl K (by omega)).2, Option.bind_some, Option.bind_some]
    by_cases h : netOk ns ps = true
    · rw [if_pos h, if_pos h]
      by_cases g : 0 ≤ x ∧ x ≤ (ns.length : Int) - 1
      · rw [if_pos (by simpa using g), if_pos g]
        by_cases c : b = true
        · have hS := small_of h
          have h20 := rises_length (hb.1 c)
          have hp := hS.p20
          rw [if_pos c, if_pos c, reached_is hS (by omega) g.1 (by omega) (by omega), Option.bind_some]
        · rw [if_neg c, if_neg c]
      · rw [if_neg (by simpa using g), if_neg g]
    · rw [if_neg h, if_neg h]
  have hl : (reachV ns ps x l b).1.length ≤ 1048576 := by
    unfold reachV
    split
    · rename_i h
      split
      · rename_i g
        split
        · have hS := small_of h
          have := found_length (bfs_all (es := edges ps) (shut := shutOf l) (n := ns.length) (src := x) (f := 17) hS.ends g.1 (by omega) (by have := hS.n16; omega)).1
          show (reachS (edges ps) (shutOf l) x 17).length ≤ _
          rw [reachS_length]
          have := hS.n16
          omega
        · simp
      · simp
    · simp
  have tl : laws_toInt64S_.f l = some l := by unfold laws_toInt64S_.f; rw [if_pos (by omega)]
  have el := eqI_refl (l := l) (by omega)
  have ml : laws_markInt64S_.f l (1 + (ns.length : Int) + 6 * (ps.length : Int)) = some (1 + (ns.length : Int) + 6 * (ps.length : Int) + (l.length : Int), marks (1 + (ns.length : Int) + 6 * (ps.length : Int)) l.length) := by
    unfold laws_markInt64S_.f; rw [if_pos ⟨by omega, by omega⟩]
  generalize reachV ns ps x l b = R at sv iv hl
  have e1 := eqI_refl hl
  have m1 := markI_is hl
  have h1 := heldI_is hl
  have h0 : ¬ (1 + (ns.length : Int) + 6 * (qs.length : Int) < 0) := by omega
  have h0' : ¬ (1 + (ns.length : Int) + 6 * (ps.length : Int) < 0) := by omega
  have h3 : ¬ (1 + (ns.length : Int) + 6 * (ps.length : Int) + (l.length : Int) < 0) := by omega
  have h2 : ¬ (1 + (R.1.length : Int) < 0) := by omega
  simp [tn, en, sv, iv, e1, m1, h1, mn, tl, el, ml, h3, h0, h0', h2, laws_FnExactReachedWithout.j0, laws_FnExactReachedWithout.j1, laws_FnExactReachedWithout.j2, laws_FnExactReachedWithout.j3, laws_FnExactReachedWithout.j4, laws_FnExactReachedWithout.j5, laws_FnExactReachedWithout.j6, laws_FnExactReachedWithout.j7, laws_FnExactReachedWithout.j8, laws_FnExactReachedWithout.j9, laws_FnExactReachedWithout.j10, laws_FnExactReachedWithout.j11]

end Go.Proofs.Ytcgbagdpedpdpaa.Pure
