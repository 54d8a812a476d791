/- For every network and name the program's DropPipe answers as the reference's DropPipe does, leaves the network as it is, and hands out memory of its own. No condition. -/
import Derived.Test.YtjeahkaghadldaaPFnExactDropPipex11
import Derived.Test.YtjeahkaghadldaaMath
import Derived.Test.YtjeahkaghadldaaMathR
namespace Go.Proofs.Ytjeahkaghadldaa.Pure
open Go.RowKit Go.Proofs.Ytjeahkaghadldaa.PFnExactDropPipe Go.Proofs.YtjeahkaghadldaaW.PrintWords Go.Proofs.YtjeahkaghadldaaW.PrintLast Go.Proofs.YtjeahkaghadldaaW.PrintMore Go.Proofs.YtjeahkaghadldaaM
set_option linter.unusedSimpArgs false
set_option linter.unusedVariables false
theorem roomOf_ok {a n : Int} (h : ¬ roomOf a n < 0) : n ≤ a ∧ roomOf a n = a - n := by
  unfold roomOf at *
  split at h
  · omega
  · rename_i c; rw [if_neg c]; exact ⟨by omega, rfl⟩
theorem szNet_is (ns : List Int) (qs : List S52) (a : Int) (hn : ns.length ≤ 9223372036854775807) (hq : qs.length ≤ 9223372036854775807) (hx : ∀ p ∈ qs, p.f0.size ≤ 9223372036854775807) (h0 : 0 ≤ a) (h1 : a ≤ 1048576) :
    laws_szNetwork.f ns qs a = some (roomOf a ((ns.length : Int) + ((qs.length : Int) + sizeP qs))) := by
  unfold laws_szNetwork.f laws_szInt64S.f
  have hz := sizeP_nonneg qs
  rw [w64 (x := a - (ns.length : Int)) (by omega) (by omega)]
  by_cases n1 : a - (ns.length : Int) < 0
  · rw [if_pos n1]; simp only [Option.bind_some]; unfold roomOf; rw [if_pos (by omega), if_pos (by omega)]
  · rw [if_neg n1]
    simp only [Option.bind_some]
    have e : laws_szPipeS_.f qs (a - (ns.length : Int)) = some (roomOf (a - (ns.length : Int)) ((qs.length : Int) + sizeP qs)) := by unfold laws_szPipeS_.f; rw [if_pos ⟨⟨by omega, by omega⟩, hq, hx⟩]
    rw [if_neg n1, e]
    simp only [Option.bind_some]
    unfold roomOf
    rw [show a - ((ns.length : Int) + ((qs.length : Int) + sizeP qs)) = a - (ns.length : Int) - ((qs.length : Int) + sizeP qs) by omega]
    by_cases n2 : a - (ns.length : Int) - ((qs.length : Int) + sizeP qs) < 0
    · rw [if_pos n2, if_pos (by omega)]
    · rw [if_neg n2, if_neg n2]
theorem toNet_is {ns : List Int} {qs : List S52} (hn : ns.length ≤ 1048576) (hq : qs.length ≤ 1048576) : laws_toNetwork.f ns qs = some (ns, qs.map cvP) := by
  unfold laws_toNetwork.f laws_toInt64S_.f laws_toPipeS_.f
  rw [if_pos (by omega), if_pos (by omega)]; rfl
theorem eqNet_refl {ns : List Int} {ps : List S42} (hn : ns.length ≤ 1048576) (hq : ps.length ≤ 1048576) : laws_eqNetwork.f ns ps ns ps = some true := by
  unfold laws_eqNetwork.f laws_eqInt64S_.f laws_eqPipeS_.f
  rw [if_pos (by omega), if_pos (by omega)]; simp [pipesEq_refl]
theorem cv_size {qs : List S52} {m : Nat} (h : sizeP qs ≤ (m : Int)) : ∀ p ∈ qs.map cvP, p.f0.size ≤ m := by
  intro p hp
  obtain ⟨q, hq, rfl⟩ := List.mem_map.mp hp
  have := sizeP_elem h q hq
  show q.f0.size ≤ m
  omega
theorem markNet_is {ns : List Int} {ps : List S42} (hn : ns.length ≤ 1048576) (hq : ps.length ≤ 1048576) : laws_markNetwork.f ns ps 1 = some (1 + (ns.length : Int) + 6 * (ps.length : Int), marks 1 ns.length, marksP (1 + (ns.length : Int)) ps.length) := by
  unfold laws_markNetwork.f laws_markInt64S_.f laws_markPipeS_.f
  rw [if_pos ⟨by omega, by omega⟩]
  simp only [Option.bind_some]
  rw [if_pos ⟨by omega, by omega⟩]; rfl
theorem markI_is {l : List Int} (h : l.length ≤ 1048576) : laws_markInt64S_.f l 1 = some (1 + (l.length : Int), marks 1 l.length) := by
  unfold laws_markInt64S_.f; rw [if_pos ⟨by omega, by omega⟩]
theorem heldI_is {n : Nat} (h : n ≤ 1048576) : laws_heldInt64S_.f (marks 1 n) 1 = some (1 + (n : Int)) := by
  unfold laws_heldInt64S_.f; rw [if_pos ⟨by omega, by rw [marks_length]; omega⟩, held_marks]
theorem eqI_refl {l : List Int} (h : l.length ≤ 1048576) : laws_eqInt64S_.f l l = some true := by
  unfold laws_eqInt64S_.f; rw [if_pos (by omega)]; simp
theorem heldNet_is {n m : Nat} (hn : n ≤ 1048576) (hm : m ≤ 1048576) : laws_heldNetwork.f (marks 1 n) (marksP (1 + (n : Int)) m) 1 = some (1 + (n : Int) + 6 * (m : Int)) := by
  have h1 := heldI_is hn
  have h2 : laws_heldPipeS_.f (marksP (1 + (n : Int)) m) (1 + (n : Int)) = some (1 + (n : Int) + 6 * (m : Int)) := by unfold laws_heldPipeS_.f; rw [if_pos ⟨by omega, by rw [marksP_length]; omega⟩, held_marksP]
  have c1 : ¬ (1 + (n : Int) < 0) := by omega
  have c2 : ¬ (1 + (n : Int) + 6 * (m : Int) < 0) := by omega
  unfold laws_heldNetwork.f
  simp [h1, h2, c1, c2]
def keeps (id : ByteArray) (p : S42) : Bool := !(p.f0.toList == id.toList)
def dropR (ns : List Int) (ps : List S42) (id : ByteArray) : List Int × List S42 × Int := if (ps.filter (keeps id)).length = ps.length then ([], [], 3) else (ns, ps.filter (keeps id), 0)
def dropI (ns : List Int) (ps : List S42) (id : ByteArray) : List Int × List S42 × Int := if netOk ns ps = true then dropR ns ps id else ([], [], 1)
theorem drop_step (ps : List S42) (i : Nat) (h : i < ps.length) : ps.drop i = ps.getD i z42 :: ps.drop (i + 1) := by
  rw [List.drop_eq_getElem_cons h, List.getD_eq_getElem?_getD, List.getElem?_eq_getElem h]; rfl
theorem sdrop_loop (id : ByteArray) (ns : List Int) (ps : List S42) (hl : ps.length ≤ 1048576) : ∀ (d k i : Nat) (out : List S42), i ≤ ps.length → ps.length - i = d → d < k → out.length ≤ i →
    spec_DropPipe.l0 k id (i : Int) ns ps ns out = some (if (out ++ (ps.drop i).filter (keeps id)).length = ps.length then ([], [], 3) else (ns, out ++ (ps.drop i).filter (keeps id), 0)) := by
  intro d
  induction d with
  | zero =>
    intro k i out h1 hd hk ho
    obtain ⟨k, rfl⟩ : ∃ m, k = m + 1 := ⟨k - 1, by omega⟩
    simp only [spec_DropPipe.l0]
    rw [if_neg (by omega), List.drop_of_length_le (by omega), List.filter_nil, List.append_nil]
    by_cases c : out.length = ps.length
    · rw [if_pos (by omega), if_pos c]
    · rw [if_neg (by omega), if_neg c]
  | succ d ih =>
    intro k i out h1 hd hk ho
    obtain ⟨k, rfl⟩ : ∃ m, k = m + 1 := ⟨k - 1, by omega⟩
    have e := drop_step ps i (by omega)
    simp only [spec_DropPipe.l0]
    rw [if_pos (by omega), if_pos (by omega), rdP_impl, w64 (x := (i : Int) + 1) (by omega) (by omega), show (i : Int) + 1 = ((i + 1 : Nat) : Int) by omega, e]
    by_cases c : (ps.getD i z42).f0.toList = id.toList
    · have hf : keeps id (ps.getD i z42) = false := by unfold keeps; rw [c]; simp
      rw [if_pos c, ih k (i + 1) out (by omega) (by omega) (by omega) (by omega), List.filter_cons_of_neg (by rw [hf]; simp)]
    · have hf : keeps id (ps.getD i z42) = true := by unfold keeps; rw [beq_eq_false_iff_ne.mpr c]; rfl
      rw [if_neg c, if_pos (by omega)]
      show spec_DropPipe.l0 k id ((i + 1 : Nat) : Int) ns ps ns (out ++ [ps.getD i z42]) = _
      rw [ih k (i + 1) _ (by omega) (by omega) (by omega) (by rw [List.length_append]; show out.length + 1 ≤ i + 1; omega), List.filter_cons_of_pos hf, List.append_assoc, List.singleton_append]
theorem names_rise {ns : List Int} {ps : List S42} (h : netOk ns ps = true) : ∀ (d i : Nat), 0 < d → i + d < ps.length → Op.bytesLess (ps.getD i z42).f0.toList (ps.getD (i + d) z42).f0.toList = true := by
  have hs : ∀ j, 0 < j → j < ps.length → Op.bytesLess (ps.getD (j - 1) z42).f0.toList (ps.getD j z42).f0.toList = true := by
    intro j h0 hj
    have := (netOk_parts h).2.2.1 j hj
    unfold stepOk at this
    simp only [Bool.and_eq_true, Bool.or_eq_true, decide_eq_true_eq] at this
    rcases this.2 with e | e
    · omega
    · exact e
  intro d
  induction d with
  | zero => intro i h0; omega
  | succ d ih =>
    intro i _ hd
    have h1 := hs (i + (d + 1)) (by omega) hd
    rw [show i + (d + 1) - 1 = i + d by omega] at h1
    by_cases c : d = 0
    · subst c; exact h1
    · exact bytes_trans _ _ _ (ih i (by omega) (by omega)) h1
theorem names_apart {ns : List Int} {ps : List S42} (h : netOk ns ps = true) {i j : Nat} (hi : i < ps.length) (hj : j < ps.length) (hn : i ≠ j) : (ps.getD i z42).f0.toList ≠ (ps.getD j z42).f0.toList := by
  intro e
  by_cases c : i < j
  · have := names_rise h (j - i) i (by omega) (by omega)
    rw [show i + (j - i) = j by omega, e, bytes_irrefl] at this
    exact absurd this (by simp)
  · have := names_rise h (i - j) j (by omega) (by omega)
    rw [show j + (i - j) = i by omega, e, bytes_irrefl] at this
    exact absurd this (by simp)
theorem drop_of {ns : List Int} {ps : List S42} (h : netOk ns ps = true) (id : ByteArray) : (namedIdx ps id = -1 ∧ ps.filter (keeps id) = ps) ∨ ∃ j : Nat, j < ps.length ∧ namedIdx ps id = (j : Int) ∧ ps.filter (keeps id) = ps.take j ++ ps.drop (j + 1) := by
  by_cases c : ∃ j, j < ps.length ∧ (ps.getD j z42).f0.toList = id.toList
  · obtain ⟨j, hj, he⟩ := c
    have hne : ∀ i, i < ps.length → i ≠ j → keeps id (ps.getD i z42) = true := fun i hi hn => by
      have := names_apart h hi hj hn
      rw [he] at this
      unfold keeps; rw [beq_eq_false_iff_ne.mpr this]; rfl
    refine .inr ⟨j, hj, idx_at _ ps j hj (fun i hi => by have := hne i (by omega) (by omega); unfold keeps at this; simpa using this) (by simpa using he), ?_⟩
    have e := drop_step ps j hj
    have hf : keeps id (ps.getD j z42) = false := by unfold keeps; rw [he]; simp
    have mem : ∀ (i : Nat) (hi : i < ps.length), ps[i] = ps.getD i z42 := fun i hi => by rw [List.getD_eq_getElem?_getD, List.getElem?_eq_getElem hi]; rfl
    rw [show ps.filter (keeps id) = (ps.take j ++ ps.drop j).filter (keeps id) by rw [List.take_append_drop], e, List.filter_append, List.filter_cons_of_neg (by rw [hf]; simp)]
    congr 1
    · refine List.filter_eq_self.2 fun p hp => ?_
      obtain ⟨i, hi, rfl⟩ := List.mem_iff_getElem.1 hp
      rw [List.length_take] at hi
      rw [List.getElem_take, mem i (by omega)]
      exact hne i (by omega) (by omega)
    · refine List.filter_eq_self.2 fun p hp => ?_
      obtain ⟨i, hi, rfl⟩ := List.mem_iff_getElem.1 hp
      rw [List.length_drop] at hi
      rw [List.getElem_drop, mem (j + 1 + i) (by omega)]
      exact hne _ (by omega) (by omega)
  · have hne : ∀ i, i < ps.length → (ps.getD i z42).f0.toList ≠ id.toList := fun i hi he => c ⟨i, hi, he⟩
    refine .inl ⟨idx_none _ ps (fun i hi => by simpa using hne i hi), List.filter_eq_self.2 fun p hp => ?_⟩
    obtain ⟨i, hi, rfl⟩ := List.mem_iff_getElem.1 hp
    have := hne i hi
    rw [List.getD_eq_getElem?_getD, List.getElem?_eq_getElem hi] at this
    unfold keeps
    simpa using this
theorem drop_spec {ns : List Int} {ps : List S42} {id : ByteArray} (hpl : ps.length ≤ 1048576) (hnl : ns.length ≤ 1048576) (hs : ns.length ≤ 4611686018427387904 ∧ ∀ p ∈ ps, p.f0.size ≤ 9000000000000000000) (k : Nat) : spec_DropPipe.f (ps.length + 1 + k) ns ps id = some (dropI ns ps id) := by
  have so : spec_l04Ok_.f ns ps = some (netOk ns ps) := by unfold spec_l04Ok_.f; rw [if_pos hs]
  unfold spec_DropPipe.f dropI
  rw [so]
  simp only [Option.bind_some]
  by_cases h : netOk ns ps = true
  · have ow : spec_l00Own.f ns = some ns := by unfold spec_l00Own.f; simp; omega
    rw [if_pos h, if_pos h, ow]
    simp only [Option.bind_some]
    have := sdrop_loop id ns ps hpl ps.length (ps.length + 1 + k) 0 [] (by omega) (by omega) (by omega) (by simp)
    rw [List.nil_append, List.drop_zero] at this
    exact this
  · rw [if_neg h, if_neg h]
theorem drop_impl {ns : List Int} {ps : List S42} {id : ByteArray} (hpl : ps.length ≤ 1048576) (hnl : ns.length ≤ 1048576) (hs : ns.length ≤ 4611686018427387904 ∧ ∀ p ∈ ps, p.f0.size ≤ 9000000000000000000) : impl_DropPipe.f ns ps id = some (dropI ns ps id) := by
  have io : impl_ValidNetwork_.f ns ps = some (netOk ns ps) := by unfold impl_ValidNetwork_.f; rw [if_pos hs]
  unfold impl_DropPipe.f dropI
  rw [io]
  simp only [Option.bind_some]
  by_cases h : netOk ns ps = true
  · have hi : impl_Network_pipeNamed.f ns ps id = some (namedIdx ps id) := by unfold impl_Network_pipeNamed.f; rw [if_pos (by omega)]
    rw [if_pos h, if_pos h, hi]
    simp only [Option.bind_some]
    unfold dropR
    rcases drop_of h id with ⟨e1, e2⟩ | ⟨j, hj, e1, e2⟩
    · rw [e1, e2, if_pos (by omega), if_pos rfl]
    · have o1 : slices_Clone_int64_int64.f ns = some ns := by unfold slices_Clone_int64_int64.f; rw [if_pos (by omega)]
      have o2 : impl_Pipe_21.f ps = some ps := by unfold impl_Pipe_21.f; rw [if_pos (by omega)]
      have o3 : impl_Pipe_20.f ps (j : Int) ((j : Int) + 1) = some (ps.take j ++ ps.drop (j + 1)) := by
        unfold impl_Pipe_20.f
        have h20 := (netOk_parts h).2.1
        rw [if_pos ⟨by omega, rfl, by omega, by omega⟩, Int.toNat_natCast, show ((j : Int) + 1).toNat = j + 1 by omega]
      have hl : (ps.take j ++ ps.drop (j + 1)).length ≠ ps.length := by rw [List.length_append, List.length_take, List.length_drop]; omega
      rw [e1, e2, if_neg (by omega), o1, Option.bind_some, o2, Option.bind_some, w64 (x := (j : Int) + 1) (by omega) (by omega), o3, Option.bind_some]
      rw [if_neg hl]
  · rw [if_neg h, if_neg h]
theorem FnExactDropPipe : ∀ (l0_0 : List (Int)) (l0_1 : List (S52)) (a1 : ByteArray), (l0_0.length ≤ 9223372036854775807) → (∀ p ∈ l0_0, (Lit.int .i64 p).wf = true) → (l0_1.length ≤ 9223372036854775807) → (∀ p ∈ l0_1, p.f0.size ≤ 9223372036854775807 ∧ (Lit.int .i64 p.f1).wf = true ∧ (Lit.int .i64 p.f2).wf = true ∧ (Lit.int .i64 p.f3).wf = true ∧ (Lit.int .i64 p.f4).wf = true ∧ (Lit.int .i64 p.f5).wf = true) → (a1.size ≤ 9223372036854775807) → ∃ k, laws_FnExactDropPipe.f k l0_0 l0_1 a1 = some true := by
  intro ns qs id hn hw hq hx hid
  have hxs : ∀ p ∈ qs, p.f0.size ≤ 9223372036854775807 := fun p hp => (hx p hp).1
  have hz := sizeP_nonneg qs
  refine ⟨qs.length + 60, ?_⟩
  unfold laws_FnExactDropPipe.f
  by_cases n0 : (id.size : Int) > 1048576
  · rw [if_pos n0]
  rw [if_neg n0]
  simp only [laws_FnExactDropPipe.j0]
  rw [szNet_is ns qs 1048576 hn hq hxs (by omega) (by omega)]
  simp only [Option.bind_some]
  by_cases n1 : roomOf 1048576 ((ns.length : Int) + ((qs.length : Int) + sizeP qs)) < 0
  · rw [if_pos n1]
  rw [if_neg n1]
  have b1 := roomOf_ok n1
  have tn : laws_toNetwork.f ns qs = some (ns, qs.map cvP) := toNet_is (by omega) (by omega)
  have en : laws_eqNetwork.f ns (qs.map cvP) ns (qs.map cvP) = some true := eqNet_refl (by omega) (by simp; omega)
  have mn := markNet_is (ns := ns) (ps := qs.map cvP) (by omega) (by simp; omega)
  have hc := cv_size (qs := qs) (m := 1048576) (by omega)
  have hs : ns.length ≤ 4611686018427387904 ∧ ∀ p ∈ qs.map cvP, p.f0.size ≤ 9000000000000000000 := ⟨by omega, fun p hp => by have := hc p hp; omega⟩
  have hlq : (qs.map cvP).length = qs.length := by simp
  have so : spec_l04Ok_.f ns (qs.map cvP) = some (netOk ns (qs.map cvP)) := by unfold spec_l04Ok_.f; rw [if_pos hs]
  have io : impl_ValidNetwork_.f ns (qs.map cvP) = some (netOk ns (qs.map cvP)) := by unfold impl_ValidNetwork_.f; rw [if_pos hs]
  generalize hP : qs.map cvP = ps at *
  have hpl : ps.length ≤ 1048576 := by omega
  have sv' : spec_DropPipe.f (qs.length + 58) ns ps id = some (dropI ns ps id) := by
    have := drop_spec (id := id) hpl (by omega) hs 57
    rw [show qs.length + 58 = ps.length + 1 + 57 by omega]
    exact this
  have iv : impl_DropPipe.f ns ps id = some (dropI ns ps id) := drop_impl hpl (by omega) hs
  have hR : (dropI ns ps id).1.length ≤ 1048576 ∧ (dropI ns ps id).2.1.length ≤ 1048576 := by
    unfold dropI dropR
    have := List.length_filter_le (keeps id) ps
    split
    · split
      · simp
      · exact ⟨by show ns.length ≤ _; omega, by show (ps.filter (keeps id)).length ≤ _; omega⟩
    · simp
  generalize dropI ns ps id = R at sv' iv hR
  have eR : laws_eqNetwork.f R.1 R.2.1 R.1 R.2.1 = some true := eqNet_refl hR.1 hR.2
  have mR := markNet_is hR.1 hR.2
  have dR := heldNet_is hR.1 hR.2
  have h0 : ¬ (1 + (ns.length : Int) + 6 * (ps.length : Int) < 0) := by omega
  have h2 : ¬ (1 + (R.1.length : Int) + 6 * (R.2.1.length : Int) < 0) := by omega
  simp [tn, en, sv', iv, eR, mn, mR, dR, h0, h2, laws_FnExactDropPipe.j0, laws_FnExactDropPipe.j1, laws_FnExactDropPipe.j2, laws_FnExactDropPipe.j3, laws_FnExactDropPipe.j4, laws_FnExactDropPipe.j5, laws_FnExactDropPipe.j6, laws_FnExactDropPipe.j7, laws_FnExactDropPipe.j8, laws_FnExactDropPipe.j9, laws_FnExactDropPipe.j10]

end Go.Proofs.Ytjeahkaghadldaa.Pure
