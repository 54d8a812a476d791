/- For every network and two nodes the program's PathOf answers as the reference's PathOf does, leaves the network as it is, and hands out memory of its own. No condition. -/
import Derived.Test.YtcgbagdpedpdpaaPFnExactPathOfx13
import Derived.Test.YtcgbagdpedpdpaaMath
import Derived.Test.YtcgbagdpedpdpaaMathR
import Derived.Test.YtcgbagdpedpdpaaMathF
namespace Go.Proofs.Ytcgbagdpedpdpaa.Pure
open Go.RowKit Go.Proofs.Ytcgbagdpedpdpaa.PFnExactPathOf Go.Proofs.YtcgbagdpedpdpaaW.PrintWords Go.Proofs.YtcgbagdpedpdpaaW.PrintLast Go.Proofs.YtcgbagdpedpdpaaW.PrintMore Go.Proofs.YtcgbagdpedpdpaaM
set_option linter.unusedSimpArgs false
set_option linter.unusedVariables false
theorem roomOf_ok {a n : Int} (h : ¬ roomOf a n < 0) : n ≤ a ∧ roomOf a n = a - n := by
  unfold roomOf at *
  split at h
  · omega
  · rename_i c; rw [if_neg c]; exact ⟨by omega, rfl⟩
theorem szNet_is (ns : List Int) (qs : List S85) (a : Int) (hn : ns.length ≤ 9223372036854775807) (hq : qs.length ≤ 9223372036854775807) (hx : ∀ p ∈ qs, p.f0.size ≤ 9223372036854775807) (h0 : 0 ≤ a) (h1 : a ≤ 1048576) :
    laws_szNetwork.f ns qs a = some (roomOf a ((ns.length : Int) + ((qs.length : Int) + sizeP qs))) := by
  unfold laws_szNetwork.f laws_szInt64S.f
  have hz := sizeP_nonneg qs
  rw [w64 (x := a - (ns.length : Int)) (by omega) (by omega)]
  by_cases n1 : a - (ns.length : Int) < 0
  · rw [if_pos n1]; simp only [Option.bind_some]; unfold roomOf; rw [if_pos (by omega), if_pos (by omega)]
  · rw [if_neg n1]
    simp only [Option.bind_some]
    have e : laws_szPipeS_.f qs (a - (ns.length : Int)) = some (roomOf (a - (ns.length : Int)) ((qs.length : Int) + sizeP qs)) := by unfold laws_szPipeS_.f; rw [if_pos ⟨⟨by omega, by omega⟩, hq, hx⟩]
    rw [if_neg n1, e]
    simp only [Option.bind_some]
    unfold roomOf
    rw [show a - ((ns.length : Int) + ((qs.length : Int) + sizeP qs)) = a - (ns.length : Int) - ((qs.length : Int) + sizeP qs) by omega]
    by_cases n2 : a - (ns.length : Int) - ((qs.length : Int) + sizeP qs) < 0
    · rw [if_pos n2, if_pos (by omega)]
    · rw [if_neg n2, if_neg n2]
theorem toNet_is {ns : List Int} {qs : List S85} (hn : ns.length ≤ 1048576) (hq : qs.length ≤ 1048576) : laws_toNetwork.f ns qs = some (ns, qs.map cvP) := by
  unfold laws_toNetwork.f laws_toInt64S_.f laws_toPipeS_.f
  rw [if_pos (by omega), if_pos (by omega)]; rfl
theorem eqNet_refl {ns : List Int} {ps : List S60} (hn : ns.length ≤ 1048576) (hq : ps.length ≤ 1048576) : laws_eqNetwork.f ns ps ns ps = some true := by
  unfold laws_eqNetwork.f laws_eqInt64S_.f laws_eqPipeS_.f
  rw [if_pos (by omega), if_pos (by omega)]; simp [pipesEq_refl]
theorem cv_size {qs : List S85} {m : Nat} (h : sizeP qs ≤ (m : Int)) : ∀ p ∈ qs.map cvP, p.f0.size ≤ m := by
  intro p hp
  obtain ⟨q, hq, rfl⟩ := List.mem_map.mp hp
  have := sizeP_elem h q hq
  show q.f0.size ≤ m
  omega
theorem markNet_is {ns : List Int} {ps : List S60} (hn : ns.length ≤ 1048576) (hq : ps.length ≤ 1048576) : laws_markNetwork.f ns ps 1 = some (1 + (ns.length : Int) + 6 * (ps.length : Int), marks 1 ns.length, marksP (1 + (ns.length : Int)) ps.length) := by
  unfold laws_markNetwork.f laws_markInt64S_.f laws_markPipeS_.f
  rw [if_pos ⟨by omega, by omega⟩]
  simp only [Option.bind_some]
  rw [if_pos ⟨by omega, by omega⟩]; rfl
theorem markI_is {l : List Int} (h : l.length ≤ 1048576) : laws_markInt64S_.f l 1 = some (1 + (l.length : Int), marks 1 l.length) := by
  unfold laws_markInt64S_.f; rw [if_pos ⟨by omega, by omega⟩]
theorem heldI_is {n : Nat} (h : n ≤ 1048576) : laws_heldInt64S_.f (marks 1 n) 1 = some (1 + (n : Int)) := by
  unfold laws_heldInt64S_.f; rw [if_pos ⟨by omega, by rw [marks_length]; omega⟩, held_marks]
theorem eqI_refl {l : List Int} (h : l.length ≤ 1048576) : laws_eqInt64S_.f l l = some true := by
  unfold laws_eqInt64S_.f; rw [if_pos (by omega)]; simp
abbrev SP := S60
def edges (ps : List SP) : List (Int × Int) := ps.map fun p => (p.f1, p.f2)
def shutOf (cl : List Int) (i : Nat) : Bool := decide ((i : Int) ∈ cl)
theorem edges_length (ps : List SP) : (edges ps).length = ps.length := by unfold edges; simp
theorem edges_get {ps : List SP} {i : Nat} (h : i < ps.length) : (edges ps).getD i (0, 0) = ((ps.getD i z60).f1, (ps.getD i z60).f2) := by
  unfold edges
  simp [List.getD_eq_getElem?_getD, List.getElem?_map, List.getElem?_eq_getElem h]
theorem ends_of {ns : List Int} {ps : List SP} (h : netOk ns ps = true) : EndsIn (edges ps) ns.length := fun i hi => by
  rw [edges_length] at hi
  have := (netOk_pipe h i hi).2
  rw [edges_get hi]
  exact ⟨this.1, this.2.1⟩
/-- What the walks through a network lean on. -/
structure Small (ns : List Int) (ps : List SP) : Prop where
  n1 : 1 ≤ ns.length
  n16 : ns.length ≤ 16
  p20 : ps.length ≤ 20
  ends : EndsIn (edges ps) ns.length
theorem small_of {ns : List Int} {ps : List SP} (h : netOk ns ps = true) : Small ns ps := ⟨(netOk_parts h).1.1, (netOk_parts h).1.2, (netOk_parts h).2.1, ends_of h⟩
theorem Small.pipe {ns : List Int} {ps : List SP} (h : Small ns ps) {i : Nat} (hi : i < ps.length) : (0 ≤ (ps.getD i z60).f1 ∧ (ps.getD i z60).f1 < ns.length) ∧ (0 ≤ (ps.getD i z60).f2 ∧ (ps.getD i z60).f2 < ns.length) := by
  have := h.ends i (by rw [edges_length]; exact hi)
  rw [edges_get hi] at this
  exact this
theorem rd_nat (l : List Int) (i : Nat) : rd l (i : Int) = l.getD i 0 := by unfold rd; rw [Int.toNat_natCast]
theorem drop_one (l : List Int) (i : Nat) (h : i < l.length) : l.drop i = l.getD i 0 :: l.drop (i + 1) := by
  rw [List.drop_eq_getElem_cons h, List.getD_eq_getElem?_getD, List.getElem?_eq_getElem h]; rfl
theorem w_succ {i : Nat} (h : i ≤ 4611686018427387904) : wrap64 ((i : Int) + 1) = ((i + 1 : Nat) : Int) := by
  rw [w64 (by omega) (by omega)]; push_cast; rfl
theorem other_is (s : ByteArray) (a b c d e x : Int) : impl_Pipe_other.f s a b c d e x = some (match oth (a, b) x with | some y => (y, true) | none => (0, false)) := by
  unfold impl_Pipe_other.f oth
  by_cases c1 : x = a
  · rw [if_pos c1, if_pos c1]
  · rw [if_neg c1, if_neg c1]
    by_cases c2 : x = b
    · rw [if_pos c2, if_pos c2]
    · rw [if_neg c2, if_neg c2]
theorem set_neg (j d : Nat) : (List.replicate j (-1) ++ List.replicate (d + 1) (0 : Int)).set j (-1) = List.replicate (j + 1) (-1) ++ List.replicate d 0 := by
  rw [List.set_append_right _ _ (by simp), List.length_replicate, Nat.sub_self, List.replicate_succ, List.set_cons_zero, List.replicate_succ', List.append_assoc]; rfl
theorem idist_l2 {ns : List Int} {ps : List SP} (h : Small ns ps) {s hd : Int} : ∀ (d K i : Nat) (far work : List Int), i + d = ps.length → work.length + d ≤ 90 → work.getD 0 0 = hd → 0 < work.length → d + 100 ≤ K → hd ∈ work → Que (edges ps) ns.length s far work hd i →
    impl_Network_distances.l2 K far work ps (ps.length : Int) (i : Int) ns ps = impl_Network_distances.l1 (K - (d + 1)) (fsweep (edges ps) hd d i (far, work)).1 ((fsweep (edges ps) hd d i (far, work)).2.drop 1) ns ps
  | d, 0, i, far, work, hi, hw, hh, h0, hK, hm, q => by omega
  | 0, K + 1, i, far, work, hi, hw, hh, h0, hK, hm, q => by
    simp only [impl_Network_distances.l2, fsweep]
    rw [if_neg (by omega), if_pos (by omega)]
    rfl
  | d + 1, K + 1, i, far, work, hi, hw, hh, h0, hK, hm, q => by
    have h16 := h.n16
    have h20 := h.p20
    have hl := q.len
    have hhr := q.wr hd hm
    have hfew := q.few hd hhr.1.1 hhr.1.2
    simp only [impl_Network_distances.l2, fsweep]
    rw [if_pos (by omega), if_pos (by omega), if_pos (by omega), if_pos (by omega), show rd work 0 = hd from hh, rdP_impl, other_is, edges_get (by omega), show K + 1 - (d + 1 + 1) = K - (d + 1) by omega, w_succ (by omega), Option.bind_some]
    cases ho : oth ((ps.getD i z60).f1, (ps.getD i z60).f2) hd with
    | none =>
      simp only [Bool.false_eq_true, if_false]
      exact idist_l2 h d K (i + 1) far work (by omega) (by omega) hh h0 (by omega) hm (que_skip q fun y hy => by rw [edges_get (by omega), ho] at hy; exact absurd hy (by simp))
    | some y =>
      have ho' : oth ((edges ps).getD i (0, 0)) hd = some y := by rw [edges_get (by omega)]; exact ho
      have hyr := h.ends.oth (by rw [edges_length]; omega) ho'
      simp only [if_true]
      rw [if_pos hyr.1, if_pos (by rw [hl]; exact hyr.2)]
      by_cases c : lb far y < 0
      · rw [if_pos c, if_pos (show rd far y < 0 from c), if_pos hhr.1.1, if_pos (by rw [hl]; exact hhr.1.2), if_pos (by omega), show rd far hd = lb far hd from rfl, w64 (x := lb far hd + 1) (by omega) (by omega)]
        refine idist_l2 h d K (i + 1) _ _ (by omega) (by rw [List.length_append, List.length_singleton]; omega) ?_ (by rw [List.length_append]; omega) (by omega) (List.mem_append_left _ hm) (que_label h.ends (by rw [edges_length]; omega) ho' hm q c)
        rw [List.getD_eq_getElem?_getD, List.getElem?_append_left h0, ← List.getD_eq_getElem?_getD, hh]
      · rw [if_neg c, if_neg (show ¬ rd far y < 0 from c)]
        refine idist_l2 h d K (i + 1) far work (by omega) (by omega) hh h0 (by omega) hm (que_skip q fun z hz => ?_)
        rw [ho'] at hz
        obtain rfl := Option.some.inj hz
        exact ⟨by omega, q.top y hyr.1 hyr.2⟩
theorem idist_l1 {ns : List Int} {ps : List SP} (h : Small ns ps) {s : Int} : ∀ (f K : Nat) (far work : List Int), negs far + work.length < f → f ≤ 18 → (∀ hd r, work = hd :: r → Que (edges ps) ns.length s far work hd 0) → f * (ps.length + 2) + 200 ≤ K →
    impl_Network_distances.l1 K far work ns ps = some (fbfs (edges ps) f (far, work))
  | 0, K, far, work, hf, h18, hq, hK => by omega
  | f + 1, 0, far, work, hf, h18, hq, hK => by omega
  | f + 1, K + 1, far, [], hf, h18, hq, hK => by
    simp only [impl_Network_distances.l1, fbfs]
    rw [if_neg (by simp)]
  | f + 1, K + 1, far, hd :: r, hf, h18, hq, hK => by
    have h20 := h.p20
    have q := hq hd r rfl
    rw [Nat.add_mul, Nat.one_mul] at hK
    obtain ⟨far', ext, e1, e2, e3⟩ := fsweep_spec h.ends (edges ps).length 0 far (hd :: r) (by omega) List.mem_cons_self q
    have hw : (hd :: r).length ≤ 18 := by omega
    have h1 := idist_l2 h ps.length K 0 far (hd :: r) (by omega) (by omega) (by rfl) (by simp) (by omega) List.mem_cons_self q
    rw [show ((0 : Nat) : Int) = (0 : Int) from rfl] at h1
    simp only [impl_Network_distances.l1, fbfs]
    rw [if_pos (by simp only [List.length_cons]; omega), h1]
    rw [edges_length] at e1 ⊢
    rw [e1]
    show impl_Network_distances.l1 (K - (ps.length + 1)) far' ((hd :: r ++ ext).drop 1) ns ps = some (fbfs (edges ps) f (far', (hd :: r ++ ext).drop 1))
    have hdr : (hd :: r ++ ext).drop 1 = r ++ ext := by simp
    rw [hdr]
    refine idist_l1 h f _ far' (r ++ ext) (by simp only [List.length_cons] at hf; rw [List.length_append]; omega) (by omega) (fun h' r' he => que_next (far := far) h.ends (by rw [edges_length] at e2 ⊢; exact e2) h' r' he) (by omega)
theorem idist_l0 {ns : List Int} {ps : List SP} (h : Small ns ps) {s : Int} (s0 : 0 ≤ s) (s1 : s < ns.length) : ∀ (d K j : Nat), j + d = ns.length → d + 700 ≤ K →
    impl_Network_distances.l0 K s (List.replicate j (-1) ++ List.replicate d 0) (ns.length : Int) (j : Int) ns ps = some (fbfs (edges ps) 18 ((List.replicate ns.length (-1)).set s.toNat 0, [s]))
  | d, 0, j, hd, hK => by omega
  | 0, K + 1, j, hd, hK => by
    have h16 := h.n16
    have h20 := h.p20
    obtain ⟨hneg, q⟩ := que_start (es := edges ps) s0 s1
    simp only [impl_Network_distances.l0]
    rw [if_neg (by omega), if_pos s0, if_pos (by simp; omega), show j = ns.length by omega, List.replicate_zero, List.append_nil]
    exact idist_l1 h 18 K _ _ (by simp only [List.length_singleton]; omega) (by omega) (fun hd r he => by obtain ⟨rfl, rfl⟩ := List.cons.inj he; exact q) (by omega)
  | d + 1, K + 1, j, hd, hK => by
    have h16 := h.n16
    simp only [impl_Network_distances.l0]
    rw [if_pos (by omega), if_pos (by omega), if_pos (by simp; omega), w_succ (by omega), Int.toNat_natCast, set_neg]
    exact idist_l0 h s0 s1 d K (j + 1) (by omega) (by omega)
/-- The distances tgt a node. -/
def farOf (ns : List Int) (ps : List SP) (s : Int) : List Int := fbfs (edges ps) 18 ((List.replicate ns.length (-1)).set s.toNat 0, [s])
theorem farOf_far {ns : List Int} {ps : List SP} (h : Small ns ps) {s : Int} (s0 : 0 ≤ s) (s1 : s < ns.length) : IsFar (edges ps) ns.length s (farOf ns ps s) := fbfs_far h.ends s0 s1 (by have := h.n16; omega)
theorem idist_is {ns : List Int} {ps : List SP} (h : Small ns ps) {s : Int} (s0 : 0 ≤ s) (s1 : s < ns.length) {K : Nat} (hK : 800 ≤ K) : impl_Network_distances.f K ns ps s = some (farOf ns ps s) := by
  have h16 := h.n16
  unfold impl_Network_distances.f
  rw [if_pos (by omega), Int.toNat_natCast, if_pos (by omega), Option.bind_some, List.length_replicate]
  exact idist_l0 h s0 s1 ns.length K 0 (by omega) (by omega)
theorem sfar_j3 {ns : List Int} {ps : List SP} {far : List Int} {t i : Nat} {a b : Int} (ht : t ≤ 100) (hi : i ≤ 100) (a0 : 0 ≤ a) (a1 : a < far.length) (b0 : 0 ≤ b) (b1 : b < far.length) (u : Bool) (K : Nat) :
    spec_l04Far.j3 (K + 1) far (t : Int) (i : Int) a b u ns ps = spec_l04Far.l2 K (if lb (if u = true then far.set b.toNat ((t : Int) + 1) else far) b = (t : Int) ∧ lb (if u = true then far.set b.toNat ((t : Int) + 1) else far) a < 0 then (if u = true then far.set b.toNat ((t : Int) + 1) else far).set a.toNat ((t : Int) + 1) else (if u = true then far.set b.toNat ((t : Int) + 1) else far)) (t : Int) ((i + 1 : Nat) : Int) ns ps := by
  simp only [spec_l04Far.j3]
  have e1 : wrap64 ((t : Int) + 1) = (t : Int) + 1 := w64 (by omega) (by omega)
  rw [e1, w_succ (by omega)]
  cases u with
  | true =>
    simp only [if_true, Option.bind_some]
    rw [if_pos b0, if_pos b1]
    by_cases c1 : lb (far.set b.toNat ((t : Int) + 1)) b = (t : Int)
    · rw [if_pos (show rd _ _ = _ from c1), if_pos a0, if_pos a1]
      by_cases c2 : lb (far.set b.toNat ((t : Int) + 1)) a < 0
      · rw [if_pos (show rd _ _ < 0 from c2), if_pos ⟨c1, c2⟩]
      · rw [if_neg (show ¬ rd _ _ < 0 from c2), if_neg (fun g => c2 g.2)]
    · rw [if_neg (show ¬ rd _ _ = _ from c1), if_neg (fun g => c1 g.1)]
  | false =>
    simp only [Bool.false_eq_true, if_false]
    rw [if_pos b0, if_pos b1]
    by_cases c1 : lb far b = (t : Int)
    · rw [if_pos (show rd _ _ = _ from c1), if_pos a0, if_pos a1]
      by_cases c2 : lb far a < 0
      · rw [if_pos (show rd _ _ < 0 from c2), if_pos ⟨c1, c2⟩]
      · rw [if_neg (show ¬ rd _ _ < 0 from c2), if_neg (fun g => c2 g.2)]
    · rw [if_neg (show ¬ rd _ _ = _ from c1), if_neg (fun g => c1 g.1)]
theorem sfar_l2 {ns : List Int} {ps : List SP} (h : Small ns ps) {t : Nat} (ht : t ≤ 100) : ∀ (d K i : Nat) (far : List Int), i + d = ps.length → far.length = ns.length → 2 * d + 100 ≤ K →
    spec_l04Far.l2 K far (t : Int) (i : Int) ns ps = spec_l04Far.l1 (K - (2 * d + 1)) (layer (edges ps) (t : Int) d i far) ((t + 1 : Nat) : Int) ns ps
  | d, 0, i, far, hd, hl, hK => by omega
  | d, 1, i, far, hd, hl, hK => by omega
  | 0, K + 2, i, far, hd, hl, hK => by
    simp only [spec_l04Far.l2, layer]
    rw [if_neg (by omega), w_succ (by omega)]
    rfl
  | d + 1, K + 2, i, far, hd, hl, hK => by
    have h20 := h.p20
    have hr := h.pipe (i := i) (by omega)
    simp only [spec_l04Far.l2, layer]
    rw [if_pos (by omega), if_pos (by omega), rdP_impl, if_pos hr.1.1, if_pos (by rw [hl]; exact hr.1.2), edges_get (by omega)]
    dsimp only
    have hj := fun u => sfar_j3 (ns := ns) (ps := ps) (far := far) (t := t) (i := i) (a := (ps.getD i z60).f1) (b := (ps.getD i z60).f2) ht (by omega) hr.1.1 (by rw [hl]; exact hr.1.2) hr.2.1 (by rw [hl]; exact hr.2.2) u K
    rw [show K + 2 - (2 * (d + 1) + 1) = K - (2 * d + 1) by omega]
    have key : ∀ far1 : List Int, far1.length = ns.length → spec_l04Far.l2 K (if lb far1 (ps.getD i z60).f2 = (t : Int) ∧ lb far1 (ps.getD i z60).f1 < 0 then far1.set (ps.getD i z60).f1.toNat ((t : Int) + 1) else far1) (t : Int) ((i + 1 : Nat) : Int) ns ps = spec_l04Far.l1 (K - (2 * d + 1)) (layer (edges ps) (t : Int) d (i + 1) (if lb far1 (ps.getD i z60).f2 = (t : Int) ∧ lb far1 (ps.getD i z60).f1 < 0 then far1.set (ps.getD i z60).f1.toNat ((t : Int) + 1) else far1)) ((t + 1 : Nat) : Int) ns ps :=
      fun far1 h1 => sfar_l2 h ht d K (i + 1) _ (by omega) (by split <;> (try rw [List.length_set]) <;> exact h1) (by omega)
    by_cases c1 : lb far (ps.getD i z60).f1 = (t : Int)
    · rw [if_pos (show rd _ _ = _ from c1), if_pos hr.2.1, if_pos (by rw [hl]; exact hr.2.2), hj]
      by_cases c2 : lb far (ps.getD i z60).f2 < 0
      · rw [show decide (rd far (ps.getD i z60).f2 < 0) = true from decide_eq_true c2, show (if lb far (ps.getD i z60).f1 = (t : Int) ∧ lb far (ps.getD i z60).f2 < 0 then far.set (ps.getD i z60).f2.toNat ((t : Int) + 1) else far) = far.set (ps.getD i z60).f2.toNat ((t : Int) + 1) from if_pos ⟨c1, c2⟩]
        simp only [if_true]
        exact key _ (by rw [List.length_set]; exact hl)
      · rw [show decide (rd far (ps.getD i z60).f2 < 0) = false from decide_eq_false c2, show (if lb far (ps.getD i z60).f1 = (t : Int) ∧ lb far (ps.getD i z60).f2 < 0 then far.set (ps.getD i z60).f2.toNat ((t : Int) + 1) else far) = far from if_neg (fun g => c2 g.2)]
        simp only [Bool.false_eq_true, if_false]
        exact key _ hl
    · rw [if_neg (show ¬ rd _ _ = _ from c1), hj, show (if lb far (ps.getD i z60).f1 = (t : Int) ∧ lb far (ps.getD i z60).f2 < 0 then far.set (ps.getD i z60).f2.toNat ((t : Int) + 1) else far) = far from if_neg (fun g => c1 g.1)]
      simp only [Bool.false_eq_true, if_false]
      exact key _ hl
theorem layer_length {es : List (Int × Int)} {t : Int} : ∀ (d i : Nat) (far : List Int), (layer es t d i far).length = far.length
  | 0, i, far => rfl
  | d + 1, i, far => by
    simp only [layer]
    rw [layer_length d (i + 1)]
    split <;> split <;> simp [List.length_set]
theorem sfar_l1 {ns : List Int} {ps : List SP} (h : Small ns ps) : ∀ (d K t : Nat) (far : List Int), t + d = ns.length → far.length = ns.length → d * (2 * ps.length + 3) + 200 ≤ K →
    spec_l04Far.l1 K far (t : Int) ns ps = some (layers (edges ps) d t far)
  | d, 0, t, far, hd, hl, hK => by omega
  | 0, K + 1, t, far, hd, hl, hK => by
    simp only [spec_l04Far.l1, layers]
    rw [if_neg (by omega)]
  | d + 1, K + 1, t, far, hd, hl, hK => by
    have h16 := h.n16
    have h20 := h.p20
    rw [Nat.add_mul, Nat.one_mul] at hK
    simp only [spec_l04Far.l1, layers]
    have h2 := sfar_l2 h (t := t) (by omega) ps.length K 0 far (by omega) hl (by omega)
    rw [show ((0 : Nat) : Int) = (0 : Int) from rfl] at h2
    rw [if_pos (by omega), h2, edges_length]
    exact sfar_l1 h d _ (t + 1) _ (by omega) (by rw [layer_length]; exact hl) (by omega)
theorem sfar_l0 {ns : List Int} {ps : List SP} (h : Small ns ps) {s : Int} (s0 : 0 ≤ s) (s1 : s < ns.length) : ∀ (d K j : Nat), j + d = ns.length → d + 1000 ≤ K →
    spec_l04Far.l0 K s (List.replicate j (-1)) (j : Int) ns ps = some (farOf ns ps s)
  | d, 0, j, hd, hK => by omega
  | 0, K + 1, j, hd, hK => by
    have h16 := h.n16
    have h20 := h.p20
    simp only [spec_l04Far.l0]
    have hmul : ns.length * (2 * ps.length + 3) ≤ 16 * 43 := Nat.mul_le_mul h16 (by omega)
    have h1 := sfar_l1 h ns.length K 0 ((List.replicate ns.length (-1)).set s.toNat 0) (by omega) (by simp) (by omega)
    rw [show ((0 : Nat) : Int) = (0 : Int) from rfl, layers_far h.ends s0 s1 (farOf_far h s0 s1)] at h1
    rw [if_neg (by omega), if_pos s0, if_pos (by simp; omega), show j = ns.length by omega, h1]
  | d + 1, K + 1, j, hd, hK => by
    have h16 := h.n16
    simp only [spec_l04Far.l0]
    rw [if_pos (by omega), if_pos (by simp; omega), w_succ (by omega), show List.replicate j (-1 : Int) ++ [-1] = List.replicate (j + 1) (-1) from List.replicate_succ'.symm]
    exact sfar_l0 h s0 s1 d K (j + 1) (by omega) (by omega)
theorem sfar_is {ns : List Int} {ps : List SP} (h : Small ns ps) {s : Int} (s0 : 0 ≤ s) (s1 : s < ns.length) {K : Nat} (hK : 1100 ≤ K) : spec_l04Far.f K ns ps s = some (farOf ns ps s) := by
  have h16 := h.n16
  unfold spec_l04Far.f
  exact sfar_l0 h s0 s1 ns.length K 0 (by omega) (by omega)
/-- The first edge at a node tgt one that lies one nearer. -/
def scanP (es : List (Int × Int)) (far : List Int) (x : Int) : Nat → Nat → Option (Nat × Int)
  | 0, _ => none
  | d + 1, i =>
    match oth (es.getD i (0, 0)) x with
    | some y => if lb far y = lb far x - 1 then some (i, y) else scanP es far x d (i + 1)
    | none => scanP es far x d (i + 1)
theorem scan_some {es : List (Int × Int)} {far : List Int} {x : Int} : ∀ (d i j : Nat) (y : Int), i ≤ j → j < i + d → oth (es.getD j (0, 0)) x = some y → lb far y = lb far x - 1 → ∃ j' y', scanP es far x d i = some (j', y') ∧ i ≤ j' ∧ j' < i + d ∧ oth (es.getD j' (0, 0)) x = some y' ∧ lb far y' = lb far x - 1
  | 0, i, j, y, h1, h2, _, _ => by omega
  | d + 1, i, j, y, h1, h2, h3, h4 => by
    have go : (∀ z, oth (es.getD i (0, 0)) x = some z → ¬ lb far z = lb far x - 1) → ∃ j' y', scanP es far x d (i + 1) = some (j', y') ∧ i ≤ j' ∧ j' < i + (d + 1) ∧ oth (es.getD j' (0, 0)) x = some y' ∧ lb far y' = lb far x - 1 := fun hn => by
      have hne : j ≠ i := fun e => by subst e; exact hn y h3 h4
      obtain ⟨j', y', a, b, c, e, f⟩ := scan_some d (i + 1) j y (by omega) (by omega) h3 h4
      exact ⟨j', y', a, by omega, by omega, e, f⟩
    simp only [scanP]
    split
    · rename_i z hz
      by_cases c : lb far z = lb far x - 1
      · rw [if_pos c]; exact ⟨i, z, rfl, Nat.le_refl _, by omega, hz, c⟩
      · rw [if_neg c]; exact go fun z' hz' => by rw [hz] at hz'; rw [← Option.some.inj hz']; exact c
    · rename_i hz
      exact go fun z' hz' => by rw [hz] at hz'; exact absurd hz' (by simp)
/-- How a step over an edge is told. -/
def stepI (es : List (Int × Int)) (x : Int) (i : Nat) : Int := if (es.getD i (0, 0)).1 = x then (i : Int) + 1 else -(i : Int) - 1
def pathS (es : List (Int × Int)) (far : List Int) : Nat → Int → List Int → List Int
  | 0, _, acc => acc
  | f + 1, x, acc => match scanP es far x es.length 0 with
    | some (i, y) => pathS es far f y (acc ++ [stepI es x i])
    | none => acc
theorem swalk_j2 {ns : List Int} {ps : List SP} (h : Small ns ps) {far acc : List Int} {tgt x : Int} (hl : far.length = ns.length) (ha : acc.length ≤ 100) (x0 : 0 ≤ x) (x1 : x < ns.length) (hb : -1 ≤ lb far x ∧ lb far x ≤ 100) {i : Nat} (hi : i < ps.length) (u : Bool) (K : Nat) :
    spec_l04Walk.j2 (K + 1) tgt far acc x (i : Int) ps u ns ps = if u = true then spec_l04Walk.l0 K tgt far (acc ++ [(i : Int) + 1]) (ps.getD i z60).f2 ns ps else if (ps.getD i z60).f2 = x then (if lb far (ps.getD i z60).f1 = lb far x - 1 then spec_l04Walk.l0 K tgt far (acc ++ [-(i : Int) - 1]) (ps.getD i z60).f1 ns ps else spec_l04Walk.l1 K tgt far acc x ((i + 1 : Nat) : Int) ns ps) else spec_l04Walk.l1 K tgt far acc x ((i + 1 : Nat) : Int) ns ps := by
  have h20 := h.p20
  have hr := h.pipe hi
  have e1 : wrap64 (rd far x - 1) = lb far x - 1 := w64 (by show _ ≤ lb far x - 1; omega) (by show lb far x - 1 ≤ _; omega)
  have e2 : wrap64 (wrap64 (-(i : Int)) - 1) = -(i : Int) - 1 := by rw [w64 (x := -(i : Int)) (by omega) (by omega), w64 (by omega) (by omega)]
  simp only [spec_l04Walk.j2]
  rw [e1, e2, rdP_impl, w_succ (by omega)]
  cases u with
  | true =>
    simp only [if_true]
    rw [if_pos (by omega), if_pos (by omega), if_pos (by omega)]
    rfl
  | false =>
    simp only [Bool.false_eq_true, if_false]
    rw [if_pos (by omega), if_pos (by omega)]
    by_cases c : (ps.getD i z60).f2 = x
    · rw [if_pos c, if_pos c, if_pos hr.1.1, if_pos (by rw [hl]; exact hr.1.2), if_pos x0, if_pos (by rw [hl]; exact x1)]
      by_cases c' : lb far (ps.getD i z60).f1 = lb far x - 1
      · rw [if_pos c', if_pos (show rd _ _ = _ from c'), if_pos (by omega)]
      · rw [if_neg c', if_neg (show ¬ rd _ _ = _ from c')]
    · rw [if_neg c, if_neg c]
theorem swalk_l1 {ns : List Int} {ps : List SP} (h : Small ns ps) {far acc : List Int} {tgt x : Int} (hl : far.length = ns.length) (ha : acc.length ≤ 100) (hne : ∀ i, i < ps.length → (ps.getD i z60).f1 ≠ (ps.getD i z60).f2) (x0 : 0 ≤ x) (x1 : x < ns.length) (hb : -1 ≤ lb far x ∧ lb far x ≤ 100) :
    ∀ (d K i j : Nat) (y : Int), i + d = ps.length → 2 * d + 10 ≤ K → scanP (edges ps) far x d i = some (j, y) →
    ∃ K', K ≤ K' + 2 * d + 2 ∧ spec_l04Walk.l1 K tgt far acc x (i : Int) ns ps = spec_l04Walk.l0 K' tgt far (acc ++ [stepI (edges ps) x j]) y ns ps
  | d, 0, i, j, y, hd, hK, hs => by omega
  | d, 1, i, j, y, hd, hK, hs => by omega
  | 0, K + 2, i, j, y, hd, hK, hs => by simp [scanP] at hs
  | d + 1, K + 2, i, j, y, hd, hK, hs => by
    have h20 := h.p20
    have hr := h.pipe (i := i) (by omega)
    have hn := hne i (by omega)
    have hi' : i < ps.length := by omega
    have ih := fun hs' => swalk_l1 h (tgt := tgt) hl ha hne x0 x1 hb d K (i + 1) j y (by omega) (by omega) hs'
    have e1 : wrap64 (lb far x - 1) = lb far x - 1 := w64 (by omega) (by omega)
    have e2 : wrap64 (wrap64 (-(i : Int)) - 1) = -(i : Int) - 1 := by rw [w64 (x := -(i : Int)) (by omega) (by omega), w64 (by omega) (by omega)]
    have e3 : wrap64 ((i : Int) + 1) = (i : Int) + 1 := w64 (by omega) (by omega)
    simp only [scanP] at hs
    rw [edges_get (by omega)] at hs
    simp only [spec_l04Walk.l1]
    have hj := fun u => swalk_j2 h (tgt := tgt) hl ha x0 x1 hb (i := i) (by omega) u K
    rw [if_pos (by clear e1 e2 e3 hj ih hn hr hne hb; omega), if_pos (by clear e1 e2 e3 hj ih hn hr hne hb; omega), rdP_impl]
    by_cases c1 : (ps.getD i z60).f1 = x
    · have ho : oth ((ps.getD i z60).f1, (ps.getD i z60).f2) x = some (ps.getD i z60).f2 := oth_of (.inl ⟨c1.symm, rfl⟩)
      rw [ho] at hs
      have c2 : ¬ (ps.getD i z60).f2 = x := fun g => hn (c1.trans g.symm)
      rw [if_pos c1, if_pos hr.2.1, if_pos (by rw [hl]; exact hr.2.2), if_pos x0, if_pos (by rw [hl]; exact x1), hj, show rd far x = lb far x from rfl, e1, if_neg c2, show rd far (ps.getD i z60).f2 = lb far (ps.getD i z60).f2 from rfl]
      by_cases c3 : lb far (ps.getD i z60).f2 = lb far x - 1
      · simp only [c3, if_true, Option.some.injEq, Prod.mk.injEq] at hs
        obtain ⟨rfl, rfl⟩ := hs
        refine ⟨K, by clear e1 e2 e3 hj ih hn hr hne hb; omega, ?_⟩
        rw [if_pos (by rw [c3]; simp)]
        unfold stepI
        rw [edges_get hi', if_pos c1]
      · simp only [c3, if_false] at hs
        obtain ⟨K', k1, k2⟩ := ih hs
        refine ⟨K', by clear e1 e2 e3 hj ih hn hr hne hb; omega, ?_⟩
        rw [if_neg (by simpa using c3)]
        exact k2
    · rw [if_neg c1, hj, if_neg (by simp)]
      by_cases c2 : (ps.getD i z60).f2 = x
      · have ho : oth ((ps.getD i z60).f1, (ps.getD i z60).f2) x = some (ps.getD i z60).f1 := oth_of (.inr ⟨c2.symm, rfl⟩)
        rw [ho] at hs
        rw [if_pos c2]
        by_cases c3 : lb far (ps.getD i z60).f1 = lb far x - 1
        · simp only [c3, if_true, Option.some.injEq, Prod.mk.injEq] at hs
          obtain ⟨rfl, rfl⟩ := hs
          refine ⟨K, by clear e1 e2 e3 hj ih hn hr hne hb; omega, ?_⟩
          rw [if_pos c3]
          unfold stepI
          rw [edges_get hi', if_neg c1]
        · simp only [c3, if_false] at hs
          obtain ⟨K', k1, k2⟩ := ih hs
          refine ⟨K', by clear e1 e2 e3 hj ih hn hr hne hb; omega, ?_⟩
          rw [if_neg c3]
          exact k2
      · have ho : oth ((ps.getD i z60).f1, (ps.getD i z60).f2) x = none := by
          unfold oth; rw [if_neg (fun g => c1 g.symm), if_neg (fun g => c2 g.symm)]
        rw [ho] at hs
        obtain ⟨K', k1, k2⟩ := ih hs
        refine ⟨K', by clear e1 e2 e3 hj ih hn hr hne hb; omega, ?_⟩
        rw [if_neg c2]
        exact k2
theorem iwalk_j2 {ns : List Int} {ps : List SP} {far acc : List Int} {tgt x : Int} (ha : acc.length ≤ 100) {i : Nat} (hi : i ≤ 100) (y : Int) (u : Bool) (K : Nat) {s : ByteArray} {a b c d e : Int} {m : Int} :
    impl_PathOf.j2 (K + 1) tgt far acc x (i : Int) y ps m (i : Int) u ns ps s a b c d e = if u = true then impl_PathOf.l0 K tgt far (acc ++ [if a = x then (i : Int) + 1 else -(i : Int) - 1]) y ns ps else impl_PathOf.l1 K tgt far acc x ps m ((i + 1 : Nat) : Int) ns ps := by
  have e2 : wrap64 (wrap64 (-(i : Int)) - 1) = -(i : Int) - 1 := by rw [w64 (x := -(i : Int)) (by omega) (by omega), w64 (by omega) (by omega)]
  simp only [impl_PathOf.j2]
  rw [e2, w_succ (by omega)]
  cases u with
  | true =>
    simp only [if_true]
    by_cases c : a = x
    · rw [if_pos c, if_pos c, if_pos (by omega)]; rfl
    · rw [if_neg c, if_neg c, if_pos (by omega)]
  | false =>
    simp only [Bool.false_eq_true, if_false]
theorem iwalk_l1 {ns : List Int} {ps : List SP} (h : Small ns ps) {far acc : List Int} {tgt x : Int} (hl : far.length = ns.length) (ha : acc.length ≤ 100) (x0 : 0 ≤ x) (x1 : x < ns.length) (hb : -1 ≤ lb far x ∧ lb far x ≤ 100) :
    ∀ (d K i j : Nat) (y : Int), i + d = ps.length → 2 * d + 10 ≤ K → scanP (edges ps) far x d i = some (j, y) →
    ∃ K', K ≤ K' + 2 * d + 2 ∧ impl_PathOf.l1 K tgt far acc x ps (ps.length : Int) (i : Int) ns ps = impl_PathOf.l0 K' tgt far (acc ++ [stepI (edges ps) x j]) y ns ps
  | d, 0, i, j, y, hd, hK, hs => by omega
  | d, 1, i, j, y, hd, hK, hs => by omega
  | 0, K + 2, i, j, y, hd, hK, hs => by simp [scanP] at hs
  | d + 1, K + 2, i, j, y, hd, hK, hs => by
    have h20 := h.p20
    have ih := fun hs' => iwalk_l1 h (tgt := tgt) hl ha x0 x1 hb d K (i + 1) j y (by omega) (by omega) hs'
    have e1 : wrap64 (lb far x - 1) = lb far x - 1 := w64 (by omega) (by omega)
    have e2 : wrap64 (wrap64 (-(i : Int)) - 1) = -(i : Int) - 1 := by rw [w64 (x := -(i : Int)) (by omega) (by omega), w64 (by omega) (by omega)]
    simp only [scanP] at hs
    rw [edges_get (by omega)] at hs
    simp only [impl_PathOf.l1]
    have hj := fun (z : Int) (u : Bool) (s : ByteArray) (a b c d e m : Int) => iwalk_j2 (ns := ns) (ps := ps) (far := far) (acc := acc) (tgt := tgt) (x := x) ha (i := i) (by omega) z u K (s := s) (a := a) (b := b) (c := c) (d := d) (e := e) (m := m)
    rw [if_pos (by omega), if_pos (by omega), if_pos (by omega), rdP_impl, other_is, Option.bind_some, show rd far x = lb far x from rfl, e1, hj, hj]
    cases ho : oth ((ps.getD i z60).f1, (ps.getD i z60).f2) x with
    | none =>
      rw [ho] at hs
      simp only [Bool.false_eq_true, if_false]
      obtain ⟨K', k1, k2⟩ := ih hs
      exact ⟨K', by omega, k2⟩
    | some z =>
      have zr := h.ends.oth (i := i) (by rw [edges_length]; omega) (by rw [edges_get (by omega)]; exact ho)
      rw [ho] at hs
      simp only [if_true]
      rw [if_pos zr.1, if_pos (by rw [hl]; exact zr.2), if_pos x0, if_pos (by rw [hl]; exact x1), show rd far z = lb far z from rfl]
      by_cases c3 : lb far z = lb far x - 1
      · simp only [c3, if_true, Option.some.injEq, Prod.mk.injEq] at hs
        obtain ⟨rfl, rfl⟩ := hs
        refine ⟨K, by omega, ?_⟩
        rw [if_pos (by rw [c3]; simp)]
        unfold stepI
        rw [edges_get (by omega)]
      · simp only [c3, if_false] at hs
        obtain ⟨K', k1, k2⟩ := ih hs
        refine ⟨K', by omega, ?_⟩
        rw [if_neg (by simpa using c3)]
        exact k2
theorem walk_next {ns : List Int} {ps : List SP} (h : Small ns ps) {far : List Int} {tgt x : Int} (hF : IsFar (edges ps) ns.length tgt far) (x0 : 0 ≤ x) (x1 : x < ns.length) {f : Nat} (hx : lb far x = (f : Int) + 1) :
    ∃ j y, scanP (edges ps) far x ps.length 0 = some (j, y) ∧ (0 ≤ y ∧ y < ns.length) ∧ lb far y = (f : Int) := by
  obtain ⟨i, hi, y, ho, hy⟩ := far_nearer h.ends hF x0 x1 (by omega)
  rw [edges_length] at hi
  obtain ⟨j', y', a, b, c, e, g⟩ := scan_some (far := far) ps.length 0 i y (by omega) (by omega) ho hy
  exact ⟨j', y', a, h.ends.oth (by rw [edges_length]; omega) e, by omega⟩
theorem swalk_l0 {ns : List Int} {ps : List SP} (h : Small ns ps) (hne : ∀ i, i < ps.length → (ps.getD i z60).f1 ≠ (ps.getD i z60).f2) {far : List Int} {tgt : Int} (hF : IsFar (edges ps) ns.length tgt far) (t0 : 0 ≤ tgt) (t1 : tgt < ns.length) :
    ∀ (f K : Nat) (x : Int) (acc : List Int), 0 ≤ x → x < ns.length → lb far x = (f : Int) → acc.length + f ≤ 100 → f * 50 + 100 ≤ K → spec_l04Walk.l0 K tgt far acc x ns ps = some (pathS (edges ps) far f x acc, true)
  | f, 0, x, acc, x0, x1, hx, ha, hK => by omega
  | 0, K + 1, x, acc, x0, x1, hx, ha, hK => by
    simp only [spec_l04Walk.l0, pathS]
    rw [if_pos (far_zero hF x0 x1 hx)]
  | f + 1, K + 1, x, acc, x0, x1, hx, ha, hK => by
    have h20 := h.p20
    have hxt : ¬ x = tgt := fun e => by have := far_self hF t0 t1; rw [e, this] at hx; omega
    obtain ⟨j, y, hs, yr, hy⟩ := walk_next h hF x0 x1 (f := f) (by rw [hx]; push_cast; rfl)
    obtain ⟨K', k1, k2⟩ := swalk_l1 h (acc := acc) (tgt := tgt) hF.len (by omega) hne x0 x1 (by omega) ps.length K 0 j y (by omega) (by omega) hs
    simp only [spec_l04Walk.l0, pathS]
    rw [show ((0 : Nat) : Int) = (0 : Int) from rfl] at k2
    rw [if_neg hxt, k2, edges_length, hs]
    exact swalk_l0 h hne hF t0 t1 f K' y _ yr.1 yr.2 hy (by rw [List.length_append, List.length_singleton]; omega) (by omega)
theorem iwalk_l0 {ns : List Int} {ps : List SP} (h : Small ns ps) {far : List Int} {tgt : Int} (hF : IsFar (edges ps) ns.length tgt far) (t0 : 0 ≤ tgt) (t1 : tgt < ns.length) :
    ∀ (f K : Nat) (x : Int) (acc : List Int), 0 ≤ x → x < ns.length → lb far x = (f : Int) → acc.length + f ≤ 100 → f * 50 + 100 ≤ K → impl_PathOf.l0 K tgt far acc x ns ps = some (pathS (edges ps) far f x acc, 0)
  | f, 0, x, acc, x0, x1, hx, ha, hK => by omega
  | 0, K + 1, x, acc, x0, x1, hx, ha, hK => by
    simp only [impl_PathOf.l0, pathS]
    rw [if_pos (far_zero hF x0 x1 hx)]
  | f + 1, K + 1, x, acc, x0, x1, hx, ha, hK => by
    have h20 := h.p20
    have hxt : ¬ x = tgt := fun e => by have := far_self hF t0 t1; rw [e, this] at hx; omega
    obtain ⟨j, y, hs, yr, hy⟩ := walk_next h hF x0 x1 (f := f) (by rw [hx]; push_cast; rfl)
    obtain ⟨K', k1, k2⟩ := iwalk_l1 h (acc := acc) (tgt := tgt) hF.len (by omega) x0 x1 (by omega) ps.length K 0 j y (by omega) (by omega) hs
    simp only [impl_PathOf.l0, pathS]
    rw [show ((0 : Nat) : Int) = (0 : Int) from rfl] at k2
    rw [if_neg hxt, k2, edges_length, hs]
    exact iwalk_l0 h hF t0 t1 f K' y _ yr.1 yr.2 hy (by rw [List.length_append, List.length_singleton]; omega) (by omega)
theorem pathS_length {es : List (Int × Int)} {far : List Int} : ∀ (f : Nat) (x : Int) (acc : List Int), (pathS es far f x acc).length ≤ acc.length + f
  | 0, x, acc => by simp [pathS]
  | f + 1, x, acc => by
    simp only [pathS]
    split
    · have := pathS_length (es := es) (far := far) f ‹_› (acc ++ [stepI es x ‹_›])
      rw [List.length_append, List.length_singleton] at this
      omega
    · omega
def pathV (ns : List Int) (ps : List SP) (x tgt : Int) : List Int × Int :=
  if netOk ns ps = true then (if (0 ≤ x ∧ x ≤ (ns.length : Int) - 1) ∧ 0 ≤ tgt ∧ tgt ≤ (ns.length : Int) - 1 then (if lb (farOf ns ps tgt) x < 0 then ([], 3) else (pathS (edges ps) (farOf ns ps tgt) (lb (farOf ns ps tgt) x).toNat x [], 0)) else ([], 2)) else ([], 1)
theorem FnExactPathOf : ∀ (l0_0 : List (Int)) (l0_1 : List (S85)) (a1 : Int) (a2 : Int), (l0_0.length ≤ 9223372036854775807) → (∀ p ∈ l0_0, (Lit.int .i64 p).wf = true) → (l0_1.length ≤ 9223372036854775807) → (∀ p ∈ l0_1, p.f0.size ≤ 9223372036854775807 ∧ (Lit.int .i64 p.f1).wf = true ∧ (Lit.int .i64 p.f2).wf = true ∧ (Lit.int .i64 p.f3).wf = true ∧ (Lit.int .i64 p.f4).wf = true ∧ (Lit.int .i64 p.f5).wf = true) → ((Lit.int .i64 a1).wf = true) → ((Lit.int .i64 a2).wf = true) → ∃ k, laws_FnExactPathOf.f k l0_0 l0_1 a1 a2 = some true := by
  intro ns qs x tgt hn hw hq hx hwx hwt
  have hxs : ∀ p ∈ qs, p.f0.size ≤ 9223372036854775807 := fun p hp => (hx p hp).1
  have hz := sizeP_nonneg qs
  refine ⟨2000, ?_⟩
  unfold laws_FnExactPathOf.f
  rw [szNet_is ns qs 1048576 hn hq hxs (by omega) (by omega)]
  simp only [Option.bind_some]
  by_cases n1 : roomOf 1048576 ((ns.length : Int) + ((qs.length : Int) + sizeP qs)) < 0
  · rw [if_pos n1]
  rw [if_neg n1]
  have b1 := roomOf_ok n1
  have tn : laws_toNetwork.f ns qs = some (ns, qs.map cvP) := toNet_is (by omega) (by omega)
  have en : laws_eqNetwork.f ns (qs.map cvP) ns (qs.map cvP) = some true := eqNet_refl (by omega) (by simp; omega)
  have mn := markNet_is (ns := ns) (ps := qs.map cvP) (by omega) (by simp; omega)
  have hc := cv_size (qs := qs) (m := 1048576) (by omega)
  have hs : ns.length ≤ 4611686018427387904 ∧ ∀ p ∈ qs.map cvP, p.f0.size ≤ 9000000000000000000 := ⟨by omega, fun p hp => by have := hc p hp; omega⟩
  have so : spec_l04Ok_.f ns (qs.map cvP) = some (netOk ns (qs.map cvP)) := by unfold spec_l04Ok_.f; rw [if_pos hs]
  have io : impl_ValidNetwork_.f ns (qs.map cvP) = some (netOk ns (qs.map cvP)) := by unfold impl_ValidNetwork_.f; rw [if_pos hs]
  have hlq : (qs.map cvP).length = qs.length := by simp
  generalize qs.map cvP = ps at *
  have sn : ∀ x, spec_l04Node_.f ns ps x = some (decide (0 ≤ x ∧ x ≤ (ns.length : Int) - 1)) := fun x => by unfold spec_l04Node_.f; rw [if_pos hs.1]
  have ih : ∀ x, impl_Network_hasNode_.f ns ps x = some (decide (0 ≤ x ∧ x ≤ (ns.length : Int) - 1)) := fun x => by unfold impl_Network_hasNode_.f; rw [if_pos hs.1]
  have hfar : ∀ h : netOk ns ps = true, (0 ≤ x ∧ x ≤ (ns.length : Int) - 1) → (0 ≤ tgt ∧ tgt ≤ (ns.length : Int) - 1) → IsFar (edges ps) ns.length tgt (farOf ns ps tgt) ∧ lb (farOf ns ps tgt) x ≤ 16 := fun h g1 g2 => by
    have hS := small_of h
    have hF := farOf_far hS g2.1 (by omega)
    refine ⟨hF, ?_⟩
    have := hS.n16
    rcases hF.at_ x g1.1 (by omega) with ⟨k, _⟩ | ⟨d, k, l, _⟩ <;> omega
  have sv : ∀ K, 1500 ≤ K → spec_PathOf.f K ns ps x tgt = some (pathV ns ps x tgt) := by
    intro K hK
    obtain ⟨K, rfl⟩ : ∃ m, K = m + 1 := ⟨K - 1, by omega⟩
    unfold spec_PathOf.f pathV
    rw [so, Option.bind_some, sn, sn, Option.bind_some, Option.bind_some]
    simp only [spec_PathOf.j0]
    by_cases h : netOk ns ps = true
    · rw [if_pos h, if_pos h]
      by_cases g1 : 0 ≤ x ∧ x ≤ (ns.length : Int) - 1
      · rw [if_pos (by simpa using g1)]
        by_cases g2 : 0 ≤ tgt ∧ tgt ≤ (ns.length : Int) - 1
        · have hS := small_of h
          obtain ⟨hF, hle⟩ := hfar h g1 g2
          rw [if_neg (by simpa using g2), if_pos ⟨g1, g2⟩]
          unfold spec_l04Walk.f
          rw [sfar_is hS g2.1 (by omega) (by omega), Option.bind_some, if_pos g1.1, if_pos (by rw [hF.len]; omega)]
          by_cases c : lb (farOf ns ps tgt) x < 0
          · rw [if_pos c, if_pos (show rd _ _ < 0 from c), Option.bind_some, if_neg (by simp)]
          · rw [if_neg c, if_neg (show ¬ rd _ _ < 0 from c), swalk_l0 hS (fun i hi => (netOk_pipe h i hi).2.2.2) hF g2.1 (by omega) (lb (farOf ns ps tgt) x).toNat K x [] g1.1 (by omega) (by omega) (by rw [List.length_nil]; omega) (by omega), Option.bind_some, if_pos rfl]
        · rw [if_pos (by have := g2; simp; omega), if_neg (fun g => g2 g.2)]
      · rw [if_neg (by simpa using g1), if_pos trivial, if_neg (fun g => g1 g.1)]
    · rw [if_neg h, if_neg h]
  have iv : ∀ K, 1500 ≤ K → impl_PathOf.f K ns ps x tgt = some (pathV ns ps x tgt) := by
    intro K hK
    unfold impl_PathOf.f pathV
    rw [io, Option.bind_some, ih, ih, Option.bind_some, Option.bind_some]
    by_cases h : netOk ns ps = true
    · rw [if_pos h, if_pos h]
      by_cases g1 : 0 ≤ x ∧ x ≤ (ns.length : Int) - 1
      · rw [if_pos (by simpa using g1)]
        by_cases g2 : 0 ≤ tgt ∧ tgt ≤ (ns.length : Int) - 1
        · have hS := small_of h
          obtain ⟨hF, hle⟩ := hfar h g1 g2
          rw [if_pos (by simpa using g2), if_pos ⟨g1, g2⟩, idist_is hS g2.1 (by omega) (by omega), Option.bind_some, if_pos g1.1, if_pos (by rw [hF.len]; omega)]
          by_cases c : lb (farOf ns ps tgt) x < 0
          · rw [if_pos c, if_pos (show rd _ _ < 0 from c)]
          · rw [if_neg c, if_neg (show ¬ rd _ _ < 0 from c), iwalk_l0 hS hF g2.1 (by omega) (lb (farOf ns ps tgt) x).toNat K x [] g1.1 (by omega) (by omega) (by rw [List.length_nil]; omega) (by omega)]
        · rw [if_neg (by simpa using g2), if_neg (fun g => g2 g.2)]
      · rw [if_neg (by simpa using g1), if_neg (fun g => g1 g.1)]
    · rw [if_neg h, if_neg h]
  have hl : (pathV ns ps x tgt).1.length ≤ 1048576 := by
    unfold pathV
    split
    · rename_i h
      split
      · rename_i g
        have hle := (hfar h g.1 g.2).2
        split
        · simp
        · have := pathS_length (es := edges ps) (far := farOf ns ps tgt) (lb (farOf ns ps tgt) x).toNat x []
          show (pathS (edges ps) (farOf ns ps tgt) (lb (farOf ns ps tgt) x).toNat x []).length ≤ _
          rw [List.length_nil] at this
          omega
      · simp
    · simp
  generalize pathV ns ps x tgt = R at sv iv hl
  have e1 := eqI_refl hl
  have m1 := markI_is hl
  have h1 := heldI_is hl
  have h0 : ¬ (1 + (ns.length : Int) + 6 * (qs.length : Int) < 0) := by omega
  have h0' : ¬ (1 + (ns.length : Int) + 6 * (ps.length : Int) < 0) := by omega
  have h2 : ¬ (1 + (R.1.length : Int) < 0) := by omega
  simp [tn, en, sv, iv, e1, m1, h1, mn, h0, h0', h2, laws_FnExactPathOf.j0, laws_FnExactPathOf.j1, laws_FnExactPathOf.j2, laws_FnExactPathOf.j3, laws_FnExactPathOf.j4, laws_FnExactPathOf.j5, laws_FnExactPathOf.j6, laws_FnExactPathOf.j7, laws_FnExactPathOf.j8, laws_FnExactPathOf.j9]

end Go.Proofs.Ytcgbagdpedpdpaa.Pure
