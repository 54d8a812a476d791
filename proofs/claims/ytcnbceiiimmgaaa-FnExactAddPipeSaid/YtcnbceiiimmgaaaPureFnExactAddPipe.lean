/- For every network and pipe the program's AddPipe answers as the reference's AddPipe does, leaves the network as it is, and hands out memory of its own. No condition. -/
import Derived.Test.YtcnbceiiimmgaaaPFnExactAddPipex14
import Derived.Test.YtcnbceiiimmgaaaMath
import Derived.Test.YtcnbceiiimmgaaaMathR
namespace Go.Proofs.Ytcnbceiiimmgaaa.Pure
open Go.RowKit Go.Proofs.Ytcnbceiiimmgaaa.PFnExactAddPipe Go.Proofs.YtcnbceiiimmgaaaW.PrintWords Go.Proofs.YtcnbceiiimmgaaaW.PrintLast Go.Proofs.YtcnbceiiimmgaaaW.PrintMore Go.Proofs.YtcnbceiiimmgaaaM
set_option linter.unusedSimpArgs false
set_option linter.unusedVariables false
theorem roomOf_ok {a n : Int} (h : ¬ roomOf a n < 0) : n ≤ a ∧ roomOf a n = a - n := by
  unfold roomOf at *
  split at h
  · omega
  · rename_i c; rw [if_neg c]; exact ⟨by omega, rfl⟩
theorem szNet_is (ns : List Int) (qs : List S27) (a : Int) (hn : ns.length ≤ 9223372036854775807) (hq : qs.length ≤ 9223372036854775807) (hx : ∀ p ∈ qs, p.f0.size ≤ 9223372036854775807) (h0 : 0 ≤ a) (h1 : a ≤ 1048576) :
    laws_szNetwork.f ns qs a = some (roomOf a ((ns.length : Int) + ((qs.length : Int) + sizeP qs))) := by
  unfold laws_szNetwork.f laws_szInt64S.f
  have hz := sizeP_nonneg qs
  rw [w64 (x := a - (ns.length : Int)) (by omega) (by omega)]
  by_cases n1 : a - (ns.length : Int) < 0
  · rw [if_pos n1]; simp only [Option.bind_some]; unfold roomOf; rw [if_pos (by omega), if_pos (by omega)]
  · rw [if_neg n1]
    simp only [Option.bind_some]
    have e : laws_szPipeS_.f qs (a - (ns.length : Int)) = some (roomOf (a - (ns.length : Int)) ((qs.length : Int) + sizeP qs)) := by unfold laws_szPipeS_.f; rw [if_pos ⟨⟨by omega, by omega⟩, hq, hx⟩]
    rw [if_neg n1, e]
    simp only [Option.bind_some]
    unfold roomOf
    rw [show a - ((ns.length : Int) + ((qs.length : Int) + sizeP qs)) = a - (ns.length : Int) - ((qs.length : Int) + sizeP qs) by omega]
    by_cases n2 : a - (ns.length : Int) - ((qs.length : Int) + sizeP qs) < 0
    · rw [if_pos n2, if_pos (by omega)]
    · rw [if_neg n2, if_neg n2]
theorem toNet_is {ns : List Int} {qs : List S27} (hn : ns.length ≤ 1048576) (hq : qs.length ≤ 1048576) : laws_toNetwork.f ns qs = some (ns, qs.map cvP) := by
  unfold laws_toNetwork.f laws_toInt64S_.f laws_toPipeS_.f
  rw [if_pos (by omega), if_pos (by omega)]; rfl
theorem eqNet_refl {ns : List Int} {ps : List S36} (hn : ns.length ≤ 1048576) (hq : ps.length ≤ 1048576) : laws_eqNetwork.f ns ps ns ps = some true := by
  unfold laws_eqNetwork.f laws_eqInt64S_.f laws_eqPipeS_.f
  rw [if_pos (by omega), if_pos (by omega)]; simp [pipesEq_refl]
theorem cv_size {qs : List S27} {m : Nat} (h : sizeP qs ≤ (m : Int)) : ∀ p ∈ qs.map cvP, p.f0.size ≤ m := by
  intro p hp
  obtain ⟨q, hq, rfl⟩ := List.mem_map.mp hp
  have := sizeP_elem h q hq
  show q.f0.size ≤ m
  omega
theorem markNet_is {ns : List Int} {ps : List S36} (hn : ns.length ≤ 1048576) (hq : ps.length ≤ 1048576) : laws_markNetwork.f ns ps 1 = some (1 + (ns.length : Int) + 6 * (ps.length : Int), marks 1 ns.length, marksP (1 + (ns.length : Int)) ps.length) := by
  unfold laws_markNetwork.f laws_markInt64S_.f laws_markPipeS_.f
  rw [if_pos ⟨by omega, by omega⟩]
  simp only [Option.bind_some]
  rw [if_pos ⟨by omega, by omega⟩]; rfl
theorem markI_is {l : List Int} (h : l.length ≤ 1048576) : laws_markInt64S_.f l 1 = some (1 + (l.length : Int), marks 1 l.length) := by
  unfold laws_markInt64S_.f; rw [if_pos ⟨by omega, by omega⟩]
theorem heldI_is {n : Nat} (h : n ≤ 1048576) : laws_heldInt64S_.f (marks 1 n) 1 = some (1 + (n : Int)) := by
  unfold laws_heldInt64S_.f; rw [if_pos ⟨by omega, by rw [marks_length]; omega⟩, held_marks]
theorem eqI_refl {l : List Int} (h : l.length ≤ 1048576) : laws_eqInt64S_.f l l = some true := by
  unfold laws_eqInt64S_.f; rw [if_pos (by omega)]; simp
theorem heldNet_is {n m : Nat} (hn : n ≤ 1048576) (hm : m ≤ 1048577) : laws_heldNetwork.f (marks 1 n) (marksP (1 + (n : Int)) m) 1 = some (1 + (n : Int) + 6 * (m : Int)) := by
  have h1 := heldI_is hn
  have h2 : laws_heldPipeS_.f (marksP (1 + (n : Int)) m) (1 + (n : Int)) = some (1 + (n : Int) + 6 * (m : Int)) := by unfold laws_heldPipeS_.f; rw [if_pos ⟨by omega, by rw [marksP_length]; omega⟩, held_marksP]
  have c1 : ¬ (1 + (n : Int) < 0) := by omega
  have c2 : ¬ (1 + (n : Int) + 6 * (m : Int) < 0) := by omega
  unfold laws_heldNetwork.f
  simp [h1, h2, c1, c2]
/-- Whether the j-th name stands ahead of a name. -/
def lsN (ps : List S36) (t : ByteArray) (j : Nat) : Bool := Op.bytesLess (ps.getD j z36).f0.toList t.toList
/-- The first place from i on whose name does not stand ahead. -/
def fstN (ps : List S36) (t : ByteArray) : Nat → Nat → Nat
  | 0, i => i
  | d + 1, i => if lsN ps t i = true then fstN ps t d (i + 1) else i
theorem fstN_is (ps : List S36) (t : ByteArray) : ∀ (d i : Nat), i + d = ps.length → (∀ j, j < i → lsN ps t j = true) → i ≤ fstN ps t d i ∧ fstN ps t d i ≤ ps.length ∧ (∀ j, j < fstN ps t d i → lsN ps t j = true) ∧ (fstN ps t d i < ps.length → lsN ps t (fstN ps t d i) = false)
  | 0, i, h, hj => ⟨Nat.le_refl _, by simp only [fstN]; omega, hj, fun h2 => by simp only [fstN] at h2; omega⟩
  | d + 1, i, h, hj => by
    simp only [fstN]
    by_cases c : lsN ps t i = true
    · rw [if_pos c]
      have := fstN_is ps t d (i + 1) (by omega) (fun j hj' => by by_cases e : j = i; · rw [e]; exact c
                                                                 · exact hj j (by omega))
      exact ⟨by omega, this.2⟩
    · rw [if_neg c]
      exact ⟨Nat.le_refl _, by omega, hj, fun _ => Bool.eq_false_iff.2 c⟩
theorem bsL_is (ps : List S36) (t : ByteArray) (mono : ∀ a b, a ≤ b → b < ps.length → lsN ps t b = true → lsN ps t a = true) : ∀ (k lo hi : Nat), lo ≤ hi → hi ≤ ps.length → hi - lo ≤ k → (∀ j, j < lo → lsN ps t j = true) → (∀ j, hi ≤ j → j < ps.length → lsN ps t j = false) →
    bsL ps t k lo hi ≤ ps.length ∧ (∀ j, j < bsL ps t k lo hi → lsN ps t j = true) ∧ (∀ j, bsL ps t k lo hi ≤ j → j < ps.length → lsN ps t j = false)
  | 0, lo, hi, h1, h2, h3, h4, h5 => by
    obtain rfl : hi = lo := by omega
    exact ⟨h2, h4, h5⟩
  | k + 1, lo, hi, h1, h2, h3, h4, h5 => by
    simp only [bsL]
    by_cases c : lo < hi
    · rw [if_pos c]
      by_cases g : lsN ps t ((lo + hi) / 2) = true
      · have g' : Op.bytesLess (ps.getD ((lo + hi) / 2) z36).f0.toList t.toList = true := g
        rw [if_pos g']
        exact bsL_is ps t mono k _ hi (by omega) h2 (by omega) (fun j hj => mono j ((lo + hi) / 2) (by omega) (by omega) g) h5
      · have g' : ¬ Op.bytesLess (ps.getD ((lo + hi) / 2) z36).f0.toList t.toList = true := g
        rw [if_neg g']
        exact bsL_is ps t mono k lo _ (by omega) (by omega) (by omega) h4 (fun j hj hn => by
          cases e : lsN ps t j
          · rfl
          · exact absurd (mono ((lo + hi) / 2) j hj hn e) g)
    · rw [if_neg c]
      obtain rfl : hi = lo := by omega
      exact ⟨h2, h4, h5⟩
theorem names_rise {ns : List Int} {ps : List S36} (h : netOk ns ps = true) : ∀ (d i : Nat), 0 < d → i + d < ps.length → Op.bytesLess (ps.getD i z36).f0.toList (ps.getD (i + d) z36).f0.toList = true := by
  have hs : ∀ j, 0 < j → j < ps.length → Op.bytesLess (ps.getD (j - 1) z36).f0.toList (ps.getD j z36).f0.toList = true := by
    intro j h0 hj
    have := (netOk_parts h).2.2.1 j hj
    unfold stepOk at this
    simp only [Bool.and_eq_true, Bool.or_eq_true, decide_eq_true_eq] at this
    rcases this.2 with e | e
    · omega
    · exact e
  intro d
  induction d with
  | zero => intro i h0; omega
  | succ d ih =>
    intro i _ hd
    have h1 := hs (i + (d + 1)) (by omega) hd
    rw [show i + (d + 1) - 1 = i + d by omega] at h1
    by_cases c : d = 0
    · subst c; exact h1
    · exact bytes_trans _ _ _ (ih i (by omega) (by omega)) h1
theorem bs_fst {ns : List Int} {ps : List S36} (h : netOk ns ps = true) (t : ByteArray) : bsL ps t ps.length 0 ps.length = fstN ps t ps.length 0 := by
  have mono : ∀ a b, a ≤ b → b < ps.length → lsN ps t b = true → lsN ps t a = true := fun a b hab hb hl => by
    by_cases e : a = b
    · rw [e]; exact hl
    · have := names_rise h (b - a) a (by omega) (by omega)
      rw [show a + (b - a) = b by omega] at this
      exact bytes_trans _ _ _ this hl
  obtain ⟨a1, a2, a3⟩ := bsL_is ps t mono ps.length 0 ps.length (Nat.zero_le _) (Nat.le_refl _) (by omega) (fun j hj => by omega) (fun j h1 h2 => by omega)
  obtain ⟨_, b1, b2, b3⟩ := fstN_is ps t ps.length 0 (by omega) (fun j hj => by omega)
  generalize bsL ps t ps.length 0 ps.length = x at *
  generalize fstN ps t ps.length 0 = y at *
  by_cases c1 : x < y
  · have e1 := a3 x (Nat.le_refl _) (by omega)
    rw [b2 x c1] at e1; cases e1
  · by_cases c2 : y < x
    · have e1 := b3 (by omega)
      rw [a2 y c2] at e1; cases e1
    · omega
def addR (ns : List Int) (ps : List S36) (p : S36) (i : Nat) : List Int × List S36 × Int :=
  if (decide (i < ps.length) && ((ps.getD i z36).f0.toList == p.f0.toList)) = true then ([], [], 4) else if ps.length = 20 then ([], [], 5) else (ns, ps.take i ++ ([p] ++ ps.drop i), 0)
def addI (ns : List Int) (ps : List S36) (p : S36) : List Int × List S36 × Int :=
  if netOk ns ps = true then (if fitsOk ns.length p = true then addR ns ps p (fstN ps p.f0 ps.length 0) else ([], [], 2)) else ([], [], 1)
theorem sadd_j2 {ns : List Int} {ps : List S36} (p : S36) (hn : ns.length ≤ 16) (hp : ps.length ≤ 20) (K i : Nat) (hi : i ≤ ps.length) (b : Bool) (hb : b = (decide (i < ps.length) && ((ps.getD i z36).f0.toList == p.f0.toList))) : spec_AddPipe.j2 (K + 1) (i : Int) b ns ps p.f0 p.f1 p.f2 p.f3 p.f4 p.f5 = some (addR ns ps p i) := by
  simp only [spec_AddPipe.j2]
  unfold addR
  rw [← hb]
  by_cases c : b = true
  · rw [if_pos c, if_pos c]
  · rw [if_neg c, if_neg c]
    by_cases g : ps.length = 20
    · rw [if_pos (by omega), if_pos g]
    · rw [if_neg (by omega), if_neg g]
      have ow : spec_l00Own.f ns = some ns := by unfold spec_l00Own.f; simp; omega
      rw [ow, Option.bind_some, Option.bind_some, if_pos (by omega), if_pos (by omega), Option.bind_some, Int.toNat_natCast, if_pos (by rw [List.length_nil, List.length_take]; omega), Option.bind_some, if_pos (by rw [List.nil_append, List.length_take]; omega), Option.bind_some, Option.bind_some,
        if_pos (by rw [List.length_append, List.nil_append, List.length_take, List.length_singleton, List.length_drop]; omega), List.nil_append, List.append_assoc]
theorem sadd_j1 {ns : List Int} {ps : List S36} (p : S36) (hn : ns.length ≤ 16) (hp : ps.length ≤ 20) (K i : Nat) (hi : i ≤ ps.length) : spec_AddPipe.j1 (K + 2) (i : Int) ns ps p.f0 p.f1 p.f2 p.f3 p.f4 p.f5 = some (addR ns ps p i) := by
  simp only [spec_AddPipe.j1]
  by_cases c : i < ps.length
  · rw [if_pos (by omega), if_pos (by omega), rdP_impl]
    exact sadd_j2 p hn hp K i hi _ (by rw [decide_eq_true c, Bool.true_and])
  · rw [if_neg (by omega)]
    exact sadd_j2 p hn hp K i hi _ (by rw [decide_eq_false c, Bool.false_and])
theorem sadd_l0 {ns : List Int} {ps : List S36} (p : S36) (hn : ns.length ≤ 16) (hp : ps.length ≤ 20) : ∀ (d K i : Nat), i + d = ps.length → spec_AddPipe.l0 (K + d + 3) (i : Int) ns ps p.f0 p.f1 p.f2 p.f3 p.f4 p.f5 = some (addR ns ps p (fstN ps p.f0 d i))
  | 0, K, i, h => by
    simp only [spec_AddPipe.l0, fstN]
    rw [if_neg (by omega)]
    exact sadd_j1 p hn hp K i (by omega)
  | d + 1, K, i, h => by
    have hi : i < ps.length := by omega
    have w1 : wrap64 ((i : Int) + 1) = ((i + 1 : Nat) : Int) := by rw [w64 (by omega) (by omega)]; omega
    rw [show K + (d + 1) + 3 = (K + d + 3) + 1 by omega]
    simp only [spec_AddPipe.l0, fstN]
    rw [if_pos (by omega), if_pos (by omega), rdP_impl, w1]
    by_cases c : lsN ps p.f0 i = true
    · have c' : Op.bytesLess (ps.getD i z36).f0.toList p.f0.toList = true := c
      rw [if_pos c', if_pos c]
      exact sadd_l0 p hn hp d K (i + 1) (by omega)
    · have c' : ¬ Op.bytesLess (ps.getD i z36).f0.toList p.f0.toList = true := c
      rw [if_neg c', if_neg c]
      rw [show K + d + 3 = (K + d + 1) + 2 by omega]
      exact sadd_j1 p hn hp (K + d + 1) i (by omega)
theorem add_spec {ns : List Int} {ps : List S36} (p : S36) (hp : p.f0.size ≤ 9000000000000000000) (hs : ns.length ≤ 4611686018427387904 ∧ ∀ p ∈ ps, p.f0.size ≤ 9000000000000000000) {K : Nat} (hK : 40 ≤ K) : spec_AddPipe.f K ns ps p.f0 p.f1 p.f2 p.f3 p.f4 p.f5 = some (addI ns ps p) := by
  unfold spec_AddPipe.f spec_l04Ok_.f spec_l04Fits.f addI
  rw [if_pos hs, Option.bind_some, if_pos hp, Option.bind_some]
  by_cases h : netOk ns ps = true
  · rw [if_pos h, if_pos h]
    have hq := netOk_parts h
    by_cases g : fitsOk ns.length p = true
    · have g' : fitsOk ns.length ⟨p.f0, p.f1, p.f2, p.f3, p.f4, p.f5⟩ = true := g
      rw [if_pos g', if_pos g]
      have := sadd_l0 p hq.1.2 hq.2.1 ps.length (K - ps.length - 3) 0 (by omega)
      rw [show K - ps.length - 3 + ps.length + 3 = K by have := hq.2.1; omega] at this
      exact this
    · have g' : ¬ fitsOk ns.length ⟨p.f0, p.f1, p.f2, p.f3, p.f4, p.f5⟩ = true := g
      rw [if_neg g', if_neg g]
  · rw [if_neg h, if_neg h]
theorem bsH_is (ps : List S36) (t : ByteArray) (i : Nat) (hi : i < ps.length → lsN ps t i = false) : bsH ps t i = (decide (i < ps.length) && ((ps.getD i z36).f0.toList == t.toList)) := by
  unfold bsH
  by_cases c : i < ps.length
  · have h : Op.bytesLess (ps.getD i z36).f0.toList t.toList = false := hi c
    rw [decide_eq_true c, Bool.true_and, Bool.true_and]
    unfold cmpB
    rw [h, if_neg (by simp)]
    cases (ps.getD i z36).f0.toList == t.toList <;> simp
  · rw [decide_eq_false c, Bool.false_and, Bool.false_and]
theorem iadd_j0 {ns : List Int} {ps : List S36} (p : S36) (hn : ns.length ≤ 16) (hp : ps.length ≤ 20) (K i : Nat) (hi : i ≤ ps.length) (b : Bool) (hb : b = (decide (i < ps.length) && ((ps.getD i z36).f0.toList == p.f0.toList))) : impl_AddPipe.j0 (K + 1) (i : Int) b false ns ps p.f0 p.f1 p.f2 p.f3 p.f4 p.f5 = some (addR ns ps p i) := by
  simp only [impl_AddPipe.j0]
  unfold addR
  rw [← hb, if_neg (by simp)]
  by_cases c : b = true
  · rw [if_pos c, if_pos c]
  · rw [if_neg c, if_neg c]
    by_cases g : ps.length = 20
    · rw [if_pos (by omega), if_pos g]
    · rw [if_neg (by omega), if_neg g]
      have o1 : slices_Clone_int64_int64.f ns = some ns := by unfold slices_Clone_int64_int64.f; rw [if_pos (by omega)]
      have o2 : impl_Pipe_28.f ps = some ps := by unfold impl_Pipe_28.f; rw [if_pos (by omega)]
      have o3 : impl_Pipe_27.f ps (i : Int) [p] = some (ps.take i ++ ([p] ++ ps.drop i), [p]) := by
        unfold impl_Pipe_27.f
        rw [if_pos ⟨by omega, by omega, by omega, rfl⟩, Int.toNat_natCast]
      rw [o1, Option.bind_some, o2, Option.bind_some]
      show (impl_Pipe_27.f ps (i : Int) [p]).bind _ = _
      rw [o3]; rfl
theorem add_impl {ns : List Int} {ps : List S36} (p : S36) (hp : p.f0.size ≤ 9000000000000000000) (hs : ns.length ≤ 4611686018427387904 ∧ ∀ p ∈ ps, p.f0.size ≤ 9000000000000000000) {K : Nat} (hK : 1 ≤ K) : impl_AddPipe.f K ns ps p.f0 p.f1 p.f2 p.f3 p.f4 p.f5 = some (addI ns ps p) := by
  obtain ⟨K, rfl⟩ : ∃ m, K = m + 1 := ⟨K - 1, by omega⟩
  unfold impl_AddPipe.f impl_ValidNetwork_.f addI
  rw [if_pos hs, Option.bind_some]
  by_cases h : netOk ns ps = true
  · rw [if_pos h, if_pos h]
    have hq := netOk_parts h
    have o1 : impl_Pipe_21.f ps p.f0 p.f1 p.f2 p.f3 p.f4 p.f5 = some (((fstN ps p.f0 ps.length 0 : Nat) : Int), bsH ps p.f0 (fstN ps p.f0 ps.length 0)) := by
      unfold impl_Pipe_21.f; rw [if_pos (by omega), bs_fst h]
    obtain ⟨_, f1, _, f3⟩ := fstN_is ps p.f0 ps.length 0 (by omega) (fun j hj => by omega)
    have o2 : impl_ValidPipe_.f p.f0 p.f1 p.f2 p.f3 p.f4 p.f5 = some (pipeOk p.f0 p.f1 p.f2 p.f3 p.f4 p.f5) := by unfold impl_ValidPipe_.f; rw [if_pos hp]
    rw [o1, Option.bind_some, o2, Option.bind_some]
    by_cases g : pipeOk p.f0 p.f1 p.f2 p.f3 p.f4 p.f5 = true
    · have o3 := hasEnds_f ns ps p hq.1 g
      rw [if_pos g, o3, Option.bind_some]
      by_cases e : fitsOk ns.length p = true
      · rw [if_pos e, e]
        exact iadd_j0 p hq.1.2 hq.2.1 K _ f1 _ (bsH_is ps p.f0 _ f3)
      · rw [if_neg e, Bool.eq_false_iff.2 e]
        simp only [impl_AddPipe.j0]
        rw [if_pos (show (!false) = true from rfl)]
    · have e : ¬ fitsOk ns.length p = true := fun e => g (by unfold fitsOk at e; simp only [Bool.and_eq_true] at e; exact e.1)
      rw [if_neg g, if_neg e]
      simp only [impl_AddPipe.j0]
      rw [if_pos trivial]
  · rw [if_neg h, if_neg h]
theorem FnExactAddPipe : ∀ (l0_0 : List (Int)) (l0_1 : List (S27)) (a1_0 : ByteArray) (a1_1 : Int) (a1_2 : Int) (a1_3 : Int) (a1_4 : Int) (a1_5 : Int), (l0_0.length ≤ 9223372036854775807) → (∀ p ∈ l0_0, (Lit.int .i64 p).wf = true) → (l0_1.length ≤ 9223372036854775807) → (∀ p ∈ l0_1, p.f0.size ≤ 9223372036854775807 ∧ (Lit.int .i64 p.f1).wf = true ∧ (Lit.int .i64 p.f2).wf = true ∧ (Lit.int .i64 p.f3).wf = true ∧ (Lit.int .i64 p.f4).wf = true ∧ (Lit.int .i64 p.f5).wf = true) → (a1_0.size ≤ 9223372036854775807) → ((Lit.int .i64 a1_1).wf = true) → ((Lit.int .i64 a1_2).wf = true) → ((Lit.int .i64 a1_3).wf = true) → ((Lit.int .i64 a1_4).wf = true) → ((Lit.int .i64 a1_5).wf = true) → ∃ k, laws_FnExactAddPipe.f k l0_0 l0_1 a1_0 a1_1 a1_2 a1_3 a1_4 a1_5 = some true := by
  intro ns qs a m0 m1 m2 m3 m4 hn hw hq hx ha _ _ _ _ _
  have hxs : ∀ p ∈ qs, p.f0.size ≤ 9223372036854775807 := fun p hp => (hx p hp).1
  have hz := sizeP_nonneg qs
  refine ⟨120, ?_⟩
  unfold laws_FnExactAddPipe.f
  rw [szNet_is ns qs 1048576 hn hq hxs (by omega) (by omega)]
  simp only [Option.bind_some]
  by_cases n1 : roomOf 1048576 ((ns.length : Int) + ((qs.length : Int) + sizeP qs)) < 0
  · rw [if_pos n1]
  rw [if_neg n1]
  have b1 := roomOf_ok n1
  simp only [laws_FnExactAddPipe.j0]
  unfold laws_szPipe.f
  rw [w64 (x := roomOf 1048576 ((ns.length : Int) + ((qs.length : Int) + sizeP qs)) - (a.size : Int)) (by omega) (by omega)]
  by_cases n2 : roomOf 1048576 ((ns.length : Int) + ((qs.length : Int) + sizeP qs)) - (a.size : Int) < 0
  · rw [if_pos n2, Option.bind_some, if_pos (by omega)]
  rw [if_neg n2, Option.bind_some, if_neg n2]
  have tn : laws_toNetwork.f ns qs = some (ns, qs.map cvP) := toNet_is (by omega) (by omega)
  have en : laws_eqNetwork.f ns (qs.map cvP) ns (qs.map cvP) = some true := eqNet_refl (by omega) (by simp; omega)
  have mn := markNet_is (ns := ns) (ps := qs.map cvP) (by omega) (by simp; omega)
  have hc := cv_size (qs := qs) (m := 1048576) (by omega)
  have hs : ns.length ≤ 4611686018427387904 ∧ ∀ p ∈ qs.map cvP, p.f0.size ≤ 9000000000000000000 := ⟨by omega, fun p hp => by have := hc p hp; omega⟩
  have tp : laws_toPipe.f a m0 m1 m2 m3 m4 = some (a, m0, m1, m2, m3, m4) := rfl
  have hlq : (qs.map cvP).length = qs.length := by simp
  generalize hP : qs.map cvP = ps at *
  have sv : ∀ K, 40 ≤ K → spec_AddPipe.f K ns ps a m0 m1 m2 m3 m4 = some (addI ns ps ⟨a, m0, m1, m2, m3, m4⟩) := fun K hK => add_spec ⟨a, m0, m1, m2, m3, m4⟩ (by show a.size ≤ _; omega) hs hK
  have iv : ∀ K, 1 ≤ K → impl_AddPipe.f K ns ps a m0 m1 m2 m3 m4 = some (addI ns ps ⟨a, m0, m1, m2, m3, m4⟩) := fun K hK => add_impl ⟨a, m0, m1, m2, m3, m4⟩ (by show a.size ≤ _; omega) hs hK
  have hR : (addI ns ps ⟨a, m0, m1, m2, m3, m4⟩).1.length ≤ 1048576 ∧ (addI ns ps ⟨a, m0, m1, m2, m3, m4⟩).2.1.length ≤ 1048576 := by
    unfold addI addR
    split
    · rename_i h
      have h20 := (netOk_parts h).2.1
      split
      · split
        · simp
        · split
          · simp
          · refine ⟨by show ns.length ≤ _; omega, ?_⟩
            show (List.take _ ps ++ ([_] ++ List.drop _ ps)).length ≤ _
            rw [List.length_append, List.length_append, List.length_take, List.length_drop, List.length_singleton]; omega
      · simp
    · simp
  generalize addI ns ps ⟨a, m0, m1, m2, m3, m4⟩ = R at sv iv hR
  have eR : laws_eqNetwork.f R.1 R.2.1 R.1 R.2.1 = some true := eqNet_refl hR.1 hR.2
  have mR := markNet_is hR.1 hR.2
  have dR := heldNet_is (n := R.1.length) (m := R.2.1.length) hR.1 (by omega)
  have h0 : ¬ (1 + (ns.length : Int) + 6 * (ps.length : Int) < 0) := by omega
  have h2 : ¬ (1 + (R.1.length : Int) + 6 * (R.2.1.length : Int) < 0) := by omega
  have sv' := sv 118 (by omega)
  have iv1 := iv 118 (by omega)
  have iv2 := iv 111 (by omega)
  simp [tn, tp, en, sv', iv1, iv2, eR, mn, mR, dR, h0, h2, laws_FnExactAddPipe.j0, laws_FnExactAddPipe.j1, laws_FnExactAddPipe.j2, laws_FnExactAddPipe.j3, laws_FnExactAddPipe.j4, laws_FnExactAddPipe.j5, laws_FnExactAddPipe.j6, laws_FnExactAddPipe.j7, laws_FnExactAddPipe.j8, laws_FnExactAddPipe.j9, laws_FnExactAddPipe.j10]

end Go.Proofs.Ytcnbceiiimmgaaa.Pure
