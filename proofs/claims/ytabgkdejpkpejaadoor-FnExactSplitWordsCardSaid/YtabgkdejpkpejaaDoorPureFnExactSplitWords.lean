/- For every string the program's SplitWords gives the words that the reference's SplitWords gives, in memory of its own. No condition. -/
import Derived.Test.YtabgkdejpkpejaaDoorPFnExactSplitWordsx2
import Derived.Test.YtabgkdejpkpejaaDoorMath
import Derived.Test.YtabgkdejpkpejaaDoorMathR
namespace Go.Proofs.YtabgkdejpkpejaaDoor.Pure
open Go.RowKit Go.Proofs.YtabgkdejpkpejaaDoor.PFnExactSplitWords Go.Proofs.YtabgkdejpkpejaaDoorW.PrintWords Go.Proofs.YtabgkdejpkpejaaDoorW.PrintLast Go.Proofs.YtabgkdejpkpejaaDoorW.PrintMore Go.Proofs.YtabgkdejpkpejaaDoorM
set_option linter.unusedSimpArgs false
set_option linter.unusedVariables false
theorem rdOf_is {xs : List ByteArray} {i : Nat} (h : i < xs.length) : rdOf ByteArray.empty xs (i : Int) = xs[i] := by
  unfold rdOf; rw [Int.toNat_natCast, List.getD_eq_getElem?_getD, List.getElem?_eq_getElem h, Option.getD_some]
/-- A string of its bytes. -/
def BA (l : List UInt8) : ByteArray := ⟨l.toArray⟩
theorem BA_data (s : ByteArray) : BA s.data.toList = s := by obtain ⟨⟨l⟩⟩ := s; rfl
/-- A row of bytes, divided at each c. -/
def spl (c : UInt8) : List UInt8 → List (List UInt8)
  | [] => [[]]
  | b :: l => if b = c then [] :: spl c l else match spl c l with
    | [] => [[b]]
    | h :: t => (b :: h) :: t
theorem spl_ne (c : UInt8) : ∀ l, ∃ h t, spl c l = h :: t
  | [] => ⟨_, _, rfl⟩
  | b :: l => by
    simp only [spl]
    split
    · exact ⟨_, _, rfl⟩
    · split <;> exact ⟨_, _, rfl⟩
theorem spl_length (c : UInt8) : ∀ l, (spl c l).length ≤ l.length + 1
  | [] => by simp [spl]
  | b :: l => by
    have ih := spl_length c l
    simp only [spl]
    split
    · simp only [List.length_cons]; omega
    · obtain ⟨h, t, e⟩ := spl_ne c l
      rw [e] at ih ⊢
      simp only [List.length_cons] at ih ⊢; omega
theorem splitK_spl (c : UInt8) : ∀ l : List UInt8, Lib.splitK [c] 0 (Lib.count l [c]) l = spl c l
  | [] => by rw [Lib.count_miss (by simp [Lib.index])]; rfl
  | b :: l => by
    have ih := splitK_spl c l
    by_cases h : b = c
    · subst h
      have hi : Lib.index (b :: l) [b] = 0 := by rw [Lib.index]; simp [List.isPrefixOf]
      rw [Lib.count_cons_eq, Nat.add_comm]
      simp only [Lib.splitK, spl]
      rw [hi, if_neg (by decide), if_pos trivial]
      show [] :: Lib.splitK [b] 0 _ l = _
      rw [ih]
    · have hp : ([c] : List UInt8).isPrefixOf (b :: l) = false := by simp [List.isPrefixOf, Ne.symm h]
      have hi : Lib.index (b :: l) [c] = if Lib.index l [c] == -1 then -1 else Lib.index l [c] + 1 := by rw [Lib.index, hp]; simp
      rw [Lib.count_cons_ne b c l h]
      simp only [spl]
      rw [if_neg h, ← ih]
      cases hk : Lib.count l [c] with
      | zero => rfl
      | succ k =>
        simp only [Lib.splitK]
        rw [hi]
        by_cases g : Lib.index l [c] = -1
        · rw [g]; rfl
        · have hge := Lib.index_ge l [c]
          obtain ⟨j, hj⟩ : ∃ j : Nat, Lib.index l [c] = j := ⟨(Lib.index l [c]).toNat, by omega⟩
          have n1 : ¬ ((Lib.index l [c] == -1) = true) := fun e => g (beq_iff_eq.1 e)
          have n2 : ¬ (((Lib.index l [c] + 1 : Int) == -1) = true) := fun e => by have := beq_iff_eq.1 e; omega
          rw [if_neg n1, if_neg n1, if_neg n2, hj, show ((j : Int) + 1).toNat = j + 1 by omega, Int.toNat_natCast]
          rfl
theorem splitB_spl (a : ByteArray) (c : UInt8) : Lib.splitB ⟨#[c]⟩ 0 (Lib.countB a ⟨#[c]⟩) a = (spl c a.data.toList).map BA := by
  have h := Lib.splitB_data ⟨#[c]⟩ 0 (Lib.countB a ⟨#[c]⟩) a
  have e : Lib.countB a ⟨#[c]⟩ = Lib.count a.data.toList [c] := rfl
  rw [show (⟨#[c]⟩ : ByteArray).data.toList = [c] from rfl, e, splitK_spl, ← e] at h
  rw [← h, List.map_map]
  have : (BA ∘ fun x : ByteArray => x.data.toList) = id := by funext x; exact BA_data x
  rw [this, List.map_id]
def glue (p : List UInt8) : List (List UInt8) → List ByteArray
  | [] => []
  | h :: t => BA (p ++ h) :: t.map BA
theorem glue_nil (c : UInt8) (l : List UInt8) : glue [] (spl c l) = (spl c l).map BA := by
  obtain ⟨h, t, e⟩ := spl_ne c l
  rw [e]; rfl
theorem extract_BA (s : ByteArray) (a b : Nat) : s.extract a b = BA ((s.data.toList.drop a).take (b - a)) := by rw [← Lib.extract_data, BA_data]
theorem bt_drop {s : ByteArray} {i : Nat} (h : i < s.size) : ∃ b : UInt8, s.data.toList.drop i = b :: s.data.toList.drop (i + 1) ∧ bt s (i : Int) = (b.toNat : Int) ∧ s.data.toList[i]? = some b := by
  have hl : i < s.data.toList.length := by rw [Array.length_toList]; exact h
  refine ⟨s[i], ?_, (bt_at s i (by rw [Int.toNat_natCast]; exact h)).symm, ?_⟩
  · rw [List.drop_eq_getElem_cons hl]; rfl
  · rw [List.getElem?_eq_getElem hl]; rfl
theorem ssplit_l0 (s : ByteArray) (c : UInt8) (hz : s.size ≤ 2000000) : ∀ (d K i from_ : Nat) (out : List ByteArray), i + d = s.size → from_ ≤ i → out.length ≤ i → d + 1 ≤ K →
    spec_l01Split.l0 K s (c.toNat : Int) out (from_ : Int) (i : Int) = some (out ++ glue ((s.data.toList.drop from_).take (i - from_)) (spl c (s.data.toList.drop i)))
  | d, 0, i, from_, out, hi, hf, ho, hK => by omega
  | 0, K + 1, i, from_, out, hi, hf, ho, hK => by
    have hdl : s.data.toList.length = s.size := Array.length_toList
    simp only [spec_l01Split.l0]
    rw [if_neg (by omega), if_pos (by omega), if_pos (by omega), if_pos (by omega), Int.toNat_natCast, extract_BA, List.drop_eq_nil_of_le (i := i) (by omega), show s.size = i by omega]
    simp only [spl, glue, List.append_nil, List.map_nil]
  | d + 1, K + 1, i, from_, out, hi, hf, ho, hK => by
    obtain ⟨b, e1, e2, e3⟩ := bt_drop (s := s) (i := i) (by omega)
    simp only [spec_l01Split.l0]
    rw [if_pos (by omega), if_pos (by omega), e2, e1]
    have w1 : wrap64 ((i : Int) + 1) = ((i + 1 : Nat) : Int) := by rw [w64 (by omega) (by omega)]; omega
    simp only [spl]
    by_cases g : b = c
    · have g' : (b.toNat : Int) = (c.toNat : Int) := by rw [g]
      rw [if_pos g', if_pos g, if_pos (by omega), if_pos (by omega), if_pos (by omega), if_pos (by omega), w1, Int.toNat_natCast, Int.toNat_natCast, extract_BA, ssplit_l0 s c hz d K (i + 1) (i + 1) _ (by omega) (by omega) (by rw [List.length_append, List.length_singleton]; omega) (by omega), Nat.sub_self, List.take_zero, glue_nil]
      simp only [glue, List.append_nil, List.append_assoc, List.singleton_append]
    · have g' : ¬ (b.toNat : Int) = (c.toNat : Int) := fun h => g (UInt8.toNat_inj.1 (by omega))
      rw [if_neg g', if_neg g, w1, ssplit_l0 s c hz d K (i + 1) from_ out (by omega) (by omega) (by omega) (by omega)]
      obtain ⟨h, t, e⟩ := spl_ne c (s.data.toList.drop (i + 1))
      rw [e]
      have hp : (s.data.toList.drop from_).take (i + 1 - from_) = (s.data.toList.drop from_).take (i - from_) ++ [b] := by
        rw [show i + 1 - from_ = (i - from_) + 1 by omega, List.take_add_one, List.getElem?_drop, show from_ + (i - from_) = i by omega, e3]; rfl
      simp only [glue]
      rw [hp, List.append_assoc]
      rfl
theorem ssplit_is {s : ByteArray} {c : UInt8} (hz : s.size ≤ 2000000) {K : Nat} (hK : s.size + 1 ≤ K) : spec_l01Split.f K s (c.toNat : Int) = some ((spl c s.data.toList).map BA) := by
  unfold spec_l01Split.f
  have := ssplit_l0 s c hz s.size K 0 0 [] (by omega) (Nat.le_refl _) (Nat.le_refl _) hK
  rw [show ((0 : Nat) : Int) = (0 : Int) from rfl] at this
  rw [this, List.nil_append, Nat.sub_self, List.take_zero, List.drop_zero, glue_nil]
/-- The parts that are not empty. -/
def words (l : List ByteArray) : List ByteArray := l.filter fun p => decide (p.toList ≠ [])
theorem swords_l0 {xs : List ByteArray} (hx : xs.length ≤ 3000000) : ∀ (d K i : Nat) (out : List ByteArray), i + d = xs.length → out.length ≤ i → d + 1 ≤ K → spec_SplitWords.l0 K xs out (i : Int) = some (out ++ words (xs.drop i))
  | d, 0, i, out, hi, ho, hK => by omega
  | 0, K + 1, i, out, hi, ho, hK => by
    simp only [spec_SplitWords.l0]
    rw [if_neg (by omega), List.drop_eq_nil_of_le (by omega)]
    simp [words]
  | d + 1, K + 1, i, out, hi, ho, hK => by
    have hi' : i < xs.length := by omega
    have w1 : wrap64 ((i : Int) + 1) = ((i + 1 : Nat) : Int) := by rw [w64 (by omega) (by omega)]; omega
    simp only [spec_SplitWords.l0]
    rw [if_pos (by omega), if_pos (by omega), rdOf_is hi', w1, List.drop_eq_getElem_cons hi']
    by_cases g : xs[i].toList = []
    · rw [if_pos g, swords_l0 hx d K (i + 1) out (by omega) (by omega) (by omega)]
      unfold words
      rw [List.filter_cons_of_neg (by simpa using g)]
    · rw [if_neg g, if_pos (by omega), swords_l0 hx d K (i + 1) _ (by omega) (by rw [List.length_append, List.length_singleton]; omega) (by omega)]
      unfold words
      rw [List.filter_cons_of_pos (by simpa using g), List.append_assoc]
      rfl
theorem iwords_l0 {xs : List ByteArray} (hx : xs.length ≤ 3000000) : ∀ (d K i : Nat) (out : List ByteArray), i + d = xs.length → out.length ≤ i → d + 1 ≤ K → impl_SplitWords.l0 K out xs (xs.length : Int) (i : Int) = some (out ++ words (xs.drop i))
  | d, 0, i, out, hi, ho, hK => by omega
  | 0, K + 1, i, out, hi, ho, hK => by
    simp only [impl_SplitWords.l0]
    rw [if_neg (by omega), List.drop_eq_nil_of_le (by omega)]
    simp [words]
  | d + 1, K + 1, i, out, hi, ho, hK => by
    have hi' : i < xs.length := by omega
    have w1 : wrap64 ((i : Int) + 1) = ((i + 1 : Nat) : Int) := by rw [w64 (by omega) (by omega)]; omega
    simp only [impl_SplitWords.l0]
    rw [if_pos (by omega), if_pos (by omega), if_pos (by omega), rdOf_is hi', w1, List.drop_eq_getElem_cons hi']
    by_cases g : xs[i].toList = []
    · rw [if_pos g, iwords_l0 hx d K (i + 1) out (by omega) (by omega) (by omega)]
      unfold words
      rw [List.filter_cons_of_neg (by simpa using g)]
    · rw [if_neg g, if_pos (by omega), iwords_l0 hx d K (i + 1) _ (by omega) (by rw [List.length_append, List.length_singleton]; omega) (by omega)]
      unfold words
      rw [List.filter_cons_of_pos (by simpa using g), List.append_assoc]
      rfl
theorem eqStr_l0 {xs : List ByteArray} (hx : xs.length ≤ 3000000) : ∀ (d K i : Nat), i + d = xs.length → d + 1 ≤ K → laws_eqStringS.l0 K xs xs (i : Int) = some true
  | d, 0, i, hi, hK => by omega
  | 0, K + 1, i, hi, hK => by
    simp only [laws_eqStringS.l0]
    rw [if_neg (by omega)]
  | d + 1, K + 1, i, hi, hK => by
    have w1 : wrap64 ((i : Int) + 1) = ((i + 1 : Nat) : Int) := by rw [w64 (by omega) (by omega)]; omega
    simp only [laws_eqStringS.l0]
    rw [if_pos (by omega), if_pos (by omega), if_pos (by omega), if_pos trivial, w1, eqStr_l0 hx d K (i + 1) (by omega) (by omega)]
theorem eqStr_refl {xs : List ByteArray} (hx : xs.length ≤ 3000000) {K : Nat} (hK : xs.length + 1 ≤ K) : laws_eqStringS.f K xs xs = some true := by
  unfold laws_eqStringS.f
  rw [if_pos rfl]
  exact eqStr_l0 hx xs.length K 0 (by omega) hK
def marks : Int → Nat → List ByteArray
  | _, 0 => []
  | a, d + 1 => mtext a :: marks (a + 1) d
theorem markStr_l0 : ∀ (rest done : List ByteArray) (K : Nat) (a : Int), 0 ≤ a → a + rest.length ≤ 1000000000 → done.length + rest.length ≤ 3000000 → rest.length + 1 ≤ K →
    laws_markStringS.l0 K (done ++ rest) a (done.length : Int) = some (a + rest.length, done ++ marks a rest.length)
  | rest, done, 0, a, h0, h1, h2, hK => by omega
  | [], done, K + 1, a, h0, h1, h2, hK => by
    simp only [laws_markStringS.l0]
    rw [if_neg (by simp)]
    simp [marks]
  | x :: rest, done, K + 1, a, h0, h1, h2, hK => by
    simp only [List.length_cons] at h1 h2 hK
    have w1 : wrap64 ((done.length : Int) + 1) = ((done.length + 1 : Nat) : Int) := by rw [w64 (by omega) (by omega)]; omega
    simp only [laws_markStringS.l0]
    unfold laws_markText_.f
    rw [if_pos (by rw [List.length_append, List.length_cons]; omega), if_pos (by omega), Option.bind_some, if_pos (by omega), w1, w64 (x := a + 1) (by omega) (by omega), Int.toNat_natCast, List.set_append_right _ _ (Nat.le_refl _), Nat.sub_self, List.set_cons_zero]
    have ih := markStr_l0 rest (done ++ [mtext a]) K (a + 1) (by omega) (by omega) (by rw [List.length_append, List.length_singleton]; omega) (by omega)
    rw [List.length_append, List.length_singleton, List.append_assoc] at ih
    rw [show mtext a :: rest = [mtext a] ++ rest from rfl, ih, List.length_cons]
    simp only [marks, List.append_assoc, List.singleton_append]
    congr 2
    omega
theorem marks_length : ∀ (a : Int) (d : Nat), (marks a d).length = d
  | _, 0 => rfl
  | a, d + 1 => by simp [marks, marks_length (a + 1) d]
theorem heldStr_l0 : ∀ (d : Nat) (done : List ByteArray) (K : Nat) (a : Int), 0 ≤ a → a + d ≤ 1000000000 → done.length + d ≤ 3000000 → d + 1 ≤ K →
    laws_heldStringS.l0 K (done ++ marks a d) a (done.length : Int) = some (a + d)
  | d, done, 0, a, h0, h1, h2, hK => by omega
  | 0, done, K + 1, a, h0, h1, h2, hK => by
    simp only [laws_heldStringS.l0]
    rw [if_neg (by simp [marks])]
    simp
  | d + 1, done, K + 1, a, h0, h1, h2, hK => by
    have w1 : wrap64 ((done.length : Int) + 1) = ((done.length + 1 : Nat) : Int) := by rw [w64 (by omega) (by omega)]; omega
    have hl : (done ++ marks a (d + 1)).length = done.length + (d + 1) := by rw [List.length_append, marks_length]
    simp only [laws_heldStringS.l0]
    unfold laws_markText_.f
    have hg : (done ++ marks a (d + 1))[done.length]'(by omega) = mtext a := by
      rw [List.getElem_append_right (Nat.le_refl _)]; simp [marks]
    rw [if_pos (by omega), if_pos (by omega), if_pos (by omega), Option.bind_some, rdOf_is (by omega), hg, if_pos rfl, w1, w64 (x := a + 1) (by omega) (by omega)]
    have ih := heldStr_l0 d (done ++ [mtext a]) K (a + 1) (by omega) (by omega) (by rw [List.length_append, List.length_singleton]; omega) (by omega)
    rw [List.length_append, List.length_singleton, List.append_assoc] at ih
    rw [show marks a (d + 1) = [mtext a] ++ marks (a + 1) d from rfl, ih]
    congr 1
    omega
theorem FnExactSplitWords : laws_FnExactSplitWords.Pure := by
  intro s hz
  refine ⟨5000000, ?_⟩
  unfold laws_FnExactSplitWords.f
  by_cases c : (s.size : Int) > 1048576
  · rw [if_pos c]
  · rw [if_neg c]
    have hl := spl_length 32 s.data.toList
    have hdl : s.data.toList.length = s.size := Array.length_toList
    rw [hdl] at hl
    have e32 : ((32 : UInt8).toNat : Int) = 32 := rfl
    generalize hX : (spl 32 s.data.toList).map BA = X
    have hXl : X.length ≤ 1048577 := by rw [← hX, List.length_map]; omega
    have hW : (words X).length ≤ X.length := List.length_filter_le _ _
    have sv : ∀ K, 4000000 ≤ K → spec_SplitWords.f K s = some (words X) := fun K hK => by
      have h1 := ssplit_is (s := s) (c := 32) (by omega) (K := K) (by omega)
      rw [e32, hX] at h1
      unfold spec_SplitWords.f
      rw [h1, Option.bind_some]
      exact swords_l0 (by omega) X.length K 0 [] (by omega) (Nat.le_refl _) (by omega)
    have iv : ∀ K, 4000000 ≤ K → impl_SplitWords.f K s = some (words X) := fun K hK => by
      unfold impl_SplitWords.f strings_Split.f
      rw [if_pos ⟨by omega, Nat.le_refl _⟩, splitB_spl, hX, Option.bind_some]
      exact iwords_l0 (by omega) X.length K 0 [] (by omega) (Nat.le_refl _) (by omega)
    generalize words X = W at sv iv hW
    have ev : ∀ K, 4000000 ≤ K → laws_eqStringS.f K W W = some true := fun K hK => eqStr_refl (by omega) (by omega)
    have mv : ∀ K, 4000000 ≤ K → laws_markStringS.f K W 1 = some (1 + (W.length : Int), marks 1 W.length) := fun K hK => by
      unfold laws_markStringS.f
      exact markStr_l0 W [] K 1 (by omega) (by omega) (by simp; omega) (by omega)
    have hv : ∀ K, 4000000 ≤ K → laws_heldStringS.f K (marks 1 W.length) 1 = some (1 + (W.length : Int)) := fun K hK => by
      unfold laws_heldStringS.f
      exact heldStr_l0 W.length [] K 1 (by omega) (by omega) (by simp; omega) (by omega)
    generalize hk : (4999999 : Nat) = k0
    obtain ⟨k, rfl⟩ : ∃ k, k0 = k + 4 := ⟨k0 - 4, by omega⟩
    have hk' : 4000000 ≤ k := by omega
    show laws_FnExactSplitWords.j0 5000000 s = some true
    have : (5000000 : Nat) = k + 5 := by omega
    rw [this]
    simp only [laws_FnExactSplitWords.j0]
    rw [sv _ (by omega), Option.bind_some, iv _ (by omega), Option.bind_some, ev _ (by omega), Option.bind_some, if_pos rfl]
    simp only [laws_FnExactSplitWords.j1]
    rw [mv _ (by omega), Option.bind_some, hv _ (by omega), Option.bind_some, if_neg (by omega)]
    simp only [laws_FnExactSplitWords.j2]
    rw [if_pos trivial]
    simp only [laws_FnExactSplitWords.j3]
    rw [iv _ (by omega), Option.bind_some, ev _ (by omega), Option.bind_some, if_pos rfl]
    simp only [laws_FnExactSplitWords.j4]
    rw [hv _ (by omega), Option.bind_some, if_neg (by omega), if_pos rfl]

end Go.Proofs.YtabgkdejpkpejaaDoor.Pure
