/- For every whole number of 64 bits the program's DegreesText writes what the reference's DegreesText writes. No condition. -/
import Derived.Test.YtabgkdejpkpejaaDoorPFnExactDegreesTextx1
import Derived.Test.YtabgkdejpkpejaaDoorMath
import Derived.Test.YtabgkdejpkpejaaDoorMath
namespace Go.Proofs.YtabgkdejpkpejaaDoor.Pure
open Go.RowKit Go.Proofs.YtabgkdejpkpejaaDoor.PFnExactDegreesText Go.Proofs.YtabgkdejpkpejaaDoorW.PrintWords Go.Proofs.YtabgkdejpkpejaaDoorW.PrintLast Go.Proofs.YtabgkdejpkpejaaDoorW.PrintMore Go.Proofs.YtabgkdejpkpejaaDoorM
set_option linter.unusedSimpArgs false
set_option linter.unusedVariables false
/-- The decimal digits of a number, the last ahead; none of 0. -/
def digs : Nat → Nat → List Int
  | 0, _ => []
  | f + 1, u => if u = 0 then [] else (48 + ((u % 10 : Nat) : Int)) :: digs f (u / 10)
theorem digs_zero (f : Nat) : digs f 0 = [] := by cases f <;> simp [digs]
theorem digs_length : ∀ (f u : Nat), (digs f u).length ≤ f
  | 0, u => by simp [digs]
  | f + 1, u => by
    simp only [digs]
    split
    · simp
    · have := digs_length f (u / 10); simp only [List.length_cons]; omega
theorem digs_dec : ∀ (f u : Nat), 0 < u → u < 10 ^ f → (digs f u).reverse.map (fun n => UInt8.ofNat n.toNat) = Lib.decDigits u
  | 0, u, h0, h1 => by simp at h1; omega
  | f + 1, u, h0, h1 => by
    rw [Nat.pow_succ] at h1
    simp only [digs]
    rw [if_neg (by omega), List.reverse_cons, List.map_append]
    have e : (48 + ((u % 10 : Nat) : Int)).toNat = 48 + u % 10 := by omega
    simp only [List.map_cons, List.map_nil, e]
    by_cases c : u < 10
    · rw [show u / 10 = 0 by omega, digs_zero, Lib.decDigits_one c, show u % 10 = u by omega]; rfl
    · rw [digs_dec f (u / 10) (by omega) (by omega)]
      conv => rhs; rw [Lib.decDigits, dif_neg c]
theorem sdec_l1 (x : List Int) (hx : x.length ≤ 1000) : ∀ (n K : Nat) (acc : List Int), n ≤ x.length → acc.length + n ≤ 1000 → n + 1 ≤ K →
    spec_l01Dec.l1 K x acc ((n : Int) - 1) = some (strOfNums (acc ++ (x.take n).reverse))
  | n, 0, acc, hn, ha, hK => by omega
  | 0, K + 1, acc, hn, ha, hK => by
    simp only [spec_l01Dec.l1]
    rw [if_neg (by omega)]
    simp
  | n + 1, K + 1, acc, hn, ha, hK => by
    have e : rd x (((n + 1 : Nat) : Int) - 1) = x.getD n 0 := by unfold rd; rw [show (((n + 1 : Nat) : Int) - 1).toNat = n by omega]
    simp only [spec_l01Dec.l1]
    rw [if_pos (by omega), if_pos (by omega), if_pos (by omega), if_pos (by omega), e, w64 (by omega) (by omega), show ((n + 1 : Nat) : Int) - 1 - 1 = (n : Int) - 1 by omega, sdec_l1 x hx n K _ (by omega) (by rw [List.length_append, List.length_singleton]; omega) (by omega)]
    have hg : x.getD n 0 = x[n] := by rw [List.getD_eq_getElem?_getD, List.getElem?_eq_getElem (by omega), Option.getD_some]
    rw [hg, List.take_succ_eq_append_getElem (by omega), List.reverse_append, List.append_assoc]
    rfl
theorem sdec_end (a : Int) (K f : Nat) (acc : List Int) (m : Int) (hm : m = 0) (ha : acc.length ≤ 100) (hK : 150 ≤ K) :
    spec_l01Dec.l0 (K + 1) a acc m = some (strOfNums (acc ++ digs f 0 ++ (if a < 0 then [45] else [])).reverse) := by
  obtain ⟨K, rfl⟩ : ∃ k, K = k + 1 := ⟨K - 1, by omega⟩
  simp only [spec_l01Dec.l0, spec_l01Dec.j1]
  rw [if_pos hm, digs_zero, List.append_nil]
  by_cases c : a < 0
  · have hl : (acc ++ [(45 : Int)]).length = acc.length + 1 := by simp
    rw [if_pos c, if_pos c, if_pos (by omega), w64 (by omega) (by omega), sdec_l1 _ (by omega) _ K [] (Nat.le_refl _) (by rw [List.length_nil]; omega) (by omega), List.take_length, List.nil_append]
  · rw [if_neg c, if_neg c, w64 (by omega) (by omega), sdec_l1 _ (by omega) _ K [] (Nat.le_refl _) (by rw [List.length_nil]; omega) (by omega), List.take_length, List.nil_append, List.append_nil]
theorem sdec_l0 (a : Int) : ∀ (f K u : Nat) (acc : List Int) (m : Int), (m = (u : Int) ∨ m = -(u : Int)) → u < 10 ^ f → f ≤ 20 → u ≤ 9223372036854775808 → acc.length + f ≤ 100 → f + 200 ≤ K →
    spec_l01Dec.l0 K a acc m = some (strOfNums (acc ++ digs f u ++ (if a < 0 then [45] else [])).reverse)
  | f, 0, u, acc, m, hm, hu, hf, h9, ha, hK => by omega
  | 0, K + 1, u, acc, m, hm, hu, hf, h9, ha, hK => by
    have hu0 : u = 0 := by simp at hu; omega
    subst hu0
    exact sdec_end a K 0 acc m (by omega) (by omega) (by omega)
  | f + 1, K + 1, u, acc, m, hm, hu, hf, h9, ha, hK => by
    by_cases c : u = 0
    · subst c
      have := sdec_end a K (f + 1) acc m (by omega) (by omega) (by omega)
      exact this
    · rw [Nat.pow_succ] at hu
      have hmod : Int.tmod m 10 = (((u % 10 : Nat) : Int)) ∨ Int.tmod m 10 = -(((u % 10 : Nat) : Int)) := by
        rcases hm with rfl | rfl
        · left; exact Int.ofNat_tmod u 10
        · right; rw [Int.neg_tmod]; exact congrArg Neg.neg (Int.ofNat_tmod u 10)
      have hdiv : Int.tdiv m 10 = (((u / 10 : Nat) : Int)) ∨ Int.tdiv m 10 = -(((u / 10 : Nat) : Int)) := by
        rcases hm with rfl | rfl
        · left; exact Int.ofNat_tdiv u 10
        · right; rw [Int.neg_tdiv]; exact congrArg Neg.neg (Int.ofNat_tdiv u 10)
      have hm10 : u % 10 < 10 := Nat.mod_lt _ (by decide)
      have hd10 : u / 10 ≤ 922337203685477580 := by omega
      have hu10 : u / 10 < 10 ^ f := by omega
      have hL : (acc ++ [48 + ((u % 10 : Nat) : Int)]).length + f ≤ 100 := by rw [List.length_append, List.length_singleton]; omega
      generalize ht : Int.tmod m 10 = T at hmod
      generalize hq : Int.tdiv m 10 = Q at hdiv
      have ih := sdec_l0 a f K (u / 10) (acc ++ [48 + ((u % 10 : Nat) : Int)]) Q hdiv hu10 (by omega) (by omega) hL (by omega)
      simp only [spec_l01Dec.l0, digs]
      rw [ht, hq, if_neg (by omega), if_neg c]
      have hQ : wrap64 Q = Q := w64 (by omega) (by omega)
      have fin : some (strOfNums (acc ++ [48 + ((u % 10 : Nat) : Int)] ++ digs f (u / 10) ++ (if a < 0 then [45] else [])).reverse) = some (strOfNums (acc ++ (48 + ((u % 10 : Nat) : Int)) :: digs f (u / 10) ++ (if a < 0 then [45] else [])).reverse) := by
        rw [List.append_assoc acc]; rfl
      generalize u % 10 = r at *
      by_cases c1 : T < 0
      · have e : wrap64 (48 + wrap64 (-T)) % 256 = 48 + (r : Int) := by
          rw [w64 (x := -T) (by omega) (by omega), w64 (by omega) (by omega)]; omega
        rw [if_pos c1, if_pos (by omega), hQ, e, ih, fin]
      · have e : wrap64 (48 + T) % 256 = 48 + (r : Int) := by
          rw [w64 (by omega) (by omega)]; omega
        rw [if_neg c1, if_pos (by omega), hQ, e, ih, fin]
theorem sdec_is {a : Int} (h0 : -9223372036854775808 ≤ a) (h1 : a ≤ 9223372036854775807) {K : Nat} (hK : 300 ≤ K) : spec_l01Dec.f K a = some ⟨(Lib.itoa a).toArray⟩ := by
  unfold spec_l01Dec.f
  by_cases c : a = 0
  · subst c
    rw [if_pos rfl]
    unfold Lib.itoa
    rw [if_neg (by omega), show (0 : Int).toNat = 0 from rfl, Lib.decDigits_one (by omega)]
    rfl
  · rw [if_neg c, sdec_l0 a 19 K a.natAbs [] a (by omega) (by omega) (by omega) (by omega) (by rw [List.length_nil]; omega) (by omega)]
    unfold strOfNums Lib.itoa
    rw [List.nil_append, List.reverse_append, List.map_append]
    by_cases c1 : a < 0
    · rw [if_pos c1, if_pos c1, digs_dec 19 _ (by omega) (by omega)]; rfl
    · rw [if_neg c1, if_neg c1, digs_dec 19 _ (by omega) (by omega), show a.natAbs = a.toNat by omega]; rfl
/-- A numeral as a string. -/
def DT (n : Int) : ByteArray := ⟨(Lib.itoa n).toArray⟩
theorem DT_size {n : Int} (h0 : -9223372036854775808 ≤ n) (h1 : n ≤ 9223372036854775807) : (DT n).size ≤ 20 ∧ 0 < (DT n).size := by
  have hl : (DT n).size = (Lib.itoa n).length := by simp [DT, ByteArray.size]
  have key : ∀ u : Nat, u ≤ 9223372036854775808 → (Lib.decDigits u).length ≤ 19 ∧ 0 < (Lib.decDigits u).length := fun u hu => by
    have hp := Lib.nDigits_pos u
    rw [Lib.decDigits_length]
    refine ⟨?_, by omega⟩
    by_cases c : u = 0
    · rw [c, Lib.nDigits_small (by omega)]; omega
    · rw [← Lib.decDigits_length, ← digs_dec 19 u (by omega) (by omega), List.length_map, List.length_reverse]; exact digs_length _ _
  rw [hl]
  unfold Lib.itoa
  split
  · have := key n.natAbs (by omega); simp only [List.length_cons]; omega
  · have := key n.toNat (by omega); omega
theorem sdec_DT {a : Int} (h0 : -9223372036854775808 ≤ a) (h1 : a ≤ 9223372036854775807) {K : Nat} (hK : 300 ≤ K) : spec_l01Dec.f K a = some (DT a) := sdec_is h0 h1 hK
theorem idec_DT {a : Int} (h0 : -9223372036854775808 ≤ a) (h1 : a ≤ 9223372036854775807) : impl_Decimal.f a = some (DT a) := by
  unfold impl_Decimal.f strconv_FormatInt.f
  rw [if_pos ⟨rfl, h0, h1⟩]
  rfl
theorem DT_two {v : Nat} (h : v < 100) : (if (v : Int) < 10 then (⟨#[48]⟩ : ByteArray) ++ DT (v : Int) else DT (v : Int)) = DT ((v / 10 : Nat) : Int) ++ DT ((v % 10 : Nat) : Int) := by
  have i1 : ∀ n : Nat, DT (n : Int) = ⟨(Lib.decDigits n).toArray⟩ := fun n => by
    unfold DT Lib.itoa; rw [if_neg (by omega), Int.toNat_natCast]
  simp only [i1]
  by_cases c : v < 10
  · rw [if_pos (by omega), show v / 10 = 0 by omega, show v % 10 = v by omega, Lib.decDigits_one (i := 0) (by omega)]; rfl
  · rw [if_neg (by omega), Lib.decDigits_two c h, Lib.decDigits_one (i := v / 10) (by omega), Lib.decDigits_one (i := v % 10) (by omega)]; rfl
/-- A temperature's figures. -/
def TX (u : Nat) : ByteArray := DT ((u / 100 : Nat) : Int) ++ (⟨#[46]⟩ : ByteArray) ++ DT ((u / 10 % 10 : Nat) : Int) ++ DT ((u % 10 : Nat) : Int)
theorem size1 (b : UInt8) : (⟨#[b]⟩ : ByteArray).size = 1 := rfl
theorem size0 : (⟨#[]⟩ : ByteArray).size = 0 := rfl
theorem stext_j0 {u : Nat} (hu : u ≤ 99999) {K : Nat} (hK : 300 ≤ K) (x : ByteArray) (hx : x.size ≤ 10) : spec_l02Text.j0 (K + 1) (u : Int) x = some (x ++ TX u) := by
  have e1 : Int.tdiv (u : Int) 100 = ((u / 100 : Nat) : Int) := (Int.ofNat_tdiv u 100).symm
  have e2 : Int.tmod (u : Int) 100 = ((u % 100 : Nat) : Int) := (Int.ofNat_tmod u 100).symm
  have d1 := DT_size (n := ((u / 100 : Nat) : Int)) (by omega) (by omega)
  have d2 := DT_size (n := ((u % 100 : Nat) : Int)) (by omega) (by omega)
  have t := DT_two (v := u % 100) (Nat.mod_lt _ (by decide))
  have m1 : u % 100 / 10 = u / 10 % 10 := by omega
  have m2 : u % 100 % 10 = u % 10 := by omega
  simp only [spec_l02Text.j0]
  rw [e1, e2, w64 (by omega) (by omega), sdec_DT (by omega) (by omega) hK, Option.bind_some, sdec_DT (by omega) (by omega) hK, Option.bind_some, Option.bind_some]
  rw [m1, m2] at t
  unfold TX
  rw [ByteArray.append_assoc (b := DT _), ← t]
  simp only [ByteArray.size_append, size1]
  rw [if_pos (by omega), if_pos (by omega)]
  by_cases c : ((u % 100 : Nat) : Int) < 10
  · rw [if_pos c, if_pos c, if_pos (by omega), if_pos (by omega)]
    simp only [ByteArray.append_assoc]
  · rw [if_neg c, if_neg c, if_pos (by omega)]
    simp only [ByteArray.append_assoc]
/-- A temperature as text. -/
def TV (a : Int) : ByteArray := if -99999 ≤ a ∧ a ≤ 99999 then (if a < 0 then (⟨#[45]⟩ : ByteArray) ++ TX a.natAbs else TX a.natAbs) else ⟨#[]⟩
theorem empty_app (x : ByteArray) : (⟨#[]⟩ : ByteArray) ++ x = x := by apply ByteArray.ext; simp
theorem stext_is {a : Int} (h : -99999 ≤ a ∧ a ≤ 99999) {K : Nat} (hK : 301 ≤ K) : spec_l02Text.f K a = some (TV a) := by
  obtain ⟨K, rfl⟩ : ∃ k, K = k + 1 := ⟨K - 1, by omega⟩
  unfold spec_l02Text.f TV
  rw [if_pos h]
  by_cases c : a < 0
  · rw [if_pos c, if_pos c, w64 (by omega) (by omega), show -a = (a.natAbs : Int) by omega, stext_j0 (by omega) (by omega) _ (by rw [size1]; omega)]
  · rw [if_neg c, if_neg c]
    conv => lhs; rw [show a = (a.natAbs : Int) by omega]
    rw [stext_j0 (by omega) (by omega) _ (by rw [size0]; omega), empty_app]
theorem stold_is (a : Int) : spec_l02Told.f a = some (decide (-99999 ≤ a ∧ a ≤ 99999)) := by
  unfold spec_l02Told.f spec_l00In_.f; rfl
theorem sdeg_is {a : Int} {K : Nat} (hK : 301 ≤ K) : spec_DegreesText.f K a = some (TV a) := by
  unfold spec_DegreesText.f
  rw [stold_is, Option.bind_some]
  by_cases h : -99999 ≤ a ∧ a ≤ 99999
  · rw [if_pos (decide_eq_true h), stext_is h hK]; rfl
  · rw [if_neg (by simpa using h)]; unfold TV; rw [if_neg h]
theorem ideg_is {a : Int} (h0 : -9223372036854775808 ≤ a) (h1 : a ≤ 9223372036854775807) : impl_DegreesText.f a = some (TV a) := by
  unfold impl_DegreesText.f impl_within_.f
  rw [Option.bind_some]
  unfold TV
  by_cases h : -99999 ≤ a ∧ a ≤ 99999
  · rw [if_pos (decide_eq_true h), if_pos h]
    unfold impl_abs.f
    rw [if_pos (by omega), show absI a = (a.natAbs : Int) by unfold absI; split <;> omega, Option.bind_some]
    generalize hu : a.natAbs = u
    have hu9 : u ≤ 99999 := by omega
    have e1 : Int.tdiv (u : Int) 100 = ((u / 100 : Nat) : Int) := (Int.ofNat_tdiv u 100).symm
    have e2 : Int.tdiv (u : Int) 10 = ((u / 10 : Nat) : Int) := (Int.ofNat_tdiv u 10).symm
    have e3 : Int.tmod ((u / 10 : Nat) : Int) 10 = ((u / 10 % 10 : Nat) : Int) := (Int.ofNat_tmod _ 10).symm
    have e4 : Int.tmod (u : Int) 10 = ((u % 10 : Nat) : Int) := (Int.ofNat_tmod u 10).symm
    have d1 := DT_size (n := ((u / 100 : Nat) : Int)) (by omega) (by omega)
    have d2 := DT_size (n := ((u / 10 % 10 : Nat) : Int)) (by omega) (by omega)
    have d3 := DT_size (n := ((u % 10 : Nat) : Int)) (by omega) (by omega)
    rw [e1, e2, e4, w64 (x := ((u / 100 : Nat) : Int)) (by omega) (by omega), w64 (x := ((u / 10 : Nat) : Int)) (by omega) (by omega), e3, idec_DT (by omega) (by omega), Option.bind_some, idec_DT (by omega) (by omega), Option.bind_some, idec_DT (by omega) (by omega), Option.bind_some]
    unfold TX
    simp only [ByteArray.size_append, size1]
    rw [if_pos (by omega), if_pos (by omega), if_pos (by omega)]
    by_cases c : a < 0
    · rw [if_pos c, if_pos c, if_pos (by omega)]
    · rw [if_neg c, if_neg c]
  · rw [if_neg (by simpa using h), if_neg h]
theorem FnExactDegreesText : ∀ (a0 : Int), ((Lit.int .i64 a0).wf = true) → ∃ k, laws_FnExactDegreesText.f k a0 = some true := by
  intro a w0
  have h0 := wf64 w0
  refine ⟨400, ?_⟩
  unfold laws_FnExactDegreesText.f
  rw [sdeg_is (by omega), Option.bind_some, ideg_is h0.1 (by omega), Option.bind_some]
  simp

end Go.Proofs.YtabgkdejpkpejaaDoor.Pure
