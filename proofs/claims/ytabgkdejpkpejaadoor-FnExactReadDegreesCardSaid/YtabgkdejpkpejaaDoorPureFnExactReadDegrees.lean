/- For every string the program's ReadDegrees answers as the reference's ReadDegrees does. No condition. -/
import Derived.Test.YtabgkdejpkpejaaDoorPFnExactReadDegreesx4
import Derived.Test.YtabgkdejpkpejaaDoorMath
import Derived.Test.YtabgkdejpkpejaaDoorMath
namespace Go.Proofs.YtabgkdejpkpejaaDoor.Pure
open Go.RowKit Go.Proofs.YtabgkdejpkpejaaDoor.PFnExactReadDegrees Go.Proofs.YtabgkdejpkpejaaDoorW.PrintWords Go.Proofs.YtabgkdejpkpejaaDoorW.PrintLast Go.Proofs.YtabgkdejpkpejaaDoorW.PrintMore Go.Proofs.YtabgkdejpkpejaaDoorM
set_option linter.unusedSimpArgs false
set_option linter.unusedVariables false
/-- The decimal digits of a number, the last ahead; none of 0. -/
def digs : Nat → Nat → List Int
  | 0, _ => []
  | f + 1, u => if u = 0 then [] else (48 + ((u % 10 : Nat) : Int)) :: digs f (u / 10)
theorem digs_zero (f : Nat) : digs f 0 = [] := by cases f <;> simp [digs]
theorem digs_length : ∀ (f u : Nat), (digs f u).length ≤ f
  | 0, u => by simp [digs]
  | f + 1, u => by
    simp only [digs]
    split
    · simp
    · have := digs_length f (u / 10); simp only [List.length_cons]; omega
theorem digs_dec : ∀ (f u : Nat), 0 < u → u < 10 ^ f → (digs f u).reverse.map (fun n => UInt8.ofNat n.toNat) = Lib.decDigits u
  | 0, u, h0, h1 => by simp at h1; omega
  | f + 1, u, h0, h1 => by
    rw [Nat.pow_succ] at h1
    simp only [digs]
    rw [if_neg (by omega), List.reverse_cons, List.map_append]
    have e : (48 + ((u % 10 : Nat) : Int)).toNat = 48 + u % 10 := by omega
    simp only [List.map_cons, List.map_nil, e]
    by_cases c : u < 10
    · rw [show u / 10 = 0 by omega, digs_zero, Lib.decDigits_one c, show u % 10 = u by omega]; rfl
    · rw [digs_dec f (u / 10) (by omega) (by omega)]
      conv => rhs; rw [Lib.decDigits, dif_neg c]
theorem sdec_l1 (x : List Int) (hx : x.length ≤ 1000) : ∀ (n K : Nat) (acc : List Int), n ≤ x.length → acc.length + n ≤ 1000 → n + 1 ≤ K →
    spec_l01Dec.l1 K x acc ((n : Int) - 1) = some (strOfNums (acc ++ (x.take n).reverse))
  | n, 0, acc, hn, ha, hK => by omega
  | 0, K + 1, acc, hn, ha, hK => by
    simp only [spec_l01Dec.l1]
    rw [if_neg (by omega)]
    simp
  | n + 1, K + 1, acc, hn, ha, hK => by
    have e : rd x (((n + 1 : Nat) : Int) - 1) = x.getD n 0 := by unfold rd; rw [show (((n + 1 : Nat) : Int) - 1).toNat = n by omega]
    simp only [spec_l01Dec.l1]
    rw [if_pos (by omega), if_pos (by omega), if_pos (by omega), if_pos (by omega), e, w64 (by omega) (by omega), show ((n + 1 : Nat) : Int) - 1 - 1 = (n : Int) - 1 by omega, sdec_l1 x hx n K _ (by omega) (by rw [List.length_append, List.length_singleton]; omega) (by omega)]
    have hg : x.getD n 0 = x[n] := by rw [List.getD_eq_getElem?_getD, List.getElem?_eq_getElem (by omega), Option.getD_some]
    rw [hg, List.take_succ_eq_append_getElem (by omega), List.reverse_append, List.append_assoc]
    rfl
theorem sdec_end (a : Int) (K f : Nat) (acc : List Int) (m : Int) (hm : m = 0) (ha : acc.length ≤ 100) (hK : 150 ≤ K) :
    spec_l01Dec.l0 (K + 1) a acc m = some (strOfNums (acc ++ digs f 0 ++ (if a < 0 then [45] else [])).reverse) := by
  obtain ⟨K, rfl⟩ : ∃ k, K = k + 1 := ⟨K - 1, by omega⟩
  simp only [spec_l01Dec.l0, spec_l01Dec.j1]
  rw [if_pos hm, digs_zero, List.append_nil]
  by_cases c : a < 0
  · have hl : (acc ++ [(45 : Int)]).length = acc.length + 1 := by simp
    rw [if_pos c, if_pos c, if_pos (by omega), w64 (by omega) (by omega), sdec_l1 _ (by omega) _ K [] (Nat.le_refl _) (by rw [List.length_nil]; omega) (by omega), List.take_length, List.nil_append]
  · rw [if_neg c, if_neg c, w64 (by omega) (by omega), sdec_l1 _ (by omega) _ K [] (Nat.le_refl _) (by rw [List.length_nil]; omega) (by omega), List.take_length, List.nil_append, List.append_nil]
theorem sdec_l0 (a : Int) : ∀ (f K u : Nat) (acc : List Int) (m : Int), (m = (u : Int) ∨ m = -(u : Int)) → u < 10 ^ f → f ≤ 20 → u ≤ 9223372036854775808 → acc.length + f ≤ 100 → f + 200 ≤ K →
    spec_l01Dec.l0 K a acc m = some (strOfNums (acc ++ digs f u ++ (if a < 0 then [45] else [])).reverse)
  | f, 0, u, acc, m, hm, hu, hf, h9, ha, hK => by omega
  | 0, K + 1, u, acc, m, hm, hu, hf, h9, ha, hK => by
    have hu0 : u = 0 := by simp at hu; omega
    subst hu0
    exact sdec_end a K 0 acc m (by omega) (by omega) (by omega)
  | f + 1, K + 1, u, acc, m, hm, hu, hf, h9, ha, hK => by
    by_cases c : u = 0
    · subst c
      have := sdec_end a K (f + 1) acc m (by omega) (by omega) (by omega)
      exact this
    · rw [Nat.pow_succ] at hu
      have hmod : Int.tmod m 10 = (((u % 10 : Nat) : Int)) ∨ Int.tmod m 10 = -(((u % 10 : Nat) : Int)) := by
        rcases hm with rfl | rfl
        · left; exact Int.ofNat_tmod u 10
        · right; rw [Int.neg_tmod]; exact congrArg Neg.neg (Int.ofNat_tmod u 10)
      have hdiv : Int.tdiv m 10 = (((u / 10 : Nat) : Int)) ∨ Int.tdiv m 10 = -(((u / 10 : Nat) : Int)) := by
        rcases hm with rfl | rfl
        · left; exact Int.ofNat_tdiv u 10
        · right; rw [Int.neg_tdiv]; exact congrArg Neg.neg (Int.ofNat_tdiv u 10)
      have hm10 : u % 10 < 10 := Nat.mod_lt _ (by decide)
      have hd10 : u / 10 ≤ 922337203685477580 := by omega
      have hu10 : u / 10 < 10 ^ f := by omega
      have hL : (acc ++ [48 + ((u % 10 : Nat) : Int)]).length + f ≤ 100 := by rw [List.length_append, List.length_singleton]; omega
      generalize ht : Int.tmod m 10 = T at hmod
      generalize hq : Int.tdiv m 10 = Q at hdiv
      have ih := sdec_l0 a f K (u / 10) (acc ++ [48 + ((u % 10 : Nat) : Int)]) Q hdiv hu10 (by omega) (by omega) hL (by omega)
      simp only [spec_l01Dec.l0, digs]
      rw [ht, hq, if_neg (by omega), if_neg c]
      have hQ : wrap64 Q = Q := w64 (by omega) (by omega)
      have fin : some (strOfNums (acc ++ [48 + ((u % 10 : Nat) : Int)] ++ digs f (u / 10) ++ (if a < 0 then [45] else [])).reverse) = some (strOfNums (acc ++ (48 + ((u % 10 : Nat) : Int)) :: digs f (u / 10) ++ (if a < 0 then [45] else [])).reverse) := by
        rw [List.append_assoc acc]; rfl
      generalize u % 10 = r at *
      by_cases c1 : T < 0
      · have e : wrap64 (48 + wrap64 (-T)) % 256 = 48 + (r : Int) := by
          rw [w64 (x := -T) (by omega) (by omega), w64 (by omega) (by omega)]; omega
        rw [if_pos c1, if_pos (by omega), hQ, e, ih, fin]
      · have e : wrap64 (48 + T) % 256 = 48 + (r : Int) := by
          rw [w64 (by omega) (by omega)]; omega
        rw [if_neg c1, if_pos (by omega), hQ, e, ih, fin]
theorem sdec_is {a : Int} (h0 : -9223372036854775808 ≤ a) (h1 : a ≤ 9223372036854775807) {K : Nat} (hK : 300 ≤ K) : spec_l01Dec.f K a = some ⟨(Lib.itoa a).toArray⟩ := by
  unfold spec_l01Dec.f
  by_cases c : a = 0
  · subst c
    rw [if_pos rfl]
    unfold Lib.itoa
    rw [if_neg (by omega), show (0 : Int).toNat = 0 from rfl, Lib.decDigits_one (by omega)]
    rfl
  · rw [if_neg c, sdec_l0 a 19 K a.natAbs [] a (by omega) (by omega) (by omega) (by omega) (by rw [List.length_nil]; omega) (by omega)]
    unfold strOfNums Lib.itoa
    rw [List.nil_append, List.reverse_append, List.map_append]
    by_cases c1 : a < 0
    · rw [if_pos c1, if_pos c1, digs_dec 19 _ (by omega) (by omega)]; rfl
    · rw [if_neg c1, if_neg c1, digs_dec 19 _ (by omega) (by omega), show a.natAbs = a.toNat by omega]; rfl
/-- A numeral as a string. -/
def DT (n : Int) : ByteArray := ⟨(Lib.itoa n).toArray⟩
theorem DT_size {n : Int} (h0 : -9223372036854775808 ≤ n) (h1 : n ≤ 9223372036854775807) : (DT n).size ≤ 20 ∧ 0 < (DT n).size := by
  have hl : (DT n).size = (Lib.itoa n).length := by simp [DT, ByteArray.size]
  have key : ∀ u : Nat, u ≤ 9223372036854775808 → (Lib.decDigits u).length ≤ 19 ∧ 0 < (Lib.decDigits u).length := fun u hu => by
    have hp := Lib.nDigits_pos u
    rw [Lib.decDigits_length]
    refine ⟨?_, by omega⟩
    by_cases c : u = 0
    · rw [c, Lib.nDigits_small (by omega)]; omega
    · rw [← Lib.decDigits_length, ← digs_dec 19 u (by omega) (by omega), List.length_map, List.length_reverse]; exact digs_length _ _
  rw [hl]
  unfold Lib.itoa
  split
  · have := key n.natAbs (by omega); simp only [List.length_cons]; omega
  · have := key n.toNat (by omega); omega
theorem sdec_DT {a : Int} (h0 : -9223372036854775808 ≤ a) (h1 : a ≤ 9223372036854775807) {K : Nat} (hK : 300 ≤ K) : spec_l01Dec.f K a = some (DT a) := sdec_is h0 h1 hK
theorem idec_DT {a : Int} (h0 : -9223372036854775808 ≤ a) (h1 : a ≤ 9223372036854775807) : impl_Decimal.f a = some (DT a) := by
  unfold impl_Decimal.f strconv_FormatInt.f
  rw [if_pos ⟨rfl, h0, h1⟩]
  rfl
theorem DT_two {v : Nat} (h : v < 100) : (if (v : Int) < 10 then (⟨#[48]⟩ : ByteArray) ++ DT (v : Int) else DT (v : Int)) = DT ((v / 10 : Nat) : Int) ++ DT ((v % 10 : Nat) : Int) := by
  have i1 : ∀ n : Nat, DT (n : Int) = ⟨(Lib.decDigits n).toArray⟩ := fun n => by
    unfold DT Lib.itoa; rw [if_neg (by omega), Int.toNat_natCast]
  simp only [i1]
  by_cases c : v < 10
  · rw [if_pos (by omega), show v / 10 = 0 by omega, show v % 10 = v by omega, Lib.decDigits_one (i := 0) (by omega)]; rfl
  · rw [if_neg (by omega), Lib.decDigits_two c h, Lib.decDigits_one (i := v / 10) (by omega), Lib.decDigits_one (i := v % 10) (by omega)]; rfl
/-- A temperature's figures. -/
def TX (u : Nat) : ByteArray := DT ((u / 100 : Nat) : Int) ++ (⟨#[46]⟩ : ByteArray) ++ DT ((u / 10 % 10 : Nat) : Int) ++ DT ((u % 10 : Nat) : Int)
theorem size1 (b : UInt8) : (⟨#[b]⟩ : ByteArray).size = 1 := rfl
theorem size0 : (⟨#[]⟩ : ByteArray).size = 0 := rfl
theorem stext_j0 {u : Nat} (hu : u ≤ 99999) {K : Nat} (hK : 300 ≤ K) (x : ByteArray) (hx : x.size ≤ 10) : spec_l02Text.j0 (K + 1) (u : Int) x = some (x ++ TX u) := by
  have e1 : Int.tdiv (u : Int) 100 = ((u / 100 : Nat) : Int) := (Int.ofNat_tdiv u 100).symm
  have e2 : Int.tmod (u : Int) 100 = ((u % 100 : Nat) : Int) := (Int.ofNat_tmod u 100).symm
  have d1 := DT_size (n := ((u / 100 : Nat) : Int)) (by omega) (by omega)
  have d2 := DT_size (n := ((u % 100 : Nat) : Int)) (by omega) (by omega)
  have t := DT_two (v := u % 100) (Nat.mod_lt _ (by decide))
  have m1 : u % 100 / 10 = u / 10 % 10 := by omega
  have m2 : u % 100 % 10 = u % 10 := by omega
  simp only [spec_l02Text.j0]
  rw [e1, e2, w64 (by omega) (by omega), sdec_DT (by omega) (by omega) hK, Option.bind_some, sdec_DT (by omega) (by omega) hK, Option.bind_some, Option.bind_some]
  rw [m1, m2] at t
  unfold TX
  rw [ByteArray.append_assoc (b := DT _), ← t]
  simp only [ByteArray.size_append, size1]
  rw [if_pos (by omega), if_pos (by omega)]
  by_cases c : ((u % 100 : Nat) : Int) < 10
  · rw [if_pos c, if_pos c, if_pos (by omega), if_pos (by omega)]
    simp only [ByteArray.append_assoc]
  · rw [if_neg c, if_neg c, if_pos (by omega)]
    simp only [ByteArray.append_assoc]
/-- A temperature as text. -/
def TV (a : Int) : ByteArray := if -99999 ≤ a ∧ a ≤ 99999 then (if a < 0 then (⟨#[45]⟩ : ByteArray) ++ TX a.natAbs else TX a.natAbs) else ⟨#[]⟩
theorem empty_app (x : ByteArray) : (⟨#[]⟩ : ByteArray) ++ x = x := by apply ByteArray.ext; simp
theorem stext_is {a : Int} (h : -99999 ≤ a ∧ a ≤ 99999) {K : Nat} (hK : 301 ≤ K) : spec_l02Text.f K a = some (TV a) := by
  obtain ⟨K, rfl⟩ : ∃ k, K = k + 1 := ⟨K - 1, by omega⟩
  unfold spec_l02Text.f TV
  rw [if_pos h]
  by_cases c : a < 0
  · rw [if_pos c, if_pos c, w64 (by omega) (by omega), show -a = (a.natAbs : Int) by omega, stext_j0 (by omega) (by omega) _ (by rw [size1]; omega)]
  · rw [if_neg c, if_neg c]
    conv => lhs; rw [show a = (a.natAbs : Int) by omega]
    rw [stext_j0 (by omega) (by omega) _ (by rw [size0]; omega), empty_app]
theorem stold_is (a : Int) : spec_l02Told.f a = some (decide (-99999 ≤ a ∧ a ≤ 99999)) := by
  unfold spec_l02Told.f spec_l00In_.f; rfl
theorem ideg_is {a : Int} (h0 : -9223372036854775808 ≤ a) (h1 : a ≤ 9223372036854775807) : impl_DegreesText.f a = some (TV a) := by
  unfold impl_DegreesText.f impl_within_.f
  rw [Option.bind_some]
  unfold TV
  by_cases h : -99999 ≤ a ∧ a ≤ 99999
  · rw [if_pos (decide_eq_true h), if_pos h]
    unfold impl_abs.f
    rw [if_pos (by omega), show absI a = (a.natAbs : Int) by unfold absI; split <;> omega, Option.bind_some]
    generalize hu : a.natAbs = u
    have hu9 : u ≤ 99999 := by omega
    have e1 : Int.tdiv (u : Int) 100 = ((u / 100 : Nat) : Int) := (Int.ofNat_tdiv u 100).symm
    have e2 : Int.tdiv (u : Int) 10 = ((u / 10 : Nat) : Int) := (Int.ofNat_tdiv u 10).symm
    have e3 : Int.tmod ((u / 10 : Nat) : Int) 10 = ((u / 10 % 10 : Nat) : Int) := (Int.ofNat_tmod _ 10).symm
    have e4 : Int.tmod (u : Int) 10 = ((u % 10 : Nat) : Int) := (Int.ofNat_tmod u 10).symm
    have d1 := DT_size (n := ((u / 100 : Nat) : Int)) (by omega) (by omega)
    have d2 := DT_size (n := ((u / 10 % 10 : Nat) : Int)) (by omega) (by omega)
    have d3 := DT_size (n := ((u % 10 : Nat) : Int)) (by omega) (by omega)
    rw [e1, e2, e4, w64 (x := ((u / 100 : Nat) : Int)) (by omega) (by omega), w64 (x := ((u / 10 : Nat) : Int)) (by omega) (by omega), e3, idec_DT (by omega) (by omega), Option.bind_some, idec_DT (by omega) (by omega), Option.bind_some, idec_DT (by omega) (by omega), Option.bind_some]
    unfold TX
    simp only [ByteArray.size_append, size1]
    rw [if_pos (by omega), if_pos (by omega), if_pos (by omega)]
    by_cases c : a < 0
    · rw [if_pos c, if_pos c, if_pos (by omega)]
    · rw [if_neg c, if_neg c]
  · rw [if_neg (by simpa using h), if_neg h]
theorem decFrom_append : ∀ (x y : List UInt8) (a : Nat), Lib.decFrom a (x ++ y) = (Lib.decFrom a x).bind fun n => Lib.decFrom n y
  | [], y, a => rfl
  | b :: x, y, a => by
    simp only [List.cons_append, Lib.decFrom]
    cases Lib.digitVal b with
    | none => rfl
    | some d => exact decFrom_append x y _
theorem ofNat_digit {c : UInt8} {d : Nat} (h : Lib.digitVal c = some d) : c = UInt8.ofNat (48 + d) ∧ d < 10 := by
  obtain ⟨h1, h2, h3⟩ := Lib.digitVal_eq h
  refine ⟨?_, by omega⟩
  apply UInt8.toNat_inj.1
  rw [UInt8.toNat_ofNat', Nat.mod_eq_of_lt (by omega)]
  omega
theorem dec_lead : ∀ (n : Nat) (b : List UInt8) (m : Nat), b.length = n + 1 → Lib.decFrom 0 b = some m → b.head? ≠ some 48 → Lib.decDigits m = b ∧ 1 ≤ m
  | n, b, m, hl, h, hh => by
    rcases List.eq_nil_or_concat b with rfl | ⟨b', c, rfl⟩
    · simp at hl
    · rw [List.concat_eq_append] at hl h hh ⊢
      rw [decFrom_append] at h
      cases hb : Lib.decFrom 0 b' with
      | none => rw [hb] at h; simp at h
      | some m' =>
        rw [hb, Option.bind_some] at h
        simp only [Lib.decFrom] at h
        cases hd : Lib.digitVal c with
        | none => rw [hd] at h; simp at h
        | some d =>
          rw [hd] at h
          obtain rfl := Option.some.inj h
          obtain ⟨hc, hd10⟩ := ofNat_digit hd
          cases n with
          | zero =>
            have : b' = [] := by
              rw [List.length_append, List.length_singleton] at hl
              exact List.length_eq_zero_iff.1 (by omega)
            subst this
            obtain rfl := Option.some.inj hb
            have hd0 : d ≠ 0 := fun e => by subst e; subst hc; exact hh rfl
            rw [Nat.zero_mul, Nat.zero_add, Lib.decDigits_one hd10, hc]
            exact ⟨rfl, by omega⟩
          | succ n =>
            have hl' : b'.length = n + 1 := by rw [List.length_append, List.length_singleton] at hl; omega
            have hh' : b'.head? ≠ some 48 := by
              cases b' with
              | nil => simp at hl'
              | cons x t => simpa using hh
            obtain ⟨e, h1⟩ := dec_lead n b' m' hl' hb hh'
            refine ⟨?_, by omega⟩
            rw [Lib.decDigits, dif_neg (by omega), show (m' * 10 + d) / 10 = m' by omega, show (m' * 10 + d) % 10 = d by omega, e, hc]
theorem dec_digits : ∀ (m : Nat) (c : UInt8), c ∈ Lib.decDigits m → 48 ≤ c.toNat ∧ c.toNat ≤ 57
  | m, c, h => by
    have dg : ∀ d : Nat, d < 10 → 48 ≤ (UInt8.ofNat (48 + d)).toNat ∧ (UInt8.ofNat (48 + d)).toNat ≤ 57 := fun d hd => by
      rw [UInt8.toNat_ofNat', Nat.mod_eq_of_lt (by omega)]; omega
    by_cases g : m < 10
    · rw [Lib.decDigits_one g, List.mem_singleton] at h
      subst h; exact dg m g
    · rw [Lib.decDigits, dif_neg g, List.mem_append, List.mem_singleton] at h
      rcases h with h | h
      · exact dec_digits (m / 10) c h
      · subst h; exact dg _ (by omega)
termination_by m => m
decreasing_by omega
theorem dec_ne_nil (m : Nat) : Lib.decDigits m ≠ [] := fun h => by
  have := Lib.nDigits_pos m
  rw [← Lib.decDigits_length, h] at this
  simp at this
theorem dec_head : ∀ (m : Nat), (Lib.decDigits m).head? = some 48 → m = 0
  | m, h => by
    by_cases g : m < 10
    · rw [Lib.decDigits_one g] at h
      have e : UInt8.ofNat (48 + m) = 48 := Option.some.inj h
      have := congrArg UInt8.toNat e
      rw [UInt8.toNat_ofNat', Nat.mod_eq_of_lt (by omega)] at this
      have e48 : (48 : UInt8).toNat = 48 := rfl
      omega
    · rw [Lib.decDigits, dif_neg g] at h
      cases hd : Lib.decDigits (m / 10) with
      | nil => exact absurd hd (dec_ne_nil _)
      | cons x t =>
        have := dec_head (m / 10) (by rw [hd]; rw [hd] at h; simpa using h)
        omega
termination_by m => m
decreasing_by omega
/-- A row of digits is the numeral of its number, if it has no needless zero ahead. -/
theorem dec_canon {b : List UInt8} {m : Nat} (hb : b ≠ []) (h : Lib.decFrom 0 b = some m) : Lib.decDigits m = b ↔ ¬ (b.head? = some 48 ∧ 1 < b.length) := by
  have hl : b.length = (b.length - 1) + 1 := by have := List.length_pos_iff.2 hb; omega
  by_cases hh : b.head? = some 48
  · constructor
    · rintro e ⟨_, h1⟩
      have hm : m = 0 := dec_head m (by rw [e]; exact hh)
      subst hm
      rw [Lib.decDigits_one (by omega)] at e
      rw [← e] at h1
      simp at h1
    · intro hn
      have h1 : b.length = 1 := by have : ¬ 1 < b.length := fun g => hn ⟨hh, g⟩; omega
      obtain ⟨c, rfl⟩ := List.length_eq_one_iff.1 h1
      obtain rfl : c = 48 := by simpa using hh
      have : m = 0 := by
        have e : Lib.decFrom 0 [(48 : UInt8)] = some 0 := by decide
        rw [e] at h; exact (Option.some.inj h).symm
      subst this
      rw [Lib.decDigits_one (by omega)]; rfl
  · exact ⟨fun _ g => hh g.1, fun _ => (dec_lead _ b m hl h hh).1⟩
/-- What a numeral tells: a minus ahead, the digits behind. -/
def numP (neg : Bool) (b : List UInt8) : Int × Bool :=
  if b = [] ∨ 18 < b.length ∨ (b.head? = some 48 ∧ (neg = true ∨ 1 < b.length)) then (0, false) else match Lib.decFrom 0 b with
    | none => (0, false)
    | some m => (if neg = true then -(m : Int) else (m : Int), true)
def numV : List UInt8 → Int × Bool
  | [] => (0, false)
  | c :: r => if c = 45 then numP true r else numP false (c :: r)
theorem numP_not {neg : Bool} {b : List UInt8} (h : b = [] ∨ 18 < b.length ∨ (b.head? = some 48 ∧ (neg = true ∨ 1 < b.length))) : numP neg b = (0, false) := by unfold numP; rw [if_pos h]
theorem numP_none {neg : Bool} {b : List UInt8} (h : Lib.decFrom 0 b = none) : numP neg b = (0, false) := by unfold numP; rw [h]; split <;> rfl
theorem bt_cons {s : ByteArray} {i : Nat} (h : i < s.size) : s.data.toList.drop i = s[i] :: s.data.toList.drop (i + 1) ∧ bt s (i : Int) = (s[i].toNat : Int) := by
  refine ⟨?_, ?_⟩
  · rw [List.drop_eq_getElem_cons (by rw [Array.length_toList]; exact h)]; rfl
  · exact (bt_at s i (by rw [Int.toNat_natCast]; exact h)).symm
theorem sdigit_is (c : UInt8) : spec_l01Digit.f (c.toNat : Int) = some (decide (48 ≤ c.toNat ∧ c.toNat ≤ 57)) := by
  unfold spec_l01Digit.f
  by_cases h : 48 ≤ c.toNat
  · rw [if_pos (by omega)]; congr 1; apply decide_eq_decide.2; omega
  · rw [if_neg (by omega)]; congr 1; rw [eq_comm, decide_eq_false_iff_not]; omega
theorem snum_l0 (s : ByteArray) (at_ : Int) : ∀ (d K i acc : Nat), i + d = s.size → d ≤ 18 → s.size ≤ 100 → acc < 10 ^ (18 - d) → d + 1 ≤ K →
    spec_l01Number.l0 K s at_ (acc : Int) (i : Int) = some (match Lib.decFrom acc (s.data.toList.drop i) with | none => (0, false) | some m => (if at_ = 1 then -(m : Int) else (m : Int), true))
  | d, 0, i, acc, hi, hd, h1, ha, hK => by omega
  | 0, K + 1, i, acc, hi, hd, h1, ha, hK => by
    have hacc : acc < 1000000000000000000 := by have e : (10 : Nat) ^ (18 - 0) = 1000000000000000000 := by decide
                                                omega
    have hdl : s.data.toList.length = s.size := Array.length_toList
    simp only [spec_l01Number.l0]
    rw [if_neg (by omega), w64 (x := -(acc : Int)) (by omega) (by omega), List.drop_eq_nil_of_le (by omega)]
    simp only [Lib.decFrom]
    split <;> rfl
  | d + 1, K + 1, i, acc, hi, hd, h1, ha, hK => by
    obtain ⟨e1, e2⟩ := bt_cons (s := s) (i := i) (by omega)
    have hp : 10 ^ (18 - (d + 1)) ≤ 10 ^ 17 := Nat.pow_le_pow_right (by decide) (by omega)
    have e17 : (10 : Nat) ^ 17 = 100000000000000000 := by decide
    have hnext : 10 ^ (18 - d) = 10 ^ (18 - (d + 1)) * 10 := by rw [← Nat.pow_succ]; congr 1; omega
    simp only [spec_l01Number.l0]
    rw [if_pos (by omega), if_pos (by omega), e2, sdigit_is, Option.bind_some, e1]
    simp only [Lib.decFrom, Lib.digitVal]
    generalize s[i] = c
    by_cases g : 48 ≤ c.toNat ∧ c.toNat ≤ 57
    · rw [if_pos (decide_eq_true g), if_pos g, w64 (x := 10 * (acc : Int)) (by omega) (by omega), w64 (x := (i : Int) + 1) (by omega) (by omega), w64 (by omega) (by omega)]
      have e : 10 * (acc : Int) + ((c.toNat : Int) - 48) % 256 = ((acc * 10 + (c.toNat - 48) : Nat) : Int) := by omega
      rw [e, show (i : Int) + 1 = ((i + 1 : Nat) : Int) by omega]
      exact snum_l0 s at_ d K (i + 1) (acc * 10 + (c.toNat - 48)) (by omega) (by omega) (by omega) (by omega) (by omega)
    · rw [if_neg (by simpa using g), if_neg g]
theorem snum_j1 {s : ByteArray} {a : Nat} (ha : a = 0 ∨ a = 1) (hs : a ≤ s.size) (hz : s.size ≤ 9000000000000000000) {K : Nat} (hK : 50 ≤ K) : spec_l01Number.j1 K s (a : Int) = some (numP (decide (a = 1)) (s.data.toList.drop a)) := by
  obtain ⟨K, rfl⟩ : ∃ k, K = k + 2 := ⟨K - 2, by omega⟩
  have hl : (s.data.toList.drop a).length = s.size - a := by rw [List.length_drop]; rfl
  have hj : spec_l01Number.j2 (K + 1) s (a : Int) true = some (0, false) := by simp only [spec_l01Number.j2]; rw [if_pos trivial]
  have hj' : spec_l01Number.j2 (K + 1) s (a : Int) false = spec_l01Number.l0 K s (a : Int) 0 (a : Int) := by simp only [spec_l01Number.j2]; rw [if_neg (by simp)]
  simp only [spec_l01Number.j1]
  rw [hj, w64 (x := (s.size : Int) - (a : Int)) (by omega) (by omega)]
  by_cases c1 : (s.size : Int) = (a : Int)
  · rw [if_pos c1, numP_not (.inl (List.length_eq_zero_iff.1 (by omega)))]
  · rw [if_neg c1]
    by_cases c2 : (s.size : Int) - (a : Int) > 18
    · rw [if_pos c2, numP_not (.inr (.inl (by omega)))]
    · obtain ⟨e1, e2⟩ := bt_cons (s := s) (i := a) (by omega)
      have e48 : (48 : UInt8).toNat = 48 := rfl
      have h48 : bt s (a : Int) = 48 ↔ (s.data.toList.drop a).head? = some 48 := by
        rw [e2, e1]
        simp only [List.head?_cons, Option.some.injEq]
        constructor
        · intro h; apply UInt8.toNat_inj.1; omega
        · intro h; rw [h]; rfl
      have hl0 := snum_l0 s (a : Int) (s.size - a) K a 0 (by omega) (by omega) (by omega) (Nat.pos_of_ne_zero (by simp)) (by omega)
      rw [show ((0 : Nat) : Int) = (0 : Int) from rfl] at hl0
      have hne : s.data.toList.drop a ≠ [] := fun h => by rw [h] at hl; simp at hl; omega
      have hif : ∀ m : Nat, (if (a : Int) = 1 then -(m : Int) else (m : Int)) = (if decide (a = 1) = true then -(m : Int) else (m : Int)) := fun m => by
        rcases ha with rfl | rfl <;> simp
      rw [if_neg c2, if_pos (by omega), if_pos (by omega)]
      by_cases c3 : bt s (a : Int) = 48
      · rw [if_pos c3]
        by_cases c4 : (s.size : Int) > 1
        · rw [decide_eq_true c4, hj, numP_not (.inr (.inr ⟨h48.1 c3, by rcases ha with rfl | rfl <;> simp; omega⟩))]
        · rw [decide_eq_false c4, hj', hl0]
          unfold numP
          rw [if_neg (by rintro (h | h | ⟨_, h | h⟩) <;> first | exact hne h | (rcases ha with rfl | rfl <;> simp at h <;> omega) | omega)]
          simp only [hif]
      · rw [if_neg c3, hj', hl0]
        unfold numP
        rw [if_neg (by rintro (h | h | ⟨h, _⟩) <;> first | exact hne h | exact c3 (h48.2 h) | omega)]
        simp only [hif]
theorem snum_is {s : ByteArray} (hz : s.size ≤ 9000000000000000000) {K : Nat} (hK : 60 ≤ K) : spec_l01Number.f K s = some (numV s.data.toList) := by
  obtain ⟨K, rfl⟩ : ∃ k, K = k + 1 := ⟨K - 1, by omega⟩
  unfold spec_l01Number.f
  have hl : s.data.toList.length = s.size := Array.length_toList
  have h0 := snum_j1 (s := s) (a := 0) (.inl rfl) (by omega) hz (K := K) (by omega)
  rw [show ((0 : Nat) : Int) = (0 : Int) from rfl, List.drop_zero] at h0
  by_cases c : (s.size : Int) > 0
  · obtain ⟨e1, e2⟩ := bt_cons (s := s) (i := 0) (by omega)
    rw [List.drop_zero] at e1
    have h1 := snum_j1 (s := s) (a := 1) (.inr rfl) (by omega) hz (K := K) (by omega)
    rw [show ((1 : Nat) : Int) = (1 : Int) from rfl] at h1
    rw [if_pos c, if_pos (by omega)]
    simp only [spec_l01Number.j0]
    rw [show ((0 : Nat) : Int) = (0 : Int) from rfl] at e2
    have e45 : (45 : UInt8).toNat = 45 := rfl
    have hc : (bt s 0 == 45) = decide (s[0] = (45 : UInt8)) := by
      rw [e2]
      by_cases g : s[0] = (45 : UInt8)
      · rw [g]; simp
      · rw [decide_eq_false g, beq_eq_false_iff_ne]
        intro h; apply g; apply UInt8.toNat_inj.1; omega
    rw [hc]
    by_cases g : s[0] = (45 : UInt8)
    · rw [decide_eq_true g, if_pos rfl, h1, e1]
      simp only [numV]
      rw [if_pos g]
      rfl
    · rw [decide_eq_false g, if_neg (by simp), h0, e1]
      simp only [numV]
      rw [if_neg g]
      rfl
  · have hn : s.data.toList = [] := List.length_eq_zero_iff.1 (by omega)
    rw [if_neg c]
    simp only [spec_l01Number.j0]
    rw [if_neg (by simp), h0, hn]
    rfl
/-- What ParseInt's answer is worth. -/
def pv : Lib.NumEnd Int → Option Int
  | .ok v => some v
  | _ => none
theorem pv_of (o : Option Int) : pv (Lib.NumEnd.ofOption o) = o := by cases o <;> rfl
theorem parsed_is (s : ByteArray) : parsed s = pv (Lib.atoiAll s.data.toList) := by
  unfold parsed
  rw [Lib.parseIntB_64]
  split <;> rename_i h
  · rw [h]; rfl
  · cases he : Lib.atoiAll s.data.toList with
    | ok v => exact absurd he (h v)
    | _ => rfl
theorem trim_minus (r : List UInt8) : Lib.trimPrefix (45 :: r) [45] = r := by simp [Lib.trimPrefix, Lib.hasPrefix]
theorem trim_none {l : List UInt8} (h : l.head? ≠ some 45) : Lib.trimPrefix l [45] = l := by
  unfold Lib.trimPrefix
  rw [if_neg]
  cases l with
  | nil => simp [Lib.hasPrefix]
  | cons c r =>
    have : c ≠ 45 := by simpa using h
    simp [Lib.hasPrefix, List.isPrefixOf, Ne.symm this]
theorem itoa_nat (m : Nat) : Lib.itoa (m : Int) = Lib.decDigits m := by unfold Lib.itoa; rw [if_neg (by omega), Int.toNat_natCast]
theorem decNat_cons (c : UInt8) (r : List UInt8) : Lib.decNat (c :: r) = Lib.decFrom 0 (c :: r) := rfl
/-- What impl.ReadDecimal makes of it. -/
def readV (o : Option Int) (t l : List UInt8) : Int × Bool := match o with
  | none => (0, false)
  | some v => if 18 < t.length then (0, false) else if Lib.itoa v = l then (v, true) else (0, false)
theorem readV_long {o : Option Int} {t l : List UInt8} (h : 18 < t.length) : readV o t l = (0, false) := by
  unfold readV; cases o with
  | none => rfl
  | some v => simp only []; rw [if_pos h]
theorem readV_is (l : List UInt8) : readV (pv (Lib.atoiAll l)) (Lib.trimPrefix l [45]) l = numV l := by
  cases l with
  | nil => rfl
  | cons c r =>
    simp only [numV]
    by_cases c45 : c = 45
    · subst c45
      rw [if_pos rfl, trim_minus]
      by_cases h18 : 18 < r.length
      · rw [readV_long h18, numP_not (.inr (.inl h18))]
      · rw [Lib.atoiAll_minus, Lib.signed_short (by omega), pv_of]
        cases r with
        | nil => rfl
        | cons x t =>
          rw [decNat_cons]
          cases hd : Lib.decFrom 0 (x :: t) with
          | none => rw [numP_none hd]; rfl
          | some m =>
            have canon := dec_canon (by simp) hd
            show (if 18 < (x :: t).length then _ else if Lib.itoa (-(m : Int)) = 45 :: x :: t then (-(m : Int), true) else (0, false)) = _
            rw [if_neg h18]
            by_cases hm : m = 0
            · have hx : (x :: t).head? = some 48 := by
                refine Classical.byContradiction fun hh => ?_
                have := (dec_lead t.length (x :: t) m (by simp) hd hh).2
                omega
              rw [numP_not (.inr (.inr ⟨hx, .inl rfl⟩)), hm, if_neg]
              show ¬ Lib.itoa 0 = _
              rw [show (0 : Int) = ((0 : Nat) : Int) from rfl, itoa_nat, Lib.decDigits_one (by omega)]
              simp
            · have hi : Lib.itoa (-(m : Int)) = 45 :: Lib.decDigits m := by unfold Lib.itoa; rw [if_pos (by omega)]; simp
              rw [hi]
              have heq : (45 :: Lib.decDigits m = 45 :: x :: t) ↔ Lib.decDigits m = x :: t := by simp
              by_cases hx : (x :: t).head? = some 48
              · rw [numP_not (.inr (.inr ⟨hx, .inl rfl⟩)), if_neg]
                intro e
                exact hm (dec_head m (by rw [heq.1 e]; exact hx))
              · rw [if_pos (heq.2 (canon.2 fun g => hx g.1))]
                unfold numP
                have hn : ¬ (x :: t = [] ∨ 18 < (x :: t).length ∨ ((x :: t).head? = some 48 ∧ (true = true ∨ 1 < (x :: t).length))) := by
                  rintro (h | h | ⟨h, _⟩)
                  · exact absurd h (by simp)
                  · exact h18 h
                  · exact hx h
                rw [if_neg hn, hd]
                rfl
    · rw [if_neg c45, trim_none (by simpa using c45)]
      by_cases h18 : 18 < (c :: r).length
      · rw [readV_long h18, numP_not (.inr (.inl h18))]
      · by_cases c43 : c = 43
        · subst c43
          rw [numP_none (b := 43 :: r) rfl, Lib.atoiAll_plus]
          cases he : Lib.signless (Lib.parseMag r) with
          | ok v =>
            show (if _ then _ else if Lib.itoa v = 43 :: r then (v, true) else (0, false)) = _
            rw [if_neg h18, if_neg]
            intro e
            have hv : 0 ≤ v := by
              cases hp : Lib.parseMag r with
              | ok u =>
                rw [hp] at he
                simp only [Lib.signless] at he
                split at he
                · cases he
                · cases he; omega
              | _ => rw [hp] at he; cases he
            rw [show v = (v.toNat : Int) by omega, itoa_nat] at e
            have := dec_digits v.toNat 43 (by rw [e]; exact List.mem_cons_self)
            have e43 : (43 : UInt8).toNat = 43 := rfl
            omega
          | _ => rfl
        · have t45 : c.toNat ≠ 45 := fun h => c45 (UInt8.toNat_inj.1 h)
          have t43 : c.toNat ≠ 43 := fun h => c43 (UInt8.toNat_inj.1 h)
          rw [Lib.atoiAll_plain c r t43 t45, Lib.signless_short (by omega), pv_of, decNat_cons]
          cases hd : Lib.decFrom 0 (c :: r) with
          | none => rw [numP_none hd]; rfl
          | some m =>
            have canon := dec_canon (by simp) hd
            show (if 18 < (c :: r).length then _ else if Lib.itoa (m : Int) = c :: r then ((m : Int), true) else (0, false)) = _
            rw [if_neg h18, itoa_nat]
            by_cases hx : (c :: r).head? = some 48 ∧ 1 < (c :: r).length
            · rw [numP_not (.inr (.inr ⟨hx.1, .inr hx.2⟩)), if_neg (fun e => canon.1 e hx)]
            · rw [if_pos (canon.2 hx)]
              unfold numP
              have hn : ¬ (c :: r = [] ∨ 18 < (c :: r).length ∨ ((c :: r).head? = some 48 ∧ (false = true ∨ 1 < (c :: r).length))) := by
                rintro (h | h | ⟨h, g | g⟩)
                · exact absurd h (by simp)
                · exact h18 h
                · exact absurd g (by simp)
                · exact hx ⟨h, g⟩
              rw [if_neg hn, hd]
              rfl
theorem iread_is {s : ByteArray} (hs : s.size ≤ 281474976710656) : impl_ReadDecimal.f s = some (numV s.data.toList) := by
  unfold impl_ReadDecimal.f
  rw [if_pos hs, ← readV_is, parsed_is]
  rfl
/-- A string of its bytes. -/
def BA (l : List UInt8) : ByteArray := ⟨l.toArray⟩
theorem BA_data (s : ByteArray) : BA s.data.toList = s := by obtain ⟨⟨l⟩⟩ := s; rfl
theorem extract_BA (s : ByteArray) (a b : Nat) : s.extract a b = BA ((s.data.toList.drop a).take (b - a)) := by rw [← Lib.extract_data, BA_data]
theorem bt_drop {s : ByteArray} {i : Nat} (h : i < s.size) : ∃ b : UInt8, s.data.toList.drop i = b :: s.data.toList.drop (i + 1) ∧ bt s (i : Int) = (b.toNat : Int) ∧ s.data.toList[i]? = some b := by
  have hl : i < s.data.toList.length := by rw [Array.length_toList]; exact h
  refine ⟨s[i], ?_, (bt_at s i (by rw [Int.toNat_natCast]; exact h)).symm, ?_⟩
  · rw [List.drop_eq_getElem_cons hl]; rfl
  · rw [List.getElem?_eq_getElem hl]; rfl
/-- What the numbers behind the first add. -/
def tailT : List Int → ByteArray
  | [] => ⟨#[]⟩
  | x :: l => (⟨#[44]⟩ : ByteArray) ++ (DT x ++ tailT l)
def LT : List Int → ByteArray
  | [] => ⟨#[45]⟩
  | x :: l => DT x ++ tailT l
theorem lit_size1 (b : UInt8) : (⟨#[b]⟩ : ByteArray).size = 1 := rfl
theorem lit_size0 : (⟨#[]⟩ : ByteArray).size = 0 := rfl
theorem ba_empty_app (x : ByteArray) : (⟨#[]⟩ : ByteArray) ++ x = x := by apply ByteArray.ext; simp
theorem ba_app_empty (x : ByteArray) : x ++ (⟨#[]⟩ : ByteArray) = x := by apply ByteArray.ext; simp
def i64 (x : Int) : Prop := -9223372036854775808 ≤ x ∧ x ≤ 9223372036854775807
def inR (x : Int) : Prop := -1000000000000 ≤ x ∧ x ≤ 1000000000000
instance (x : Int) : Decidable (inR x) := by unfold inR; infer_instance
theorem tailT_size : ∀ l : List Int, (∀ x ∈ l, i64 x) → (tailT l).size ≤ 21 * l.length
  | [], _ => by rw [show tailT [] = ⟨#[]⟩ from rfl, lit_size0]; omega
  | x :: l, h => by
    have h1 := tailT_size l fun y hy => h y (List.mem_cons_of_mem _ hy)
    have hx := h x List.mem_cons_self
    have h2 := DT_size hx.1 hx.2
    simp only [tailT, ByteArray.size_append, lit_size1, List.length_cons]
    omega
theorem LT_size (l : List Int) (h : ∀ x ∈ l, i64 x) : (LT l).size ≤ 21 * l.length + 1 := by
  cases l with
  | nil => exact Nat.le_refl 1
  | cons x l =>
    have h1 := tailT_size l fun y hy => h y (List.mem_cons_of_mem _ hy)
    have hx := h x List.mem_cons_self
    have h2 := DT_size hx.1 hx.2
    simp only [LT, ByteArray.size_append, List.length_cons]
    omega
theorem DT_data (x : Int) : (DT x).data.toList = Lib.itoa x := rfl
theorem tailT_data : ∀ l : List Int, (tailT l).data.toList = Lib.joinTail [44] (l.map Lib.itoa)
  | [] => rfl
  | x :: l => by
    have ih := tailT_data l
    simp only [tailT, Lib.joinTail, List.map_cons, List.flatten_cons] at ih ⊢
    rw [← ih]
    simp [DT_data]
theorem LT_data (x : Int) (l : List Int) : (LT (x :: l)).data.toList = Lib.join ((x :: l).map Lib.itoa) [44] := by
  rw [List.map_cons, Lib.join_cons, ← tailT_data]
  simp [LT, DT_data]
theorem rd_lt {l : List Int} {i : Nat} (h : i < l.length) : rd l (i : Int) = l[i] := by
  unfold rd; rw [Int.toNat_natCast, List.getD_eq_getElem?_getD, List.getElem?_eq_getElem h, Option.getD_some]
/-- A list as text. -/
def LV (l : List Int) : ByteArray := if (∀ x ∈ l, inR x) ∧ l.length ≤ 64 then LT l else ⟨#[]⟩
theorem i64_of {l : List Int} (h : ∀ x ∈ l, inR x) : ∀ x ∈ l, i64 x := fun x hx => by have := h x hx; unfold inR at this; unfold i64; omega
theorem numV_true {l : List UInt8} {n : Int} (h : numV l = (n, true)) : Lib.itoa n = l ∧ i64 n := by
  rw [← readV_is] at h
  unfold readV at h
  cases ho : pv (Lib.atoiAll l) with
  | none => rw [ho] at h; simp at h
  | some v =>
    rw [ho] at h
    simp only [] at h
    split at h
    · simp at h
    · split at h
      · rename_i hi
        obtain rfl := (Prod.mk.inj h).1
        refine ⟨hi, ?_⟩
        cases he : Lib.atoiAll l with
        | ok u =>
          rw [he] at ho
          obtain rfl := Option.some.inj ho
          rw [← Lib.parseIntB_64] at he
          have := Lib.parseIntB_bounds he
          have e : (2 : Nat) ^ (64 - 1) = 9223372036854775808 := by decide
          rw [e] at this
          unfold i64
          omega
        | _ => rw [he] at ho; cases ho
      · simp at h
theorem dec_from (m : Nat) : Lib.decFrom 0 (Lib.decDigits m) = some m := by
  have dgv : ∀ d : Nat, d < 10 → Lib.digitVal (UInt8.ofNat (48 + d)) = some d := fun d hd => by
    have e : (UInt8.ofNat (48 + d)).toNat = 48 + d := by rw [UInt8.toNat_ofNat', Nat.mod_eq_of_lt (by omega)]
    unfold Lib.digitVal
    rw [e, if_pos (by omega), show 48 + d - 48 = d by omega]
  induction m using Nat.strongRecOn with
  | _ m ih =>
    by_cases g : m < 10
    · rw [Lib.decDigits_one g]
      simp only [Lib.decFrom, dgv m g, Nat.zero_mul, Nat.zero_add]
    · rw [Lib.decDigits, dif_neg g, decFrom_append, ih (m / 10) (by omega), Option.bind_some]
      simp only [Lib.decFrom, dgv (m % 10) (by omega)]
      rw [show m / 10 * 10 + m % 10 = m by omega]
theorem dec_short {m : Nat} (h : m < 1000000000000000000) : (Lib.decDigits m).length ≤ 18 := by
  by_cases c : m = 0
  · rw [c, Lib.decDigits_one (by omega)]; simp
  · rw [← digs_dec 18 m (by omega) (by omega), List.length_map, List.length_reverse]; exact digs_length _ _
theorem numV_dec {m : Nat} (h : m < 1000000000000000000) : numV (Lib.decDigits m) = ((m : Int), true) := by
  have hl := dec_short h
  have hf := dec_from m
  have hd := dec_digits m
  have hh := dec_head m
  cases he : Lib.decDigits m with
  | nil => exact absurd he (dec_ne_nil m)
  | cons c r =>
    have h1 : (c :: r).head? = some 48 → (c :: r).length = 1 := fun hc => by
      have hm := hh (by rw [he]; exact hc)
      rw [← he, hm, Lib.decDigits_one (by omega)]; rfl
    rw [he] at hl hf hd
    have hc := hd c List.mem_cons_self
    have e45 : (45 : UInt8).toNat = 45 := rfl
    have n45 : ¬ c = 45 := fun e => by rw [e] at hc; omega
    simp only [numV]
    rw [if_neg n45]
    unfold numP
    have hn : ¬ (c :: r = [] ∨ 18 < (c :: r).length ∨ ((c :: r).head? = some 48 ∧ (false = true ∨ 1 < (c :: r).length))) := by
      rintro (g | g | ⟨g, k | k⟩)
      · exact absurd g (by simp)
      · omega
      · exact absurd k (by simp)
      · have := h1 g; omega
    rw [if_neg hn, hf]
    rfl
abbrev inT (x : Int) : Prop := -99999 ≤ x ∧ x ≤ 99999
/-- What is told in the end. -/
def fin (s : ByteArray) (o : Option Int) : Int × Bool := match o with
  | none => (0, false)
  | some x => if inT x ∧ (TV x).toList = s.toList then (x, true) else (0, false)
theorem fin_cases (s : ByteArray) (o : Option Int) : (fin s o = (0, false)) ∨ ∃ x, fin s o = (x, true) ∧ inT x ∧ (TV x).toList = s.toList := by
  unfold fin
  cases o with
  | none => exact .inl rfl
  | some x =>
    simp only []
    split
    · rename_i h; exact .inr ⟨x, rfl, h⟩
    · exact .inl rfl
abbrev isDg (x : Int) : Prop := 48 ≤ x ∧ x ≤ 57
def cand (sg : Int) (r : ByteArray) : Option Int :=
  if (r.size : Int) < 4 then none else if bt r ((r.size : Int) - 3) = 46 ∧ isDg (bt r ((r.size : Int) - 2)) ∧ isDg (bt r ((r.size : Int) - 1)) then
    (if (numV (r.extract 0 (r.size - 3)).data.toList).2 = true ∧ ¬ (numV (r.extract 0 (r.size - 3)).data.toList).1 < 0 then
      some (wrap64 (sg * (wrap64 ((wrap64 ((wrap64 (100 * (numV (r.extract 0 (r.size - 3)).data.toList).1)) + (10 * (((bt r ((r.size : Int) - 2)) - 48) % 256)))) + (((bt r ((r.size : Int) - 1)) - 48) % 256))))) else none) else none
theorem sdigit_bt (s : ByteArray) (i : Int) : spec_l01Digit.f (bt s i) = some (decide (isDg (bt s i))) := by
  unfold spec_l01Digit.f isDg
  by_cases h : 48 ≤ bt s i
  · rw [if_pos (by omega)]; congr 1; apply decide_eq_decide.2; omega
  · rw [if_neg (by omega)]; congr 1; rw [eq_comm, decide_eq_false_iff_not]; omega
theorem srd_j2t {s r : ByteArray} {sg n : Int} {K : Nat} : spec_ReadDegrees.j2 (K + 1) s sg r n true = some (0, false) := by
  simp only [spec_ReadDegrees.j2]; rw [if_pos trivial]
theorem srd_j1 {s r : ByteArray} {sg : Int} (hz : r.size ≤ 2000000) {K : Nat} (hK : 500 ≤ K) : spec_ReadDegrees.j1 K s sg r = some (fin s (cand sg r)) := by
  obtain ⟨K, rfl⟩ : ∃ k, K = k + 3 := ⟨K - 3, by omega⟩
  simp only [spec_ReadDegrees.j1]
  unfold cand
  by_cases c1 : (r.size : Int) < 4
  · rw [if_pos c1, if_pos c1, srd_j2t]; rfl
  · have e3 : wrap64 ((r.size : Int) - 3) = (r.size : Int) - 3 := w64 (by omega) (by omega)
    have e2 : wrap64 ((r.size : Int) - 2) = (r.size : Int) - 2 := w64 (by omega) (by omega)
    have e1 : wrap64 ((r.size : Int) - 1) = (r.size : Int) - 1 := w64 (by omega) (by omega)
    rw [if_neg c1, if_neg c1, e3, e2, e1, if_pos (by omega), if_pos (by omega)]
    by_cases c2 : bt r ((r.size : Int) - 3) = 46
    · rw [if_pos c2, if_pos (by omega), if_pos (by omega), sdigit_bt, Option.bind_some]
      by_cases c3 : isDg (bt r ((r.size : Int) - 2))
      · rw [if_pos (decide_eq_true c3), if_pos (by omega), if_pos (by omega), sdigit_bt, Option.bind_some]
        by_cases c4 : isDg (bt r ((r.size : Int) - 1))
        · rw [if_pos ⟨c2, c3, c4⟩, decide_eq_true c4]
          simp only [spec_ReadDegrees.j2]
          rw [if_neg (by simp), e3, if_pos (by omega), if_pos (by omega), show ((r.size : Int) - 3).toNat = r.size - 3 by omega, snum_is (by rw [ByteArray.size_extract]; omega) (by omega), Option.bind_some]
          generalize numV (r.extract 0 (r.size - 3)).data.toList = q
          by_cases c5 : q.2 = true
          · rw [if_pos c5]
            simp only [spec_ReadDegrees.j3]
            by_cases c6 : q.1 < 0
            · rw [if_pos (decide_eq_true c6), if_neg (fun h => h.2 c6)]; rfl
            · rw [if_neg (by simpa using c6), if_pos (show q.2 = true ∧ ¬ q.1 < 0 from ⟨c5, c6⟩), e2, e1, if_pos (by omega), if_pos (by omega), if_pos (by omega), if_pos (by omega), stold_is, Option.bind_some]
              generalize wrap64 (sg * wrap64 (wrap64 (wrap64 (100 * q.1) + 10 * ((bt r ((r.size : Int) - 2) - 48) % 256)) + (bt r ((r.size : Int) - 1) - 48) % 256)) = x
              unfold fin
              simp only []
              by_cases c7 : -99999 ≤ x ∧ x ≤ 99999
              · rw [if_pos (decide_eq_true c7), stext_is c7 (by omega), Option.bind_some]
                by_cases c8 : (TV x).toList = s.toList
                · rw [if_pos c8, if_pos ⟨c7, c8⟩]
                · rw [if_neg c8, if_neg (fun h => c8 h.2)]
              · rw [if_neg (by simpa using c7), if_neg (fun h => c7 h.1)]
          · rw [if_neg c5, if_neg (fun h => c5 h.1)]
            simp only [spec_ReadDegrees.j3]
            rw [if_pos trivial]; rfl
        · rw [if_neg (fun h => c4 h.2.2), decide_eq_false c4, Bool.not_false, srd_j2t]; rfl
      · rw [if_neg (by simpa using c3), if_neg (fun h => c3 h.2.1), srd_j2t]; rfl
    · rw [if_neg c2, if_neg (fun h => c2 h.1), srd_j2t]; rfl
abbrev neg? (s : ByteArray) : Prop := s.data.toList.head? = some 45
def restOf (s : ByteArray) : ByteArray := if neg? s then BA s.data.toList.tail else s
theorem restOf_size (s : ByteArray) : (restOf s).size ≤ s.size := by
  unfold restOf
  split
  · show s.data.toList.tail.toArray.size ≤ s.data.size
    simp
  · exact Nat.le_refl _
theorem first_45 {s : ByteArray} (h : 0 < s.size) : (bt s 0 == 45) = decide (neg? s) := by
  obtain ⟨e1, e2⟩ := bt_cons (s := s) (i := 0) h
  rw [List.drop_zero] at e1
  rw [show ((0 : Nat) : Int) = (0 : Int) from rfl] at e2
  unfold neg?
  rw [e2, e1]
  have e45 : (45 : UInt8).toNat = 45 := rfl
  by_cases g : s[0] = (45 : UInt8)
  · rw [g]; simp
  · have : ¬ (s[0] :: s.data.toList.drop (0 + 1)).head? = some 45 := by simpa using g
    rw [decide_eq_false this, beq_eq_false_iff_ne]
    intro h; apply g; apply UInt8.toNat_inj.1; omega
theorem tail_extract (s : ByteArray) : s.extract 1 s.size = BA s.data.toList.tail := by
  rw [extract_BA, List.take_of_length_le (by rw [List.length_drop, Array.length_toList]; exact Nat.le_refl _), List.drop_one]
theorem srd_is {s : ByteArray} (hz : s.size ≤ 2000000) {K : Nat} (hK : 600 ≤ K) : spec_ReadDegrees.f K s = some (fin s (cand (if neg? s then -1 else 1) (restOf s))) := by
  obtain ⟨K, rfl⟩ : ∃ k, K = k + 1 := ⟨K - 1, by omega⟩
  have hr := restOf_size s
  unfold spec_ReadDegrees.f
  by_cases c : (s.size : Int) > 0
  · rw [if_pos c, if_pos (by omega), first_45 (by omega)]
    simp only [spec_ReadDegrees.j0]
    by_cases g : neg? s
    · have e : restOf s = s.extract 1 s.size := by unfold restOf; rw [if_pos g, tail_extract]
      rw [if_pos (decide_eq_true g), if_pos (by omega), if_pos g, ← e]
      exact srd_j1 (by omega) (by omega)
    · have e : restOf s = s := by unfold restOf; rw [if_neg g]
      rw [if_neg (by simpa using g), if_neg g, e]
      exact srd_j1 (by omega) (by omega)
  · have hn : s.data.toList = [] := List.length_eq_zero_iff.1 (by rw [Array.length_toList]; show s.size = 0; omega)
    have g : ¬ neg? s := by unfold neg?; rw [hn]; simp
    have e : restOf s = s := by unfold restOf; rw [if_neg g]
    rw [if_neg c]
    simp only [spec_ReadDegrees.j0]
    rw [if_neg (by simp), if_neg g, e]
    exact srd_j1 (by omega) (by omega)
theorem ihp_is (s : ByteArray) : strings_HasPrefix.f s (⟨#[45]⟩ : ByteArray) = some (decide (neg? s)) ∧ stringslite_HasPrefix.f s (⟨#[45]⟩ : ByteArray) = some (decide (neg? s)) := by
  have key : stringslite_HasPrefix.f s (⟨#[45]⟩ : ByteArray) = some (decide (neg? s)) := by
    unfold stringslite_HasPrefix.f
    rw [show (⟨#[45]⟩ : ByteArray).size = 1 from rfl]
    by_cases c : (s.size : Int) ≥ ((1 : Nat) : Int)
    · rw [if_pos c, if_pos (by omega), if_pos (by omega), ByteArray.toList_eq, ByteArray.toList_eq, Lib.extract_data]
      obtain ⟨e1, _⟩ := bt_cons (s := s) (i := 0) (by omega)
      rw [List.drop_zero] at e1
      unfold neg?
      rw [e1]
      congr 1
      by_cases g : s[0] = (45 : UInt8)
      · rw [g]; rfl
      · rw [decide_eq_false (by simpa using g), beq_eq_false_iff_ne]
        intro h
        apply g
        simpa using h
    · rw [if_neg c]
      have hn : s.data.toList = [] := List.length_eq_zero_iff.1 (by rw [Array.length_toList]; show s.size = 0; omega)
      unfold neg?
      rw [hn]; rfl
  exact ⟨by unfold strings_HasPrefix.f; rw [key]; rfl, key⟩
theorem itp_is (s : ByteArray) : strings_TrimPrefix.f s (⟨#[45]⟩ : ByteArray) = some (restOf s) := by
  unfold strings_TrimPrefix.f stringslite_TrimPrefix.f
  rw [(ihp_is s).2, Option.bind_some]
  unfold restOf
  by_cases g : neg? s
  · have hs : 0 < s.size := by
      rcases Nat.eq_zero_or_pos s.size with h | h
      · exfalso
        have hn : s.data.toList = [] := List.length_eq_zero_iff.1 (by rw [Array.length_toList]; exact h)
        unfold neg? at g; rw [hn] at g; simp at g
      · exact h
    rw [show (⟨#[45]⟩ : ByteArray).size = 1 from rfl, if_pos (decide_eq_true g), if_pos (by omega), if_pos (by omega), if_pos g, show (((1 : Nat) : Int)).toNat = 1 from rfl, tail_extract]; rfl
  · rw [if_neg (by simpa using g), if_neg g]; rfl
/-- The digits that impl.ReadDegrees reads. -/
def digOf (s : ByteArray) : List UInt8 := Lib.trimLeftB (Lib.replace (restOf s).data.toList [46] [] 1) 48
def candI (s : ByteArray) : Option Int := let q := numV (if digOf s = [] then [48] else digOf s); if q.2 = true then some (if neg? s then wrap64 (-q.1) else q.1) else none
def finI (s : ByteArray) (o : Option Int) : Int × Bool := match o with
  | none => (0, false)
  | some x => if (TV x).toList = s.toList then (x, true) else (0, false)
theorem numV_i64 (l : List UInt8) : i64 (numV l).1 := by
  rcases hq : numV l with ⟨n, b⟩
  cases b with
  | true => exact (numV_true hq).2
  | false =>
    rw [← readV_is] at hq
    unfold readV at hq
    cases ho : pv (Lib.atoiAll l) with
    | none => rw [ho] at hq; obtain ⟨rfl, _⟩ := Prod.mk.inj hq; exact ⟨by decide, by decide⟩
    | some v =>
      rw [ho] at hq
      simp only [] at hq
      split at hq
      · obtain ⟨rfl, _⟩ := Prod.mk.inj hq; exact ⟨by decide, by decide⟩
      · split at hq
        · simp at hq
        · obtain ⟨rfl, _⟩ := Prod.mk.inj hq; exact ⟨by decide, by decide⟩
theorem ird_j0 {s : ByteArray} {d : List UInt8} (hd : d.length ≤ 2000000) {K : Nat} : impl_ReadDegrees.j0 (K + 1) s (BA d) = some (finI s (if (numV d).2 = true then some (if neg? s then wrap64 (-(numV d).1) else (numV d).1) else none)) := by
  have hz : (BA d).size = d.length := by show d.toArray.size = _; simp
  have hq := numV_i64 d
  simp only [impl_ReadDegrees.j0]
  rw [iread_is (by omega), Option.bind_some, (ihp_is s).1, Option.bind_some, show (BA d).data.toList = d from rfl]
  generalize numV d = q at *
  unfold i64 at hq
  have hw : ∀ y : Int, -9223372036854775808 ≤ wrap64 y ∧ wrap64 y ≤ 9223372036854775807 := fun y => by unfold wrap64; omega
  by_cases g : neg? s
  · rw [if_pos (decide_eq_true g)]
    by_cases c : q.2 = true
    · rw [if_pos c, if_pos c, if_pos g, ideg_is (hw _).1 (hw _).2, Option.bind_some]
      unfold finI
      simp only []
      split <;> rfl
    · rw [if_neg c, if_neg c]; rfl
  · rw [if_neg (by simpa using g)]
    by_cases c : q.2 = true
    · rw [if_pos c, if_pos c, if_neg g, ideg_is hq.1 hq.2, Option.bind_some]
      unfold finI
      simp only []
      split <;> rfl
    · rw [if_neg c, if_neg c]; rfl
theorem ird_is {s : ByteArray} (hz : s.size ≤ 1048576) (hd : (digOf s).length ≤ 2000000) {K : Nat} (hK : 10 ≤ K) : impl_ReadDegrees.f K s = some (finI s (candI s)) := by
  obtain ⟨K, rfl⟩ : ∃ k, K = k + 1 := ⟨K - 1, by omega⟩
  have hr := restOf_size s
  unfold impl_ReadDegrees.f strings_Replace.f strings_TrimLeft.f
  rw [itp_is, Option.bind_some, if_pos ⟨by omega, Nat.le_refl _, by rw [show (⟨#[]⟩ : ByteArray).size = 0 from rfl]; omega⟩, Option.bind_some, if_pos rfl, Option.bind_some]
  show (if (BA (digOf s)).toList = [] then impl_ReadDegrees.j0 (K + 1) s (BA [48]) else impl_ReadDegrees.j0 (K + 1) s (BA (digOf s))) = _
  unfold candI
  rw [ByteArray.toList_eq, show (BA (digOf s)).data.toList = digOf s from rfl]
  by_cases c : digOf s = []
  · rw [if_pos c, ird_j0 (by simp)]
    simp only [c, if_true]
  · rw [if_neg c, ird_j0 hd]
    simp only [c, if_false]
theorem replaceK_len : ∀ (k : Nat) (l : List UInt8), (Lib.replaceK [46] [] k l).length ≤ l.length
  | 0, l => Nat.le_refl _
  | k + 1, l => by
    simp only [Lib.replaceK]
    split
    · exact Nat.le_refl _
    · have := replaceK_len k (l.drop ((Lib.index l [46]).toNat + [46].length))
      rw [List.length_drop, List.length_singleton] at this
      simp only [List.append_nil, List.length_append, List.length_take, List.length_singleton] at this ⊢
      omega
theorem digOf_len (s : ByteArray) : (digOf s).length ≤ s.size := by
  have h1 := restOf_size s
  have h2 : (Lib.trimLeftB (Lib.replace (restOf s).data.toList [46] [] 1) 48).length ≤ (Lib.replace (restOf s).data.toList [46] [] 1).length := (List.dropWhile_sublist _).length_le
  have h3 : (Lib.replace (restOf s).data.toList [46] [] 1).length ≤ (restOf s).data.toList.length := by
    unfold Lib.replace
    split
    · exact Nat.le_refl _
    · exact replaceK_len _ _
  rw [show (restOf s).data.toList.length = (restOf s).data.size from Array.length_toList] at h3
  have h4 : (restOf s).data.size = (restOf s).size := rfl
  show (Lib.trimLeftB (Lib.replace (restOf s).data.toList [46] [] 1) 48).length ≤ _
  omega
def dg (d : Nat) : UInt8 := UInt8.ofNat (48 + d)
theorem dg_nat {d : Nat} (h : d < 10) : (dg d).toNat = 48 + d := by unfold dg; rw [UInt8.toNat_ofNat', Nat.mod_eq_of_lt (by omega)]
def XL (u : Nat) : List UInt8 := Lib.decDigits (u / 100) ++ [46, dg (u / 10 % 10), dg (u % 10)]
theorem DT_nat (m : Nat) : (DT (m : Int)).data.toList = Lib.decDigits m := by rw [← itoa_nat]; rfl
theorem TX_data (u : Nat) : (TX u).data.toList = XL u := by
  have h1 := DT_nat (u / 100)
  have h2 := DT_nat (u / 10 % 10)
  have h3 := DT_nat (u % 10)
  rw [Lib.decDigits_one (by omega)] at h2 h3
  unfold TX XL
  simp only [ByteArray.data_append, Array.toList_append, h1, h2, h3]
  simp [dg]
theorem XL_head (u : Nat) : ∃ c r, XL u = c :: r ∧ 48 ≤ c.toNat ∧ c.toNat ≤ 57 := by
  unfold XL
  have hd := dec_digits (u / 100)
  cases he : Lib.decDigits (u / 100) with
  | nil => exact absurd he (dec_ne_nil _)
  | cons c r =>
    rw [he] at hd
    have := hd c List.mem_cons_self
    exact ⟨c, _, rfl, this.1, this.2⟩
theorem TV_data {t : Int} (h : inT t) : (TV t).data.toList = if t < 0 then 45 :: XL t.natAbs else XL t.natAbs := by
  unfold TV
  rw [if_pos h]
  split
  · simp [TX_data]
  · rw [TX_data]
theorem neg_TV {t : Int} (h : inT t) : neg? (TV t) ↔ t < 0 := by
  unfold neg?
  rw [TV_data h]
  split
  · rename_i c; exact ⟨fun _ => c, fun _ => rfl⟩
  · rename_i c
    obtain ⟨x, r, e, h1, h2⟩ := XL_head t.natAbs
    rw [e]
    have e45 : (45 : UInt8).toNat = 45 := rfl
    refine ⟨fun g => ?_, fun g => absurd g c⟩
    have : x = 45 := by simpa using g
    rw [this] at h1; omega
theorem rest_TV {t : Int} (h : inT t) : restOf (TV t) = TX t.natAbs := by
  unfold restOf
  by_cases c : t < 0
  · rw [if_pos ((neg_TV h).2 c), TV_data h, if_pos c, List.tail_cons, ← TX_data, BA_data]
  · rw [if_neg (fun g => c ((neg_TV h).1 g))]
    unfold TV
    rw [if_pos h, if_neg c]
theorem bt_XL {u : Nat} {i : Nat} {b : UInt8} {r : List UInt8} (h : (XL u).drop i = b :: r) : bt (TX u) (i : Int) = (b.toNat : Int) := by
  have hl : i < (TX u).size := by
    have hs : (TX u).data.toList.length = (TX u).size := Array.length_toList
    rw [TX_data] at hs
    have : ((XL u).drop i).length = r.length + 1 := by rw [h]; rfl
    rw [List.length_drop] at this
    omega
  obtain ⟨c, e1, e2, _⟩ := bt_drop (s := TX u) hl
  rw [TX_data, h] at e1
  obtain ⟨rfl, _⟩ := List.cons.inj e1
  exact e2
theorem cand_TX {u : Nat} (hu : u ≤ 99999) (sg : Int) (hsg : sg = 1 ∨ sg = -1) : cand sg (TX u) = some (sg * (u : Int)) := by
  have hL := dec_short (m := u / 100) (by omega)
  have hn := dec_ne_nil (u / 100)
  have hN := numV_dec (m := u / 100) (by omega)
  have hs : (TX u).size = (Lib.decDigits (u / 100)).length + 3 := by
    have hs : (TX u).data.toList.length = (TX u).size := Array.length_toList
    rw [TX_data] at hs
    rw [← hs]; unfold XL; simp
  have hL0 : 0 < (Lib.decDigits (u / 100)).length := List.length_pos_iff.2 hn
  have d0 : (XL u).drop (Lib.decDigits (u / 100)).length = 46 :: [dg (u / 10 % 10), dg (u % 10)] := by unfold XL; rw [List.drop_append_of_le_length (Nat.le_refl _), List.drop_length]; rfl
  have d1 : (XL u).drop ((Lib.decDigits (u / 100)).length + 1) = dg (u / 10 % 10) :: [dg (u % 10)] := by rw [← List.drop_drop, d0]; rfl
  have d2 : (XL u).drop ((Lib.decDigits (u / 100)).length + 2) = dg (u % 10) :: [] := by rw [← List.drop_drop, d0]; rfl
  have b0 := bt_XL d0
  have b1 := bt_XL d1
  have b2 := bt_XL d2
  rw [dg_nat (by omega)] at b1 b2
  have hx : ((TX u).extract 0 ((TX u).size - 3)).data.toList = Lib.decDigits (u / 100) := by
    rw [Lib.extract_data, TX_data, hs, List.drop_zero, show (Lib.decDigits (u / 100)).length + 3 - 3 - 0 = (Lib.decDigits (u / 100)).length by omega]
    unfold XL
    rw [List.take_append_of_le_length (Nat.le_refl _), List.take_length]
  unfold cand
  rw [hx, hN, hs]
  generalize (Lib.decDigits (u / 100)).length = L at *
  rw [if_neg (by omega), show (((L + 3 : Nat) : Int) - 3) = (L : Int) by omega, show (((L + 3 : Nat) : Int) - 2) = ((L + 1 : Nat) : Int) by omega, show (((L + 3 : Nat) : Int) - 1) = ((L + 2 : Nat) : Int) by omega, b0, b1, b2]
  have e46 : (46 : UInt8).toNat = 46 := rfl
  rw [e46, if_pos ⟨rfl, by unfold isDg; omega, by unfold isDg; omega⟩, if_pos ⟨rfl, by show ¬ ((u / 100 : Nat) : Int) < 0; omega⟩]
  show some (wrap64 (sg * wrap64 (wrap64 (wrap64 (100 * ((u / 100 : Nat) : Int)) + 10 * ((((48 + u / 10 % 10 : Nat) : Int) - 48) % 256)) + (((48 + u % 10 : Nat) : Int) - 48) % 256))) = _
  rw [w64 (x := 100 * ((u / 100 : Nat) : Int)) (by omega) (by omega), w64 (x := 100 * ((u / 100 : Nat) : Int) + 10 * ((((48 + u / 10 % 10 : Nat) : Int) - 48) % 256)) (by omega) (by omega), w64 (x := 100 * ((u / 100 : Nat) : Int) + 10 * ((((48 + u / 10 % 10 : Nat) : Int) - 48) % 256) + (((48 + u % 10 : Nat) : Int) - 48) % 256) (by omega) (by omega), show 100 * ((u / 100 : Nat) : Int) + 10 * ((((48 + u / 10 % 10 : Nat) : Int) - 48) % 256) + (((48 + u % 10 : Nat) : Int) - 48) % 256 = (u : Int) by omega]
  rcases hsg with rfl | rfl
  · rw [w64 (by omega) (by omega)]
  · rw [w64 (by omega) (by omega)]
theorem idx_app : ∀ (x y : List UInt8), (∀ c ∈ x, c ≠ 46) → Lib.index (x ++ 46 :: y) [46] = (x.length : Int)
  | [], y, _ => by rw [List.nil_append, Lib.index]; simp [List.isPrefixOf]
  | b :: x, y, h => by
    have hb : b ≠ 46 := h b List.mem_cons_self
    have ih := idx_app x y fun c hc => h c (List.mem_cons_of_mem _ hc)
    have hp : ([46] : List UInt8).isPrefixOf (b :: (x ++ 46 :: y)) = false := by simp [List.isPrefixOf, Ne.symm hb]
    rw [List.cons_append, Lib.index, hp, ih]
    have n1 : ¬ (((x.length : Int) == -1) = true) := fun e => by have := beq_iff_eq.1 e; omega
    simp only [Bool.false_eq_true, if_false]
    rw [if_neg n1, List.length_cons]
    omega
theorem repl_XL (u : Nat) : Lib.replace (XL u) [46] [] 1 = Lib.decDigits (u / 100) ++ [dg (u / 10 % 10), dg (u % 10)] := by
  have e46 : (46 : UInt8).toNat = 46 := rfl
  have hi := idx_app (Lib.decDigits (u / 100)) [dg (u / 10 % 10), dg (u % 10)] fun c hc e => by have := dec_digits _ c hc; rw [e] at this; omega
  have hX : XL u = Lib.decDigits (u / 100) ++ 46 :: [dg (u / 10 % 10), dg (u % 10)] := rfl
  rw [← hX] at hi
  have hc := Lib.count_hit (sub := [46]) (by simp) hi
  have hnum : Lib.replaceNum (XL u) [46] 1 = 1 := by
    unfold Lib.replaceNum
    rw [if_neg (by rw [hc]; omega)]
    rfl
  unfold Lib.replace
  rw [if_neg (by simp), hnum, Lib.replaceK_hit [46] [] 0 (XL u) _ hi, hX, List.take_append_of_le_length (Nat.le_refl _), List.take_length, List.append_nil]
  simp only [Lib.replaceK]
  rw [← List.drop_drop, List.drop_append_of_le_length (Nat.le_refl _), List.drop_length]
  rfl
theorem dropW_ne {c : UInt8} {l : List UInt8} (h : c ≠ 48) : Lib.trimLeftB (c :: l) 48 = c :: l := by
  unfold Lib.trimLeftB
  rw [List.dropWhile_cons_of_neg (by simpa using h)]
theorem dropW_eq (l : List UInt8) : Lib.trimLeftB (48 :: l) 48 = Lib.trimLeftB l 48 := by
  unfold Lib.trimLeftB
  rw [List.dropWhile_cons_of_pos (by simp)]
theorem dg_ne {d : Nat} (h : d < 10) (h0 : d ≠ 0) : dg d ≠ 48 := fun e => by
  have := dg_nat h
  rw [e] at this
  have e48 : (48 : UInt8).toNat = 48 := rfl
  omega
theorem trim_XL (u : Nat) : Lib.trimLeftB (Lib.decDigits (u / 100) ++ [dg (u / 10 % 10), dg (u % 10)]) 48 = if u = 0 then [] else Lib.decDigits u := by
  by_cases c : u < 100
  · rw [show u / 100 = 0 by omega, Lib.decDigits_one (by omega)]
    show Lib.trimLeftB (48 :: [dg (u / 10 % 10), dg (u % 10)]) 48 = _
    rw [dropW_eq]
    by_cases c2 : u < 10
    · rw [show u / 10 % 10 = 0 by omega, show u % 10 = u by omega]
      show Lib.trimLeftB (48 :: [dg u]) 48 = _
      rw [dropW_eq]
      by_cases c3 : u = 0
      · rw [if_pos c3, c3]; rfl
      · rw [if_neg c3, dropW_ne (dg_ne c2 c3), Lib.decDigits_one c2]; rfl
    · rw [dropW_ne (dg_ne (by omega) (by omega)), if_neg (by omega), Lib.decDigits_two c2 c, show u / 10 % 10 = u / 10 by omega]; rfl
  · have hd : Lib.decDigits u = Lib.decDigits (u / 100) ++ [dg (u / 10 % 10), dg (u % 10)] := by
      rw [Lib.decDigits, dif_neg (by omega), Lib.decDigits, dif_neg (by omega), show u / 10 / 10 = u / 100 by omega, List.append_assoc]; rfl
    rw [if_neg (by omega), ← hd]
    have hh := dec_head u
    cases he : Lib.decDigits u with
    | nil => exact absurd he (dec_ne_nil u)
    | cons x r =>
      rw [dropW_ne]
      intro e
      have := hh (by rw [he, e]; rfl)
      omega
theorem candI_TV {t : Int} (h : inT t) : candI (TV t) = some t := by
  have hd : digOf (TV t) = if t.natAbs = 0 then [] else Lib.decDigits t.natAbs := by
    unfold digOf
    rw [rest_TV h, TX_data, repl_XL, trim_XL]
  unfold inT at h
  have hq : numV (if digOf (TV t) = [] then [48] else digOf (TV t)) = ((t.natAbs : Int), true) := by
    rw [hd]
    by_cases c : t.natAbs = 0
    · rw [if_pos c, if_pos rfl, c]
      have := numV_dec (m := 0) (by omega)
      rw [Lib.decDigits_one (by omega)] at this
      exact this
    · rw [if_neg c, if_neg (dec_ne_nil _)]
      exact numV_dec (by omega)
  unfold candI
  rw [hq]
  show (if true = true then some (if neg? (TV t) then wrap64 (-(t.natAbs : Int)) else (t.natAbs : Int)) else none) = _
  rw [if_pos rfl]
  by_cases c : t < 0
  · rw [if_pos ((neg_TV h).2 c), w64 (by omega) (by omega)]; congr 1; omega
  · rw [if_neg (fun g => c ((neg_TV h).1 g))]; congr 1; omega
theorem cand_TV {t : Int} (h : inT t) : cand (if neg? (TV t) then -1 else 1) (restOf (TV t)) = some t := by
  rw [rest_TV h]
  have h' := h
  unfold inT at h'
  by_cases c : t < 0
  · rw [if_pos ((neg_TV h).2 c), cand_TX (by omega) _ (.inr rfl)]; congr 1; omega
  · rw [if_neg (fun g => c ((neg_TV h).1 g)), cand_TX (by omega) _ (.inl rfl)]; congr 1; omega
theorem candI_empty {s : ByteArray} (h : s.data.toList = []) : candI s = some 0 := by
  have g : ¬ neg? s := by unfold neg?; rw [h]; simp
  have hr : restOf s = s := by unfold restOf; rw [if_neg g]
  have hd : digOf s = [] := by
    have := digOf_len s
    have hl : s.data.toList.length = s.size := Array.length_toList
    rw [h] at hl
    simp only [List.length_nil] at hl
    exact List.length_eq_zero_iff.1 (by omega)
  have hq : numV [48] = (0, true) := by
    have := numV_dec (m := 0) (by omega)
    rw [Lib.decDigits_one (by omega)] at this
    exact this
  unfold candI
  rw [hd, if_pos rfl, hq]
  show (if true = true then some (if neg? s then wrap64 (-0) else 0) else none) = _
  rw [if_pos rfl, if_neg g]
theorem both_is (s : ByteArray) : fin s (cand (if neg? s then -1 else 1) (restOf s)) = finI s (candI s) := by
  by_cases h : ∃ t, inT t ∧ (TV t).toList = s.toList
  · obtain ⟨t, ht, e⟩ := h
    have hs : s = TV t := by rw [← BA_data s, ← BA_data (TV t)]; rw [ByteArray.toList_eq, ByteArray.toList_eq] at e; rw [e]
    subst hs
    rw [cand_TV ht, candI_TV ht]
    unfold fin finI
    simp only []
    rw [if_pos ⟨ht, trivial⟩, if_pos trivial]
  · have h1 : fin s (cand (if neg? s then -1 else 1) (restOf s)) = (0, false) := by
      rcases fin_cases s (cand (if neg? s then -1 else 1) (restOf s)) with g | ⟨x, _, g⟩
      · exact g
      · exact absurd ⟨x, g⟩ h
    rw [h1]
    cases hc : candI s with
    | none => rfl
    | some x =>
      unfold finI
      simp only []
      by_cases g : (TV x).toList = s.toList
      · exfalso
        by_cases hx : inT x
        · exact h ⟨x, hx, g⟩
        · have e : TV x = ⟨#[]⟩ := by unfold TV; exact if_neg hx
          rw [e, ByteArray.toList_eq, ByteArray.toList_eq] at g
          have := candI_empty (s := s) g.symm
          rw [hc] at this
          obtain rfl := Option.some.inj this
          exact hx (by unfold inT; omega)
      · rw [if_neg g]
theorem FnExactReadDegrees : laws_FnExactReadDegrees.Pure := by
  intro s hz
  refine ⟨2000, ?_⟩
  unfold laws_FnExactReadDegrees.f
  by_cases c : (s.size : Int) > 1048576
  · rw [if_pos c]
  · rw [if_neg c]
    have hd := digOf_len s
    simp only [laws_FnExactReadDegrees.j0]
    rw [srd_is (by omega) (by omega), Option.bind_some, ird_is (by omega) (by omega) (by omega), Option.bind_some, both_is, if_pos rfl, if_neg (by simp)]

end Go.Proofs.YtabgkdejpkpejaaDoor.Pure
