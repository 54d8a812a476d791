/- For every network the program's NetworkText writes what the reference's NetworkText writes, and leaves the network as it is. No condition. -/
import Derived.Test.YtabgkdejpkpejaaDoorPFnExactNetworkTextx8
import Derived.Test.YtabgkdejpkpejaaDoorMath
import Derived.Test.YtabgkdejpkpejaaDoorMathR
namespace Go.Proofs.YtabgkdejpkpejaaDoor.Pure
open Go.RowKit Go.Proofs.YtabgkdejpkpejaaDoor.PFnExactNetworkText Go.Proofs.YtabgkdejpkpejaaDoorW.PrintWords Go.Proofs.YtabgkdejpkpejaaDoorW.PrintLast Go.Proofs.YtabgkdejpkpejaaDoorW.PrintMore Go.Proofs.YtabgkdejpkpejaaDoorM
set_option linter.unusedSimpArgs false
set_option linter.unusedVariables false
theorem roomOf_ok {a n : Int} (h : ¬ roomOf a n < 0) : n ≤ a ∧ roomOf a n = a - n := by
  unfold roomOf at *
  split at h
  · omega
  · rename_i c; rw [if_neg c]; exact ⟨by omega, rfl⟩
theorem szNet_is (ns : List Int) (qs : List S40) (a : Int) (hn : ns.length ≤ 9223372036854775807) (hq : qs.length ≤ 9223372036854775807) (hx : ∀ p ∈ qs, p.f0.size ≤ 9223372036854775807) (h0 : 0 ≤ a) (h1 : a ≤ 1048576) :
    laws_szNetwork.f ns qs a = some (roomOf a ((ns.length : Int) + ((qs.length : Int) + sizeP qs))) := by
  unfold laws_szNetwork.f laws_szInt64S.f
  have hz := sizeP_nonneg qs
  rw [w64 (x := a - (ns.length : Int)) (by omega) (by omega)]
  by_cases n1 : a - (ns.length : Int) < 0
  · rw [if_pos n1]; simp only [Option.bind_some]; unfold roomOf; rw [if_pos (by omega), if_pos (by omega)]
  · rw [if_neg n1]
    simp only [Option.bind_some]
    have e : laws_szPipeS_.f qs (a - (ns.length : Int)) = some (roomOf (a - (ns.length : Int)) ((qs.length : Int) + sizeP qs)) := by unfold laws_szPipeS_.f; rw [if_pos ⟨⟨by omega, by omega⟩, hq, hx⟩]
    rw [if_neg n1, e]
    simp only [Option.bind_some]
    unfold roomOf
    rw [show a - ((ns.length : Int) + ((qs.length : Int) + sizeP qs)) = a - (ns.length : Int) - ((qs.length : Int) + sizeP qs) by omega]
    by_cases n2 : a - (ns.length : Int) - ((qs.length : Int) + sizeP qs) < 0
    · rw [if_pos n2, if_pos (by omega)]
    · rw [if_neg n2, if_neg n2]
theorem toNet_is {ns : List Int} {qs : List S40} (hn : ns.length ≤ 1048576) (hq : qs.length ≤ 1048576) : laws_toNetwork.f ns qs = some (ns, qs.map cvP) := by
  unfold laws_toNetwork.f laws_toInt64S_.f laws_toPipeS_.f
  rw [if_pos (by omega), if_pos (by omega)]; rfl
theorem eqNet_refl {ns : List Int} {ps : List S43} (hn : ns.length ≤ 1048576) (hq : ps.length ≤ 1048576) : laws_eqNetwork.f ns ps ns ps = some true := by
  unfold laws_eqNetwork.f laws_eqInt64S_.f laws_eqPipeS_.f
  rw [if_pos (by omega), if_pos (by omega)]; simp [pipesEq_refl]
theorem cv_size {qs : List S40} {m : Nat} (h : sizeP qs ≤ (m : Int)) : ∀ p ∈ qs.map cvP, p.f0.size ≤ m := by
  intro p hp
  obtain ⟨q, hq, rfl⟩ := List.mem_map.mp hp
  have := sizeP_elem h q hq
  show q.f0.size ≤ m
  omega
/-- The decimal digits of a number, the last ahead; none of 0. -/
def digs : Nat → Nat → List Int
  | 0, _ => []
  | f + 1, u => if u = 0 then [] else (48 + ((u % 10 : Nat) : Int)) :: digs f (u / 10)
theorem digs_zero (f : Nat) : digs f 0 = [] := by cases f <;> simp [digs]
theorem digs_length : ∀ (f u : Nat), (digs f u).length ≤ f
  | 0, u => by simp [digs]
  | f + 1, u => by
    simp only [digs]
    split
    · simp
    · have := digs_length f (u / 10); simp only [List.length_cons]; omega
theorem digs_dec : ∀ (f u : Nat), 0 < u → u < 10 ^ f → (digs f u).reverse.map (fun n => UInt8.ofNat n.toNat) = Lib.decDigits u
  | 0, u, h0, h1 => by simp at h1; omega
  | f + 1, u, h0, h1 => by
    rw [Nat.pow_succ] at h1
    simp only [digs]
    rw [if_neg (by omega), List.reverse_cons, List.map_append]
    have e : (48 + ((u % 10 : Nat) : Int)).toNat = 48 + u % 10 := by omega
    simp only [List.map_cons, List.map_nil, e]
    by_cases c : u < 10
    · rw [show u / 10 = 0 by omega, digs_zero, Lib.decDigits_one c, show u % 10 = u by omega]; rfl
    · rw [digs_dec f (u / 10) (by omega) (by omega)]
      conv => rhs; rw [Lib.decDigits, dif_neg c]
theorem sdec_l1 (x : List Int) (hx : x.length ≤ 1000) : ∀ (n K : Nat) (acc : List Int), n ≤ x.length → acc.length + n ≤ 1000 → n + 1 ≤ K →
    spec_l01Dec.l1 K x acc ((n : Int) - 1) = some (strOfNums (acc ++ (x.take n).reverse))
  | n, 0, acc, hn, ha, hK => by omega
  | 0, K + 1, acc, hn, ha, hK => by
    simp only [spec_l01Dec.l1]
    rw [if_neg (by omega)]
    simp
  | n + 1, K + 1, acc, hn, ha, hK => by
    have e : rd x (((n + 1 : Nat) : Int) - 1) = x.getD n 0 := by unfold rd; rw [show (((n + 1 : Nat) : Int) - 1).toNat = n by omega]
    simp only [spec_l01Dec.l1]
    rw [if_pos (by omega), if_pos (by omega), if_pos (by omega), if_pos (by omega), e, w64 (by omega) (by omega), show ((n + 1 : Nat) : Int) - 1 - 1 = (n : Int) - 1 by omega, sdec_l1 x hx n K _ (by omega) (by rw [List.length_append, List.length_singleton]; omega) (by omega)]
    have hg : x.getD n 0 = x[n] := by rw [List.getD_eq_getElem?_getD, List.getElem?_eq_getElem (by omega), Option.getD_some]
    rw [hg, List.take_succ_eq_append_getElem (by omega), List.reverse_append, List.append_assoc]
    rfl
theorem sdec_end (a : Int) (K f : Nat) (acc : List Int) (m : Int) (hm : m = 0) (ha : acc.length ≤ 100) (hK : 150 ≤ K) :
    spec_l01Dec.l0 (K + 1) a acc m = some (strOfNums (acc ++ digs f 0 ++ (if a < 0 then [45] else [])).reverse) := by
  obtain ⟨K, rfl⟩ : ∃ k, K = k + 1 := ⟨K - 1, by omega⟩
  simp only [spec_l01Dec.l0, spec_l01Dec.j1]
  rw [if_pos hm, digs_zero, List.append_nil]
  by_cases c : a < 0
  · have hl : (acc ++ [(45 : Int)]).length = acc.length + 1 := by simp
    rw [if_pos c, if_pos c, if_pos (by omega), w64 (by omega) (by omega), sdec_l1 _ (by omega) _ K [] (Nat.le_refl _) (by rw [List.length_nil]; omega) (by omega), List.take_length, List.nil_append]
  · rw [if_neg c, if_neg c, w64 (by omega) (by omega), sdec_l1 _ (by omega) _ K [] (Nat.le_refl _) (by rw [List.length_nil]; omega) (by omega), List.take_length, List.nil_append, List.append_nil]
theorem sdec_l0 (a : Int) : ∀ (f K u : Nat) (acc : List Int) (m : Int), (m = (u : Int) ∨ m = -(u : Int)) → u < 10 ^ f → f ≤ 20 → u ≤ 9223372036854775808 → acc.length + f ≤ 100 → f + 200 ≤ K →
    spec_l01Dec.l0 K a acc m = some (strOfNums (acc ++ digs f u ++ (if a < 0 then [45] else [])).reverse)
  | f, 0, u, acc, m, hm, hu, hf, h9, ha, hK => by omega
  | 0, K + 1, u, acc, m, hm, hu, hf, h9, ha, hK => by
    have hu0 : u = 0 := by simp at hu; omega
    subst hu0
    exact sdec_end a K 0 acc m (by omega) (by omega) (by omega)
  | f + 1, K + 1, u, acc, m, hm, hu, hf, h9, ha, hK => by
    by_cases c : u = 0
    · subst c
      have := sdec_end a K (f + 1) acc m (by omega) (by omega) (by omega)
      exact this
    · rw [Nat.pow_succ] at hu
      have hmod : Int.tmod m 10 = (((u % 10 : Nat) : Int)) ∨ Int.tmod m 10 = -(((u % 10 : Nat) : Int)) := by
        rcases hm with rfl | rfl
        · left; exact Int.ofNat_tmod u 10
        · right; rw [Int.neg_tmod]; exact congrArg Neg.neg (Int.ofNat_tmod u 10)
      have hdiv : Int.tdiv m 10 = (((u / 10 : Nat) : Int)) ∨ Int.tdiv m 10 = -(((u / 10 : Nat) : Int)) := by
        rcases hm with rfl | rfl
        · left; exact Int.ofNat_tdiv u 10
        · right; rw [Int.neg_tdiv]; exact congrArg Neg.neg (Int.ofNat_tdiv u 10)
      have hm10 : u % 10 < 10 := Nat.mod_lt _ (by decide)
      have hd10 : u / 10 ≤ 922337203685477580 := by omega
      have hu10 : u / 10 < 10 ^ f := by omega
      have hL : (acc ++ [48 + ((u % 10 : Nat) : Int)]).length + f ≤ 100 := by rw [List.length_append, List.length_singleton]; omega
      generalize ht : Int.tmod m 10 = T at hmod
      generalize hq : Int.tdiv m 10 = Q at hdiv
      have ih := sdec_l0 a f K (u / 10) (acc ++ [48 + ((u % 10 : Nat) : Int)]) Q hdiv hu10 (by omega) (by omega) hL (by omega)
      simp only [spec_l01Dec.l0, digs]
      rw [ht, hq, if_neg (by omega), if_neg c]
      have hQ : wrap64 Q = Q := w64 (by omega) (by omega)
      have fin : some (strOfNums (acc ++ [48 + ((u % 10 : Nat) : Int)] ++ digs f (u / 10) ++ (if a < 0 then [45] else [])).reverse) = some (strOfNums (acc ++ (48 + ((u % 10 : Nat) : Int)) :: digs f (u / 10) ++ (if a < 0 then [45] else [])).reverse) := by
        rw [List.append_assoc acc]; rfl
      generalize u % 10 = r at *
      by_cases c1 : T < 0
      · have e : wrap64 (48 + wrap64 (-T)) % 256 = 48 + (r : Int) := by
          rw [w64 (x := -T) (by omega) (by omega), w64 (by omega) (by omega)]; omega
        rw [if_pos c1, if_pos (by omega), hQ, e, ih, fin]
      · have e : wrap64 (48 + T) % 256 = 48 + (r : Int) := by
          rw [w64 (by omega) (by omega)]; omega
        rw [if_neg c1, if_pos (by omega), hQ, e, ih, fin]
theorem sdec_is {a : Int} (h0 : -9223372036854775808 ≤ a) (h1 : a ≤ 9223372036854775807) {K : Nat} (hK : 300 ≤ K) : spec_l01Dec.f K a = some ⟨(Lib.itoa a).toArray⟩ := by
  unfold spec_l01Dec.f
  by_cases c : a = 0
  · subst c
    rw [if_pos rfl]
    unfold Lib.itoa
    rw [if_neg (by omega), show (0 : Int).toNat = 0 from rfl, Lib.decDigits_one (by omega)]
    rfl
  · rw [if_neg c, sdec_l0 a 19 K a.natAbs [] a (by omega) (by omega) (by omega) (by omega) (by rw [List.length_nil]; omega) (by omega)]
    unfold strOfNums Lib.itoa
    rw [List.nil_append, List.reverse_append, List.map_append]
    by_cases c1 : a < 0
    · rw [if_pos c1, if_pos c1, digs_dec 19 _ (by omega) (by omega)]; rfl
    · rw [if_neg c1, if_neg c1, digs_dec 19 _ (by omega) (by omega), show a.natAbs = a.toNat by omega]; rfl
/-- A numeral as a string. -/
def DT (n : Int) : ByteArray := ⟨(Lib.itoa n).toArray⟩
theorem DT_size {n : Int} (h0 : -9223372036854775808 ≤ n) (h1 : n ≤ 9223372036854775807) : (DT n).size ≤ 20 ∧ 0 < (DT n).size := by
  have hl : (DT n).size = (Lib.itoa n).length := by simp [DT, ByteArray.size]
  have key : ∀ u : Nat, u ≤ 9223372036854775808 → (Lib.decDigits u).length ≤ 19 ∧ 0 < (Lib.decDigits u).length := fun u hu => by
    have hp := Lib.nDigits_pos u
    rw [Lib.decDigits_length]
    refine ⟨?_, by omega⟩
    by_cases c : u = 0
    · rw [c, Lib.nDigits_small (by omega)]; omega
    · rw [← Lib.decDigits_length, ← digs_dec 19 u (by omega) (by omega), List.length_map, List.length_reverse]; exact digs_length _ _
  rw [hl]
  unfold Lib.itoa
  split
  · have := key n.natAbs (by omega); simp only [List.length_cons]; omega
  · have := key n.toNat (by omega); omega
theorem sdec_DT {a : Int} (h0 : -9223372036854775808 ≤ a) (h1 : a ≤ 9223372036854775807) {K : Nat} (hK : 300 ≤ K) : spec_l01Dec.f K a = some (DT a) := sdec_is h0 h1 hK
theorem idec_DT {a : Int} (h0 : -9223372036854775808 ≤ a) (h1 : a ≤ 9223372036854775807) : impl_Decimal.f a = some (DT a) := by
  unfold impl_Decimal.f strconv_FormatInt.f
  rw [if_pos ⟨rfl, h0, h1⟩]
  rfl
/-- What the numbers behind the first add. -/
def tailT : List Int → ByteArray
  | [] => ⟨#[]⟩
  | x :: l => (⟨#[44]⟩ : ByteArray) ++ (DT x ++ tailT l)
def LT : List Int → ByteArray
  | [] => ⟨#[45]⟩
  | x :: l => DT x ++ tailT l
theorem lit_size1 (b : UInt8) : (⟨#[b]⟩ : ByteArray).size = 1 := rfl
theorem lit_size0 : (⟨#[]⟩ : ByteArray).size = 0 := rfl
theorem ba_empty_app (x : ByteArray) : (⟨#[]⟩ : ByteArray) ++ x = x := by apply ByteArray.ext; simp
theorem ba_app_empty (x : ByteArray) : x ++ (⟨#[]⟩ : ByteArray) = x := by apply ByteArray.ext; simp
def i64 (x : Int) : Prop := -9223372036854775808 ≤ x ∧ x ≤ 9223372036854775807
def inR (x : Int) : Prop := -1000000000000 ≤ x ∧ x ≤ 1000000000000
instance (x : Int) : Decidable (inR x) := by unfold inR; infer_instance
theorem tailT_size : ∀ l : List Int, (∀ x ∈ l, i64 x) → (tailT l).size ≤ 21 * l.length
  | [], _ => by rw [show tailT [] = ⟨#[]⟩ from rfl, lit_size0]; omega
  | x :: l, h => by
    have h1 := tailT_size l fun y hy => h y (List.mem_cons_of_mem _ hy)
    have hx := h x List.mem_cons_self
    have h2 := DT_size hx.1 hx.2
    simp only [tailT, ByteArray.size_append, lit_size1, List.length_cons]
    omega
theorem LT_size (l : List Int) (h : ∀ x ∈ l, i64 x) : (LT l).size ≤ 21 * l.length + 1 := by
  cases l with
  | nil => exact Nat.le_refl 1
  | cons x l =>
    have h1 := tailT_size l fun y hy => h y (List.mem_cons_of_mem _ hy)
    have hx := h x List.mem_cons_self
    have h2 := DT_size hx.1 hx.2
    simp only [LT, ByteArray.size_append, List.length_cons]
    omega
theorem DT_data (x : Int) : (DT x).data.toList = Lib.itoa x := rfl
theorem tailT_data : ∀ l : List Int, (tailT l).data.toList = Lib.joinTail [44] (l.map Lib.itoa)
  | [] => rfl
  | x :: l => by
    have ih := tailT_data l
    simp only [tailT, Lib.joinTail, List.map_cons, List.flatten_cons] at ih ⊢
    rw [← ih]
    simp [DT_data]
theorem LT_data (x : Int) (l : List Int) : (LT (x :: l)).data.toList = Lib.join ((x :: l).map Lib.itoa) [44] := by
  rw [List.map_cons, Lib.join_cons, ← tailT_data]
  simp [LT, DT_data]
theorem rd_lt {l : List Int} {i : Nat} (h : i < l.length) : rd l (i : Int) = l[i] := by
  unfold rd; rw [Int.toNat_natCast, List.getD_eq_getElem?_getD, List.getElem?_eq_getElem h, Option.getD_some]
/-- A list as text. -/
def LV (l : List Int) : ByteArray := if (∀ x ∈ l, inR x) ∧ l.length ≤ 64 then LT l else ⟨#[]⟩
theorem i64_of {l : List Int} (h : ∀ x ∈ l, inR x) : ∀ x ∈ l, i64 x := fun x hx => by have := h x hx; unfold inR at this; unfold i64; omega
theorem slist_l0 (l : List Int) (hl : l.length ≤ 1000) (h : ∀ x ∈ l, i64 x) : ∀ (d K i : Nat) (x : ByteArray), i + d = l.length → 1 ≤ i → x.size ≤ 100 * i → d + 400 ≤ K → spec_l01List.l0 K l x (i : Int) = some (x ++ tailT (l.drop i))
  | d, 0, i, x, hi, h1, hx, hK => by omega
  | 0, K + 1, i, x, hi, h1, hx, hK => by
    simp only [spec_l01List.l0]
    rw [if_neg (by omega), List.drop_eq_nil_of_le (by omega), show tailT [] = ⟨#[]⟩ from rfl, ba_app_empty]
  | d + 1, K + 1, i, x, hi, h1, hx, hK => by
    have hi' : i < l.length := by omega
    have hb := h l[i] (List.getElem_mem hi')
    have hs := DT_size hb.1 hb.2
    have w1 : wrap64 ((i : Int) + 1) = ((i + 1 : Nat) : Int) := by rw [w64 (by omega) (by omega)]; omega
    simp only [spec_l01List.l0]
    rw [if_pos (by omega), if_pos (by omega), if_pos (by omega), if_pos (by omega), rd_lt hi', sdec_DT hb.1 hb.2 (by omega), Option.bind_some, w1, if_pos (by simp only [ByteArray.size_append, lit_size1]; omega)]
    rw [slist_l0 l hl h d K (i + 1) _ (by omega) (by omega) (by simp only [ByteArray.size_append, lit_size1]; omega) (by omega), List.drop_eq_getElem_cons hi']
    simp only [tailT, ByteArray.append_assoc]
theorem slist_is {l : List Int} (hl : l.length ≤ 1000) (h : ∀ x ∈ l, i64 x) {K : Nat} (hK : 1500 ≤ K) : spec_l01List.f K l = some (LT l) := by
  unfold spec_l01List.f
  cases l with
  | nil => rw [if_pos (by simp)]; rfl
  | cons x l =>
    obtain ⟨K, rfl⟩ : ∃ k, K = k + 1 := ⟨K - 1, by omega⟩
    have hb := h x List.mem_cons_self
    have hs := DT_size hb.1 hb.2
    have e0 : rd (x :: l) 0 = x := rfl
    rw [if_neg (by rw [List.length_cons]; omega)]
    simp only [spec_l01List.l0]
    rw [if_pos (by rw [List.length_cons]; omega), if_neg (by omega), if_pos (by omega), e0, sdec_DT hb.1 hb.2 (by omega), Option.bind_some, ba_empty_app, if_pos (by rw [lit_size0]; omega), show wrap64 (0 + 1) = ((1 : Nat) : Int) from by rw [w64 (by omega) (by omega)]; rfl, slist_l0 (x :: l) hl h l.length K 1 _ (by rw [List.length_cons]; omega) (Nat.le_refl _) (by omega) (by simp only [List.length_cons] at hl; omega)]
    rfl
theorem join_LT (x : Int) (l : List Int) (hl : (x :: l).length ≤ 1000) (h : ∀ y ∈ x :: l, i64 y) : strings_Join.f ((x :: l).map DT) (⟨#[44]⟩ : ByteArray) = some (LT (x :: l)) := by
  have hm : ((x :: l).map DT).map (fun s : ByteArray => s.data.toList) = (x :: l).map Lib.itoa := by rw [List.map_map]; rfl
  have hsz := LT_size (x :: l) h
  have hlen : (Lib.join ((x :: l).map Lib.itoa) [44]).length = (LT (x :: l)).size := by rw [← LT_data, Array.length_toList]; rfl
  unfold strings_Join.f
  rw [hm, show (⟨#[44]⟩ : ByteArray).data.toList = [44] from rfl, if_pos ⟨by rw [List.length_map]; omega, by omega⟩, ← LT_data]
theorem ilist_l0 (l : List Int) (hl : l.length ≤ 64) : ∀ (d K i : Nat) (out : List ByteArray), i + d = l.length → out.length = i → d + 1 ≤ K → impl_ListText.l0 K out l (l.length : Int) (i : Int) = if ∀ x ∈ l.drop i, inR x then strings_Join.f (out ++ (l.drop i).map DT) (⟨#[44]⟩ : ByteArray) else some ⟨#[]⟩
  | d, 0, i, out, hi, ho, hK => by omega
  | 0, K + 1, i, out, hi, ho, hK => by
    simp only [impl_ListText.l0]
    rw [if_neg (by omega), List.drop_eq_nil_of_le (by omega), if_pos (fun x hx => by simp at hx), List.map_nil, List.append_nil]
    cases strings_Join.f out ⟨#[44]⟩ <;> rfl
  | d + 1, K + 1, i, out, hi, ho, hK => by
    have hi' : i < l.length := by omega
    have w1 : wrap64 ((i : Int) + 1) = ((i + 1 : Nat) : Int) := by rw [w64 (by omega) (by omega)]; omega
    simp only [impl_ListText.l0, impl_within_.f]
    rw [if_pos (by omega), if_pos (by omega), if_pos (by omega), Option.bind_some, rd_lt hi', w1, List.drop_eq_getElem_cons hi']
    by_cases c : -1000000000000 ≤ l[i] ∧ l[i] ≤ 1000000000000
    · rw [if_pos (decide_eq_true c), idec_DT (by omega) (by omega), Option.bind_some, if_pos (by omega), ilist_l0 l hl d K (i + 1) _ (by omega) (by rw [List.length_append, List.length_singleton]; omega) (by omega)]
      by_cases c2 : ∀ x ∈ l.drop (i + 1), inR x
      · rw [if_pos c2, if_pos (by intro x hx; rcases List.mem_cons.1 hx with rfl | hx; exact c; exact c2 x hx), List.append_assoc]; rfl
      · rw [if_neg c2, if_neg (fun h => c2 fun x hx => h x (List.mem_cons_of_mem _ hx))]
    · rw [if_neg (by simpa using c), if_neg (fun h => c (h l[i] List.mem_cons_self))]
theorem ilt_is {l : List Int} (hl : l.length ≤ 2000000) {K : Nat} (hK : 100 ≤ K) : impl_ListText.f K l = some (LV l) := by
  unfold impl_ListText.f LV
  by_cases c : (l.length : Int) > 64
  · rw [if_pos c, if_neg (fun h => by omega)]
  · rw [if_neg c]
    cases l with
    | nil => rw [if_pos (by simp), if_pos ⟨fun x hx => by simp at hx, by simp⟩]; rfl
    | cons x l =>
      have h0 := ilist_l0 (x :: l) (by omega) (x :: l).length K 0 [] (by omega) rfl (by omega)
      rw [show ((0 : Nat) : Int) = (0 : Int) from rfl, List.drop_zero, List.nil_append] at h0
      rw [if_neg (by rw [List.length_cons]; omega), if_pos (by omega), if_pos (by omega), List.replicate_zero, h0]
      by_cases c2 : ∀ y ∈ x :: l, inR y
      · rw [if_pos c2, if_pos ⟨c2, by omega⟩, join_LT x l (by omega) (i64_of c2)]
      · rw [if_neg c2, if_neg (fun h => c2 h.1)]
/-- A pipe as text. -/
def PT (p : S43) : ByteArray := p.f0 ++ (⟨#[32]⟩ : ByteArray) ++ LT [p.f1, p.f2, p.f3, p.f4, p.f5]
/-- What the pipes add. -/
def tailN : List S43 → ByteArray
  | [] => ⟨#[]⟩
  | p :: l => (⟨#[47]⟩ : ByteArray) ++ (PT p ++ tailN l)
/-- A network as text. -/
def NT (ns : List Int) (ps : List S43) : ByteArray := LT ns ++ tailN ps
theorem pipeOk_in {a : ByteArray} {n0 n1 n2 n3 n4 : Int} (h : pipeOk a n0 n1 n2 n3 n4 = true) : ∀ x ∈ [n0, n1, n2, n3, n4], inR x := by
  unfold pipeOk at h
  simp only [Bool.and_eq_true, decide_eq_true_eq] at h
  intro x hx
  simp only [List.mem_cons, List.not_mem_nil, or_false] at hx
  unfold inR
  rcases hx with rfl | rfl | rfl | rfl | rfl <;> omega
/-- A pipe that is valid, with a name that is not too long. -/
def okP (m : Nat) (p : S43) : Prop := pipeOk p.f0 p.f1 p.f2 p.f3 p.f4 p.f5 = true ∧ p.f0.size ≤ m
theorem PT_size {m : Nat} {p : S43} (h : okP m p) : (PT p).size ≤ m + 200 := by
  have hL := LT_size _ (i64_of (pipeOk_in h.1))
  have h2 := h.2
  simp only [List.length_cons, List.length_nil] at hL
  unfold PT
  simp only [ByteArray.size_append, lit_size1]
  omega
theorem tailN_size {m : Nat} : ∀ ps : List S43, (∀ p ∈ ps, okP m p) → (tailN ps).size ≤ (m + 201) * ps.length
  | [], _ => by rw [show tailN [] = ⟨#[]⟩ from rfl, lit_size0]; exact Nat.zero_le _
  | p :: l, h => by
    have h1 := tailN_size l fun y hy => h y (List.mem_cons_of_mem _ hy)
    have h2 := PT_size (h p List.mem_cons_self)
    simp only [tailN, ByteArray.size_append, lit_size1, List.length_cons, Nat.mul_add, Nat.mul_one]
    omega
theorem s3t_is {p : S43} {m : Nat} (h : okP m p) (hm : m ≤ 2000000) {K : Nat} (hK : 2000 ≤ K) : spec_l03Text.f K p.f0 p.f1 p.f2 p.f3 p.f4 p.f5 = some (PT p) := by
  have hn := i64_of (pipeOk_in h.1)
  have hL := LT_size _ hn
  have h2 := h.2
  simp only [List.length_cons, List.length_nil] at hL
  unfold spec_l03Text.f
  rw [if_pos (by omega), slist_is (by simp) hn (by omega), Option.bind_some, if_pos (by simp only [ByteArray.size_append, lit_size1]; omega)]; rfl
theorem i3t_is {p : S43} {m : Nat} (h : okP m p) (hm : m ≤ 2000000) {K : Nat} (hK : 2000 ≤ K) : impl_PipeText.f K p.f0 p.f1 p.f2 p.f3 p.f4 p.f5 = some (PT p) := by
  have hi := pipeOk_in h.1
  have hn := i64_of hi
  have hL := LT_size _ hn
  have h2 := h.2
  simp only [List.length_cons, List.length_nil] at hL
  unfold impl_PipeText.f impl_ValidPipe_.f impl_withId.f
  have hLV : LV [p.f1, p.f2, p.f3, p.f4, p.f5] = LT [p.f1, p.f2, p.f3, p.f4, p.f5] := by unfold LV; rw [if_pos ⟨hi, by simp⟩]
  rw [if_pos (by omega), Option.bind_some, if_pos h.1, if_pos (by omega), ilt_is (by simp) (by omega), Option.bind_some, hLV, if_pos (by simp only [ByteArray.size_append, lit_size1]; omega)]; rfl
theorem rdP_lt {l : List S43} {i : Nat} (h : i < l.length) : rd_T43 l (i : Int) = l[i] := by
  unfold rd_T43; rw [Int.toNat_natCast, List.getD_eq_getElem?_getD, List.getElem?_eq_getElem h, Option.getD_some]
theorem stext_l0 (ns : List Int) (ps : List S43) (m : Nat) (hm : m ≤ 2000000) (hl : ps.length ≤ 1000) (hp : ∀ p ∈ ps, okP m p) : ∀ (d K i : Nat) (out : ByteArray), i + d = ps.length → d + 2001 ≤ K → out.size + (m + 201) * d ≤ 9000000000000000000 → spec_l04Text.l0 K out (i : Int) ns ps = some (out ++ tailN (ps.drop i))
  | d, 0, i, out, hi, hK, ho => by omega
  | 0, K + 1, i, out, hi, hK, ho => by
    simp only [spec_l04Text.l0]
    rw [if_neg (by omega), List.drop_eq_nil_of_le (by omega), show tailN [] = ⟨#[]⟩ from rfl, ba_app_empty]
  | d + 1, K + 1, i, out, hi, hK, ho => by
    have hi' : i < ps.length := by omega
    have w1 : wrap64 ((i : Int) + 1) = ((i + 1 : Nat) : Int) := by rw [w64 (by omega) (by omega)]; omega
    have hq := hp ps[i] (List.getElem_mem hi')
    have hs := PT_size hq
    have ho' : out.size + ((m + 201) * d + (m + 201)) ≤ 9000000000000000000 := by rw [← Nat.mul_succ]; exact ho
    simp only [spec_l04Text.l0]
    rw [if_pos (by omega), if_pos (by omega), rdP_lt hi', s3t_is hq hm (by omega), Option.bind_some, if_pos (by omega), if_pos (by simp only [ByteArray.size_append, lit_size1]; omega), w1,
      stext_l0 ns ps m hm hl hp d K (i + 1) _ (by omega) (by omega) (by simp only [ByteArray.size_append, lit_size1]; omega), List.drop_eq_getElem_cons hi']
    simp only [tailN, ByteArray.append_assoc]
theorem stext_is {ns : List Int} {ps : List S43} {m : Nat} (hm : m ≤ 2000000) (hn : ns.length ≤ 1000) (hr : ∀ x ∈ ns, inR x) (hl : ps.length ≤ 1000) (hp : ∀ p ∈ ps, okP m p) {K : Nat} (hK : 4000 ≤ K) : spec_l04Text.f K ns ps = some (NT ns ps) := by
  have hLT := LT_size ns (i64_of hr)
  have hb : (m + 201) * ps.length ≤ 2000201 * 1000 := Nat.mul_le_mul (by omega) hl
  have := stext_l0 ns ps m hm hl hp ps.length K 0 (LT ns) (by omega) (by omega) (by omega)
  rw [show ((0 : Nat) : Int) = (0 : Int) from rfl, List.drop_zero] at this
  unfold spec_l04Text.f
  rw [slist_is (by omega) (i64_of hr) (by omega), Option.bind_some, this]; rfl
theorem itext_l0 (ps : List S43) (m : Nat) (hm : m ≤ 2000000) (hl : ps.length ≤ 1000) (hp : ∀ p ∈ ps, okP m p) : ∀ (d K i : Nat) (out : List ByteArray), i + d = ps.length → out.length = i + 1 → d + 2001 ≤ K → impl_NetworkText.l0 K out ps (ps.length : Int) (i : Int) = strings_Join.f (out ++ (ps.drop i).map PT) (⟨#[47]⟩ : ByteArray)
  | d, 0, i, out, hi, ho, hK => by omega
  | 0, K + 1, i, out, hi, ho, hK => by
    simp only [impl_NetworkText.l0]
    rw [if_neg (by omega), List.drop_eq_nil_of_le (by omega), List.map_nil, List.append_nil]
    cases strings_Join.f out ⟨#[47]⟩ <;> rfl
  | d + 1, K + 1, i, out, hi, ho, hK => by
    have hi' : i < ps.length := by omega
    have w1 : wrap64 ((i : Int) + 1) = ((i + 1 : Nat) : Int) := by rw [w64 (by omega) (by omega)]; omega
    have hq := hp ps[i] (List.getElem_mem hi')
    simp only [impl_NetworkText.l0]
    rw [if_pos (by omega), if_pos (by omega), if_pos (by omega), rdP_lt hi', i3t_is hq hm (by omega), Option.bind_some, if_pos (by omega), w1,
      itext_l0 ps m hm hl hp d K (i + 1) _ (by omega) (by rw [List.length_append, List.length_singleton]; omega) (by omega), List.drop_eq_getElem_cons hi', List.append_assoc]
    rfl
theorem tailN_data : ∀ ps : List S43, (tailN ps).data.toList = Lib.joinTail [47] (ps.map fun p => (PT p).data.toList)
  | [] => rfl
  | p :: l => by
    have ih := tailN_data l
    simp only [tailN, Lib.joinTail, List.map_cons, List.flatten_cons] at ih ⊢
    rw [← ih]
    simp
theorem NT_data (ns : List Int) (ps : List S43) : (NT ns ps).data.toList = Lib.join ((LT ns :: ps.map PT).map fun s : ByteArray => s.data.toList) [47] := by
  rw [List.map_cons, Lib.join_cons, List.map_map, show ((fun s : ByteArray => s.data.toList) ∘ PT) = fun p => (PT p).data.toList from rfl, ← tailN_data]
  simp [NT]
theorem NT_size {ns : List Int} {ps : List S43} {m : Nat} (hm : m ≤ 2000000) (hn : ns.length ≤ 1000) (hr : ∀ x ∈ ns, inR x) (hl : ps.length ≤ 1000) (hp : ∀ p ∈ ps, okP m p) : (NT ns ps).size ≤ 2000300000 := by
  have hLT := LT_size ns (i64_of hr)
  have hb : (m + 201) * ps.length ≤ 2000201 * 1000 := Nat.mul_le_mul (by omega) hl
  have ht := tailN_size ps hp
  unfold NT
  simp only [ByteArray.size_append]
  omega
theorem join_NT {ns : List Int} {ps : List S43} {m : Nat} (hm : m ≤ 2000000) (hn : ns.length ≤ 1000) (hr : ∀ x ∈ ns, inR x) (hl : ps.length ≤ 1000) (hp : ∀ p ∈ ps, okP m p) : strings_Join.f (LT ns :: ps.map PT) (⟨#[47]⟩ : ByteArray) = some (NT ns ps) := by
  have hsz := NT_size hm hn hr hl hp
  have hd := NT_data ns ps
  have hlen : (Lib.join ((LT ns :: ps.map PT).map fun s : ByteArray => s.data.toList) [47]).length = (NT ns ps).size := by rw [← hd, Array.length_toList]; rfl
  unfold strings_Join.f
  rw [show (⟨#[47]⟩ : ByteArray).data.toList = [47] from rfl, if_pos ⟨by rw [List.length_cons, List.length_map]; omega, by omega⟩, ← hd]
theorem itext_is {ns : List Int} {ps : List S43} {m : Nat} (hm : m ≤ 2000000) (hn : ns.length ≤ 64) (hr : ∀ x ∈ ns, inR x) (hl : ps.length ≤ 1000) (hp : ∀ p ∈ ps, okP m p) {K : Nat} (hK : 4000 ≤ K) : (impl_ListText.f K ns).bind (fun t => impl_NetworkText.l0 K [t] ps (ps.length : Int) 0) = some (NT ns ps) := by
  have hLV : LV ns = LT ns := by unfold LV; rw [if_pos ⟨hr, hn⟩]
  have := itext_l0 ps m hm hl hp ps.length K 0 [LT ns] (by omega) rfl (by omega)
  rw [show ((0 : Nat) : Int) = (0 : Int) from rfl, List.drop_zero] at this
  rw [ilt_is (by omega) (by omega), Option.bind_some, hLV, this, List.singleton_append, join_NT hm (by omega) hr hl hp]
/-- What a network's text is. -/
def NV (ns : List Int) (ps : List S43) : ByteArray := if netOk ns ps = true then NT ns ps else ⟨#[]⟩
theorem netOk_in {ns : List Int} {ps : List S43} {m : Nat} (h : netOk ns ps = true) (hs : ∀ p ∈ ps, p.f0.size ≤ m) : ns.length ≤ 16 ∧ ps.length ≤ 20 ∧ (∀ x ∈ ns, inR x) ∧ ∀ p ∈ ps, okP m p := by
  have hp := netOk_parts h
  refine ⟨hp.1.2, hp.2.1, fun x hx => ?_, fun p hq => ?_⟩
  · have hz := hp.2.2.2
    unfold nodesOk at hz
    have := of_decide_eq_true (List.all_eq_true.1 hz x hx)
    unfold inR; omega
  · obtain ⟨j, hj, rfl⟩ := List.getElem_of_mem hq
    have hk := (netOk_pipe h j hj).1
    rw [List.getD_eq_getElem?_getD, List.getElem?_eq_getElem hj, Option.getD_some] at hk
    exact ⟨hk, hs _ hq⟩
theorem snt_is {ns : List Int} {ps : List S43} {m : Nat} (hm : m ≤ 2000000) (hn : ns.length ≤ 4611686018427387904) (hs : ∀ p ∈ ps, p.f0.size ≤ m) {K : Nat} (hK : 4000 ≤ K) : spec_NetworkText.f K ns ps = some (NV ns ps) := by
  unfold spec_NetworkText.f spec_l04Ok_.f NV
  rw [if_pos ⟨hn, fun p hp => by have := hs p hp; omega⟩, Option.bind_some]
  by_cases c : netOk ns ps = true
  · obtain ⟨h1, h2, h3, h4⟩ := netOk_in c hs
    rw [if_pos c, if_pos c, stext_is hm (by omega) h3 (by omega) h4 hK]; rfl
  · rw [if_neg c, if_neg c]
theorem int_is {ns : List Int} {ps : List S43} {m : Nat} (hm : m ≤ 2000000) (hn : ns.length ≤ 4611686018427387904) (hs : ∀ p ∈ ps, p.f0.size ≤ m) {K : Nat} (hK : 4000 ≤ K) : impl_NetworkText.f K ns ps = some (NV ns ps) := by
  unfold impl_NetworkText.f impl_ValidNetwork_.f NV
  rw [if_pos ⟨hn, fun p hp => by have := hs p hp; omega⟩, Option.bind_some]
  by_cases c : netOk ns ps = true
  · obtain ⟨h1, h2, h3, h4⟩ := netOk_in c hs
    rw [if_pos c, if_pos c]
    exact itext_is hm (by omega) h3 (by omega) h4 hK
  · rw [if_neg c, if_neg c]
theorem FnExactNetworkText : ∀ (l0_0 : List (Int)) (l0_1 : List (S40)), (l0_0.length ≤ 9223372036854775807) → (∀ p ∈ l0_0, (Lit.int .i64 p).wf = true) → (l0_1.length ≤ 9223372036854775807) → (∀ p ∈ l0_1, p.f0.size ≤ 9223372036854775807 ∧ (Lit.int .i64 p.f1).wf = true ∧ (Lit.int .i64 p.f2).wf = true ∧ (Lit.int .i64 p.f3).wf = true ∧ (Lit.int .i64 p.f4).wf = true ∧ (Lit.int .i64 p.f5).wf = true) → ∃ k, laws_FnExactNetworkText.f k l0_0 l0_1 = some true := by
  intro ns qs hn hw hq hx
  have hxs : ∀ p ∈ qs, p.f0.size ≤ 9223372036854775807 := fun p hp => (hx p hp).1
  have hz := sizeP_nonneg qs
  refine ⟨5000, ?_⟩
  unfold laws_FnExactNetworkText.f
  rw [szNet_is ns qs 1048576 hn hq hxs (by omega) (by omega)]
  simp only [Option.bind_some]
  by_cases n1 : roomOf 1048576 ((ns.length : Int) + ((qs.length : Int) + sizeP qs)) < 0
  · rw [if_pos n1]
  rw [if_neg n1]
  have b1 := roomOf_ok n1
  have tn : laws_toNetwork.f ns qs = some (ns, qs.map cvP) := toNet_is (by omega) (by omega)
  have en : laws_eqNetwork.f ns (qs.map cvP) ns (qs.map cvP) = some true := eqNet_refl (by omega) (by simp; omega)
  have hc := cv_size (qs := qs) (m := 1048576) (by omega)
  generalize qs.map cvP = ps at *
  have sv : ∀ K, 4000 ≤ K → spec_NetworkText.f K ns ps = some (NV ns ps) := fun K hK => snt_is (by omega) (by omega) hc hK
  have iv : ∀ K, 4000 ≤ K → impl_NetworkText.f K ns ps = some (NV ns ps) := fun K hK => int_is (by omega) (by omega) hc hK
  generalize hk : (4998 : Nat) = k
  have : (5000 : Nat) = k + 2 := by omega
  rw [this]
  simp only [laws_FnExactNetworkText.j0, laws_FnExactNetworkText.j1]
  rw [tn, Option.bind_some]
  simp only []
  rw [sv _ (by omega), Option.bind_some, Option.bind_some]
  simp only []
  rw [iv _ (by omega), Option.bind_some, if_pos rfl, Option.bind_some]
  simp only []
  rw [en, Option.bind_some, if_pos rfl]

end Go.Proofs.YtabgkdejpkpejaaDoor.Pure
