/- For every string the program's ReadNetwork answers as the reference's ReadNetwork does, and hands out memory of its own. No condition. -/
import Derived.Test.YtabgkdejpkpejaaGreatDoorPFnExactReadNetworkx15
import Derived.Test.YtabgkdejpkpejaaGreatDoorMath
import Derived.Test.YtabgkdejpkpejaaGreatDoorMathR
namespace Go.Proofs.YtabgkdejpkpejaaGreatDoor.Pure
open Go.RowKit Go.Proofs.YtabgkdejpkpejaaGreatDoor.PFnExactReadNetwork Go.Proofs.YtabgkdejpkpejaaGreatDoorW.PrintWords Go.Proofs.YtabgkdejpkpejaaGreatDoorW.PrintLast Go.Proofs.YtabgkdejpkpejaaGreatDoorW.PrintMore Go.Proofs.YtabgkdejpkpejaaGreatDoorM
set_option linter.unusedSimpArgs false
set_option linter.unusedVariables false
theorem markNet_is {ns : List Int} {ps : List S36} (hn : ns.length ≤ 1048576) (hq : ps.length ≤ 1048576) : laws_markNetwork.f ns ps 1 = some (1 + (ns.length : Int) + 6 * (ps.length : Int), marks 1 ns.length, marksP (1 + (ns.length : Int)) ps.length) := by
  unfold laws_markNetwork.f laws_markInt64S_.f laws_markPipeS_.f
  rw [if_pos ⟨by omega, by omega⟩]
  simp only [Option.bind_some]
  rw [if_pos ⟨by omega, by omega⟩]; rfl
theorem markI_is {l : List Int} (h : l.length ≤ 1048576) : laws_markInt64S_.f l 1 = some (1 + (l.length : Int), marks 1 l.length) := by
  unfold laws_markInt64S_.f; rw [if_pos ⟨by omega, by omega⟩]
theorem heldI_is {n : Nat} (h : n ≤ 1048576) : laws_heldInt64S_.f (marks 1 n) 1 = some (1 + (n : Int)) := by
  unfold laws_heldInt64S_.f; rw [if_pos ⟨by omega, by rw [marks_length]; omega⟩, held_marks]
theorem eqI_refl {l : List Int} (h : l.length ≤ 1048576) : laws_eqInt64S_.f l l = some true := by
  unfold laws_eqInt64S_.f; rw [if_pos (by omega)]; simp
/-- The decimal digits of a number, the last ahead; none of 0. -/
def digs : Nat → Nat → List Int
  | 0, _ => []
  | f + 1, u => if u = 0 then [] else (48 + ((u % 10 : Nat) : Int)) :: digs f (u / 10)
theorem digs_zero (f : Nat) : digs f 0 = [] := by cases f <;> simp [digs]
theorem digs_length : ∀ (f u : Nat), (digs f u).length ≤ f
  | 0, u => by simp [digs]
  | f + 1, u => by
    simp only [digs]
    split
    · simp
    · have := digs_length f (u / 10); simp only [List.length_cons]; omega
theorem digs_dec : ∀ (f u : Nat), 0 < u → u < 10 ^ f → (digs f u).reverse.map (fun n => UInt8.ofNat n.toNat) = Lib.decDigits u
  | 0, u, h0, h1 => by simp at h1; omega
  | f + 1, u, h0, h1 => by
    rw [Nat.pow_succ] at h1
    simp only [digs]
    rw [if_neg (by omega), List.reverse_cons, List.map_append]
    have e : (48 + ((u % 10 : Nat) : Int)).toNat = 48 + u % 10 := by omega
    simp only [List.map_cons, List.map_nil, e]
    by_cases c : u < 10
    · rw [show u / 10 = 0 by omega, digs_zero, Lib.decDigits_one c, show u % 10 = u by omega]; rfl
    · rw [digs_dec f (u / 10) (by omega) (by omega)]
      conv => rhs; rw [Lib.decDigits, dif_neg c]
/-- A numeral as a string. -/
def DT (n : Int) : ByteArray := ⟨(Lib.itoa n).toArray⟩
theorem DT_size {n : Int} (h0 : -9223372036854775808 ≤ n) (h1 : n ≤ 9223372036854775807) : (DT n).size ≤ 20 ∧ 0 < (DT n).size := by
  have hl : (DT n).size = (Lib.itoa n).length := by simp [DT, ByteArray.size]
  have key : ∀ u : Nat, u ≤ 9223372036854775808 → (Lib.decDigits u).length ≤ 19 ∧ 0 < (Lib.decDigits u).length := fun u hu => by
    have hp := Lib.nDigits_pos u
    rw [Lib.decDigits_length]
    refine ⟨?_, by omega⟩
    by_cases c : u = 0
    · rw [c, Lib.nDigits_small (by omega)]; omega
    · rw [← Lib.decDigits_length, ← digs_dec 19 u (by omega) (by omega), List.length_map, List.length_reverse]; exact digs_length _ _
  rw [hl]
  unfold Lib.itoa
  split
  · have := key n.natAbs (by omega); simp only [List.length_cons]; omega
  · have := key n.toNat (by omega); omega
theorem idec_DT {a : Int} (h0 : -9223372036854775808 ≤ a) (h1 : a ≤ 9223372036854775807) : impl_Decimal.f a = some (DT a) := by
  unfold impl_Decimal.f strconv_FormatInt.f
  rw [if_pos ⟨rfl, h0, h1⟩]
  rfl
/-- What the numbers behind the first add. -/
def tailT : List Int → ByteArray
  | [] => ⟨#[]⟩
  | x :: l => (⟨#[44]⟩ : ByteArray) ++ (DT x ++ tailT l)
def LT : List Int → ByteArray
  | [] => ⟨#[45]⟩
  | x :: l => DT x ++ tailT l
theorem lit_size1 (b : UInt8) : (⟨#[b]⟩ : ByteArray).size = 1 := rfl
theorem lit_size0 : (⟨#[]⟩ : ByteArray).size = 0 := rfl
theorem ba_empty_app (x : ByteArray) : (⟨#[]⟩ : ByteArray) ++ x = x := by apply ByteArray.ext; simp
theorem ba_app_empty (x : ByteArray) : x ++ (⟨#[]⟩ : ByteArray) = x := by apply ByteArray.ext; simp
def i64 (x : Int) : Prop := -9223372036854775808 ≤ x ∧ x ≤ 9223372036854775807
def inR (x : Int) : Prop := -1000000000000 ≤ x ∧ x ≤ 1000000000000
instance (x : Int) : Decidable (inR x) := by unfold inR; infer_instance
theorem tailT_size : ∀ l : List Int, (∀ x ∈ l, i64 x) → (tailT l).size ≤ 21 * l.length
  | [], _ => by rw [show tailT [] = ⟨#[]⟩ from rfl, lit_size0]; omega
  | x :: l, h => by
    have h1 := tailT_size l fun y hy => h y (List.mem_cons_of_mem _ hy)
    have hx := h x List.mem_cons_self
    have h2 := DT_size hx.1 hx.2
    simp only [tailT, ByteArray.size_append, lit_size1, List.length_cons]
    omega
theorem LT_size (l : List Int) (h : ∀ x ∈ l, i64 x) : (LT l).size ≤ 21 * l.length + 1 := by
  cases l with
  | nil => exact Nat.le_refl 1
  | cons x l =>
    have h1 := tailT_size l fun y hy => h y (List.mem_cons_of_mem _ hy)
    have hx := h x List.mem_cons_self
    have h2 := DT_size hx.1 hx.2
    simp only [LT, ByteArray.size_append, List.length_cons]
    omega
theorem DT_data (x : Int) : (DT x).data.toList = Lib.itoa x := rfl
theorem tailT_data : ∀ l : List Int, (tailT l).data.toList = Lib.joinTail [44] (l.map Lib.itoa)
  | [] => rfl
  | x :: l => by
    have ih := tailT_data l
    simp only [tailT, Lib.joinTail, List.map_cons, List.flatten_cons] at ih ⊢
    rw [← ih]
    simp [DT_data]
theorem LT_data (x : Int) (l : List Int) : (LT (x :: l)).data.toList = Lib.join ((x :: l).map Lib.itoa) [44] := by
  rw [List.map_cons, Lib.join_cons, ← tailT_data]
  simp [LT, DT_data]
theorem rd_lt {l : List Int} {i : Nat} (h : i < l.length) : rd l (i : Int) = l[i] := by
  unfold rd; rw [Int.toNat_natCast, List.getD_eq_getElem?_getD, List.getElem?_eq_getElem h, Option.getD_some]
/-- A list as text. -/
def LV (l : List Int) : ByteArray := if (∀ x ∈ l, inR x) ∧ l.length ≤ 64 then LT l else ⟨#[]⟩
theorem i64_of {l : List Int} (h : ∀ x ∈ l, inR x) : ∀ x ∈ l, i64 x := fun x hx => by have := h x hx; unfold inR at this; unfold i64; omega
theorem join_LT (x : Int) (l : List Int) (hl : (x :: l).length ≤ 1000) (h : ∀ y ∈ x :: l, i64 y) : strings_Join.f ((x :: l).map DT) (⟨#[44]⟩ : ByteArray) = some (LT (x :: l)) := by
  have hm : ((x :: l).map DT).map (fun s : ByteArray => s.data.toList) = (x :: l).map Lib.itoa := by rw [List.map_map]; rfl
  have hsz := LT_size (x :: l) h
  have hlen : (Lib.join ((x :: l).map Lib.itoa) [44]).length = (LT (x :: l)).size := by rw [← LT_data, Array.length_toList]; rfl
  unfold strings_Join.f
  rw [hm, show (⟨#[44]⟩ : ByteArray).data.toList = [44] from rfl, if_pos ⟨by rw [List.length_map]; omega, by omega⟩, ← LT_data]
theorem ilist_l0 (l : List Int) (hl : l.length ≤ 64) : ∀ (d K i : Nat) (out : List ByteArray), i + d = l.length → out.length = i → d + 1 ≤ K → impl_ListText.l0 K out l (l.length : Int) (i : Int) = if ∀ x ∈ l.drop i, inR x then strings_Join.f (out ++ (l.drop i).map DT) (⟨#[44]⟩ : ByteArray) else some ⟨#[]⟩
  | d, 0, i, out, hi, ho, hK => by omega
  | 0, K + 1, i, out, hi, ho, hK => by
    simp only [impl_ListText.l0]
    rw [if_neg (by omega), List.drop_eq_nil_of_le (by omega), if_pos (fun x hx => by simp at hx), List.map_nil, List.append_nil]
    cases strings_Join.f out ⟨#[44]⟩ <;> rfl
  | d + 1, K + 1, i, out, hi, ho, hK => by
    have hi' : i < l.length := by omega
    have w1 : wrap64 ((i : Int) + 1) = ((i + 1 : Nat) : Int) := by rw [w64 (by omega) (by omega)]; omega
    simp only [impl_ListText.l0, impl_within_.f]
    rw [if_pos (by omega), if_pos (by omega), if_pos (by omega), Option.bind_some, rd_lt hi', w1, List.drop_eq_getElem_cons hi']
    by_cases c : -1000000000000 ≤ l[i] ∧ l[i] ≤ 1000000000000
    · rw [if_pos (decide_eq_true c), idec_DT (by omega) (by omega), Option.bind_some, if_pos (by omega), ilist_l0 l hl d K (i + 1) _ (by omega) (by rw [List.length_append, List.length_singleton]; omega) (by omega)]
      by_cases c2 : ∀ x ∈ l.drop (i + 1), inR x
      · rw [if_pos c2, if_pos (by intro x hx; rcases List.mem_cons.1 hx with rfl | hx; exact c; exact c2 x hx), List.append_assoc]; rfl
      · rw [if_neg c2, if_neg (fun h => c2 fun x hx => h x (List.mem_cons_of_mem _ hx))]
    · rw [if_neg (by simpa using c), if_neg (fun h => c (h l[i] List.mem_cons_self))]
theorem ilt_is {l : List Int} (hl : l.length ≤ 2000000) {K : Nat} (hK : 100 ≤ K) : impl_ListText.f K l = some (LV l) := by
  unfold impl_ListText.f LV
  by_cases c : (l.length : Int) > 64
  · rw [if_pos c, if_neg (fun h => by omega)]
  · rw [if_neg c]
    cases l with
    | nil => rw [if_pos (by simp), if_pos ⟨fun x hx => by simp at hx, by simp⟩]; rfl
    | cons x l =>
      have h0 := ilist_l0 (x :: l) (by omega) (x :: l).length K 0 [] (by omega) rfl (by omega)
      rw [show ((0 : Nat) : Int) = (0 : Int) from rfl, List.drop_zero, List.nil_append] at h0
      rw [if_neg (by rw [List.length_cons]; omega), if_pos (by omega), if_pos (by omega), List.replicate_zero, h0]
      by_cases c2 : ∀ y ∈ x :: l, inR y
      · rw [if_pos c2, if_pos ⟨c2, by omega⟩, join_LT x l (by omega) (i64_of c2)]
      · rw [if_neg c2, if_neg (fun h => c2 h.1)]
theorem decFrom_append : ∀ (x y : List UInt8) (a : Nat), Lib.decFrom a (x ++ y) = (Lib.decFrom a x).bind fun n => Lib.decFrom n y
  | [], y, a => rfl
  | b :: x, y, a => by
    simp only [List.cons_append, Lib.decFrom]
    cases Lib.digitVal b with
    | none => rfl
    | some d => exact decFrom_append x y _
theorem ofNat_digit {c : UInt8} {d : Nat} (h : Lib.digitVal c = some d) : c = UInt8.ofNat (48 + d) ∧ d < 10 := by
  obtain ⟨h1, h2, h3⟩ := Lib.digitVal_eq h
  refine ⟨?_, by omega⟩
  apply UInt8.toNat_inj.1
  rw [UInt8.toNat_ofNat', Nat.mod_eq_of_lt (by omega)]
  omega
theorem dec_lead : ∀ (n : Nat) (b : List UInt8) (m : Nat), b.length = n + 1 → Lib.decFrom 0 b = some m → b.head? ≠ some 48 → Lib.decDigits m = b ∧ 1 ≤ m
  | n, b, m, hl, h, hh => by
    rcases List.eq_nil_or_concat b with rfl | ⟨b', c, rfl⟩
    · simp at hl
    · rw [List.concat_eq_append] at hl h hh ⊢
      rw [decFrom_append] at h
      cases hb : Lib.decFrom 0 b' with
      | none => rw [hb] at h; simp at h
      | some m' =>
        rw [hb, Option.bind_some] at h
        simp only [Lib.decFrom] at h
        cases hd : Lib.digitVal c with
        | none => rw [hd] at h; simp at h
        | some d =>
          rw [hd] at h
          obtain rfl := Option.some.inj h
          obtain ⟨hc, hd10⟩ := ofNat_digit hd
          cases n with
          | zero =>
            have : b' = [] := by
              rw [List.length_append, List.length_singleton] at hl
              exact List.length_eq_zero_iff.1 (by omega)
            subst this
            obtain rfl := Option.some.inj hb
            have hd0 : d ≠ 0 := fun e => by subst e; subst hc; exact hh rfl
            rw [Nat.zero_mul, Nat.zero_add, Lib.decDigits_one hd10, hc]
            exact ⟨rfl, by omega⟩
          | succ n =>
            have hl' : b'.length = n + 1 := by rw [List.length_append, List.length_singleton] at hl; omega
            have hh' : b'.head? ≠ some 48 := by
              cases b' with
              | nil => simp at hl'
              | cons x t => simpa using hh
            obtain ⟨e, h1⟩ := dec_lead n b' m' hl' hb hh'
            refine ⟨?_, by omega⟩
            rw [Lib.decDigits, dif_neg (by omega), show (m' * 10 + d) / 10 = m' by omega, show (m' * 10 + d) % 10 = d by omega, e, hc]
theorem dec_digits : ∀ (m : Nat) (c : UInt8), c ∈ Lib.decDigits m → 48 ≤ c.toNat ∧ c.toNat ≤ 57
  | m, c, h => by
    have dg : ∀ d : Nat, d < 10 → 48 ≤ (UInt8.ofNat (48 + d)).toNat ∧ (UInt8.ofNat (48 + d)).toNat ≤ 57 := fun d hd => by
      rw [UInt8.toNat_ofNat', Nat.mod_eq_of_lt (by omega)]; omega
    by_cases g : m < 10
    · rw [Lib.decDigits_one g, List.mem_singleton] at h
      subst h; exact dg m g
    · rw [Lib.decDigits, dif_neg g, List.mem_append, List.mem_singleton] at h
      rcases h with h | h
      · exact dec_digits (m / 10) c h
      · subst h; exact dg _ (by omega)
termination_by m => m
decreasing_by omega
theorem dec_ne_nil (m : Nat) : Lib.decDigits m ≠ [] := fun h => by
  have := Lib.nDigits_pos m
  rw [← Lib.decDigits_length, h] at this
  simp at this
theorem dec_head : ∀ (m : Nat), (Lib.decDigits m).head? = some 48 → m = 0
  | m, h => by
    by_cases g : m < 10
    · rw [Lib.decDigits_one g] at h
      have e : UInt8.ofNat (48 + m) = 48 := Option.some.inj h
      have := congrArg UInt8.toNat e
      rw [UInt8.toNat_ofNat', Nat.mod_eq_of_lt (by omega)] at this
      have e48 : (48 : UInt8).toNat = 48 := rfl
      omega
    · rw [Lib.decDigits, dif_neg g] at h
      cases hd : Lib.decDigits (m / 10) with
      | nil => exact absurd hd (dec_ne_nil _)
      | cons x t =>
        have := dec_head (m / 10) (by rw [hd]; rw [hd] at h; simpa using h)
        omega
termination_by m => m
decreasing_by omega
/-- A row of digits is the numeral of its number, if it has no needless zero ahead. -/
theorem dec_canon {b : List UInt8} {m : Nat} (hb : b ≠ []) (h : Lib.decFrom 0 b = some m) : Lib.decDigits m = b ↔ ¬ (b.head? = some 48 ∧ 1 < b.length) := by
  have hl : b.length = (b.length - 1) + 1 := by have := List.length_pos_iff.2 hb; omega
  by_cases hh : b.head? = some 48
  · constructor
    · rintro e ⟨_, h1⟩
      have hm : m = 0 := dec_head m (by rw [e]; exact hh)
      subst hm
      rw [Lib.decDigits_one (by omega)] at e
      rw [← e] at h1
      simp at h1
    · intro hn
      have h1 : b.length = 1 := by have : ¬ 1 < b.length := fun g => hn ⟨hh, g⟩; omega
      obtain ⟨c, rfl⟩ := List.length_eq_one_iff.1 h1
      obtain rfl : c = 48 := by simpa using hh
      have : m = 0 := by
        have e : Lib.decFrom 0 [(48 : UInt8)] = some 0 := by decide
        rw [e] at h; exact (Option.some.inj h).symm
      subst this
      rw [Lib.decDigits_one (by omega)]; rfl
  · exact ⟨fun _ g => hh g.1, fun _ => (dec_lead _ b m hl h hh).1⟩
/-- What a numeral tells: a minus ahead, the digits behind. -/
def numP (neg : Bool) (b : List UInt8) : Int × Bool :=
  if b = [] ∨ 18 < b.length ∨ (b.head? = some 48 ∧ (neg = true ∨ 1 < b.length)) then (0, false) else match Lib.decFrom 0 b with
    | none => (0, false)
    | some m => (if neg = true then -(m : Int) else (m : Int), true)
def numV : List UInt8 → Int × Bool
  | [] => (0, false)
  | c :: r => if c = 45 then numP true r else numP false (c :: r)
theorem numP_not {neg : Bool} {b : List UInt8} (h : b = [] ∨ 18 < b.length ∨ (b.head? = some 48 ∧ (neg = true ∨ 1 < b.length))) : numP neg b = (0, false) := by unfold numP; rw [if_pos h]
theorem numP_none {neg : Bool} {b : List UInt8} (h : Lib.decFrom 0 b = none) : numP neg b = (0, false) := by unfold numP; rw [h]; split <;> rfl
theorem bt_cons {s : ByteArray} {i : Nat} (h : i < s.size) : s.data.toList.drop i = s[i] :: s.data.toList.drop (i + 1) ∧ bt s (i : Int) = (s[i].toNat : Int) := by
  refine ⟨?_, ?_⟩
  · rw [List.drop_eq_getElem_cons (by rw [Array.length_toList]; exact h)]; rfl
  · exact (bt_at s i (by rw [Int.toNat_natCast]; exact h)).symm
theorem sdigit_is (c : UInt8) : spec_l01Digit.f (c.toNat : Int) = some (decide (48 ≤ c.toNat ∧ c.toNat ≤ 57)) := by
  unfold spec_l01Digit.f
  by_cases h : 48 ≤ c.toNat
  · rw [if_pos (by omega)]; congr 1; apply decide_eq_decide.2; omega
  · rw [if_neg (by omega)]; congr 1; rw [eq_comm, decide_eq_false_iff_not]; omega
theorem snum_l0 (s : ByteArray) (at_ : Int) : ∀ (d K i acc : Nat), i + d = s.size → d ≤ 18 → s.size ≤ 100 → acc < 10 ^ (18 - d) → d + 1 ≤ K →
    spec_l01Number.l0 K s at_ (acc : Int) (i : Int) = some (match Lib.decFrom acc (s.data.toList.drop i) with | none => (0, false) | some m => (if at_ = 1 then -(m : Int) else (m : Int), true))
  | d, 0, i, acc, hi, hd, h1, ha, hK => by omega
  | 0, K + 1, i, acc, hi, hd, h1, ha, hK => by
    have hacc : acc < 1000000000000000000 := by have e : (10 : Nat) ^ (18 - 0) = 1000000000000000000 := by decide
                                                omega
    have hdl : s.data.toList.length = s.size := Array.length_toList
    simp only [spec_l01Number.l0]
    rw [if_neg (by omega), w64 (x := -(acc : Int)) (by omega) (by omega), List.drop_eq_nil_of_le (by omega)]
    simp only [Lib.decFrom]
    split <;> rfl
  | d + 1, K + 1, i, acc, hi, hd, h1, ha, hK => by
    obtain ⟨e1, e2⟩ := bt_cons (s := s) (i := i) (by omega)
    have hp : 10 ^ (18 - (d + 1)) ≤ 10 ^ 17 := Nat.pow_le_pow_right (by decide) (by omega)
    have e17 : (10 : Nat) ^ 17 = 100000000000000000 := by decide
    have hnext : 10 ^ (18 - d) = 10 ^ (18 - (d + 1)) * 10 := by rw [← Nat.pow_succ]; congr 1; omega
    simp only [spec_l01Number.l0]
    rw [if_pos (by omega), if_pos (by omega), e2, sdigit_is, Option.bind_some, e1]
    simp only [Lib.decFrom, Lib.digitVal]
    generalize s[i] = c
    by_cases g : 48 ≤ c.toNat ∧ c.toNat ≤ 57
    · rw [if_pos (decide_eq_true g), if_pos g, w64 (x := 10 * (acc : Int)) (by omega) (by omega), w64 (x := (i : Int) + 1) (by omega) (by omega), w64 (by omega) (by omega)]
      have e : 10 * (acc : Int) + ((c.toNat : Int) - 48) % 256 = ((acc * 10 + (c.toNat - 48) : Nat) : Int) := by omega
      rw [e, show (i : Int) + 1 = ((i + 1 : Nat) : Int) by omega]
      exact snum_l0 s at_ d K (i + 1) (acc * 10 + (c.toNat - 48)) (by omega) (by omega) (by omega) (by omega) (by omega)
    · rw [if_neg (by simpa using g), if_neg g]
theorem snum_j1 {s : ByteArray} {a : Nat} (ha : a = 0 ∨ a = 1) (hs : a ≤ s.size) (hz : s.size ≤ 9000000000000000000) {K : Nat} (hK : 50 ≤ K) : spec_l01Number.j1 K s (a : Int) = some (numP (decide (a = 1)) (s.data.toList.drop a)) := by
  obtain ⟨K, rfl⟩ : ∃ k, K = k + 2 := ⟨K - 2, by omega⟩
  have hl : (s.data.toList.drop a).length = s.size - a := by rw [List.length_drop]; rfl
  have hj : spec_l01Number.j2 (K + 1) s (a : Int) true = some (0, false) := by simp only [spec_l01Number.j2]; rw [if_pos trivial]
  have hj' : spec_l01Number.j2 (K + 1) s (a : Int) false = spec_l01Number.l0 K s (a : Int) 0 (a : Int) := by simp only [spec_l01Number.j2]; rw [if_neg (by simp)]
  simp only [spec_l01Number.j1]
  rw [hj, w64 (x := (s.size : Int) - (a : Int)) (by omega) (by omega)]
  by_cases c1 : (s.size : Int) = (a : Int)
  · rw [if_pos c1, numP_not (.inl (List.length_eq_zero_iff.1 (by omega)))]
  · rw [if_neg c1]
    by_cases c2 : (s.size : Int) - (a : Int) > 18
    · rw [if_pos c2, numP_not (.inr (.inl (by omega)))]
    · obtain ⟨e1, e2⟩ := bt_cons (s := s) (i := a) (by omega)
      have e48 : (48 : UInt8).toNat = 48 := rfl
      have h48 : bt s (a : Int) = 48 ↔ (s.data.toList.drop a).head? = some 48 := by
        rw [e2, e1]
        simp only [List.head?_cons, Option.some.injEq]
        constructor
        · intro h; apply UInt8.toNat_inj.1; omega
        · intro h; rw [h]; rfl
      have hl0 := snum_l0 s (a : Int) (s.size - a) K a 0 (by omega) (by omega) (by omega) (Nat.pos_of_ne_zero (by simp)) (by omega)
      rw [show ((0 : Nat) : Int) = (0 : Int) from rfl] at hl0
      have hne : s.data.toList.drop a ≠ [] := fun h => by rw [h] at hl; simp at hl; omega
      have hif : ∀ m : Nat, (if (a : Int) = 1 then -(m : Int) else (m : Int)) = (if decide (a = 1) = true then -(m : Int) else (m : Int)) := fun m => by
        rcases ha with rfl | rfl <;> simp
      rw [if_neg c2, if_pos (by omega), if_pos (by omega)]
      by_cases c3 : bt s (a : Int) = 48
      · rw [if_pos c3]
        by_cases c4 : (s.size : Int) > 1
        · rw [decide_eq_true c4, hj, numP_not (.inr (.inr ⟨h48.1 c3, by rcases ha with rfl | rfl <;> simp; omega⟩))]
        · rw [decide_eq_false c4, hj', hl0]
          unfold numP
          rw [if_neg (by rintro (h | h | ⟨_, h | h⟩) <;> first | exact hne h | (rcases ha with rfl | rfl <;> simp at h <;> omega) | omega)]
          simp only [hif]
      · rw [if_neg c3, hj', hl0]
        unfold numP
        rw [if_neg (by rintro (h | h | ⟨h, _⟩) <;> first | exact hne h | exact c3 (h48.2 h) | omega)]
        simp only [hif]
theorem snum_is {s : ByteArray} (hz : s.size ≤ 9000000000000000000) {K : Nat} (hK : 60 ≤ K) : spec_l01Number.f K s = some (numV s.data.toList) := by
  obtain ⟨K, rfl⟩ : ∃ k, K = k + 1 := ⟨K - 1, by omega⟩
  unfold spec_l01Number.f
  have hl : s.data.toList.length = s.size := Array.length_toList
  have h0 := snum_j1 (s := s) (a := 0) (.inl rfl) (by omega) hz (K := K) (by omega)
  rw [show ((0 : Nat) : Int) = (0 : Int) from rfl, List.drop_zero] at h0
  by_cases c : (s.size : Int) > 0
  · obtain ⟨e1, e2⟩ := bt_cons (s := s) (i := 0) (by omega)
    rw [List.drop_zero] at e1
    have h1 := snum_j1 (s := s) (a := 1) (.inr rfl) (by omega) hz (K := K) (by omega)
    rw [show ((1 : Nat) : Int) = (1 : Int) from rfl] at h1
    rw [if_pos c, if_pos (by omega)]
    simp only [spec_l01Number.j0]
    rw [show ((0 : Nat) : Int) = (0 : Int) from rfl] at e2
    have e45 : (45 : UInt8).toNat = 45 := rfl
    have hc : (bt s 0 == 45) = decide (s[0] = (45 : UInt8)) := by
      rw [e2]
      by_cases g : s[0] = (45 : UInt8)
      · rw [g]; simp
      · rw [decide_eq_false g, beq_eq_false_iff_ne]
        intro h; apply g; apply UInt8.toNat_inj.1; omega
    rw [hc]
    by_cases g : s[0] = (45 : UInt8)
    · rw [decide_eq_true g, if_pos rfl, h1, e1]
      simp only [numV]
      rw [if_pos g]
      rfl
    · rw [decide_eq_false g, if_neg (by simp), h0, e1]
      simp only [numV]
      rw [if_neg g]
      rfl
  · have hn : s.data.toList = [] := List.length_eq_zero_iff.1 (by omega)
    rw [if_neg c]
    simp only [spec_l01Number.j0]
    rw [if_neg (by simp), h0, hn]
    rfl
/-- What ParseInt's answer is worth. -/
def pv : Lib.NumEnd Int → Option Int
  | .ok v => some v
  | _ => none
theorem pv_of (o : Option Int) : pv (Lib.NumEnd.ofOption o) = o := by cases o <;> rfl
theorem parsed_is (s : ByteArray) : parsed s = pv (Lib.atoiAll s.data.toList) := by
  unfold parsed
  rw [Lib.parseIntB_64]
  split <;> rename_i h
  · rw [h]; rfl
  · cases he : Lib.atoiAll s.data.toList with
    | ok v => exact absurd he (h v)
    | _ => rfl
theorem trim_minus (r : List UInt8) : Lib.trimPrefix (45 :: r) [45] = r := by simp [Lib.trimPrefix, Lib.hasPrefix]
theorem trim_none {l : List UInt8} (h : l.head? ≠ some 45) : Lib.trimPrefix l [45] = l := by
  unfold Lib.trimPrefix
  rw [if_neg]
  cases l with
  | nil => simp [Lib.hasPrefix]
  | cons c r =>
    have : c ≠ 45 := by simpa using h
    simp [Lib.hasPrefix, List.isPrefixOf, Ne.symm this]
theorem itoa_nat (m : Nat) : Lib.itoa (m : Int) = Lib.decDigits m := by unfold Lib.itoa; rw [if_neg (by omega), Int.toNat_natCast]
theorem decNat_cons (c : UInt8) (r : List UInt8) : Lib.decNat (c :: r) = Lib.decFrom 0 (c :: r) := rfl
/-- What impl.ReadDecimal makes of it. -/
def readV (o : Option Int) (t l : List UInt8) : Int × Bool := match o with
  | none => (0, false)
  | some v => if 18 < t.length then (0, false) else if Lib.itoa v = l then (v, true) else (0, false)
theorem readV_long {o : Option Int} {t l : List UInt8} (h : 18 < t.length) : readV o t l = (0, false) := by
  unfold readV; cases o with
  | none => rfl
  | some v => simp only []; rw [if_pos h]
theorem readV_is (l : List UInt8) : readV (pv (Lib.atoiAll l)) (Lib.trimPrefix l [45]) l = numV l := by
  cases l with
  | nil => rfl
  | cons c r =>
    simp only [numV]
    by_cases c45 : c = 45
    · subst c45
      rw [if_pos rfl, trim_minus]
      by_cases h18 : 18 < r.length
      · rw [readV_long h18, numP_not (.inr (.inl h18))]
      · rw [Lib.atoiAll_minus, Lib.signed_short (by omega), pv_of]
        cases r with
        | nil => rfl
        | cons x t =>
          rw [decNat_cons]
          cases hd : Lib.decFrom 0 (x :: t) with
          | none => rw [numP_none hd]; rfl
          | some m =>
            have canon := dec_canon (by simp) hd
            show (if 18 < (x :: t).length then _ else if Lib.itoa (-(m : Int)) = 45 :: x :: t then (-(m : Int), true) else (0, false)) = _
            rw [if_neg h18]
            by_cases hm : m = 0
            · have hx : (x :: t).head? = some 48 := by
                refine Classical.byContradiction fun hh => ?_
                have := (dec_lead t.length (x :: t) m (by simp) hd hh).2
                omega
              rw [numP_not (.inr (.inr ⟨hx, .inl rfl⟩)), hm, if_neg]
              show ¬ Lib.itoa 0 = _
              rw [show (0 : Int) = ((0 : Nat) : Int) from rfl, itoa_nat, Lib.decDigits_one (by omega)]
              simp
            · have hi : Lib.itoa (-(m : Int)) = 45 :: Lib.decDigits m := by unfold Lib.itoa; rw [if_pos (by omega)]; simp
              rw [hi]
              have heq : (45 :: Lib.decDigits m = 45 :: x :: t) ↔ Lib.decDigits m = x :: t := by simp
              by_cases hx : (x :: t).head? = some 48
              · rw [numP_not (.inr (.inr ⟨hx, .inl rfl⟩)), if_neg]
                intro e
                exact hm (dec_head m (by rw [heq.1 e]; exact hx))
              · rw [if_pos (heq.2 (canon.2 fun g => hx g.1))]
                unfold numP
                have hn : ¬ (x :: t = [] ∨ 18 < (x :: t).length ∨ ((x :: t).head? = some 48 ∧ (true = true ∨ 1 < (x :: t).length))) := by
                  rintro (h | h | ⟨h, _⟩)
                  · exact absurd h (by simp)
                  · exact h18 h
                  · exact hx h
                rw [if_neg hn, hd]
                rfl
    · rw [if_neg c45, trim_none (by simpa using c45)]
      by_cases h18 : 18 < (c :: r).length
      · rw [readV_long h18, numP_not (.inr (.inl h18))]
      · by_cases c43 : c = 43
        · subst c43
          rw [numP_none (b := 43 :: r) rfl, Lib.atoiAll_plus]
          cases he : Lib.signless (Lib.parseMag r) with
          | ok v =>
            show (if _ then _ else if Lib.itoa v = 43 :: r then (v, true) else (0, false)) = _
            rw [if_neg h18, if_neg]
            intro e
            have hv : 0 ≤ v := by
              cases hp : Lib.parseMag r with
              | ok u =>
                rw [hp] at he
                simp only [Lib.signless] at he
                split at he
                · cases he
                · cases he; omega
              | _ => rw [hp] at he; cases he
            rw [show v = (v.toNat : Int) by omega, itoa_nat] at e
            have := dec_digits v.toNat 43 (by rw [e]; exact List.mem_cons_self)
            have e43 : (43 : UInt8).toNat = 43 := rfl
            omega
          | _ => rfl
        · have t45 : c.toNat ≠ 45 := fun h => c45 (UInt8.toNat_inj.1 h)
          have t43 : c.toNat ≠ 43 := fun h => c43 (UInt8.toNat_inj.1 h)
          rw [Lib.atoiAll_plain c r t43 t45, Lib.signless_short (by omega), pv_of, decNat_cons]
          cases hd : Lib.decFrom 0 (c :: r) with
          | none => rw [numP_none hd]; rfl
          | some m =>
            have canon := dec_canon (by simp) hd
            show (if 18 < (c :: r).length then _ else if Lib.itoa (m : Int) = c :: r then ((m : Int), true) else (0, false)) = _
            rw [if_neg h18, itoa_nat]
            by_cases hx : (c :: r).head? = some 48 ∧ 1 < (c :: r).length
            · rw [numP_not (.inr (.inr ⟨hx.1, .inr hx.2⟩)), if_neg (fun e => canon.1 e hx)]
            · rw [if_pos (canon.2 hx)]
              unfold numP
              have hn : ¬ (c :: r = [] ∨ 18 < (c :: r).length ∨ ((c :: r).head? = some 48 ∧ (false = true ∨ 1 < (c :: r).length))) := by
                rintro (h | h | ⟨h, g | g⟩)
                · exact absurd h (by simp)
                · exact h18 h
                · exact absurd g (by simp)
                · exact hx ⟨h, g⟩
              rw [if_neg hn, hd]
              rfl
theorem iread_is {s : ByteArray} (hs : s.size ≤ 281474976710656) : impl_ReadDecimal.f s = some (numV s.data.toList) := by
  unfold impl_ReadDecimal.f
  rw [if_pos hs, ← readV_is, parsed_is]
  rfl
/-- A string of its bytes. -/
def BA (l : List UInt8) : ByteArray := ⟨l.toArray⟩
theorem BA_data (s : ByteArray) : BA s.data.toList = s := by obtain ⟨⟨l⟩⟩ := s; rfl
theorem extract_BA (s : ByteArray) (a b : Nat) : s.extract a b = BA ((s.data.toList.drop a).take (b - a)) := by rw [← Lib.extract_data, BA_data]
theorem bt_drop {s : ByteArray} {i : Nat} (h : i < s.size) : ∃ b : UInt8, s.data.toList.drop i = b :: s.data.toList.drop (i + 1) ∧ bt s (i : Int) = (b.toNat : Int) ∧ s.data.toList[i]? = some b := by
  have hl : i < s.data.toList.length := by rw [Array.length_toList]; exact h
  refine ⟨s[i], ?_, (bt_at s i (by rw [Int.toNat_natCast]; exact h)).symm, ?_⟩
  · rw [List.drop_eq_getElem_cons hl]; rfl
  · rw [List.getElem?_eq_getElem hl]; rfl
theorem rdOf_is {xs : List ByteArray} {i : Nat} (h : i < xs.length) : rdOf ByteArray.empty xs (i : Int) = xs[i] := by
  unfold rdOf; rw [Int.toNat_natCast, List.getD_eq_getElem?_getD, List.getElem?_eq_getElem h, Option.getD_some]
/-- A row of bytes, divided at each c. -/
def spl (c : UInt8) : List UInt8 → List (List UInt8)
  | [] => [[]]
  | b :: l => if b = c then [] :: spl c l else match spl c l with
    | [] => [[b]]
    | h :: t => (b :: h) :: t
theorem spl_ne (c : UInt8) : ∀ l, ∃ h t, spl c l = h :: t
  | [] => ⟨_, _, rfl⟩
  | b :: l => by
    simp only [spl]
    split
    · exact ⟨_, _, rfl⟩
    · split <;> exact ⟨_, _, rfl⟩
theorem spl_length (c : UInt8) : ∀ l, (spl c l).length ≤ l.length + 1
  | [] => by simp [spl]
  | b :: l => by
    have ih := spl_length c l
    simp only [spl]
    split
    · simp only [List.length_cons]; omega
    · obtain ⟨h, t, e⟩ := spl_ne c l
      rw [e] at ih ⊢
      simp only [List.length_cons] at ih ⊢; omega
theorem splitK_spl (c : UInt8) : ∀ l : List UInt8, Lib.splitK [c] 0 (Lib.count l [c]) l = spl c l
  | [] => by rw [Lib.count_miss (by simp [Lib.index])]; rfl
  | b :: l => by
    have ih := splitK_spl c l
    by_cases h : b = c
    · subst h
      have hi : Lib.index (b :: l) [b] = 0 := by rw [Lib.index]; simp [List.isPrefixOf]
      rw [Lib.count_cons_eq, Nat.add_comm]
      simp only [Lib.splitK, spl]
      rw [hi, if_neg (by decide), if_pos trivial]
      show [] :: Lib.splitK [b] 0 _ l = _
      rw [ih]
    · have hp : ([c] : List UInt8).isPrefixOf (b :: l) = false := by simp [List.isPrefixOf, Ne.symm h]
      have hi : Lib.index (b :: l) [c] = if Lib.index l [c] == -1 then -1 else Lib.index l [c] + 1 := by rw [Lib.index, hp]; simp
      rw [Lib.count_cons_ne b c l h]
      simp only [spl]
      rw [if_neg h, ← ih]
      cases hk : Lib.count l [c] with
      | zero => rfl
      | succ k =>
        simp only [Lib.splitK]
        rw [hi]
        by_cases g : Lib.index l [c] = -1
        · rw [g]; rfl
        · have hge := Lib.index_ge l [c]
          obtain ⟨j, hj⟩ : ∃ j : Nat, Lib.index l [c] = j := ⟨(Lib.index l [c]).toNat, by omega⟩
          have n1 : ¬ ((Lib.index l [c] == -1) = true) := fun e => g (beq_iff_eq.1 e)
          have n2 : ¬ (((Lib.index l [c] + 1 : Int) == -1) = true) := fun e => by have := beq_iff_eq.1 e; omega
          rw [if_neg n1, if_neg n1, if_neg n2, hj, show ((j : Int) + 1).toNat = j + 1 by omega, Int.toNat_natCast]
          rfl
theorem splitB_spl (a : ByteArray) (c : UInt8) : Lib.splitB ⟨#[c]⟩ 0 (Lib.countB a ⟨#[c]⟩) a = (spl c a.data.toList).map BA := by
  have h := Lib.splitB_data ⟨#[c]⟩ 0 (Lib.countB a ⟨#[c]⟩) a
  have e : Lib.countB a ⟨#[c]⟩ = Lib.count a.data.toList [c] := rfl
  rw [show (⟨#[c]⟩ : ByteArray).data.toList = [c] from rfl, e, splitK_spl, ← e] at h
  rw [← h, List.map_map]
  have : (BA ∘ fun x : ByteArray => x.data.toList) = id := by funext x; exact BA_data x
  rw [this, List.map_id]
def glue (p : List UInt8) : List (List UInt8) → List ByteArray
  | [] => []
  | h :: t => BA (p ++ h) :: t.map BA
theorem glue_nil (c : UInt8) (l : List UInt8) : glue [] (spl c l) = (spl c l).map BA := by
  obtain ⟨h, t, e⟩ := spl_ne c l
  rw [e]; rfl
theorem ssplit_l0 (s : ByteArray) (c : UInt8) (hz : s.size ≤ 2000000) : ∀ (d K i from_ : Nat) (out : List ByteArray), i + d = s.size → from_ ≤ i → out.length ≤ i → d + 1 ≤ K →
    spec_l01Split.l0 K s (c.toNat : Int) out (from_ : Int) (i : Int) = some (out ++ glue ((s.data.toList.drop from_).take (i - from_)) (spl c (s.data.toList.drop i)))
  | d, 0, i, from_, out, hi, hf, ho, hK => by omega
  | 0, K + 1, i, from_, out, hi, hf, ho, hK => by
    have hdl : s.data.toList.length = s.size := Array.length_toList
    simp only [spec_l01Split.l0]
    rw [if_neg (by omega), if_pos (by omega), if_pos (by omega), if_pos (by omega), Int.toNat_natCast, extract_BA, List.drop_eq_nil_of_le (i := i) (by omega), show s.size = i by omega]
    simp only [spl, glue, List.append_nil, List.map_nil]
  | d + 1, K + 1, i, from_, out, hi, hf, ho, hK => by
    obtain ⟨b, e1, e2, e3⟩ := bt_drop (s := s) (i := i) (by omega)
    simp only [spec_l01Split.l0]
    rw [if_pos (by omega), if_pos (by omega), e2, e1]
    have w1 : wrap64 ((i : Int) + 1) = ((i + 1 : Nat) : Int) := by rw [w64 (by omega) (by omega)]; omega
    simp only [spl]
    by_cases g : b = c
    · have g' : (b.toNat : Int) = (c.toNat : Int) := by rw [g]
      rw [if_pos g', if_pos g, if_pos (by omega), if_pos (by omega), if_pos (by omega), if_pos (by omega), w1, Int.toNat_natCast, Int.toNat_natCast, extract_BA, ssplit_l0 s c hz d K (i + 1) (i + 1) _ (by omega) (by omega) (by rw [List.length_append, List.length_singleton]; omega) (by omega), Nat.sub_self, List.take_zero, glue_nil]
      simp only [glue, List.append_nil, List.append_assoc, List.singleton_append]
    · have g' : ¬ (b.toNat : Int) = (c.toNat : Int) := fun h => g (UInt8.toNat_inj.1 (by omega))
      rw [if_neg g', if_neg g, w1, ssplit_l0 s c hz d K (i + 1) from_ out (by omega) (by omega) (by omega) (by omega)]
      obtain ⟨h, t, e⟩ := spl_ne c (s.data.toList.drop (i + 1))
      rw [e]
      have hp : (s.data.toList.drop from_).take (i + 1 - from_) = (s.data.toList.drop from_).take (i - from_) ++ [b] := by
        rw [show i + 1 - from_ = (i - from_) + 1 by omega, List.take_add_one, List.getElem?_drop, show from_ + (i - from_) = i by omega, e3]; rfl
      simp only [glue]
      rw [hp, List.append_assoc]
      rfl
theorem ssplit_is {s : ByteArray} {c : UInt8} (hz : s.size ≤ 2000000) {K : Nat} (hK : s.size + 1 ≤ K) : spec_l01Split.f K s (c.toNat : Int) = some ((spl c s.data.toList).map BA) := by
  unfold spec_l01Split.f
  have := ssplit_l0 s c hz s.size K 0 0 [] (by omega) (Nat.le_refl _) (Nat.le_refl _) hK
  rw [show ((0 : Nat) : Int) = (0 : Int) from rfl] at this
  rw [this, List.nil_append, Nat.sub_self, List.take_zero, List.drop_zero, glue_nil]
theorem numV_true {l : List UInt8} {n : Int} (h : numV l = (n, true)) : Lib.itoa n = l ∧ i64 n := by
  rw [← readV_is] at h
  unfold readV at h
  cases ho : pv (Lib.atoiAll l) with
  | none => rw [ho] at h; simp at h
  | some v =>
    rw [ho] at h
    simp only [] at h
    split at h
    · simp at h
    · split at h
      · rename_i hi
        obtain rfl := (Prod.mk.inj h).1
        refine ⟨hi, ?_⟩
        cases he : Lib.atoiAll l with
        | ok u =>
          rw [he] at ho
          obtain rfl := Option.some.inj ho
          rw [← Lib.parseIntB_64] at he
          have := Lib.parseIntB_bounds he
          have e : (2 : Nat) ^ (64 - 1) = 9223372036854775808 := by decide
          rw [e] at this
          unfold i64
          omega
        | _ => rw [he] at ho; cases ho
      · simp at h
theorem splitK_ge (c : UInt8) : ∀ (l : List UInt8) (k : Nat), Lib.count l [c] ≤ k → Lib.splitK [c] 0 k l = spl c l
  | [], k, hk => by
    cases k with
    | zero => rfl
    | succ k => simp only [Lib.splitK, spl]; rw [if_pos (by simp [Lib.index])]
  | b :: l, k, hk => by
    by_cases h : b = c
    · subst h
      have hi : Lib.index (b :: l) [b] = 0 := by rw [Lib.index]; simp [List.isPrefixOf]
      rw [Lib.count_cons_eq] at hk
      obtain ⟨k, rfl⟩ : ∃ m, k = m + 1 := ⟨k - 1, by omega⟩
      have ih := splitK_ge b l k (by omega)
      simp only [Lib.splitK, spl]
      rw [hi, if_neg (by decide), if_pos trivial]
      show [] :: Lib.splitK [b] 0 _ l = _
      rw [ih]
    · have hp : ([c] : List UInt8).isPrefixOf (b :: l) = false := by simp [List.isPrefixOf, Ne.symm h]
      have hi : Lib.index (b :: l) [c] = if Lib.index l [c] == -1 then -1 else Lib.index l [c] + 1 := by rw [Lib.index, hp]; simp
      rw [Lib.count_cons_ne b c l h] at hk
      have ih := splitK_ge c l k hk
      simp only [spl]
      rw [if_neg h, ← ih]
      cases k with
      | zero => rfl
      | succ k =>
        simp only [Lib.splitK]
        rw [hi]
        by_cases g : Lib.index l [c] = -1
        · rw [g]; rfl
        · have hge := Lib.index_ge l [c]
          obtain ⟨j, hj⟩ : ∃ j : Nat, Lib.index l [c] = j := ⟨(Lib.index l [c]).toNat, by omega⟩
          have n1 : ¬ ((Lib.index l [c] == -1) = true) := fun e => g (beq_iff_eq.1 e)
          have n2 : ¬ (((Lib.index l [c] + 1 : Int) == -1) = true) := fun e => by have := beq_iff_eq.1 e; omega
          rw [if_neg n1, if_neg n1, if_neg n2, hj, show ((j : Int) + 1).toNat = j + 1 by omega, Int.toNat_natCast]
          rfl
theorem splitK_lt (c : UInt8) : ∀ (l : List UInt8) (k : Nat), k ≤ Lib.count l [c] → (Lib.splitK [c] 0 k l).length = k + 1
  | l, 0, hk => rfl
  | [], k + 1, hk => by rw [Lib.count_miss (by simp [Lib.index])] at hk; omega
  | b :: l, k + 1, hk => by
    by_cases h : b = c
    · subst h
      have hi : Lib.index (b :: l) [b] = 0 := by rw [Lib.index]; simp [List.isPrefixOf]
      rw [Lib.count_cons_eq] at hk
      have ih := splitK_lt b l k (by omega)
      simp only [Lib.splitK]
      rw [hi, if_neg (by decide), List.length_cons]
      show (Lib.splitK [b] 0 k l).length + 1 = _
      rw [ih]
    · have hp : ([c] : List UInt8).isPrefixOf (b :: l) = false := by simp [List.isPrefixOf, Ne.symm h]
      have hi : Lib.index (b :: l) [c] = if Lib.index l [c] == -1 then -1 else Lib.index l [c] + 1 := by rw [Lib.index, hp]; simp
      rw [Lib.count_cons_ne b c l h] at hk
      have ih := splitK_lt c l (k + 1) hk
      have g : Lib.index l [c] ≠ -1 := fun e => by rw [Lib.count_miss e] at hk; omega
      have hge := Lib.index_ge l [c]
      obtain ⟨j, hj⟩ : ∃ j : Nat, Lib.index l [c] = j := ⟨(Lib.index l [c]).toNat, by omega⟩
      have n1 : ¬ ((Lib.index l [c] == -1) = true) := fun e => g (beq_iff_eq.1 e)
      have n2 : ¬ (((Lib.index l [c] + 1 : Int) == -1) = true) := fun e => by have := beq_iff_eq.1 e; omega
      simp only [Lib.splitK] at ih ⊢
      rw [if_neg n1, hj, Int.toNat_natCast, List.length_cons] at ih
      rw [hi, if_neg n1, if_neg n2, hj, show ((j : Int) + 1).toNat = j + 1 by omega, List.length_cons]
      exact ih
theorem splitK_part (c : UInt8) : ∀ (k : Nat) (l p : List UInt8), p ∈ Lib.splitK [c] 0 k l → p.length ≤ l.length
  | 0, l, p, h => by simp only [Lib.splitK, List.mem_singleton] at h; rw [h]; exact Nat.le_refl _
  | k + 1, l, p, h => by
    simp only [Lib.splitK] at h
    split at h
    · rw [List.mem_singleton] at h; rw [h]; exact Nat.le_refl _
    · rcases List.mem_cons.1 h with rfl | h
      · rw [List.length_take]; omega
      · have := splitK_part c k _ p h
        rw [List.length_drop] at this
        omega
theorem spl_count (c : UInt8) (l : List UInt8) : (spl c l).length = Lib.count l [c] + 1 := by
  rw [← splitK_ge c l _ (Nat.le_refl _), splitK_lt c l _ (Nat.le_refl _)]
theorem join_spl (c : UInt8) : ∀ l : List UInt8, Lib.join (spl c l) [c] = l
  | [] => by simp only [spl]; exact Lib.join_one _ _
  | b :: l => by
    have ih := join_spl c l
    obtain ⟨h, t, e⟩ := spl_ne c l
    rw [e, Lib.join_cons] at ih
    simp only [spl]
    by_cases g : b = c
    · rw [if_pos g, e, Lib.join_cons, g]
      simp only [Lib.joinTail, List.map_cons, List.flatten_cons, List.nil_append] at ih ⊢
      rw [List.append_assoc, ih]; rfl
    · rw [if_neg g, e, Lib.join_cons, List.cons_append, ih]
/-- The numbers of a row of numerals, if all are such. -/
def nums : List ByteArray → Option (List Int)
  | [] => some []
  | p :: r => if (numV p.data.toList).2 = true then (nums r).map ((numV p.data.toList).1 :: ·) else none
theorem nums_some : ∀ {ps : List ByteArray} {ns : List Int}, nums ps = some ns → ns.map Lib.itoa = ps.map (·.data.toList) ∧ (∀ x ∈ ns, i64 x) ∧ ns.length = ps.length
  | [], ns, h => by obtain rfl := Option.some.inj h; exact ⟨rfl, fun x hx => by simp at hx, rfl⟩
  | p :: r, ns, h => by
    simp only [nums] at h
    split at h
    · rename_i c
      cases hr : nums r with
      | none => rw [hr] at h; simp at h
      | some ms =>
        rw [hr] at h
        obtain rfl := Option.some.inj h
        obtain ⟨h1, h2, h3⟩ := nums_some hr
        obtain ⟨g1, g2⟩ := numV_true (l := p.data.toList) (n := (numV p.data.toList).1) (by rw [← c])
        refine ⟨by rw [List.map_cons, List.map_cons, h1, g1], fun x hx => ?_, by rw [List.length_cons, List.length_cons, h3]⟩
        rcases List.mem_cons.1 hx with rfl | hx
        · exact g2
        · exact h2 x hx
    · simp at h
theorem srl_l0 {ps : List ByteArray} (hl : ps.length ≤ 64) (hp : ∀ p ∈ ps, p.size ≤ 2000000) : ∀ (d K i : Nat) (acc : List Int), i + d = ps.length → acc.length ≤ i → d + 100 ≤ K →
    spec_ReadList.l0 K ps acc (i : Int) = some (match nums (ps.drop i) with | none => ([], false) | some ns => if ∀ x ∈ ns, inR x then (acc ++ ns, true) else ([], false))
  | d, 0, i, acc, hi, ha, hK => by omega
  | 0, K + 1, i, acc, hi, ha, hK => by
    simp only [spec_ReadList.l0]
    rw [if_neg (by omega), List.drop_eq_nil_of_le (by omega)]
    simp [nums]
  | d + 1, K + 1, i, acc, hi, ha, hK => by
    have hi' : i < ps.length := by omega
    have w1 : wrap64 ((i : Int) + 1) = ((i + 1 : Nat) : Int) := by rw [w64 (by omega) (by omega)]; omega
    have hz := hp ps[i] (List.getElem_mem hi')
    simp only [spec_ReadList.l0, spec_l00In_.f]
    rw [if_pos (by omega), if_pos (by omega), rdOf_is hi', snum_is (by omega) (by omega), Option.bind_some, w1, List.drop_eq_getElem_cons hi']
    simp only [nums]
    generalize numV ps[i].data.toList = q
    by_cases c1 : q.2 = true
    · rw [if_pos c1, if_pos c1, Option.bind_some]
      by_cases c2 : -1000000000000 ≤ q.1 ∧ q.1 ≤ 1000000000000
      · rw [if_pos (decide_eq_true c2), if_pos (by omega), srl_l0 hl hp d K (i + 1) _ (by omega) (by rw [List.length_append, List.length_singleton]; omega) (by omega)]
        cases nums (ps.drop (i + 1)) with
        | none => rfl
        | some ns =>
          simp only [Option.map_some]
          by_cases c3 : ∀ x ∈ ns, inR x
          · rw [if_pos c3, if_pos (by intro x hx; rcases List.mem_cons.1 hx with rfl | hx; exact c2; exact c3 x hx), List.append_assoc]; rfl
          · rw [if_neg c3, if_neg (fun h => c3 fun x hx => h x (List.mem_cons_of_mem _ hx))]
      · rw [if_neg (by simpa using c2)]
        cases nums (ps.drop (i + 1)) with
        | none => rfl
        | some ns =>
          simp only [Option.map_some]
          rw [if_neg (fun h => c2 (h q.1 List.mem_cons_self))]
    · rw [if_neg c1, if_neg c1]
theorem irl_l0 {s : ByteArray} {ps : List ByteArray} (hl : ps.length ≤ 65) (hp : ∀ p ∈ ps, p.size ≤ 2000000) : ∀ (d K i : Nat) (acc : List Int), i + d = ps.length → acc.length ≤ i → d + 200 ≤ K →
    impl_ReadList.l0 K s acc ps (ps.length : Int) (i : Int) = some (match nums (ps.drop i) with | none => ([], false) | some ns => if (LV (acc ++ ns)).toList = s.toList then (acc ++ ns, true) else ([], false))
  | d, 0, i, acc, hi, ha, hK => by omega
  | 0, K + 1, i, acc, hi, ha, hK => by
    simp only [impl_ReadList.l0]
    rw [if_neg (by omega), ilt_is (by omega) (by omega), Option.bind_some, List.drop_eq_nil_of_le (by omega)]
    simp only [nums, List.append_nil]
    split <;> rfl
  | d + 1, K + 1, i, acc, hi, ha, hK => by
    have hi' : i < ps.length := by omega
    have w1 : wrap64 ((i : Int) + 1) = ((i + 1 : Nat) : Int) := by rw [w64 (by omega) (by omega)]; omega
    have hz := hp ps[i] (List.getElem_mem hi')
    simp only [impl_ReadList.l0]
    rw [if_pos (by omega), if_pos (by omega), if_pos (by omega), rdOf_is hi', iread_is (by omega), Option.bind_some, w1, List.drop_eq_getElem_cons hi']
    simp only [nums]
    generalize numV ps[i].data.toList = q
    by_cases c1 : q.2 = true
    · rw [if_pos c1, if_pos c1, if_pos (by omega), irl_l0 hl hp d K (i + 1) _ (by omega) (by rw [List.length_append, List.length_singleton]; omega) (by omega)]
      cases nums (ps.drop (i + 1)) with
      | none => rfl
      | some ns =>
        simp only [Option.map_some, List.append_assoc, List.singleton_append]
    · rw [if_neg c1, if_neg c1]
/-- What a list's text tells. -/
def RV (s : ByteArray) : List Int × Bool :=
  if s.toList = [45] then ([], true) else if 64 < ((spl 44 s.data.toList).map BA).length then ([], false) else match nums ((spl 44 s.data.toList).map BA) with
    | none => ([], false)
    | some ns => if ∀ x ∈ ns, inR x then (ns, true) else ([], false)
theorem part_size {s : ByteArray} {k : Nat} : ∀ p ∈ (Lib.splitK [44] 0 k s.data.toList).map BA, p.size ≤ s.size := by
  intro p hp
  obtain ⟨q, hq, rfl⟩ := List.mem_map.1 hp
  have := splitK_part 44 k _ q hq
  rw [Array.length_toList] at this
  show q.toArray.size ≤ s.data.size
  simpa using this
theorem srl_is {s : ByteArray} (hz : s.size ≤ 1048576) {K : Nat} (hK : 2000000 ≤ K) : spec_ReadList.f K s = some (RV s) := by
  unfold spec_ReadList.f RV
  by_cases c : s.toList = [45]
  · rw [if_pos c, if_pos c]
  · have h1 := ssplit_is (s := s) (c := 44) (by omega) (K := K) (by omega)
    rw [show ((44 : UInt8).toNat : Int) = 44 from rfl] at h1
    rw [if_neg c, if_neg c, h1, Option.bind_some]
    have hp := part_size (s := s) (k := Lib.count s.data.toList [44])
    rw [splitK_spl] at hp
    generalize (spl 44 s.data.toList).map BA = P at *
    by_cases c2 : 64 < P.length
    · rw [if_pos (by omega), if_pos c2]
    · rw [if_neg (by omega), if_neg c2]
      have := srl_l0 (ps := P) (by omega) (fun p hp' => by have := hp p hp'; omega) P.length K 0 [] (by omega) (Nat.le_refl _) (by omega)
      rw [show ((0 : Nat) : Int) = (0 : Int) from rfl, List.drop_zero] at this
      exact this
theorem BA_inj {l m : List UInt8} (h : BA l = BA m) : l = m := by
  have := congrArg (fun s : ByteArray => s.data.toList) h
  exact this
theorem LV_long {ns : List Int} (h : 64 < ns.length) : LV ns = ⟨#[]⟩ := by unfold LV; rw [if_neg (fun g => by omega)]
theorem splitB_K (s : ByteArray) (k : Nat) : Lib.splitB ⟨#[44]⟩ 0 k s = (Lib.splitK [44] 0 k s.data.toList).map BA := by
  have h := Lib.splitB_data ⟨#[44]⟩ 0 k s
  rw [show (⟨#[44]⟩ : ByteArray).data.toList = [44] from rfl] at h
  rw [← h, List.map_map]
  have : (BA ∘ fun x : ByteArray => x.data.toList) = id := by funext x; exact BA_data x
  rw [this, List.map_id]
theorem irl_is {s : ByteArray} (hz : s.size ≤ 1048576) {K : Nat} (hK : 2000000 ≤ K) : impl_ReadList.f K s = some (RV s) := by
  unfold impl_ReadList.f RV strings_SplitN.f
  by_cases c : s.toList = [45]
  · rw [if_pos c, if_pos c]
  · have hdl : s.data.toList.length = s.size := Array.length_toList
    have hcl : Lib.count s.data.toList [44] ≤ s.size := Lib.countB_le ⟨#[44]⟩ (Nat.le_refl _) s.size s (Nat.le_refl _)
    have hP := spl_count 44 s.data.toList
    have hp := part_size (s := s) (k := min 65 (s.size + 1) - 1)
    have hlen := Lib.splitB_length_le ⟨#[44]⟩ 0 (min 65 (s.size + 1) - 1) s
    rw [if_neg c, if_neg c, if_pos ⟨by omega, Nat.le_refl _, by omega, by omega⟩, Option.bind_some, show (65 : Int).toNat = 65 from rfl]
    rw [splitB_K] at hlen ⊢
    have hI := irl_l0 (s := s) (ps := (Lib.splitK [44] 0 (min 65 (s.size + 1) - 1) s.data.toList).map BA) (by omega) (fun p hp' => by have := hp p hp'; omega) _ K 0 [] (Nat.zero_add _) (Nat.le_refl _) (by omega)
    rw [show ((0 : Nat) : Int) = (0 : Int) from rfl, List.drop_zero] at hI
    rw [hI]
    have he : (⟨#[]⟩ : ByteArray).toList = [] := by rw [ByteArray.toList_eq]
    by_cases c2 : 64 < ((spl 44 s.data.toList).map BA).length
    · rw [if_pos c2]
      rw [List.length_map] at c2
      have hk : min 65 (s.size + 1) - 1 = 64 := by omega
      have hQ : (Lib.splitK [44] 0 (min 65 (s.size + 1) - 1) s.data.toList).length = 65 := by rw [hk]; exact splitK_lt 44 _ 64 (by omega)
      cases hn : nums ((Lib.splitK [44] 0 (min 65 (s.size + 1) - 1) s.data.toList).map BA) with
      | none => rfl
      | some ns =>
        have := (nums_some hn).2.2
        rw [List.length_map, hQ] at this
        simp only [List.nil_append]
        rw [LV_long (by omega), he, if_neg]
        intro e
        rw [ByteArray.toList_eq] at e
        rw [← e] at hdl
        simp at hdl
        omega
    · rw [if_neg c2]
      rw [List.length_map] at c2
      rw [splitK_ge 44 _ _ (by omega)]
      cases hn : nums ((spl 44 s.data.toList).map BA) with
      | none => rfl
      | some ns =>
        obtain ⟨h1, h2, h3⟩ := nums_some hn
        simp only [List.nil_append]
        have hm : ((spl 44 s.data.toList).map BA).map (fun q : ByteArray => q.data.toList) = spl 44 s.data.toList := by
          rw [List.map_map]
          have : ((fun q : ByteArray => q.data.toList) ∘ BA) = id := by funext x; rfl
          rw [this, List.map_id]
        rw [hm] at h1
        rw [List.length_map] at h3
        by_cases c3 : ∀ x ∈ ns, inR x
        · rw [if_pos c3]
          have hLT : LV ns = LT ns := by unfold LV; rw [if_pos ⟨c3, by omega⟩]
          rw [if_pos]
          rw [hLT, ByteArray.toList_eq, ByteArray.toList_eq]
          cases ns with
          | nil => simp at h3; omega
          | cons x l => rw [LT_data, h1, join_spl]
        · rw [if_neg c3, if_neg]
          have : LV ns = ⟨#[]⟩ := by unfold LV; rw [if_neg (fun g => c3 g.1)]
          rw [this, he]
          intro e
          rw [ByteArray.toList_eq] at e
          rw [← e] at hn
          simp [spl, nums, numV, BA] at hn
theorem RV_length (s : ByteArray) : (RV s).1.length ≤ 64 := by
  unfold RV
  split
  · simp
  · split
    · simp
    · split
      · simp
      · rename_i hn
        have := (nums_some hn).2.2
        split
        · show List.length _ ≤ 64; rename_i ns hn0 h64 _ _; rw [this]; omega
        · simp
theorem RV_true {s : ByteArray} {ns : List Int} (h : RV s = (ns, true)) (hne : ns ≠ []) : LT ns = s ∧ (∀ x ∈ ns, inR x) ∧ ns.length ≤ 64 := by
  have hl := RV_length s
  rw [h] at hl
  unfold RV at h
  split at h
  · obtain ⟨rfl, _⟩ := Prod.mk.inj h; exact absurd rfl hne
  · split at h
    · simp at h
    · split at h
      · simp at h
      · rename_i ms hn
        split at h
        · rename_i hr
          obtain ⟨rfl, _⟩ := Prod.mk.inj h
          refine ⟨?_, hr, hl⟩
          obtain ⟨h1, h2, h3⟩ := nums_some hn
          have hm : ((spl 44 s.data.toList).map BA).map (fun q : ByteArray => q.data.toList) = spl 44 s.data.toList := by
            rw [List.map_map]
            have : ((fun q : ByteArray => q.data.toList) ∘ BA) = id := by funext x; rfl
            rw [this, List.map_id]
          rw [hm] at h1
          cases ms with
          | nil => exact absurd rfl hne
          | cons x l =>
            rw [← BA_data (LT (x :: l)), LT_data, h1, join_spl, BA_data]
        · simp at h
theorem RV_empty : RV (BA []) = ([], false) := by
  have e : ¬ (BA []).toList = [45] := by rw [ByteArray.toList_eq]; show ¬ ([] : List UInt8) = [45]; simp
  unfold RV
  rw [if_neg e]
  rfl
theorem itoa_no {c : UInt8} {n : Int} (h : c ∈ Lib.itoa n) : c ≠ 32 := by
  rintro rfl
  have e32 : (32 : UInt8).toNat = 32 := rfl
  unfold Lib.itoa at h
  split at h
  · rcases List.mem_cons.1 h with h | h
    · exact absurd h (by decide)
    · have := dec_digits _ _ h; omega
  · have := dec_digits _ _ h; omega
theorem tailT_no : ∀ (l : List Int) (c : UInt8), c ∈ (tailT l).data.toList → c ≠ 32
  | [], c, h => by rw [show (tailT []).data.toList = [] from rfl] at h; simp at h
  | x :: l, c, h => by
    rw [tailT_data] at h
    have ih := tailT_no l c
    rw [tailT_data] at ih
    simp only [Lib.joinTail, List.map_cons, List.flatten_cons, List.mem_append] at h ih
    rcases h with (h | h) | h
    · rw [List.mem_singleton] at h; rw [h]; decide
    · exact itoa_no h
    · exact ih h
theorem LT_no (l : List Int) (c : UInt8) (h : c ∈ (LT l).data.toList) : c ≠ 32 := by
  cases l with
  | nil => rw [show (LT []).data.toList = [45] from rfl, List.mem_singleton] at h; rw [h]; decide
  | cons x l =>
    have h' : c ∈ (DT x).data.toList ++ (tailT l).data.toList := by
      have e : (LT (x :: l)).data.toList = (DT x).data.toList ++ (tailT l).data.toList := by simp [LT]
      rw [e] at h; exact h
    rcases List.mem_append.1 h' with h | h
    · exact itoa_no h
    · exact tailT_no l c h
theorem spl_none {c : UInt8} : ∀ {l : List UInt8}, (∀ x ∈ l, x ≠ c) → spl c l = [l]
  | [], _ => rfl
  | b :: l, h => by
    have ih := spl_none (l := l) fun x hx => h x (List.mem_cons_of_mem _ hx)
    simp only [spl]
    rw [if_neg (h b List.mem_cons_self), ih]
theorem spl_one {c : UInt8} : ∀ {l p : List UInt8}, spl c l = [p] → p = l
  | [], p, h => by simp only [spl] at h; exact (List.cons.inj h).1.symm
  | b :: l, p, h => by
    simp only [spl] at h
    split at h
    · obtain ⟨x, t, e⟩ := spl_ne c l
      rw [e] at h
      simp at h
    · obtain ⟨x, t, e⟩ := spl_ne c l
      rw [e] at h
      simp only [List.cons.injEq] at h
      have ih := spl_one (l := l) (p := x) (by rw [e, h.2])
      rw [← h.1, ih]
theorem spl_idx {c : UInt8} {l : List UInt8} {i : Nat} (h : Lib.index l [c] = (i : Int)) : spl c l = l.take i :: spl c (l.drop (i + 1)) := by
  have hc := Lib.count_hit (sub := [c]) (by simp) h
  rw [List.length_singleton] at hc
  have h1 := splitK_ge c l (Lib.count (l.drop (i + 1)) [c] + 1) (by omega)
  have h2 := splitK_ge c (l.drop (i + 1)) _ (Nat.le_refl _)
  rw [← h1, ← h2]
  simp only [Lib.splitK]
  have n1 : ¬ ((Lib.index l [c] == -1) = true) := fun e => by have := beq_iff_eq.1 e; omega
  rw [if_neg n1, h, Int.toNat_natCast]
  rfl
abbrev P7 := ByteArray × Int × Int × Int × Int × Int × Bool
def noP : P7 := ((⟨#[]⟩ : ByteArray), 0, 0, 0, 0, 0, false)
/-- What a pipe's text tells. -/
def PV (s : ByteArray) : P7 := match spl 32 s.data.toList with
  | [a, b] => match RV (BA b) with
    | ([n0, n1, n2, n3, n4], true) => if pipeOk (BA a) n0 n1 n2 n3 n4 = true then (BA a, n0, n1, n2, n3, n4, true) else noP
    | _ => noP
  | _ => noP
theorem five {l : List Int} (h : l.length = 5) : ∃ a b c d e, l = [a, b, c, d, e] := by
  rcases l with _ | ⟨a, _ | ⟨b, _ | ⟨c, _ | ⟨d, _ | ⟨e, _ | ⟨f, t⟩⟩⟩⟩⟩⟩ <;> simp at h
  exact ⟨a, b, c, d, e, rfl⟩
theorem two {α : Type} {l : List α} (h : l.length = 2) : ∃ a b, l = [a, b] := by
  rcases l with _ | ⟨a, _ | ⟨b, _ | ⟨c, t⟩⟩⟩ <;> simp at h
  exact ⟨a, b, rfl⟩
theorem PV_not2 {s : ByteArray} (h : (spl 32 s.data.toList).length ≠ 2) : PV s = noP := by
  unfold PV
  split
  · rename_i a b e; rw [e] at h; simp at h
  · rfl
theorem spd_is {s : ByteArray} (hz : s.size ≤ 1048576) {K : Nat} (hK : 2000010 ≤ K) : spec_l03Read.f K s = some (PV s) := by
  have h1 := ssplit_is (s := s) (c := 32) (by omega) (K := K) (by omega)
  rw [show ((32 : UInt8).toNat : Int) = 32 from rfl] at h1
  unfold spec_l03Read.f
  rw [h1, Option.bind_some, List.length_map]
  have hp := part_size (s := s) (k := 0)
  by_cases c : ((spl 32 s.data.toList).length : Int) = 2
  · obtain ⟨a, b, e⟩ := two (l := spl 32 s.data.toList) (by omega)
    have hsz : ∀ p ∈ spl 32 s.data.toList, (BA p).size ≤ s.size := fun p hp => by
      have := splitK_part 32 (Lib.count s.data.toList [32]) s.data.toList p (by rw [splitK_ge 32 _ _ (Nat.le_refl _)]; exact hp)
      rw [Array.length_toList] at this
      show p.toArray.size ≤ s.data.size
      simpa using this
    have ha := hsz a (by rw [e]; simp)
    have hb := hsz b (by rw [e]; simp)
    obtain ⟨K, rfl⟩ : ∃ k, K = k + 1 := ⟨K - 1, by omega⟩
    have hread := srl_is (s := BA b) (by omega) (K := K + 1) (by omega)
    rw [if_pos c, if_pos (by omega)]
    unfold PV
    rw [e]
    simp only [List.map_cons, List.map_nil]
    rw [show rdOf ByteArray.empty [BA a, BA b] 1 = BA b from rfl, hread, Option.bind_some]
    have hno : spec_l03Read.j0 (K + 1) [BA a, BA b] (RV (BA b)).1 true = some noP := by
      simp only [spec_l03Read.j0]; rw [if_pos trivial]; rfl
    rcases hR : RV (BA b) with ⟨ns, ok⟩
    rw [hR] at hno
    cases ok with
    | false =>
      simp only [Bool.false_eq_true, if_false]
      rw [hno]
    | true =>
      simp only [if_true]
      by_cases c5 : ns.length = 5
      · obtain ⟨n0, n1, n2, n3, n4, rfl⟩ := five c5
        rw [show ((([n0, n1, n2, n3, n4] : List Int).length : Int) != 5) = false from rfl]
        simp only [spec_l03Read.j0, spec_l03Ok.f]
        rw [if_neg (by simp), if_pos (by simp), if_pos (by simp), if_pos (by simp), if_pos (by simp), if_pos (by simp), if_pos (by simp)]
        rw [show rdOf ByteArray.empty [BA a, BA b] 0 = BA a from rfl, if_pos (by omega), Option.bind_some]
        show (if pipeOk (BA a) n0 n1 n2 n3 n4 = true then some (BA a, n0, n1, n2, n3, n4, true) else some noP) = _
        split <;> rfl
      · have e5 : ((ns.length : Int) != 5) = true := by rw [bne_iff_ne]; omega
        rw [e5, hno]
        split
        · rename_i g; obtain ⟨rfl, _⟩ := Prod.mk.inj g; exact absurd rfl c5
        · rfl
  · rw [if_neg c, PV_not2 (by omega)]; rfl
theorem ipt_is {a : ByteArray} {n0 n1 n2 n3 n4 : Int} (ha : a.size ≤ 2000000) (hn : ∀ x ∈ [n0, n1, n2, n3, n4], i64 x) {K : Nat} (hK : 100 ≤ K) :
    impl_PipeText.f K a n0 n1 n2 n3 n4 = some (if pipeOk a n0 n1 n2 n3 n4 = true then a ++ (⟨#[32]⟩ : ByteArray) ++ LV [n0, n1, n2, n3, n4] else ⟨#[]⟩) := by
  have hLV : (LV [n0, n1, n2, n3, n4]).size ≤ 200 := by
    unfold LV
    split
    · have := LT_size _ hn; simp only [List.length_cons, List.length_nil] at this; omega
    · exact Nat.zero_le _
  unfold impl_PipeText.f impl_ValidPipe_.f impl_withId.f
  rw [if_pos (by omega), Option.bind_some]
  by_cases c : pipeOk a n0 n1 n2 n3 n4 = true
  · rw [if_pos c, if_pos c, if_pos (by omega), ilt_is (by simp) hK, Option.bind_some, if_pos (by simp only [ByteArray.size_append, lit_size1]; omega)]; rfl
  · rw [if_neg c, if_neg c]
theorem irw_is {s : ByteArray} (hz : s.size ≤ 1048576) {K : Nat} (hK : 2000000 ≤ K) : impl_readWithId.f K s 5 = some (match Lib.cut s.data.toList [32] with | (a, b, _) => if (RV (BA b)).2 = true ∧ (RV (BA b)).1.length = 5 then (BA a, (RV (BA b)).1, true) else (⟨#[]⟩, List.replicate 5 0, false)) := by
  unfold impl_readWithId.f strings_Cut.f
  rw [if_pos (by omega), Option.bind_some, show (⟨#[32]⟩ : ByteArray).data.toList = [32] from rfl]
  have hb : (Lib.cut s.data.toList [32]).2.1.length ≤ s.size := by
    have hl : s.data.toList.length = s.size := Array.length_toList
    unfold Lib.cut
    split
    · show (List.drop _ _).length ≤ _; rw [List.length_drop]; omega
    · show ([] : List UInt8).length ≤ _; simp
  generalize Lib.cut s.data.toList [32] = q at hb ⊢
  obtain ⟨a, b, f⟩ := q
  have hb' : b.length ≤ s.size := hb
  have hB : (BA b).size ≤ 1048576 := by have e : (BA b).size = b.length := by show b.toArray.size = _; simp
                                        omega
  show (impl_ReadList.f K (BA b)).bind _ = some (if (RV (BA b)).2 = true ∧ (RV (BA b)).1.length = 5 then (BA a, (RV (BA b)).1, true) else (⟨#[]⟩, List.replicate 5 0, false))
  rw [irl_is hB hK, Option.bind_some]
  generalize RV (BA b) = R
  by_cases c1 : R.2 = true
  · rw [if_pos c1]
    by_cases c2 : R.1.length = 5
    · rw [if_pos (by omega)]
      simp only []
      rw [if_pos ⟨c1, c2⟩]; rfl
    · rw [if_neg (by omega), if_pos (by omega), if_pos (by decide), if_neg (show ¬ (R.2 = true ∧ R.1.length = 5) from fun h => c2 h.2)]; rfl
  · rw [if_neg c1, if_pos (by omega), if_pos (by decide), if_neg (show ¬ (R.2 = true ∧ R.1.length = 5) from fun h => c1 h.1)]; rfl
theorem ipd_is {s : ByteArray} (hz : s.size ≤ 1048576) {K : Nat} (hK : 2000000 ≤ K) : impl_ReadPipe.f K s = some (PV s) := by
  have hl : s.data.toList.length = s.size := Array.length_toList
  unfold impl_ReadPipe.f
  rw [irw_is hz hK, Option.bind_some]
  have hno : ∀ (f : P7 → Option P7), f noP = f noP := fun _ => rfl
  have fail : ∀ a b fd, Lib.cut s.data.toList [32] = (a, b, fd) → ¬ ((RV (BA b)).2 = true ∧ (RV (BA b)).1.length = 5) → PV s = noP := fun a b fd hc hn => by
    unfold PV
    split
    · rename_i x y e
      have hne : Lib.index s.data.toList [32] ≠ -1 := fun g => by
        have h0 := spl_count 32 s.data.toList
        rw [Lib.count_miss g, e] at h0
        simp at h0
      have hge := Lib.index_ge s.data.toList [32]
      obtain ⟨i, hi⟩ : ∃ i : Nat, Lib.index s.data.toList [32] = i := ⟨(Lib.index s.data.toList [32]).toNat, by omega⟩
      have hs := spl_idx hi
      rw [e] at hs
      obtain ⟨_, hs2⟩ := List.cons.inj hs
      have hy := spl_one hs2.symm
      have hcut : Lib.cut s.data.toList [32] = (s.data.toList.take i, s.data.toList.drop (i + 1), true) := by
        unfold Lib.cut
        rw [hi, if_pos (by omega), Int.toNat_natCast]; rfl
      rw [hcut] at hc
      have hb : b = y := by rw [hy]; exact (congrArg (fun q => q.2.1) hc).symm
      rw [hb] at hn
      split
      · rename_i n0 n1 n2 n3 n4 g
        exact absurd ⟨by rw [g], by rw [g]; rfl⟩ hn
      · rfl
    · rfl
  rcases hc : Lib.cut s.data.toList [32] with ⟨a, b, fd⟩
  simp only []
  by_cases hn : (RV (BA b)).2 = true ∧ (RV (BA b)).1.length = 5
  · rw [if_pos hn]
    rcases hR : RV (BA b) with ⟨ns, ok⟩
    rw [hR] at hn
    obtain ⟨rfl, h5⟩ := hn
    obtain ⟨n0, n1, n2, n3, n4, rfl⟩ := five h5
    obtain ⟨t1, t2, t3⟩ := RV_true hR (by simp)
    have hi64 := i64_of t2
    have hne : Lib.index s.data.toList [32] ≠ -1 := fun g => by
      have hcut : Lib.cut s.data.toList [32] = (s.data.toList, [], false) := by
        unfold Lib.cut; rw [g, if_neg (by omega)]
      rw [hcut] at hc
      have hb : b = [] := (congrArg (fun q => q.2.1) hc).symm
      rw [hb, RV_empty] at hR
      simp at hR
    have hge := Lib.index_ge s.data.toList [32]
    obtain ⟨i, hi⟩ : ∃ i : Nat, Lib.index s.data.toList [32] = i := ⟨(Lib.index s.data.toList [32]).toNat, by omega⟩
    have hcut : Lib.cut s.data.toList [32] = (s.data.toList.take i, s.data.toList.drop (i + 1), true) := by
      unfold Lib.cut
      rw [hi, if_pos (by omega), Int.toNat_natCast]; rfl
    rw [hcut] at hc
    have ha : a = s.data.toList.take i := (congrArg (fun q => q.1) hc).symm
    have hb : b = s.data.toList.drop (i + 1) := (congrArg (fun q => q.2.1) hc).symm
    have hnb : spl 32 b = [b] := spl_none fun x hx => LT_no _ x (by rw [t1]; exact hx)
    have hW : spl 32 s.data.toList = [a, b] := by rw [spl_idx hi, ← ha, ← hb, hnb]
    have hjoin : s.data.toList = a ++ 32 :: b := by
      have := join_spl 32 s.data.toList
      rw [hW, Lib.join_cons] at this
      rw [← this]; simp [Lib.joinTail]
    have hal : (BA a).size ≤ 2000000 := by show a.toArray.size ≤ _; rw [ha]; simp; omega
    have hPT := ipt_is (a := BA a) hal hi64 (K := K) (by omega)
    have hLV : LV [n0, n1, n2, n3, n4] = BA b := by rw [← t1]; unfold LV; rw [if_pos ⟨t2, by simp⟩]
    have hPV : PV s = if pipeOk (BA a) n0 n1 n2 n3 n4 = true then (BA a, n0, n1, n2, n3, n4, true) else noP := by
      unfold PV
      rw [hW]
      simp only []
      rw [hR]
    rw [hPV]
    simp only []
    rw [if_pos (by simp), if_pos (by simp), if_pos (by simp), if_pos (by simp), if_pos (by simp), if_pos trivial]
    show (impl_PipeText.f K (BA a) n0 n1 n2 n3 n4).bind _ = _
    rw [hPT, Option.bind_some, hLV]
    by_cases c : pipeOk (BA a) n0 n1 n2 n3 n4 = true
    · rw [if_pos c, if_pos c, if_pos]
      · rfl
      · rw [ByteArray.toList_eq, ByteArray.toList_eq, hjoin]
        simp [BA]
    · rw [if_neg c, if_neg c, if_neg]
      · rfl
      · rw [ByteArray.toList_eq, ByteArray.toList_eq, hjoin]
        simp
  · rw [if_neg hn, fail a b fd hc hn]
    simp only [List.length_replicate]
    rw [if_pos (by omega), if_pos (by omega), if_pos (by omega), if_pos (by omega), if_pos (by omega), if_neg (by simp)]
    rfl
/-- A pipe as text. -/
def PT (p : S36) : ByteArray := p.f0 ++ (⟨#[32]⟩ : ByteArray) ++ LT [p.f1, p.f2, p.f3, p.f4, p.f5]
/-- What the pipes add. -/
def tailN : List S36 → ByteArray
  | [] => ⟨#[]⟩
  | p :: l => (⟨#[47]⟩ : ByteArray) ++ (PT p ++ tailN l)
/-- A network as text. -/
def NT (ns : List Int) (ps : List S36) : ByteArray := LT ns ++ tailN ps
theorem pipeOk_in {a : ByteArray} {n0 n1 n2 n3 n4 : Int} (h : pipeOk a n0 n1 n2 n3 n4 = true) : ∀ x ∈ [n0, n1, n2, n3, n4], inR x := by
  unfold pipeOk at h
  simp only [Bool.and_eq_true, decide_eq_true_eq] at h
  intro x hx
  simp only [List.mem_cons, List.not_mem_nil, or_false] at hx
  unfold inR
  rcases hx with rfl | rfl | rfl | rfl | rfl <;> omega
/-- A pipe that is valid, with a name that is not too long. -/
def okP (m : Nat) (p : S36) : Prop := pipeOk p.f0 p.f1 p.f2 p.f3 p.f4 p.f5 = true ∧ p.f0.size ≤ m
theorem PT_size {m : Nat} {p : S36} (h : okP m p) : (PT p).size ≤ m + 200 := by
  have hL := LT_size _ (i64_of (pipeOk_in h.1))
  have h2 := h.2
  simp only [List.length_cons, List.length_nil] at hL
  unfold PT
  simp only [ByteArray.size_append, lit_size1]
  omega
theorem tailN_size {m : Nat} : ∀ ps : List S36, (∀ p ∈ ps, okP m p) → (tailN ps).size ≤ (m + 201) * ps.length
  | [], _ => by rw [show tailN [] = ⟨#[]⟩ from rfl, lit_size0]; exact Nat.zero_le _
  | p :: l, h => by
    have h1 := tailN_size l fun y hy => h y (List.mem_cons_of_mem _ hy)
    have h2 := PT_size (h p List.mem_cons_self)
    simp only [tailN, ByteArray.size_append, lit_size1, List.length_cons, Nat.mul_add, Nat.mul_one]
    omega
theorem i3t_is {p : S36} {m : Nat} (h : okP m p) (hm : m ≤ 2000000) {K : Nat} (hK : 2000 ≤ K) : impl_PipeText.f K p.f0 p.f1 p.f2 p.f3 p.f4 p.f5 = some (PT p) := by
  have hi := pipeOk_in h.1
  have hn := i64_of hi
  have hL := LT_size _ hn
  have h2 := h.2
  simp only [List.length_cons, List.length_nil] at hL
  unfold impl_PipeText.f impl_ValidPipe_.f impl_withId.f
  have hLV : LV [p.f1, p.f2, p.f3, p.f4, p.f5] = LT [p.f1, p.f2, p.f3, p.f4, p.f5] := by unfold LV; rw [if_pos ⟨hi, by simp⟩]
  rw [if_pos (by omega), Option.bind_some, if_pos h.1, if_pos (by omega), ilt_is (by simp) (by omega), Option.bind_some, hLV, if_pos (by simp only [ByteArray.size_append, lit_size1]; omega)]; rfl
theorem rdP_lt {l : List S36} {i : Nat} (h : i < l.length) : rd_T36 l (i : Int) = l[i] := by
  unfold rd_T36; rw [Int.toNat_natCast, List.getD_eq_getElem?_getD, List.getElem?_eq_getElem h, Option.getD_some]
theorem itext_l0 (ps : List S36) (m : Nat) (hm : m ≤ 2000000) (hl : ps.length ≤ 1000) (hp : ∀ p ∈ ps, okP m p) : ∀ (d K i : Nat) (out : List ByteArray), i + d = ps.length → out.length = i + 1 → d + 2001 ≤ K → impl_NetworkText.l0 K out ps (ps.length : Int) (i : Int) = strings_Join.f (out ++ (ps.drop i).map PT) (⟨#[47]⟩ : ByteArray)
  | d, 0, i, out, hi, ho, hK => by omega
  | 0, K + 1, i, out, hi, ho, hK => by
    simp only [impl_NetworkText.l0]
    rw [if_neg (by omega), List.drop_eq_nil_of_le (by omega), List.map_nil, List.append_nil]
    cases strings_Join.f out ⟨#[47]⟩ <;> rfl
  | d + 1, K + 1, i, out, hi, ho, hK => by
    have hi' : i < ps.length := by omega
    have w1 : wrap64 ((i : Int) + 1) = ((i + 1 : Nat) : Int) := by rw [w64 (by omega) (by omega)]; omega
    have hq := hp ps[i] (List.getElem_mem hi')
    simp only [impl_NetworkText.l0]
    rw [if_pos (by omega), if_pos (by omega), if_pos (by omega), rdP_lt hi', i3t_is hq hm (by omega), Option.bind_some, if_pos (by omega), w1,
      itext_l0 ps m hm hl hp d K (i + 1) _ (by omega) (by rw [List.length_append, List.length_singleton]; omega) (by omega), List.drop_eq_getElem_cons hi', List.append_assoc]
    rfl
theorem tailN_data : ∀ ps : List S36, (tailN ps).data.toList = Lib.joinTail [47] (ps.map fun p => (PT p).data.toList)
  | [] => rfl
  | p :: l => by
    have ih := tailN_data l
    simp only [tailN, Lib.joinTail, List.map_cons, List.flatten_cons] at ih ⊢
    rw [← ih]
    simp
theorem NT_data (ns : List Int) (ps : List S36) : (NT ns ps).data.toList = Lib.join ((LT ns :: ps.map PT).map fun s : ByteArray => s.data.toList) [47] := by
  rw [List.map_cons, Lib.join_cons, List.map_map, show ((fun s : ByteArray => s.data.toList) ∘ PT) = fun p => (PT p).data.toList from rfl, ← tailN_data]
  simp [NT]
theorem NT_size {ns : List Int} {ps : List S36} {m : Nat} (hm : m ≤ 2000000) (hn : ns.length ≤ 1000) (hr : ∀ x ∈ ns, inR x) (hl : ps.length ≤ 1000) (hp : ∀ p ∈ ps, okP m p) : (NT ns ps).size ≤ 2000300000 := by
  have hLT := LT_size ns (i64_of hr)
  have hb : (m + 201) * ps.length ≤ 2000201 * 1000 := Nat.mul_le_mul (by omega) hl
  have ht := tailN_size ps hp
  unfold NT
  simp only [ByteArray.size_append]
  omega
theorem join_NT {ns : List Int} {ps : List S36} {m : Nat} (hm : m ≤ 2000000) (hn : ns.length ≤ 1000) (hr : ∀ x ∈ ns, inR x) (hl : ps.length ≤ 1000) (hp : ∀ p ∈ ps, okP m p) : strings_Join.f (LT ns :: ps.map PT) (⟨#[47]⟩ : ByteArray) = some (NT ns ps) := by
  have hsz := NT_size hm hn hr hl hp
  have hd := NT_data ns ps
  have hlen : (Lib.join ((LT ns :: ps.map PT).map fun s : ByteArray => s.data.toList) [47]).length = (NT ns ps).size := by rw [← hd, Array.length_toList]; rfl
  unfold strings_Join.f
  rw [show (⟨#[47]⟩ : ByteArray).data.toList = [47] from rfl, if_pos ⟨by rw [List.length_cons, List.length_map]; omega, by omega⟩, ← hd]
theorem itext_is {ns : List Int} {ps : List S36} {m : Nat} (hm : m ≤ 2000000) (hn : ns.length ≤ 64) (hr : ∀ x ∈ ns, inR x) (hl : ps.length ≤ 1000) (hp : ∀ p ∈ ps, okP m p) {K : Nat} (hK : 4000 ≤ K) : (impl_ListText.f K ns).bind (fun t => impl_NetworkText.l0 K [t] ps (ps.length : Int) 0) = some (NT ns ps) := by
  have hLV : LV ns = LT ns := by unfold LV; rw [if_pos ⟨hr, hn⟩]
  have := itext_l0 ps m hm hl hp ps.length K 0 [LT ns] (by omega) rfl (by omega)
  rw [show ((0 : Nat) : Int) = (0 : Int) from rfl, List.drop_zero] at this
  rw [ilt_is (by omega) (by omega), Option.bind_some, hLV, this, List.singleton_append, join_NT hm (by omega) hr hl hp]
/-- What a network's text is. -/
def NV (ns : List Int) (ps : List S36) : ByteArray := if netOk ns ps = true then NT ns ps else ⟨#[]⟩
theorem netOk_in {ns : List Int} {ps : List S36} {m : Nat} (h : netOk ns ps = true) (hs : ∀ p ∈ ps, p.f0.size ≤ m) : ns.length ≤ 16 ∧ ps.length ≤ 20 ∧ (∀ x ∈ ns, inR x) ∧ ∀ p ∈ ps, okP m p := by
  have hp := netOk_parts h
  refine ⟨hp.1.2, hp.2.1, fun x hx => ?_, fun p hq => ?_⟩
  · have hz := hp.2.2.2
    unfold nodesOk at hz
    have := of_decide_eq_true (List.all_eq_true.1 hz x hx)
    unfold inR; omega
  · obtain ⟨j, hj, rfl⟩ := List.getElem_of_mem hq
    have hk := (netOk_pipe h j hj).1
    rw [List.getD_eq_getElem?_getD, List.getElem?_eq_getElem hj, Option.getD_some] at hk
    exact ⟨hk, hs _ hq⟩
theorem int_is {ns : List Int} {ps : List S36} {m : Nat} (hm : m ≤ 2000000) (hn : ns.length ≤ 4611686018427387904) (hs : ∀ p ∈ ps, p.f0.size ≤ m) {K : Nat} (hK : 4000 ≤ K) : impl_NetworkText.f K ns ps = some (NV ns ps) := by
  unfold impl_NetworkText.f impl_ValidNetwork_.f NV
  rw [if_pos ⟨hn, fun p hp => by have := hs p hp; omega⟩, Option.bind_some]
  by_cases c : netOk ns ps = true
  · obtain ⟨h1, h2, h3, h4⟩ := netOk_in c hs
    rw [if_pos c, if_pos c]
    exact itext_is hm (by omega) h3 (by omega) h4 hK
  · rw [if_neg c, if_neg c]
def pOf (r : P7) : S36 := ⟨r.1, r.2.1, r.2.2.1, r.2.2.2.1, r.2.2.2.2.1, r.2.2.2.2.2.1⟩
/-- Pipes, one behind the other; none if one cannot be read. -/
def PVs : List (List UInt8) → Option (List S36)
  | [] => some []
  | w :: ws => if (PV (BA w)).2.2.2.2.2.2 = true then (PVs ws).map (pOf (PV (BA w)) :: ·) else none
abbrev N3 := List Int × List S36 × Bool
def noN : N3 := ([], [], false)
/-- What a network's text tells. -/
def RN (s : ByteArray) : N3 := match spl 47 s.data.toList with
  | [] => noN
  | w :: ws => if (RV (BA w)).2 = true then (match PVs ws with
    | none => noN
    | some ps => if netOk (RV (BA w)).1 ps = true then ((RV (BA w)).1, ps, true) else noN) else noN
theorem BA_size (l : List UInt8) : (BA l).size = l.length := by show l.toArray.size = _; simp
theorem PV_ok {s : ByteArray} (h : (PV s).2.2.2.2.2.2 = true) : PT (pOf (PV s)) = s ∧ (PV s).1.size ≤ s.size ∧ pipeOk (pOf (PV s)).f0 (pOf (PV s)).f1 (pOf (PV s)).f2 (pOf (PV s)).f3 (pOf (PV s)).f4 (pOf (PV s)).f5 = true := by
  unfold PV at h ⊢
  split at h
  · rename_i a b e
    split at h
    · rename_i n0 n1 n2 n3 n4 g
      split at h
      · rename_i hk
        have hj := join_spl 32 s.data.toList
        rw [e, Lib.join_cons] at hj
        have hb := (RV_true g (by simp)).1
        simp only [e, g, if_pos hk]
        have hd : s.data.toList = a ++ 32 :: b := by rw [← hj]; simp [Lib.joinTail]
        have hs : s = BA (a ++ 32 :: b) := by rw [← hd, BA_data]
        refine ⟨?_, ?_, hk⟩
        · show BA a ++ (⟨#[32]⟩ : ByteArray) ++ LT [n0, n1, n2, n3, n4] = s
          rw [hb, hs]
          apply ByteArray.ext
          simp [BA]
        · show (BA a).size ≤ s.size
          rw [hs, BA_size, BA_size, List.length_append, List.length_cons]; omega
      · simp [noP] at h
    · simp [noP] at h
  · simp [noP] at h
theorem PVs_some : ∀ {ws : List (List UInt8)} {ps : List S36} {m : Nat}, (∀ w ∈ ws, w.length ≤ m) → PVs ws = some ps → ps.length = ws.length ∧ (∀ p ∈ ps, okP m p) ∧ (tailN ps).data.toList = Lib.joinTail [47] ws
  | [], ps, m, _, h => by obtain rfl := Option.some.inj h; exact ⟨rfl, fun p hp => by simp at hp, rfl⟩
  | w :: ws, ps, m, hm, h => by
    simp only [PVs] at h
    split at h
    · rename_i c
      cases hr : PVs ws with
      | none => rw [hr] at h; simp at h
      | some qs =>
        rw [hr] at h
        obtain rfl := Option.some.inj h
        obtain ⟨h1, h2, h3⟩ := PVs_some (m := m) (fun x hx => hm x (List.mem_cons_of_mem _ hx)) hr
        obtain ⟨g1, g2, g3⟩ := PV_ok c
        have hl := hm w List.mem_cons_self
        rw [BA_size] at g2
        refine ⟨by rw [List.length_cons, List.length_cons, h1], fun p hp => ?_, ?_⟩
        · rcases List.mem_cons.1 hp with rfl | hp
          · exact ⟨g3, Nat.le_trans g2 hl⟩
          · exact h2 p hp
        · rw [show tailN (pOf (PV (BA w)) :: qs) = (⟨#[47]⟩ : ByteArray) ++ (PT (pOf (PV (BA w))) ++ tailN qs) from rfl, g1]
          simp only [Lib.joinTail, List.map_cons, List.flatten_cons] at h3 ⊢
          rw [← h3]
          simp [BA]
    · simp at h
theorem PV_size (s : ByteArray) : (PV s).1.size ≤ s.size := by
  by_cases h : (PV s).2.2.2.2.2.2 = true
  · exact (PV_ok h).2.1
  · have : PV s = noP := by
      unfold PV at h ⊢
      split
      · rename_i a b e
        rw [e] at h
        simp only [] at h
        split
        · rename_i n0 n1 n2 n3 n4 g
          rw [g] at h
          simp only [] at h
          split
          · rename_i hk; rw [if_pos hk] at h; exact absurd rfl h
          · rfl
        · rfl
      · rfl
    rw [this]; exact Nat.zero_le _
theorem sread_l0 (ns : List Int) (W : List ByteArray) (hl : W.length ≤ 2000000) (hn : ns.length ≤ 4611686018427387904) : ∀ (ws : List (List UInt8)) (K i : Nat) (out : List S36), W.drop i = ws.map BA → i + ws.length = W.length → out.length ≤ i → (∀ p ∈ out, p.f0.size ≤ 1048576) → (∀ w ∈ ws, w.length ≤ 1048576) → ws.length + 2000011 ≤ K →
    spec_l04Read.l0 K W (i : Int) ns out = some (match PVs ws with | none => noN | some ps => if netOk ns (out ++ ps) = true then (ns, out ++ ps, true) else noN)
  | [], 0, i, out, hd, hi, ho, hz, hw, hK => by omega
  | [], K + 1, i, out, hd, hi, ho, hz, hw, hK => by
    simp only [spec_l04Read.l0, spec_l04Ok_.f]
    rw [List.length_nil] at hi
    rw [if_neg (by omega), if_pos ⟨hn, fun p hp => by have := hz p hp; omega⟩, Option.bind_some]
    simp only [PVs, List.append_nil]
    split <;> rfl
  | w :: ws, 0, i, out, hd, hi, ho, hz, hw, hK => by omega
  | w :: ws, K + 1, i, out, hd, hi, ho, hz, hw, hK => by
    rw [List.length_cons] at hi hK
    have hi' : i < W.length := by omega
    have w1 : wrap64 ((i : Int) + 1) = ((i + 1 : Nat) : Int) := by rw [w64 (by omega) (by omega)]; omega
    rw [List.drop_eq_getElem_cons hi', List.map_cons] at hd
    obtain ⟨he, hd'⟩ := List.cons.inj hd
    have hwz := hw w List.mem_cons_self
    have hpz := PV_size (BA w)
    rw [BA_size] at hpz
    simp only [spec_l04Read.l0]
    rw [if_pos (by omega), if_pos (by omega), rdOf_is hi', he, spd_is (by rw [BA_size]; omega) (by omega), Option.bind_some]
    simp only [PVs]
    by_cases c : (PV (BA w)).2.2.2.2.2.2 = true
    · rw [if_pos c, if_pos c, if_pos (by omega), w1]
      have := sread_l0 ns W hl hn ws K (i + 1) (out ++ [pOf (PV (BA w))]) hd' (by omega) (by rw [List.length_append, List.length_singleton]; omega)
        (fun p hp => by
          rcases List.mem_append.1 hp with hp | hp
          · exact hz p hp
          · rw [List.mem_singleton.1 hp]; show (PV (BA w)).1.size ≤ _; omega)
        (fun x hx => hw x (List.mem_cons_of_mem _ hx)) (by omega)
      refine Eq.trans this ?_
      cases PVs ws with
      | none => rfl
      | some ps => simp only [Option.map_some, List.append_assoc, List.singleton_append]
    · rw [if_neg c, if_neg c]; rfl
theorem iread_l0 (s : ByteArray) (ok : Bool) (ns : List Int) (W : List ByteArray) (hl : W.length ≤ 2000000) (hn : ns.length ≤ 4611686018427387904) : ∀ (ws : List (List UInt8)) (K i : Nat) (out : List S36), W.drop i = ws.map BA → i + ws.length = W.length → out.length ≤ i → (∀ p ∈ out, p.f0.size ≤ 1048576) → (∀ w ∈ ws, w.length ≤ 1048576) → ws.length + 2000011 ≤ K →
    impl_ReadNetwork.l0 K s ok W (W.length : Int) (i : Int) ns out = some (match PVs ws with | none => noN | some ps => if ok = true then (if (NV ns (out ++ ps)).toList = s.toList then (ns, out ++ ps, true) else noN) else noN)
  | [], 0, i, out, hd, hi, ho, hz, hw, hK => by omega
  | [], K + 1, i, out, hd, hi, ho, hz, hw, hK => by
    simp only [impl_ReadNetwork.l0]
    rw [List.length_nil] at hi
    rw [if_neg (by omega)]
    simp only [PVs, List.append_nil]
    by_cases c : ok = true
    · rw [if_pos c, if_pos c, int_is (m := 1048576) (by omega) hn hz (by omega), Option.bind_some]
      split <;> rfl
    · rw [if_neg c, if_neg c]; rfl
  | w :: ws, 0, i, out, hd, hi, ho, hz, hw, hK => by omega
  | w :: ws, K + 1, i, out, hd, hi, ho, hz, hw, hK => by
    rw [List.length_cons] at hi hK
    have hi' : i < W.length := by omega
    have w1 : wrap64 ((i : Int) + 1) = ((i + 1 : Nat) : Int) := by rw [w64 (by omega) (by omega)]; omega
    rw [List.drop_eq_getElem_cons hi', List.map_cons] at hd
    obtain ⟨he, hd'⟩ := List.cons.inj hd
    have hwz := hw w List.mem_cons_self
    have hpz := PV_size (BA w)
    rw [BA_size] at hpz
    simp only [impl_ReadNetwork.l0]
    rw [if_pos (by omega), if_pos (by omega), if_pos (by omega), rdOf_is hi', he, ipd_is (by rw [BA_size]; omega) (by omega), Option.bind_some]
    simp only [PVs]
    by_cases c : (PV (BA w)).2.2.2.2.2.2 = true
    · rw [if_pos c, if_pos c, if_pos (by omega), w1]
      have := iread_l0 s ok ns W hl hn ws K (i + 1) (out ++ [pOf (PV (BA w))]) hd' (by omega) (by rw [List.length_append, List.length_singleton]; omega)
        (fun p hp => by
          rcases List.mem_append.1 hp with hp | hp
          · exact hz p hp
          · rw [List.mem_singleton.1 hp]; show (PV (BA w)).1.size ≤ _; omega)
        (fun x hx => hw x (List.mem_cons_of_mem _ hx)) (by omega)
      refine Eq.trans this ?_
      cases PVs ws with
      | none => rfl
      | some ps => simp only [Option.map_some, List.append_assoc, List.singleton_append]
    · rw [if_neg c, if_neg c]; rfl
theorem RV_len {s : ByteArray} (hz : s.size ≤ 1048576) : (RV s).1.length ≤ 64 := RV_length s
theorem spl_part {s : ByteArray} {c : UInt8} {w : List UInt8} (h : w ∈ spl c s.data.toList) : w.length ≤ s.size := by
  have := splitK_part c (Lib.count s.data.toList [c]) s.data.toList w (by rw [splitK_ge c _ _ (Nat.le_refl _)]; exact h)
  rw [Array.length_toList] at this
  exact this
theorem srn_is {s : ByteArray} (hz : s.size ≤ 1048576) {K : Nat} (hK : 3100000 ≤ K) : spec_l04Read.f K s = some (RN s) := by
  have h1 := ssplit_is (s := s) (c := 47) (by omega) (K := K) (by omega)
  rw [show ((47 : UInt8).toNat : Int) = 47 from rfl] at h1
  have hdl : s.data.toList.length = s.size := Array.length_toList
  have hl := spl_length 47 s.data.toList
  unfold spec_l04Read.f RN
  rw [h1, Option.bind_some, List.length_map]
  obtain ⟨w, ws, e⟩ := spl_ne 47 s.data.toList
  have hp : ∀ x ∈ w :: ws, x.length ≤ s.size := fun x hx => spl_part (c := 47) (by rw [e]; exact hx)
  rw [e, List.length_cons] at hl
  rw [e, List.length_cons, List.map_cons, if_pos (by omega), show rdOf ByteArray.empty (BA w :: ws.map BA) 0 = BA w from rfl]
  have hw := hp w List.mem_cons_self
  rw [srl_is (by rw [BA_size]; omega) (by omega), Option.bind_some]
  by_cases c : (RV (BA w)).2 = true
  · have hlen := RV_len (s := BA w) (by rw [BA_size]; omega)
    have := sread_l0 (RV (BA w)).1 (BA w :: ws.map BA) (by rw [List.length_cons, List.length_map]; omega) (by omega) ws K 1 [] rfl (by rw [List.length_cons, List.length_map]; omega) (Nat.zero_le _) (fun p hp => by simp at hp) (fun x hx => by have := hp x (List.mem_cons_of_mem _ hx); omega) (by omega)
    rw [if_pos c]
    simp only [if_pos c]
    exact this
  · rw [if_neg c]
    simp only [if_neg c]
    rfl
theorem splitB_K47 (s : ByteArray) (k : Nat) : Lib.splitB ⟨#[47]⟩ 0 k s = (Lib.splitK [47] 0 k s.data.toList).map BA := by
  have h := Lib.splitB_data ⟨#[47]⟩ 0 k s
  rw [show (⟨#[47]⟩ : ByteArray).data.toList = [47] from rfl] at h
  rw [← h, List.map_map]
  have : (BA ∘ fun x : ByteArray => x.data.toList) = id := by funext x; exact BA_data x
  rw [this, List.map_id]
theorem NV_not {ns : List Int} {ps : List S36} (h : ¬ netOk ns ps = true) : NV ns ps = ⟨#[]⟩ := by unfold NV; rw [if_neg h]
theorem netOk_20 {ns : List Int} {ps : List S36} (h : 20 < ps.length) : ¬ netOk ns ps = true := fun g => by have := (netOk_parts g).2.1; omega
theorem irn_is {s : ByteArray} (hz : s.size ≤ 1048576) {K : Nat} (hK : 3100000 ≤ K) : impl_ReadNetwork.f K s = some (RN s) := by
  have hdl : s.data.toList.length = s.size := Array.length_toList
  have hcl : Lib.count s.data.toList [47] ≤ s.size := Lib.countB_le ⟨#[47]⟩ (Nat.le_refl _) s.size s (Nat.le_refl _)
  have hP := spl_count 47 s.data.toList
  unfold impl_ReadNetwork.f strings_SplitN.f RN
  rw [if_pos ⟨by omega, Nat.le_refl _, by omega, by omega⟩, Option.bind_some, show (22 : Int).toNat = 22 from rfl, splitB_K47]
  have hpart : ∀ x ∈ Lib.splitK [47] 0 (min 22 (s.size + 1) - 1) s.data.toList, x.length ≤ s.size := fun x hx => by have := splitK_part 47 _ _ x hx; omega
  have he : (⟨#[]⟩ : ByteArray).toList = [] := by rw [ByteArray.toList_eq]
  have core : ∀ (w : List UInt8) (ws : List (List UInt8)), Lib.splitK [47] 0 (min 22 (s.size + 1) - 1) s.data.toList = w :: ws → ws.length ≤ 100 →
      ((impl_ReadList.f K (BA w)).bind fun bt => (some (ws.map BA)).bind fun y => impl_ReadNetwork.l0 K s bt.2 y (y.length : Int) 0 bt.1 []) = some (match PVs ws with | none => noN | some ps => if (RV (BA w)).2 = true then (if (NV (RV (BA w)).1 ps).toList = s.toList then ((RV (BA w)).1, ps, true) else noN) else noN) := by
    intro w ws e hws
    have hp : ∀ x ∈ w :: ws, x.length ≤ s.size := fun x hx => hpart x (by rw [e]; exact hx)
    have hw := hp w List.mem_cons_self
    have hlen := RV_len (s := BA w) (by rw [BA_size]; omega)
    rw [irl_is (by rw [BA_size]; omega) (by omega), Option.bind_some, Option.bind_some]
    have := iread_l0 s (RV (BA w)).2 (RV (BA w)).1 (ws.map BA) (by rw [List.length_map]; omega) (by omega) ws K 0 [] (by rw [List.drop_zero]) (by rw [List.length_map]; omega) (Nat.zero_le _) (fun p hp => by simp at hp) (fun x hx => by have := hp x (List.mem_cons_of_mem _ hx); omega) (by omega)
    exact this
  by_cases c2 : 21 < Lib.count s.data.toList [47]
  · have hk : min 22 (s.size + 1) - 1 = 21 := by omega
    have hQ : (Lib.splitK [47] 0 (min 22 (s.size + 1) - 1) s.data.toList).length = 22 := by rw [hk]; exact splitK_lt 47 _ 21 (by omega)
    obtain ⟨w, ws, e⟩ : ∃ w ws, Lib.splitK [47] 0 (min 22 (s.size + 1) - 1) s.data.toList = w :: ws := by
      cases h : Lib.splitK [47] 0 (min 22 (s.size + 1) - 1) s.data.toList with
      | nil => rw [h] at hQ; simp at hQ
      | cons w ws => exact ⟨w, ws, rfl⟩
    have hws : ws.length = 21 := by rw [e, List.length_cons] at hQ; omega
    have hc := core w ws e (by omega)
    have hsub : ∀ x ∈ ws, x.length ≤ 1048576 := fun x hx => by have := hpart x (by rw [e]; exact List.mem_cons_of_mem _ hx); omega
    rw [e, List.length_map, List.length_cons, if_pos (by omega), List.map_cons, show rdOf ByteArray.empty (BA w :: ws.map BA) 0 = BA w from rfl]
    rw [show List.drop 1 (BA w :: ws.map BA) = ws.map BA from rfl]
    simp only [show (1 : Int) ≤ ((ws.length + 1 : Nat) : Int) from by omega, if_true]
    refine hc.trans ?_
    have hfail : (match PVs ws with | none => noN | some ps => if (RV (BA w)).2 = true then (if (NV (RV (BA w)).1 ps).toList = s.toList then ((RV (BA w)).1, ps, true) else noN) else noN) = noN := by
      cases hn : PVs ws with
      | none => rfl
      | some ps =>
        have h3 := (PVs_some hsub hn).1
        simp only []
        rw [NV_not (netOk_20 (by omega)), he]
        split
        · rw [if_neg]
          intro g
          rw [ByteArray.toList_eq] at g
          rw [← g] at hdl
          simp at hdl
          omega
        · rfl
    rw [hfail]
    obtain ⟨v, vs, e'⟩ := spl_ne 47 s.data.toList
    have hvs : 20 < vs.length := by rw [e', List.length_cons] at hP; omega
    have hsub' : ∀ x ∈ vs, x.length ≤ 1048576 := fun x hx => by have := spl_part (s := s) (c := 47) (w := x) (by rw [e']; exact List.mem_cons_of_mem _ hx); omega
    rw [e']
    simp only []
    split
    · cases hn : PVs vs with
      | none => rfl
      | some ps =>
        have h3 := (PVs_some hsub' hn).1
        simp only []
        rw [if_neg (netOk_20 (by omega))]
    · rfl
  · have hge := splitK_ge 47 s.data.toList (min 22 (s.size + 1) - 1) (by omega)
    obtain ⟨w, ws, e⟩ := spl_ne 47 s.data.toList
    have hws : ws.length ≤ 21 := by rw [e, List.length_cons] at hP; omega
    have hc := core w ws (by rw [hge, e]) (by omega)
    have hsub : ∀ x ∈ ws, x.length ≤ 1048576 := fun x hx => by have := spl_part (s := s) (c := 47) (w := x) (by rw [e]; exact List.mem_cons_of_mem _ hx); omega
    rw [hge, e, List.length_map, List.length_cons, if_pos (by omega), List.map_cons, show rdOf ByteArray.empty (BA w :: ws.map BA) 0 = BA w from rfl]
    rw [show List.drop 1 (BA w :: ws.map BA) = ws.map BA from rfl]
    simp only [show (1 : Int) ≤ ((ws.length + 1 : Nat) : Int) from by omega, if_true]
    refine hc.trans ?_
    congr 1
    by_cases ok : (RV (BA w)).2 = true
    · cases hn : PVs ws with
      | none => simp only [if_pos ok]
      | some ps =>
        obtain ⟨h1, h2, h3⟩ := PVs_some hsub hn
        simp only [if_pos ok]
        have hj := join_spl 47 s.data.toList
        rw [e, Lib.join_cons] at hj
        by_cases k : netOk (RV (BA w)).1 ps = true
        · rw [if_pos k, if_pos]
          have hne : (RV (BA w)).1 ≠ [] := fun g => by have := (netOk_parts k).1.1; rw [g] at this; simp at this
          have hLT := (RV_true (s := BA w) (ns := (RV (BA w)).1) (by rw [← ok]) hne).1
          have : NV (RV (BA w)).1 ps = NT (RV (BA w)).1 ps := by unfold NV; rw [if_pos k]
          rw [this, ByteArray.toList_eq, ByteArray.toList_eq, ← hj]
          unfold NT
          rw [hLT, show (BA w ++ tailN ps).data.toList = w ++ (tailN ps).data.toList from by simp [BA], h3]
        · rw [if_neg k, NV_not k, he, if_neg]
          intro g
          rw [ByteArray.toList_eq] at g
          rw [← g] at hj
          have hw0 : w = [] := (List.append_eq_nil_iff.1 hj).1
          rw [hw0, RV_empty] at ok
          simp at ok
    · simp only [if_neg ok]
      cases PVs ws <;> rfl
theorem eqNet_refl {ns : List Int} {ps : List S36} (hn : ns.length ≤ 1048576) (hq : ps.length ≤ 1048576) : laws_eqNetwork.f ns ps ns ps = some true := by
  unfold laws_eqNetwork.f laws_eqInt64S_.f laws_eqPipeS_.f
  rw [if_pos (by omega), if_pos (by omega)]; simp [pipesEq_refl]
theorem heldNet_is {n m : Nat} (hn : n ≤ 1048576) (hm : m ≤ 2097152) : laws_heldNetwork.f (marks 1 n) (marksP (1 + (n : Int)) m) 1 = some (1 + (n : Int) + 6 * (m : Int)) := by
  have h1 := heldI_is hn
  have h2 : laws_heldPipeS_.f (marksP (1 + (n : Int)) m) (1 + (n : Int)) = some (1 + (n : Int) + 6 * (m : Int)) := by unfold laws_heldPipeS_.f; rw [if_pos ⟨by omega, by rw [marksP_length]; omega⟩, held_marksP]
  have c1 : ¬ (1 + (n : Int) < 0) := by omega
  have c2 : ¬ (1 + (n : Int) + 6 * (m : Int) < 0) := by omega
  unfold laws_heldNetwork.f
  simp [h1, h2, c1, c2]
theorem RN_len (s : ByteArray) : (RN s).1.length ≤ 1048576 ∧ (RN s).2.1.length ≤ 1048576 := by
  have no : noN.1.length ≤ 1048576 ∧ noN.2.1.length ≤ 1048576 := ⟨Nat.zero_le _, Nat.zero_le _⟩
  unfold RN
  split
  · exact no
  · rename_i w ws e
    split
    · split
      · exact no
      · rename_i ps g
        split
        · rename_i k
          have := netOk_parts k
          exact ⟨Nat.le_trans this.1.2 (by omega), Nat.le_trans this.2.1 (by omega)⟩
        · exact no
    · exact no
theorem FnExactReadNetwork : laws_FnExactReadNetwork.Pure := by
  intro s hz
  refine ⟨4000000, ?_⟩
  unfold laws_FnExactReadNetwork.f
  by_cases c : (s.size : Int) > 1048576
  · rw [if_pos c]
  · rw [if_neg c]
    have sv : ∀ K, 3100000 ≤ K → spec_ReadNetwork.f K s = some (RN s) := fun K hK => by unfold spec_ReadNetwork.f; rw [srn_is (by omega) hK]; rfl
    have iv : ∀ K, 3100000 ≤ K → impl_ReadNetwork.f K s = some (RN s) := fun K hK => irn_is (by omega) hK
    obtain ⟨h1, h2⟩ := RN_len s
    generalize RN s = R at sv iv h1 h2
    have eR : laws_eqNetwork.f R.1 R.2.1 R.1 R.2.1 = some true := eqNet_refl h1 h2
    have mR := markNet_is h1 h2
    have dR := heldNet_is (n := R.1.length) (m := R.2.1.length) h1 (by omega)
    have h3 : ¬ (1 + (R.1.length : Int) + 6 * (R.2.1.length : Int) < 0) := by omega
    generalize hk : (3999990 : Nat) = k
    have : (4000000 : Nat) = k + 10 := by omega
    rw [this]
    have s1 := sv (k + 9) (by omega)
    have i1 := iv (k + 9) (by omega)
    have i2 := iv (k + 5) (by omega)
    simp [s1, i1, i2, eR, mR, dR, h3, laws_FnExactReadNetwork.j0, laws_FnExactReadNetwork.j1, laws_FnExactReadNetwork.j2, laws_FnExactReadNetwork.j3, laws_FnExactReadNetwork.j4, laws_FnExactReadNetwork.j5, laws_FnExactReadNetwork.j6]

end Go.Proofs.YtabgkdejpkpejaaGreatDoor.Pure
