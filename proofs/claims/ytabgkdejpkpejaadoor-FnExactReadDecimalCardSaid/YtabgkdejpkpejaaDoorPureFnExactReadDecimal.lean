/- For every string the program's ReadDecimal answers as the reference's ReadDecimal does. No condition. -/
import Derived.Test.YtabgkdejpkpejaaDoorPFnExactReadDecimalx1
import Derived.Test.YtabgkdejpkpejaaDoorMath
import Derived.Test.YtabgkdejpkpejaaDoorMath
namespace Go.Proofs.YtabgkdejpkpejaaDoor.Pure
open Go.RowKit Go.Proofs.YtabgkdejpkpejaaDoor.PFnExactReadDecimal Go.Proofs.YtabgkdejpkpejaaDoorW.PrintWords Go.Proofs.YtabgkdejpkpejaaDoorW.PrintLast Go.Proofs.YtabgkdejpkpejaaDoorW.PrintMore Go.Proofs.YtabgkdejpkpejaaDoorM
set_option linter.unusedSimpArgs false
set_option linter.unusedVariables false
theorem decFrom_append : ∀ (x y : List UInt8) (a : Nat), Lib.decFrom a (x ++ y) = (Lib.decFrom a x).bind fun n => Lib.decFrom n y
  | [], y, a => rfl
  | b :: x, y, a => by
    simp only [List.cons_append, Lib.decFrom]
    cases Lib.digitVal b with
    | none => rfl
    | some d => exact decFrom_append x y _
theorem ofNat_digit {c : UInt8} {d : Nat} (h : Lib.digitVal c = some d) : c = UInt8.ofNat (48 + d) ∧ d < 10 := by
  obtain ⟨h1, h2, h3⟩ := Lib.digitVal_eq h
  refine ⟨?_, by omega⟩
  apply UInt8.toNat_inj.1
  rw [UInt8.toNat_ofNat', Nat.mod_eq_of_lt (by omega)]
  omega
theorem dec_lead : ∀ (n : Nat) (b : List UInt8) (m : Nat), b.length = n + 1 → Lib.decFrom 0 b = some m → b.head? ≠ some 48 → Lib.decDigits m = b ∧ 1 ≤ m
  | n, b, m, hl, h, hh => by
    rcases List.eq_nil_or_concat b with rfl | ⟨b', c, rfl⟩
    · simp at hl
    · rw [List.concat_eq_append] at hl h hh ⊢
      rw [decFrom_append] at h
      cases hb : Lib.decFrom 0 b' with
      | none => rw [hb] at h; simp at h
      | some m' =>
        rw [hb, Option.bind_some] at h
        simp only [Lib.decFrom] at h
        cases hd : Lib.digitVal c with
        | none => rw [hd] at h; simp at h
        | some d =>
          rw [hd] at h
          obtain rfl := Option.some.inj h
          obtain ⟨hc, hd10⟩ := ofNat_digit hd
          cases n with
          | zero =>
            have : b' = [] := by
              rw [List.length_append, List.length_singleton] at hl
              exact List.length_eq_zero_iff.1 (by omega)
            subst this
            obtain rfl := Option.some.inj hb
            have hd0 : d ≠ 0 := fun e => by subst e; subst hc; exact hh rfl
            rw [Nat.zero_mul, Nat.zero_add, Lib.decDigits_one hd10, hc]
            exact ⟨rfl, by omega⟩
          | succ n =>
            have hl' : b'.length = n + 1 := by rw [List.length_append, List.length_singleton] at hl; omega
            have hh' : b'.head? ≠ some 48 := by
              cases b' with
              | nil => simp at hl'
              | cons x t => simpa using hh
            obtain ⟨e, h1⟩ := dec_lead n b' m' hl' hb hh'
            refine ⟨?_, by omega⟩
            rw [Lib.decDigits, dif_neg (by omega), show (m' * 10 + d) / 10 = m' by omega, show (m' * 10 + d) % 10 = d by omega, e, hc]
theorem dec_digits : ∀ (m : Nat) (c : UInt8), c ∈ Lib.decDigits m → 48 ≤ c.toNat ∧ c.toNat ≤ 57
  | m, c, h => by
    have dg : ∀ d : Nat, d < 10 → 48 ≤ (UInt8.ofNat (48 + d)).toNat ∧ (UInt8.ofNat (48 + d)).toNat ≤ 57 := fun d hd => by
      rw [UInt8.toNat_ofNat', Nat.mod_eq_of_lt (by omega)]; omega
    by_cases g : m < 10
    · rw [Lib.decDigits_one g, List.mem_singleton] at h
      subst h; exact dg m g
    · rw [Lib.decDigits, dif_neg g, List.mem_append, List.mem_singleton] at h
      rcases h with h | h
      · exact dec_digits (m / 10) c h
      · subst h; exact dg _ (by omega)
termination_by m => m
decreasing_by omega
theorem dec_ne_nil (m : Nat) : Lib.decDigits m ≠ [] := fun h => by
  have := Lib.nDigits_pos m
  rw [← Lib.decDigits_length, h] at this
  simp at this
theorem dec_head : ∀ (m : Nat), (Lib.decDigits m).head? = some 48 → m = 0
  | m, h => by
    by_cases g : m < 10
    · rw [Lib.decDigits_one g] at h
      have e : UInt8.ofNat (48 + m) = 48 := Option.some.inj h
      have := congrArg UInt8.toNat e
      rw [UInt8.toNat_ofNat', Nat.mod_eq_of_lt (by omega)] at this
      have e48 : (48 : UInt8).toNat = 48 := rfl
      omega
    · rw [Lib.decDigits, dif_neg g] at h
      cases hd : Lib.decDigits (m / 10) with
      | nil => exact absurd hd (dec_ne_nil _)
      | cons x t =>
        have := dec_head (m / 10) (by rw [hd]; rw [hd] at h; simpa using h)
        omega
termination_by m => m
decreasing_by omega
/-- A row of digits is the numeral of its number, if it has no needless zero ahead. -/
theorem dec_canon {b : List UInt8} {m : Nat} (hb : b ≠ []) (h : Lib.decFrom 0 b = some m) : Lib.decDigits m = b ↔ ¬ (b.head? = some 48 ∧ 1 < b.length) := by
  have hl : b.length = (b.length - 1) + 1 := by have := List.length_pos_iff.2 hb; omega
  by_cases hh : b.head? = some 48
  · constructor
    · rintro e ⟨_, h1⟩
      have hm : m = 0 := dec_head m (by rw [e]; exact hh)
      subst hm
      rw [Lib.decDigits_one (by omega)] at e
      rw [← e] at h1
      simp at h1
    · intro hn
      have h1 : b.length = 1 := by have : ¬ 1 < b.length := fun g => hn ⟨hh, g⟩; omega
      obtain ⟨c, rfl⟩ := List.length_eq_one_iff.1 h1
      obtain rfl : c = 48 := by simpa using hh
      have : m = 0 := by
        have e : Lib.decFrom 0 [(48 : UInt8)] = some 0 := by decide
        rw [e] at h; exact (Option.some.inj h).symm
      subst this
      rw [Lib.decDigits_one (by omega)]; rfl
  · exact ⟨fun _ g => hh g.1, fun _ => (dec_lead _ b m hl h hh).1⟩
/-- What a numeral tells: a minus ahead, the digits behind. -/
def numP (neg : Bool) (b : List UInt8) : Int × Bool :=
  if b = [] ∨ 18 < b.length ∨ (b.head? = some 48 ∧ (neg = true ∨ 1 < b.length)) then (0, false) else match Lib.decFrom 0 b with
    | none => (0, false)
    | some m => (if neg = true then -(m : Int) else (m : Int), true)
def numV : List UInt8 → Int × Bool
  | [] => (0, false)
  | c :: r => if c = 45 then numP true r else numP false (c :: r)
theorem numP_not {neg : Bool} {b : List UInt8} (h : b = [] ∨ 18 < b.length ∨ (b.head? = some 48 ∧ (neg = true ∨ 1 < b.length))) : numP neg b = (0, false) := by unfold numP; rw [if_pos h]
theorem numP_none {neg : Bool} {b : List UInt8} (h : Lib.decFrom 0 b = none) : numP neg b = (0, false) := by unfold numP; rw [h]; split <;> rfl
theorem bt_cons {s : ByteArray} {i : Nat} (h : i < s.size) : s.data.toList.drop i = s[i] :: s.data.toList.drop (i + 1) ∧ bt s (i : Int) = (s[i].toNat : Int) := by
  refine ⟨?_, ?_⟩
  · rw [List.drop_eq_getElem_cons (by rw [Array.length_toList]; exact h)]; rfl
  · exact (bt_at s i (by rw [Int.toNat_natCast]; exact h)).symm
theorem sdigit_is (c : UInt8) : spec_l01Digit.f (c.toNat : Int) = some (decide (48 ≤ c.toNat ∧ c.toNat ≤ 57)) := by
  unfold spec_l01Digit.f
  by_cases h : 48 ≤ c.toNat
  · rw [if_pos (by omega)]; congr 1; apply decide_eq_decide.2; omega
  · rw [if_neg (by omega)]; congr 1; rw [eq_comm, decide_eq_false_iff_not]; omega
theorem snum_l0 (s : ByteArray) (at_ : Int) : ∀ (d K i acc : Nat), i + d = s.size → d ≤ 18 → s.size ≤ 100 → acc < 10 ^ (18 - d) → d + 1 ≤ K →
    spec_l01Number.l0 K s at_ (acc : Int) (i : Int) = some (match Lib.decFrom acc (s.data.toList.drop i) with | none => (0, false) | some m => (if at_ = 1 then -(m : Int) else (m : Int), true))
  | d, 0, i, acc, hi, hd, h1, ha, hK => by omega
  | 0, K + 1, i, acc, hi, hd, h1, ha, hK => by
    have hacc : acc < 1000000000000000000 := by have e : (10 : Nat) ^ (18 - 0) = 1000000000000000000 := by decide
                                                omega
    have hdl : s.data.toList.length = s.size := Array.length_toList
    simp only [spec_l01Number.l0]
    rw [if_neg (by omega), w64 (x := -(acc : Int)) (by omega) (by omega), List.drop_eq_nil_of_le (by omega)]
    simp only [Lib.decFrom]
    split <;> rfl
  | d + 1, K + 1, i, acc, hi, hd, h1, ha, hK => by
    obtain ⟨e1, e2⟩ := bt_cons (s := s) (i := i) (by omega)
    have hp : 10 ^ (18 - (d + 1)) ≤ 10 ^ 17 := Nat.pow_le_pow_right (by decide) (by omega)
    have e17 : (10 : Nat) ^ 17 = 100000000000000000 := by decide
    have hnext : 10 ^ (18 - d) = 10 ^ (18 - (d + 1)) * 10 := by rw [← Nat.pow_succ]; congr 1; omega
    simp only [spec_l01Number.l0]
    rw [if_pos (by omega), if_pos (by omega), e2, sdigit_is, Option.bind_some, e1]
    simp only [Lib.decFrom, Lib.digitVal]
    generalize s[i] = c
    by_cases g : 48 ≤ c.toNat ∧ c.toNat ≤ 57
    · rw [if_pos (decide_eq_true g), if_pos g, w64 (x := 10 * (acc : Int)) (by omega) (by omega), w64 (x := (i : Int) + 1) (by omega) (by omega), w64 (by omega) (by omega)]
      have e : 10 * (acc : Int) + ((c.toNat : Int) - 48) % 256 = ((acc * 10 + (c.toNat - 48) : Nat) : Int) := by omega
      rw [e, show (i : Int) + 1 = ((i + 1 : Nat) : Int) by omega]
      exact snum_l0 s at_ d K (i + 1) (acc * 10 + (c.toNat - 48)) (by omega) (by omega) (by omega) (by omega) (by omega)
    · rw [if_neg (by simpa using g), if_neg g]
theorem snum_j1 {s : ByteArray} {a : Nat} (ha : a = 0 ∨ a = 1) (hs : a ≤ s.size) (hz : s.size ≤ 9000000000000000000) {K : Nat} (hK : 50 ≤ K) : spec_l01Number.j1 K s (a : Int) = some (numP (decide (a = 1)) (s.data.toList.drop a)) := by
  obtain ⟨K, rfl⟩ : ∃ k, K = k + 2 := ⟨K - 2, by omega⟩
  have hl : (s.data.toList.drop a).length = s.size - a := by rw [List.length_drop]; rfl
  have hj : spec_l01Number.j2 (K + 1) s (a : Int) true = some (0, false) := by simp only [spec_l01Number.j2]; rw [if_pos trivial]
  have hj' : spec_l01Number.j2 (K + 1) s (a : Int) false = spec_l01Number.l0 K s (a : Int) 0 (a : Int) := by simp only [spec_l01Number.j2]; rw [if_neg (by simp)]
  simp only [spec_l01Number.j1]
  rw [hj, w64 (x := (s.size : Int) - (a : Int)) (by omega) (by omega)]
  by_cases c1 : (s.size : Int) = (a : Int)
  · rw [if_pos c1, numP_not (.inl (List.length_eq_zero_iff.1 (by omega)))]
  · rw [if_neg c1]
    by_cases c2 : (s.size : Int) - (a : Int) > 18
    · rw [if_pos c2, numP_not (.inr (.inl (by omega)))]
    · obtain ⟨e1, e2⟩ := bt_cons (s := s) (i := a) (by omega)
      have e48 : (48 : UInt8).toNat = 48 := rfl
      have h48 : bt s (a : Int) = 48 ↔ (s.data.toList.drop a).head? = some 48 := by
        rw [e2, e1]
        simp only [List.head?_cons, Option.some.injEq]
        constructor
        · intro h; apply UInt8.toNat_inj.1; omega
        · intro h; rw [h]; rfl
      have hl0 := snum_l0 s (a : Int) (s.size - a) K a 0 (by omega) (by omega) (by omega) (Nat.pos_of_ne_zero (by simp)) (by omega)
      rw [show ((0 : Nat) : Int) = (0 : Int) from rfl] at hl0
      have hne : s.data.toList.drop a ≠ [] := fun h => by rw [h] at hl; simp at hl; omega
      have hif : ∀ m : Nat, (if (a : Int) = 1 then -(m : Int) else (m : Int)) = (if decide (a = 1) = true then -(m : Int) else (m : Int)) := fun m => by
        rcases ha with rfl | rfl <;> simp
      rw [if_neg c2, if_pos (by omega), if_pos (by omega)]
      by_cases c3 : bt s (a : Int) = 48
      · rw [if_pos c3]
        by_cases c4 : (s.size : Int) > 1
        · rw [decide_eq_true c4, hj, numP_not (.inr (.inr ⟨h48.1 c3, by rcases ha with rfl | rfl <;> simp; omega⟩))]
        · rw [decide_eq_false c4, hj', hl0]
          unfold numP
          rw [if_neg (by rintro (h | h | ⟨_, h | h⟩) <;> first | exact hne h | (rcases ha with rfl | rfl <;> simp at h <;> omega) | omega)]
          simp only [hif]
      · rw [if_neg c3, hj', hl0]
        unfold numP
        rw [if_neg (by rintro (h | h | ⟨h, _⟩) <;> first | exact hne h | exact c3 (h48.2 h) | omega)]
        simp only [hif]
theorem snum_is {s : ByteArray} (hz : s.size ≤ 9000000000000000000) {K : Nat} (hK : 60 ≤ K) : spec_l01Number.f K s = some (numV s.data.toList) := by
  obtain ⟨K, rfl⟩ : ∃ k, K = k + 1 := ⟨K - 1, by omega⟩
  unfold spec_l01Number.f
  have hl : s.data.toList.length = s.size := Array.length_toList
  have h0 := snum_j1 (s := s) (a := 0) (.inl rfl) (by omega) hz (K := K) (by omega)
  rw [show ((0 : Nat) : Int) = (0 : Int) from rfl, List.drop_zero] at h0
  by_cases c : (s.size : Int) > 0
  · obtain ⟨e1, e2⟩ := bt_cons (s := s) (i := 0) (by omega)
    rw [List.drop_zero] at e1
    have h1 := snum_j1 (s := s) (a := 1) (.inr rfl) (by omega) hz (K := K) (by omega)
    rw [show ((1 : Nat) : Int) = (1 : Int) from rfl] at h1
    rw [if_pos c, if_pos (by omega)]
    simp only [spec_l01Number.j0]
    rw [show ((0 : Nat) : Int) = (0 : Int) from rfl] at e2
    have e45 : (45 : UInt8).toNat = 45 := rfl
    have hc : (bt s 0 == 45) = decide (s[0] = (45 : UInt8)) := by
      rw [e2]
      by_cases g : s[0] = (45 : UInt8)
      · rw [g]; simp
      · rw [decide_eq_false g, beq_eq_false_iff_ne]
        intro h; apply g; apply UInt8.toNat_inj.1; omega
    rw [hc]
    by_cases g : s[0] = (45 : UInt8)
    · rw [decide_eq_true g, if_pos rfl, h1, e1]
      simp only [numV]
      rw [if_pos g]
      rfl
    · rw [decide_eq_false g, if_neg (by simp), h0, e1]
      simp only [numV]
      rw [if_neg g]
      rfl
  · have hn : s.data.toList = [] := List.length_eq_zero_iff.1 (by omega)
    rw [if_neg c]
    simp only [spec_l01Number.j0]
    rw [if_neg (by simp), h0, hn]
    rfl
/-- What ParseInt's answer is worth. -/
def pv : Lib.NumEnd Int → Option Int
  | .ok v => some v
  | _ => none
theorem pv_of (o : Option Int) : pv (Lib.NumEnd.ofOption o) = o := by cases o <;> rfl
theorem parsed_is (s : ByteArray) : parsed s = pv (Lib.atoiAll s.data.toList) := by
  unfold parsed
  rw [Lib.parseIntB_64]
  split <;> rename_i h
  · rw [h]; rfl
  · cases he : Lib.atoiAll s.data.toList with
    | ok v => exact absurd he (h v)
    | _ => rfl
theorem trim_minus (r : List UInt8) : Lib.trimPrefix (45 :: r) [45] = r := by simp [Lib.trimPrefix, Lib.hasPrefix]
theorem trim_none {l : List UInt8} (h : l.head? ≠ some 45) : Lib.trimPrefix l [45] = l := by
  unfold Lib.trimPrefix
  rw [if_neg]
  cases l with
  | nil => simp [Lib.hasPrefix]
  | cons c r =>
    have : c ≠ 45 := by simpa using h
    simp [Lib.hasPrefix, List.isPrefixOf, Ne.symm this]
theorem itoa_nat (m : Nat) : Lib.itoa (m : Int) = Lib.decDigits m := by unfold Lib.itoa; rw [if_neg (by omega), Int.toNat_natCast]
theorem decNat_cons (c : UInt8) (r : List UInt8) : Lib.decNat (c :: r) = Lib.decFrom 0 (c :: r) := rfl
/-- What impl.ReadDecimal makes of it. -/
def readV (o : Option Int) (t l : List UInt8) : Int × Bool := match o with
  | none => (0, false)
  | some v => if 18 < t.length then (0, false) else if Lib.itoa v = l then (v, true) else (0, false)
theorem readV_long {o : Option Int} {t l : List UInt8} (h : 18 < t.length) : readV o t l = (0, false) := by
  unfold readV; cases o with
  | none => rfl
  | some v => simp only []; rw [if_pos h]
theorem readV_is (l : List UInt8) : readV (pv (Lib.atoiAll l)) (Lib.trimPrefix l [45]) l = numV l := by
  cases l with
  | nil => rfl
  | cons c r =>
    simp only [numV]
    by_cases c45 : c = 45
    · subst c45
      rw [if_pos rfl, trim_minus]
      by_cases h18 : 18 < r.length
      · rw [readV_long h18, numP_not (.inr (.inl h18))]
      · rw [Lib.atoiAll_minus, Lib.signed_short (by omega), pv_of]
        cases r with
        | nil => rfl
        | cons x t =>
          rw [decNat_cons]
          cases hd : Lib.decFrom 0 (x :: t) with
          | none => rw [numP_none hd]; rfl
          | some m =>
            have canon := dec_canon (by simp) hd
            show (if 18 < (x :: t).length then _ else if Lib.itoa (-(m : Int)) = 45 :: x :: t then (-(m : Int), true) else (0, false)) = _
            rw [if_neg h18]
            by_cases hm : m = 0
            · have hx : (x :: t).head? = some 48 := by
                refine Classical.byContradiction fun hh => ?_
                have := (dec_lead t.length (x :: t) m (by simp) hd hh).2
                omega
              rw [numP_not (.inr (.inr ⟨hx, .inl rfl⟩)), hm, if_neg]
              show ¬ Lib.itoa 0 = _
              rw [show (0 : Int) = ((0 : Nat) : Int) from rfl, itoa_nat, Lib.decDigits_one (by omega)]
              simp
            · have hi : Lib.itoa (-(m : Int)) = 45 :: Lib.decDigits m := by unfold Lib.itoa; rw [if_pos (by omega)]; simp
              rw [hi]
              have heq : (45 :: Lib.decDigits m = 45 :: x :: t) ↔ Lib.decDigits m = x :: t := by simp
              by_cases hx : (x :: t).head? = some 48
              · rw [numP_not (.inr (.inr ⟨hx, .inl rfl⟩)), if_neg]
                intro e
                exact hm (dec_head m (by rw [heq.1 e]; exact hx))
              · rw [if_pos (heq.2 (canon.2 fun g => hx g.1))]
                unfold numP
                have hn : ¬ (x :: t = [] ∨ 18 < (x :: t).length ∨ ((x :: t).head? = some 48 ∧ (true = true ∨ 1 < (x :: t).length))) := by
                  rintro (h | h | ⟨h, _⟩)
                  · exact absurd h (by simp)
                  · exact h18 h
                  · exact hx h
                rw [if_neg hn, hd]
                rfl
    · rw [if_neg c45, trim_none (by simpa using c45)]
      by_cases h18 : 18 < (c :: r).length
      · rw [readV_long h18, numP_not (.inr (.inl h18))]
      · by_cases c43 : c = 43
        · subst c43
          rw [numP_none (b := 43 :: r) rfl, Lib.atoiAll_plus]
          cases he : Lib.signless (Lib.parseMag r) with
          | ok v =>
            show (if _ then _ else if Lib.itoa v = 43 :: r then (v, true) else (0, false)) = _
            rw [if_neg h18, if_neg]
            intro e
            have hv : 0 ≤ v := by
              cases hp : Lib.parseMag r with
              | ok u =>
                rw [hp] at he
                simp only [Lib.signless] at he
                split at he
                · cases he
                · cases he; omega
              | _ => rw [hp] at he; cases he
            rw [show v = (v.toNat : Int) by omega, itoa_nat] at e
            have := dec_digits v.toNat 43 (by rw [e]; exact List.mem_cons_self)
            have e43 : (43 : UInt8).toNat = 43 := rfl
            omega
          | _ => rfl
        · have t45 : c.toNat ≠ 45 := fun h => c45 (UInt8.toNat_inj.1 h)
          have t43 : c.toNat ≠ 43 := fun h => c43 (UInt8.toNat_inj.1 h)
          rw [Lib.atoiAll_plain c r t43 t45, Lib.signless_short (by omega), pv_of, decNat_cons]
          cases hd : Lib.decFrom 0 (c :: r) with
          | none => rw [numP_none hd]; rfl
          | some m =>
            have canon := dec_canon (by simp) hd
            show (if 18 < (c :: r).length then _ else if Lib.itoa (m : Int) = c :: r then ((m : Int), true) else (0, false)) = _
            rw [if_neg h18, itoa_nat]
            by_cases hx : (c :: r).head? = some 48 ∧ 1 < (c :: r).length
            · rw [numP_not (.inr (.inr ⟨hx.1, .inr hx.2⟩)), if_neg (fun e => canon.1 e hx)]
            · rw [if_pos (canon.2 hx)]
              unfold numP
              have hn : ¬ (c :: r = [] ∨ 18 < (c :: r).length ∨ ((c :: r).head? = some 48 ∧ (false = true ∨ 1 < (c :: r).length))) := by
                rintro (h | h | ⟨h, g | g⟩)
                · exact absurd h (by simp)
                · exact h18 h
                · exact absurd g (by simp)
                · exact hx ⟨h, g⟩
              rw [if_neg hn, hd]
              rfl
theorem iread_is {s : ByteArray} (hs : s.size ≤ 281474976710656) : impl_ReadDecimal.f s = some (numV s.data.toList) := by
  unfold impl_ReadDecimal.f
  rw [if_pos hs, ← readV_is, parsed_is]
  rfl
theorem FnExactReadDecimal : laws_FnExactReadDecimal.Pure := by
  intro s hz
  refine ⟨200, ?_⟩
  unfold laws_FnExactReadDecimal.f
  by_cases c : (s.size : Int) > 1048576
  · rw [if_pos c]
  · rw [if_neg c]
    simp only [laws_FnExactReadDecimal.j0]
    unfold spec_ReadDecimal.f
    rw [snum_is (by omega) (by omega), Option.bind_some, Option.bind_some, iread_is (by omega), Option.bind_some, if_pos rfl, if_neg (by simp)]

end Go.Proofs.YtabgkdejpkpejaaDoor.Pure
