/- For all lists of whole numbers of 64 bits the program's MixWater is the reference's MixWater, the number and the code, and it leaves the lists as they are. No condition. -/
import Derived.Test.YteifocbmholocaaPFnExactMixWaterx2
import Derived.Test.YteifocbmholocaaMath
namespace Go.Proofs.Yteifocbmholocaa.Pure
open Go.RowKit Go.Proofs.Yteifocbmholocaa.PFnExactMixWater Go.Proofs.YteifocbmholocaaW.PrintWords Go.Proofs.YteifocbmholocaaW.PrintLast Go.Proofs.YteifocbmholocaaW.PrintMore Go.Proofs.YteifocbmholocaaM
set_option linter.unusedSimpArgs false
set_option linter.unusedVariables false
def dotTo (l m : List Int) : Nat → Int
  | 0 => 0
  | i + 1 => dotTo l m i + l.getD i 0 * m.getD i 0
def sumTo (l : List Int) : Nat → Int
  | 0 => 0
  | i + 1 => sumTo l i + l.getD i 0
def okFrom (l m : List Int) : Nat → Nat → Bool
  | 0, _ => true
  | d + 1, i => decide (0 ≤ l.getD i 0 ∧ l.getD i 0 ≤ 100000) && (decide (0 ≤ m.getD i 0 ∧ m.getD i 0 ≤ 18000) && okFrom l m d (i + 1))
theorem rd_at (l : List Int) (i : Nat) : rd l (i : Int) = l.getD i 0 := by unfold rd; rw [Int.toNat_natCast]
def fin (a b : Int) : Option (Int × Int) := if b = 0 then some (0, 6) else (spec_l01Div_.f a b).bind fun t => some (t, 0)
theorem spec_loop (l m : List Int) (he : m.length = l.length) (h64 : l.length ≤ 64) : ∀ (d k i : Nat), i ≤ l.length → l.length - i = d → d < k → (0 ≤ dotTo l m i ∧ dotTo l m i ≤ 1800000000 * i) → (0 ≤ sumTo l i ∧ sumTo l i ≤ 100000 * i) →
    spec_MixWater.l0 k l m (dotTo l m i) (sumTo l i) (i : Int) = if okFrom l m d i = true then fin (dotTo l m l.length) (sumTo l l.length) else some (0, 2) := by
  intro d
  induction d with
  | zero =>
    intro k i h1 hd hk hb hc
    obtain ⟨k, rfl⟩ : ∃ m, k = m + 1 := ⟨k - 1, by omega⟩
    obtain rfl : i = l.length := by omega
    simp only [spec_MixWater.l0]
    rw [if_neg (by omega)]
    simp [okFrom, fin]
  | succ d ih =>
    intro k i h1 hd hk hb hc
    obtain ⟨k, rfl⟩ : ∃ m, k = m + 1 := ⟨k - 1, by omega⟩
    simp only [spec_MixWater.l0]
    unfold spec_l02Flow.f spec_l02Degrees.f
    rw [if_pos (by omega), if_pos (by omega), if_pos (by omega), rd_at, rd_at]
    simp only [spec_l00In_.f, Option.bind_some, okFrom]
    by_cases c1 : 0 ≤ l.getD i 0 ∧ l.getD i 0 ≤ 100000
    · by_cases c2 : 0 ≤ m.getD i 0 ∧ m.getD i 0 ≤ 18000
      · simp only [decide_eq_true c1, decide_eq_true c2, if_true, Bool.true_and]
        have hm := mulb (a := l.getD i 0) (b := m.getD i 0) 100000 18000 (by omega) (by omega) (by omega) (by omega)
        have hm0 := Int.mul_nonneg c1.1 c2.1
        rw [w64 (x := l.getD i 0 * m.getD i 0) (by omega) (by omega), w64 (x := dotTo l m i + l.getD i 0 * m.getD i 0) (by omega) (by omega), w64 (x := sumTo l i + l.getD i 0) (by omega) (by omega), w64 (x := (i : Int) + 1) (by omega) (by omega), show (i : Int) + 1 = ((i + 1 : Nat) : Int) by omega]
        exact ih k (i + 1) (by omega) (by omega) (by omega) (by show 0 ≤ dotTo l m i + _ ∧ dotTo l m i + _ ≤ _; omega) (by show 0 ≤ sumTo l i + _ ∧ sumTo l i + _ ≤ _; omega)
      · simp only [decide_eq_true c1, decide_eq_false c2, if_true, Bool.true_and, Bool.false_and, Bool.false_eq_true, if_false]
    · simp only [decide_eq_false c1, Bool.false_and, Bool.false_eq_true, if_false]
theorem ok_all (l m : List Int) (he : m.length = l.length) : ∀ (d i : Nat), i ≤ l.length → l.length - i = d → okFrom l m d i = (allIn 0 100000 (l.drop i) && allIn 0 18000 (m.drop i)) := by
  intro d
  induction d with
  | zero =>
    intro i h1 hd
    rw [List.drop_of_length_le (by omega), List.drop_of_length_le (by omega)]
    rfl
  | succ d ih =>
    intro i h1 hd
    have d1 : l.drop i = l[i]'(by omega) :: l.drop (i + 1) := List.drop_eq_getElem_cons (by omega)
    have d2 : m.drop i = m[i]'(by omega) :: m.drop (i + 1) := List.drop_eq_getElem_cons (by omega)
    have e1 : l.getD i 0 = l[i]'(by omega) := by rw [List.getD_eq_getElem?_getD, List.getElem?_eq_getElem (by omega)]; rfl
    have e2 : m.getD i 0 = m[i]'(by omega) := by rw [List.getD_eq_getElem?_getD, List.getElem?_eq_getElem (by omega)]; rfl
    have c1 : allIn 0 100000 (l.drop i) = (decide (0 ≤ l.getD i 0 ∧ l.getD i 0 ≤ 100000) && allIn 0 100000 (l.drop (i + 1))) := by rw [d1, e1]; unfold allIn; rw [List.all_cons]
    have c2 : allIn 0 18000 (m.drop i) = (decide (0 ≤ m.getD i 0 ∧ m.getD i 0 ≤ 18000) && allIn 0 18000 (m.drop (i + 1))) := by rw [d2, e2]; unfold allIn; rw [List.all_cons]
    rw [c1, c2]
    simp only [okFrom]
    rw [ih (i + 1) (by omega) (by omega)]
    cases decide (0 ≤ l.getD i 0 ∧ l.getD i 0 ≤ 100000) <;> cases decide (0 ≤ m.getD i 0 ∧ m.getD i 0 ≤ 18000) <;> cases allIn 0 100000 (l.drop (i + 1)) <;> rfl
theorem allIn_at {lo hi : Int} {l : List Int} (h : allIn lo hi l = true) (i : Nat) (hi' : i < l.length) : lo ≤ l.getD i 0 ∧ l.getD i 0 ≤ hi := by
  have e1 : l.getD i 0 = l[i] := by rw [List.getD_eq_getElem?_getD, List.getElem?_eq_getElem (by omega)]; rfl
  rw [e1]
  exact of_decide_eq_true (List.all_eq_true.1 h _ (List.getElem_mem hi'))
theorem impl_loop (l m : List Int) (he : m.length = l.length) (h64 : l.length ≤ 64) (hl : allIn 0 100000 l = true) (hm : allIn 0 18000 m = true) : ∀ (d k i : Nat), i ≤ l.length → l.length - i = d → d < k → (0 ≤ dotTo l m i ∧ dotTo l m i ≤ 1800000000 * i) →
    impl_MixWater.l0 k l m (dotTo l m i) l (l.length : Int) (i : Int) = (impl_sumOf_.f l).bind fun t => if t = 0 then some (0, 6) else ((impl_divRound.f (dotTo l m l.length) t).bind fun q => some (q, 0)) := by
  intro d
  induction d with
  | zero =>
    intro k i h1 hd hk hb
    obtain ⟨k, rfl⟩ : ∃ m, k = m + 1 := ⟨k - 1, by omega⟩
    obtain rfl : i = l.length := by omega
    simp only [impl_MixWater.l0]
    rw [if_neg (by omega)]
  | succ d ih =>
    intro k i h1 hd hk hb
    obtain ⟨k, rfl⟩ : ∃ m, k = m + 1 := ⟨k - 1, by omega⟩
    have c1 := allIn_at hl i (by omega)
    have c2 := allIn_at hm i (by omega)
    have hmm := mulb (a := l.getD i 0) (b := m.getD i 0) 100000 18000 (by omega) (by omega) (by omega) (by omega)
    have hm0 := Int.mul_nonneg c1.1 c2.1
    simp only [impl_MixWater.l0]
    rw [if_pos (by omega), if_pos (by omega), if_pos (by omega), if_pos (by omega), rd_at, rd_at, w64 (x := l.getD i 0 * m.getD i 0) (by omega) (by omega), w64 (x := dotTo l m i + l.getD i 0 * m.getD i 0) (by omega) (by omega), w64 (x := (i : Int) + 1) (by omega) (by omega), show (i : Int) + 1 = ((i + 1 : Nat) : Int) by omega]
    exact ih k (i + 1) (by omega) (by omega) (by omega) (by show 0 ≤ dotTo l m i + _ ∧ dotTo l m i + _ ≤ _; omega)
theorem sum_to (l : List Int) : ∀ i, i ≤ l.length → sumTo l i = (l.take i).sum
  | 0, _ => by simp [sumTo]
  | i + 1, h => by rw [sum_take l i (by omega), ← sum_to l i (by omega)]; rfl
theorem dot_range (l m : List Int) (he : m.length = l.length) (hl : allIn 0 100000 l = true) (hm : allIn 0 18000 m = true) : ∀ i, i ≤ l.length → 0 ≤ dotTo l m i ∧ dotTo l m i ≤ 1800000000 * i
  | 0, _ => by simp [dotTo]
  | i + 1, h => by
    have c1 := allIn_at hl i (by omega)
    have c2 := allIn_at hm i (by omega)
    have hmm := mulb (a := l.getD i 0) (b := m.getD i 0) 100000 18000 (by omega) (by omega) (by omega) (by omega)
    have hm0 := Int.mul_nonneg c1.1 c2.1
    have := dot_range l m he hl hm i (by omega)
    show 0 ≤ dotTo l m i + _ ∧ dotTo l m i + _ ≤ _
    omega
/-- What both come to. -/
def mixI (l m : List Int) : Int × Int :=
  if l.length < 1 ∨ 64 < l.length ∨ m.length ≠ l.length then (0, 2) else if (allIn 0 100000 l && allIn 0 18000 m) = true then (if l.sum = 0 then (0, 6) else (rdiv (dotTo l m l.length) l.sum, 0)) else (0, 2)
theorem spec_mix (l m : List Int) : spec_MixWater.f 70 l m = some (mixI l m) := by
  unfold spec_MixWater.f mixI
  by_cases c1 : l.length < 1
  · rw [if_pos (by omega), if_pos (Or.inl c1)]; simp [spec_MixWater.j0]
  · rw [if_neg (by omega)]
    by_cases c2 : 64 < l.length
    · rw [if_pos (by omega), if_pos (by omega)]; simp [spec_MixWater.j0]
    · rw [if_neg (by omega)]
      by_cases c3 : m.length = l.length
      · have e : ((m.length : Int) != (l.length : Int)) = false := by simp; omega
        rw [e, if_neg (by omega)]
        simp only [spec_MixWater.j0, Bool.false_eq_true, if_false]
        have h := spec_loop l m c3 (by omega) l.length 69 0 (by omega) (by omega) (by omega) (by simp [dotTo]) (by simp [sumTo])
        have h0 := ok_all l m c3 l.length 0 (by omega) (by omega)
        simp only [List.drop_zero] at h0
        rw [h0] at h
        rw [show spec_MixWater.l0 69 l m 0 0 0 = spec_MixWater.l0 69 l m (dotTo l m 0) (sumTo l 0) ((0 : Nat) : Int) from rfl, h]
        by_cases c4 : (allIn 0 100000 l && allIn 0 18000 m) = true
        · rw [if_pos c4, if_pos c4]
          obtain ⟨hl, hm⟩ : allIn 0 100000 l = true ∧ allIn 0 18000 m = true := by simpa using c4
          have es : sumTo l l.length = l.sum := by rw [sum_to l _ (Nat.le_refl _), List.take_length]
          have hd := dot_range l m c3 hl hm l.length (Nat.le_refl _)
          unfold fin
          rw [es]
          by_cases c5 : l.sum = 0
          · rw [if_pos c5, if_pos c5]
          · rw [if_neg c5, if_neg c5]
            have hsb := sum_bound l (fun x hx => by have := of_decide_eq_true (List.all_eq_true.1 hl x hx); omega)
            unfold spec_l01Div_.f
            rw [if_pos ⟨c5, by omega, by omega, by omega, by omega⟩]
            rfl
        · rw [if_neg c4, if_neg c4]
      · have e : ((m.length : Int) != (l.length : Int)) = true := by simp; omega
        rw [e, if_pos (by omega)]; simp [spec_MixWater.j0]
theorem impl_mix (l m : List Int) : impl_MixWater.f 70 l m = some (mixI l m) := by
  unfold impl_MixWater.f mixI
  by_cases c1 : l.length < 1
  · rw [if_pos (by omega), if_pos (Or.inl c1)]; simp [impl_MixWater.j0]
  · rw [if_neg (by omega)]
    by_cases c2 : 64 < l.length
    · rw [if_pos (by omega), if_pos (by omega)]; simp [impl_MixWater.j0]
    · rw [if_neg (by omega)]
      by_cases c3 : m.length = l.length
      · rw [if_pos (by omega), if_neg (by omega)]
        unfold impl_allWithin.f
        rw [if_pos (by omega), if_pos (by omega)]
        simp only [Option.bind_some]
        cases hl : allIn 0 100000 l
        · simp [impl_MixWater.j0]
        · cases hm : allIn 0 18000 m
          · simp [impl_MixWater.j0]
          · simp only [if_true, Bool.not_true, impl_MixWater.j0, Bool.false_eq_true, if_false, Bool.and_self]
            rw [show impl_MixWater.l0 69 l m 0 l (l.length : Int) 0 = impl_MixWater.l0 69 l m (dotTo l m 0) l (l.length : Int) ((0 : Nat) : Int) from rfl, impl_loop l m c3 (by omega) hl hm l.length 69 0 (by omega) (by omega) (by omega) (by simp [dotTo])]
            have hd := dot_range l m c3 hl hm l.length (Nat.le_refl _)
            have hx : ∀ x ∈ l, -1000000 ≤ x ∧ x ≤ 1000000 := fun x hx => by have := of_decide_eq_true (List.all_eq_true.1 hl x hx); omega
            have hsb := sum_bound l hx
            unfold impl_sumOf_.f
            rw [if_pos ⟨by omega, hx⟩]
            simp only [Option.bind_some]
            by_cases c5 : l.sum = 0
            · rw [if_pos c5, if_pos c5]
            · rw [if_neg c5, if_neg c5]
              unfold impl_divRound.f
              rw [if_pos ⟨c5, by omega, by omega, by omega, by omega⟩]
              rfl
      · rw [if_neg (by omega), if_pos (by omega)]; simp [impl_MixWater.j0]
theorem FnExactMixWater : laws_FnExactMixWater.Pure := by
  intro l m _ hl _ _ hm _
  refine ⟨70, ?_⟩
  unfold laws_FnExactMixWater.f laws_toInt64S_.f
  rw [if_pos hl, if_pos hm]
  simp only [Option.bind_some]
  rw [spec_mix, impl_mix]
  simp only [Option.bind_some, if_true, bne_self_eq_false]
  rw [show laws_FnExactMixWater.j0 70 l m l m false = some true from by
    simp only [laws_FnExactMixWater.j0, Bool.false_eq_true, if_false]
    unfold laws_toInt64S_.f laws_eqInt64S_.f
    rw [if_pos hl, if_pos hm]
    simp only [Option.bind_some]
    rw [if_pos (by omega), if_pos (by omega)]
    simp]
  split <;> first | rfl | (split <;> rfl)

end Go.Proofs.Yteifocbmholocaa.Pure
