/- The drop of a pipe in plain words: its bounds, and how it grows. No program in sight. -/
import Derived.Test.YtabgkdejpkpejaaDoorMathN
namespace Go.Proofs.YtabgkdejpkpejaaDoorM
open Go.RowKit Go.Proofs.YtabgkdejpkpejaaDoorW.PrintWords
set_option linter.unusedVariables false
set_option linter.unusedSimpArgs false
theorem firstTrue_prev (p : Nat → Bool) : ∀ n, 0 < firstTrue p n → p (firstTrue p n - 1) = false
  | 0, h => by unfold firstTrue at h; omega
  | n + 1, h => by
    unfold firstTrue at h ⊢
    by_cases c : p n = true
    · rw [if_pos c] at h ⊢
      exact firstTrue_prev p n h
    · rw [if_neg c]
      simpa using c
def dropI (l d q : Int) : Int := rdiv (l * 16200 * q * absI q) (d * d * d * d * d)
theorem absI_le {q Q : Int} (h : -Q ≤ q) (h' : q ≤ Q) : 0 ≤ absI q ∧ absI q ≤ Q := by unfold absI; split <;> omega
theorem drop_num {l q : Int} (h : 1 ≤ l) (h' : l ≤ 10000) (hq : -100000 ≤ q) (hq' : q ≤ 100000) : (-16200000000000 ≤ l * 16200 * q ∧ l * 16200 * q ≤ 16200000000000) ∧ -1620000000000000000 ≤ l * 16200 * q * absI q ∧ l * 16200 * q * absI q ≤ 1620000000000000000 := by
  have h1 := mulb (a := l * 16200) (b := q) 162000000 100000 (by omega) (by omega) (by omega) (by omega)
  have hs := absI_le hq hq'
  have h2 := mulb (a := l * 16200 * q) (b := absI q) 16200000000000 100000 (by omega) (by omega) (by omega) (by omega)
  omega
theorem drop_den {d : Int} (h : 20 ≤ d) (h' : d ≤ 1000) : (1 ≤ d * d ∧ d * d ≤ 1000000) ∧ (1 ≤ d * d * d ∧ d * d * d ≤ 1000000000) ∧ (1 ≤ d * d * d * d ∧ d * d * d * d ≤ 1000000000000) ∧ (1 ≤ d * d * d * d * d ∧ d * d * d * d * d ≤ 1000000000000000) := by
  have p1 : 0 < d * d := Int.mul_pos (by omega) (by omega)
  have p2 : 0 < d * d * d := Int.mul_pos p1 (by omega)
  have p3 : 0 < d * d * d * d := Int.mul_pos p2 (by omega)
  have p4 : 0 < d * d * d * d * d := Int.mul_pos p3 (by omega)
  have h1 := mulb (a := d) (b := d) 1000 1000 (by omega) (by omega) (by omega) (by omega)
  have h2 := mulb (a := d * d) (b := d) 1000000 1000 (by omega) (by omega) (by omega) (by omega)
  have h3 := mulb (a := d * d * d) (b := d) 1000000000 1000 (by omega) (by omega) (by omega) (by omega)
  have h4 := mulb (a := d * d * d * d) (b := d) 1000000000000 1000 (by omega) (by omega) (by omega) (by omega)
  omega
theorem drop_num_w {l q : Int} (h : 1 ≤ l) (h' : l ≤ 10000) (hq : -100000 ≤ q) (hq' : q ≤ 100000) : wrap64 ((wrap64 ((wrap64 (l * 16200)) * q)) * absI q) = l * 16200 * q * absI q := by
  have h1 := drop_num h h' hq hq'
  rw [w64 (x := l * 16200) (by omega) (by omega), w64 (x := l * 16200 * q) (by omega) (by omega), w64 (by omega) (by omega)]
theorem drop_den_w {d : Int} (h : 20 ≤ d) (h' : d ≤ 1000) : wrap64 ((wrap64 ((wrap64 ((wrap64 (d * d)) * d)) * d)) * d) = d * d * d * d * d := by
  have h1 := drop_den h h'
  rw [w64 (x := d * d) (by omega) (by omega), w64 (x := d * d * d) (by omega) (by omega), w64 (x := d * d * d * d) (by omega) (by omega), w64 (by omega) (by omega)]
theorem sq_mono {a b : Int} (h : a ≤ b) : a * absI a ≤ b * absI b := by
  unfold absI
  by_cases ca : a < 0
  · rw [if_pos ca]
    by_cases cb : b < 0
    · rw [if_pos cb]
      have := Int.mul_le_mul (show -b ≤ -a by omega) (show -b ≤ -a by omega) (by omega) (by omega)
      rw [Int.mul_neg, Int.mul_neg]
      rw [Int.neg_mul_neg, Int.neg_mul_neg] at this
      omega
    · rw [if_neg cb]
      have h1 : 0 ≤ b * b := Int.mul_nonneg (by omega) (by omega)
      have h2 : 0 ≤ (-a) * (-a) := Int.mul_nonneg (by omega) (by omega)
      rw [Int.neg_mul_neg] at h2
      rw [Int.mul_neg]
      omega
  · rw [if_neg ca, if_neg (by omega)]
    exact Int.mul_le_mul h h (by omega) (by omega)
theorem drop_mono {l d a b : Int} (hl : 1 ≤ l) (hd : 20 ≤ d) (hd' : d ≤ 1000) (h : a ≤ b) : dropI l d a ≤ dropI l d b := by
  unfold dropI
  refine rdiv_mono (by have := drop_den hd hd'; omega) ?_
  rw [Int.mul_assoc (l * 16200) a, Int.mul_assoc (l * 16200) b]
  exact Int.mul_le_mul_of_nonneg_left (sq_mono h) (by omega)
theorem rdiv_neg {a d : Int} (hd : 0 < d) : rdiv (-a) d = -rdiv a d := by
  unfold rdiv rdivp
  simp only [if_neg (show ¬ d < 0 by omega)]
  by_cases c : a < 0
  · rw [if_pos c, if_neg (by omega), Int.neg_neg]
    congr 1
    omega
  · rw [if_neg c]
    by_cases c' : a = 0
    · subst c'
      rw [if_neg (by omega)]
      have : (2 * 0 + d) / (2 * d) = 0 := Int.ediv_eq_zero_of_lt (by omega) (by omega)
      simp only [Int.neg_zero, this]
    · rw [if_pos (by omega)]
      congr 2
      omega
theorem rdiv_anti {a d d' : Int} (ha : 0 ≤ a) (hd : 0 < d) (h : d ≤ d') : rdiv a d' ≤ rdiv a d := by
  unfold rdiv rdivp
  simp only [if_neg (show ¬ d < 0 by omega), if_neg (show ¬ d' < 0 by omega), if_neg (show ¬ a < 0 by omega)]
  obtain ⟨k, hk⟩ : ∃ k, (2 * a + d') / (2 * d') = k := ⟨_, rfl⟩
  rw [hk]
  have h0 : 0 ≤ k := by rw [← hk]; exact Int.ediv_nonneg (by omega) (by omega)
  have h1 : k * (2 * d') ≤ 2 * a + d' := by rw [← hk]; exact Int.ediv_mul_le _ (by omega)
  refine (Int.le_ediv_iff_mul_le (by omega)).mpr ?_
  by_cases c : k = 0
  · subst c; omega
  · have h2 := Int.mul_le_mul_of_nonneg_left h (show 0 ≤ 2 * k - 1 by omega)
    have e1 : (2 * k - 1) * d = k * (2 * d) - d := by rw [Int.sub_mul, Int.mul_left_comm k 2 d, Int.mul_assoc]; omega
    have e2 : (2 * k - 1) * d' = k * (2 * d') - d' := by rw [Int.sub_mul, Int.mul_left_comm k 2 d', Int.mul_assoc]; omega
    omega
theorem den_mono {d d' : Int} (h : 0 ≤ d) (h' : d ≤ d') : d * d * d * d * d ≤ d' * d' * d' * d' * d' := by
  have p1 : 0 ≤ d * d := Int.mul_nonneg h h
  have p2 : 0 ≤ d * d * d := Int.mul_nonneg p1 h
  have p3 : 0 ≤ d * d * d * d := Int.mul_nonneg p2 h
  have q1 : 0 ≤ d' * d' := Int.mul_nonneg (by omega) (by omega)
  have q2 : 0 ≤ d' * d' * d' := Int.mul_nonneg q1 (by omega)
  have q3 : 0 ≤ d' * d' * d' * d' := Int.mul_nonneg q2 (by omega)
  exact Int.mul_le_mul (Int.mul_le_mul (Int.mul_le_mul (Int.mul_le_mul h' h' h (by omega)) h' h q1) h' h q2) h' h q3
theorem drop_neg {l d q : Int} (hd : 20 ≤ d) (hd' : d ≤ 1000) : dropI l d (-q) = -dropI l d q := by
  unfold dropI
  rw [← rdiv_neg (by have := drop_den hd hd'; omega)]
  congr 1
  have e : absI (-q) = absI q := by unfold absI; split <;> split <;> omega
  rw [e, Int.mul_neg, Int.neg_mul]
theorem drop_pos {l d q : Int} (hl : 1 ≤ l) (hd : 20 ≤ d) (hd' : d ≤ 1000) (hq : 0 ≤ q) : 0 ≤ dropI l d q := by
  have h := drop_mono (a := 0) hl hd hd' hq
  have e : dropI l d 0 = 0 := by
    unfold dropI
    have := rdiv_whole 0 (d * d * d * d * d) (by have := drop_den hd hd'; omega)
    simp only [Int.mul_zero, Int.zero_mul] at this ⊢
    exact this
  omega
theorem drop_abs {l d q : Int} (hl : 1 ≤ l) (hd : 20 ≤ d) (hd' : d ≤ 1000) : absI (dropI l d q) = dropI l d (absI q) := by
  by_cases c : q < 0
  · have h1 : absI q = -q := by unfold absI; rw [if_pos c]
    have h2 := drop_pos (q := -q) hl hd hd' (by omega)
    rw [h1]
    rw [drop_neg hd hd'] at h2 ⊢
    unfold absI
    split <;> omega
  · have h1 : absI q = q := by unfold absI; rw [if_neg c]
    have h2 := drop_pos (q := q) hl hd hd' (by omega)
    rw [h1]
    unfold absI
    split <;> omega
theorem drop_wide {l d d' q : Int} (hl : 1 ≤ l) (hd : 20 ≤ d) (h : d ≤ d') (hd' : d' ≤ 1000) : absI (dropI l d' q) ≤ absI (dropI l d q) := by
  rw [drop_abs hl (by omega) hd', drop_abs hl hd (by omega)]
  unfold dropI
  have hs : 0 ≤ absI q := by unfold absI; split <;> omega
  have e : absI (absI q) = absI q := by rw [absI, if_neg (by omega)]
  exact rdiv_anti (by rw [e]; exact Int.mul_nonneg (Int.mul_nonneg (by omega) hs) hs) (by have := drop_den hd (show d ≤ 1000 by omega); omega) (den_mono (by omega) h)
theorem drop_bound {l d q : Int} (h : 1 ≤ l) (h' : l ≤ 10000) (hq : -100000 ≤ q) (hq' : q ≤ 100000) : -1620000000000000001 ≤ dropI l d q ∧ dropI l d q ≤ 1620000000000000001 := by
  have h1 := drop_num h h' hq hq'
  have h2 := rdiv_bound (l * 16200 * q * absI q) (d * d * d * d * d)
  unfold dropI
  omega
theorem pipeOk_range {s : ByteArray} {f t l d x : Int} (h : pipeOk s f t l d x = true) : (0 ≤ f ∧ f ≤ 15) ∧ (0 ≤ t ∧ t ≤ 15) ∧ f ≠ t ∧ (1 ≤ l ∧ l ≤ 10000) ∧ (20 ≤ d ∧ d ≤ 1000) ∧ (0 ≤ x ∧ x ≤ 5000) := by
  simp only [pipeOk, Bool.and_eq_true, decide_eq_true_eq, Bool.not_eq_true', decide_eq_false_iff_not] at h
  exact ⟨h.2.1, h.2.2.1, h.2.2.2.1, h.2.2.2.2.1, h.2.2.2.2.2.1, h.2.2.2.2.2.2⟩
/-- The greatest flow with at most a drop. -/
def flowI (l d m : Int) : Int := ((firstTrue (fun i => decide (m < dropI l d ((i : Int) + 1))) 100000 : Nat) : Int)
theorem flow_is {l d m r : Int} (h0 : 0 ≤ r) (h1 : r ≤ 100000) (ha : ∀ t, 0 ≤ t → t ≤ r → dropI l d t ≤ m) (hb : ∀ t, r < t → t ≤ 100000 → m < dropI l d t) : flowI l d m = r := by
  unfold flowI
  rw [firstTrue_unique _ 100000 r.toNat (by omega) (fun t ht => decide_eq_false (by have := ha ((t : Int) + 1) (by omega) (by omega); omega)) (fun t ht hn => decide_eq_true (hb _ (by omega) (by omega)))]
  omega
theorem flow_range (l d m : Int) : 0 ≤ flowI l d m ∧ flowI l d m ≤ 100000 := by
  unfold flowI
  have := firstTrue_le (fun i => decide (m < dropI l d ((i : Int) + 1))) 100000
  omega
theorem drop_zero {l d : Int} (hd : 20 ≤ d) (hd' : d ≤ 1000) : dropI l d 0 = 0 := by
  unfold dropI
  have := rdiv_whole 0 (d * d * d * d * d) (by have := drop_den hd hd'; omega)
  simp only [Int.mul_zero, Int.zero_mul] at this ⊢
  exact this
/-- The same flow, found among negative and positive ones. -/
theorem flow_first {l d m : Int} (hl : 1 ≤ l) (hd : 20 ≤ d) (hd' : d ≤ 1000) (hm : 0 ≤ m) :
    ((firstTrue (fun i => decide (m < dropI l d (-100000 + (i : Int)))) 200001 : Nat) : Int) = flowI l d m + 100001 := by
  have hr := flow_range l d m
  have ha : ∀ t, t ≤ flowI l d m → dropI l d t ≤ m := by
    intro t ht
    by_cases c : dropI l d t ≤ m
    · exact c
    · exfalso
      have h1 : m < dropI l d (flowI l d m) := by have := drop_mono hl hd hd' ht; omega
      by_cases c0 : flowI l d m = 0
      · rw [c0, drop_zero hd hd'] at h1; omega
      · have hk := firstTrue_prev (fun i => decide (m < dropI l d ((i : Int) + 1))) 100000 (by unfold flowI at c0; omega)
        have : (((firstTrue (fun i => decide (m < dropI l d ((i : Int) + 1))) 100000 - 1 : Nat) : Int)) + 1 = flowI l d m := by unfold flowI at c0 ⊢; omega
        rw [this] at hk
        exact absurd h1 (of_decide_eq_false hk)
  have hb : ∀ t, flowI l d m < t → t ≤ 100000 → m < dropI l d t := by
    intro t h1 h2
    have := firstTrue_at (fun i => decide (m < dropI l d ((i : Int) + 1))) 100000 (t - 1).toNat (by unfold flowI at h1; omega) (by omega)
    have := of_decide_eq_true this
    rwa [show (((t - 1).toNat : Nat) : Int) + 1 = t by omega] at this
  rw [firstTrue_unique _ 200001 (flowI l d m + 100001).toNat (by omega) (fun t ht => decide_eq_false (by have := ha (-100000 + (t : Int)) (by omega); omega)) (fun t ht hn => decide_eq_true (hb _ (by omega) (by omega)))]
  omega
/-- How many diameters from 20 on drop more. -/
def widthI (l q m : Int) : Nat := firstTrue (fun i => decide (absI (dropI l (20 + (i : Int)) q) ≤ m)) 981
theorem width_le (l q m : Int) : widthI l q m ≤ 981 := firstTrue_le _ _
end Go.Proofs.YtabgkdejpkpejaaDoorM
