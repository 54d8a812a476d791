/- Names in plain words: when a text is a name; a number on a line through two points. No program in sight. -/
import Derived.Test.YtabgkdejpkpejaaDoorWWords
import Derived.Test.YtabgkdejpkpejaaDoorMath
namespace Go.Proofs.YtabgkdejpkpejaaDoorM
open Go.RowKit Go.Proofs.YtabgkdejpkpejaaDoorW.PrintWords
set_option linter.unusedVariables false
set_option linter.unusedSimpArgs false
def nameByte (c : Int) : Bool := (decide (97 ≤ c) && decide (c ≤ 122)) || (decide (48 ≤ c) && decide (c ≤ 57))
def namesFrom (s : ByteArray) : Nat → Int → Bool
  | 0, _ => true
  | d + 1, i => nameByte (bt s i) && namesFrom s d (i + 1)
def nameOk (s : ByteArray) : Bool := decide (1 ≤ s.size) && (decide (s.size ≤ 10) && (decide (97 ≤ bt s 0) && (decide (bt s 0 ≤ 122) && namesFrom s s.size 0)))
theorem size_empty (s : ByteArray) : s.toList = ([] : List UInt8) ↔ s.size = 0 := by
  rw [ByteArray.toList_eq, show s.size = s.data.toList.length from rfl, List.length_eq_zero_iff]
/-- A number on a line through two points, or that of the nearer end. -/
def lineI (x0 y0 x1 y1 x : Int) : Int := if x ≤ x0 ∨ x1 ≤ x0 then y0 else if x1 ≤ x then y1 else y0 + rdiv ((y1 - y0) * (x - x0)) (x1 - x0)
def absI (a : Int) : Int := if a < 0 then -a else a
theorem line_bound {x0 y0 x1 y1 x : Int} (h : ¬ (x ≤ x0 ∨ x1 ≤ x0)) (h' : ¬ x1 ≤ x) (a : -10000000 ≤ x0) (b : x1 ≤ 10000000) (c1 : -10000000 ≤ y0) (c2 : y0 ≤ 10000000) (d1 : -10000000 ≤ y1) (d2 : y1 ≤ 10000000) :
    -400000000000000 ≤ (y1 - y0) * (x - x0) ∧ (y1 - y0) * (x - x0) ≤ 400000000000000 ∧ -400000000000001 ≤ rdiv ((y1 - y0) * (x - x0)) (x1 - x0) ∧ rdiv ((y1 - y0) * (x - x0)) (x1 - x0) ≤ 400000000000001 := by
  have := mulb (a := y1 - y0) (b := x - x0) 20000000 20000000 (by omega) (by omega) (by omega) (by omega)
  have := rdiv_bound ((y1 - y0) * (x - x0)) (x1 - x0)
  omega
/-- How far down from n the property p holds without a gap. -/
@[irreducible] def firstTrue (p : Nat → Bool) : Nat → Nat
  | 0 => 0
  | n + 1 => if p n then firstTrue p n else n + 1
theorem firstTrue_unique (p : Nat → Bool) : ∀ (n r : Nat), r ≤ n → (∀ t, t < r → p t = false) → (∀ t, r ≤ t → t < n → p t = true) → firstTrue p n = r
  | 0, r, h, _, _ => by unfold firstTrue; omega
  | n + 1, r, h, h1, h2 => by
    unfold firstTrue
    by_cases e : r = n + 1
    · subst e
      rw [if_neg (by rw [h1 n (by omega)]; simp)]
    · rw [if_pos (h2 n (by omega) (by omega))]
      exact firstTrue_unique p n r (by omega) h1 (fun t a b => h2 t a (by omega))
theorem firstTrue_le (p : Nat → Bool) : ∀ n, firstTrue p n ≤ n
  | 0 => by unfold firstTrue; omega
  | n + 1 => by
    unfold firstTrue
    split
    · have := firstTrue_le p n; omega
    · omega
theorem firstTrue_last (p : Nat → Bool) (n : Nat) (h : p n = true) : firstTrue p (n + 1) = firstTrue p n := by
  rw [firstTrue.eq_def p (n + 1)]
  simp only [h, if_true]
theorem firstTrue_at (p : Nat → Bool) : ∀ n t, firstTrue p n ≤ t → t < n → p t = true
  | 0, t, _, h => by omega
  | n + 1, t, h1, h2 => by
    unfold firstTrue at h1
    split at h1
    · rename_i hp
      by_cases e : t = n
      · subst e; exact hp
      · exact firstTrue_at p n t h1 (by omega)
    · omega
/-- A search by halves between two bounds, for a property that goes on once it holds. -/
theorem bin_search {α : Type} (L : Nat → Int → Int → Option α) (g : Int → Int → α) (p : Int → Bool) (lo0 hi0 : Int)
    (step : ∀ k lo hi, lo0 ≤ lo → lo < hi → hi ≤ hi0 → L (k + 1) lo hi = if hi - lo > 1 then (if p ((lo + hi) / 2) = true then L k lo ((lo + hi) / 2) else L k ((lo + hi) / 2) hi) else some (g lo hi))
    (mono : ∀ a b, lo0 < a → a ≤ b → b < hi0 → p a = true → p b = true) :
    ∀ (d k : Nat) (lo hi : Int), lo0 ≤ lo → lo < hi → hi ≤ hi0 → hi - lo ≤ d → d < k → (∀ t, lo0 < t → t ≤ lo → p t = false) → (∀ t, hi ≤ t → t < hi0 → p t = true) →
    ∃ r, L k lo hi = some (g (r - 1) r) ∧ lo0 < r ∧ r ≤ hi0 ∧ (∀ t, lo0 < t → t < r → p t = false) ∧ (∀ t, r ≤ t → t < hi0 → p t = true) := by
  intro d
  induction d with
  | zero => intro k lo hi h0 h1 h2 h3; omega
  | succ d ih =>
    intro k lo hi h0 h1 h2 h3 h4 hl hh
    obtain ⟨k, rfl⟩ : ∃ m, k = m + 1 := ⟨k - 1, by omega⟩
    rw [step k lo hi h0 h1 h2]
    by_cases c : hi - lo > 1
    · rw [if_pos c]
      cases hp : p ((lo + hi) / 2) with
      | true =>
        rw [if_pos rfl]
        exact ih k lo _ h0 (by omega) (by omega) (by omega) (by omega) hl (fun t a b => mono _ t (by omega) a b hp)
      | false =>
        rw [if_neg (by simp)]
        refine ih k _ hi (by omega) (by omega) h2 (by omega) (by omega) (fun t a b => ?_) hh
        cases hq : p t with
        | false => rfl
        | true => have := mono t ((lo + hi) / 2) a b (by omega) hq; rw [hp] at this; cases this
    · rw [if_neg c]
      obtain rfl : lo = hi - 1 := by omega
      exact ⟨hi, rfl, by omega, h2, fun t a b => hl t a (by omega), hh⟩
theorem bin_first {α : Type} (L : Nat → Int → Int → Option α) (g : Int → Int → α) (p : Int → Bool) (lo0 hi0 : Int) (N : Nat) (hN : hi0 = lo0 + 1 + N)
    (step : ∀ k lo hi, lo0 ≤ lo → lo < hi → hi ≤ hi0 → L (k + 1) lo hi = if hi - lo > 1 then (if p ((lo + hi) / 2) = true then L k lo ((lo + hi) / 2) else L k ((lo + hi) / 2) hi) else some (g lo hi))
    (mono : ∀ a b, lo0 < a → a ≤ b → b < hi0 → p a = true → p b = true) (k : Nat) (hk : N + 1 < k) :
    L k lo0 hi0 = some (g (lo0 + (firstTrue (fun i => p (lo0 + 1 + (i : Int))) N : Nat)) (lo0 + 1 + (firstTrue (fun i => p (lo0 + 1 + (i : Int))) N : Nat))) := by
  obtain ⟨r, h1, h2, h3, h4, h5⟩ := bin_search L g p lo0 hi0 step mono (N + 1) k lo0 hi0 (by omega) (by omega) (by omega) (by omega) hk (fun t a b => by omega) (fun t a b => by omega)
  have e : ((firstTrue (fun i => p (lo0 + 1 + (i : Int))) N : Nat) : Int) = r - lo0 - 1 := by
    rw [firstTrue_unique _ N (r - lo0 - 1).toNat (by omega) (fun t ht => h4 _ (by omega) (by omega)) (fun t ht hn => h5 _ (by omega) (by omega))]
    omega
  rw [h1, e]
  congr 2 <;> omega
theorem cell_new1 (W : World) (v : Value) (t : TypeId) : (W.alloc (.cells #[v] t)).cell? ⟨W.heap.size, 0, none⟩ = some v := by simp
theorem cell_kept {W : World} {a : Addr} {v : Value} (o : Obj) (h : W.cell? a = some v) : (W.alloc o).cell? a = some v := pw_cell_below (below_alloc (Below.refl _ _) _) h
theorem held_keep {W w1 w2 : World} {a : Addr} {v : Value} (h : w1.cell? a = some v ∧ Below W.heap.size W w1) (hb : Below w1.heap.size w1 w2) : w2.cell? a = some v ∧ Below W.heap.size W w2 :=
  ⟨pw_cell_below hb h.1, below_then h.2 h.2.size hb⟩
/-- When a pipe is valid. -/
def pipeOk (s : ByteArray) (f t l d x : Int) : Bool := nameOk s && (decide (0 ≤ f ∧ f ≤ 15) && (decide (0 ≤ t ∧ t ≤ 15) && (!decide (f = t) && (decide (1 ≤ l ∧ l ≤ 10000) && (decide (20 ≤ d ∧ d ≤ 1000) && decide (0 ≤ x ∧ x ≤ 5000))))))
-- TABLES (by gentab.py)
def densI (t : Int) : Int := if t < 2000 then lineI 0 99984 2000 99820 t else if t < 4000 then lineI 2000 99820 4000 99220 t else if t < 6000 then lineI 4000 99220 6000 98320 t else if t < 8000 then lineI 6000 98320 8000 97180 t else if t < 10000 then lineI 8000 97180 10000 95835 t else if t < 12000 then lineI 10000 95835 12000 94310 t else if t < 14000 then lineI 12000 94310 14000 92610 t else if t < 16000 then lineI 14000 92610 16000 90745 t else lineI 16000 90745 18000 88700 t
theorem dens_at0 {t : Int} (h1 : t < 2000) : densI t = lineI 0 99984 2000 99820 t := by
  unfold densI
  rw [if_pos h1]
theorem dens_at1 {t : Int} (h0 : 2000 ≤ t) (h1 : t < 4000) : densI t = lineI 2000 99820 4000 99220 t := by
  unfold densI
  rw [if_neg (show ¬ t < 2000 by omega), if_pos h1]
theorem dens_at2 {t : Int} (h0 : 4000 ≤ t) (h1 : t < 6000) : densI t = lineI 4000 99220 6000 98320 t := by
  unfold densI
  rw [if_neg (show ¬ t < 2000 by omega), if_neg (show ¬ t < 4000 by omega), if_pos h1]
theorem dens_at3 {t : Int} (h0 : 6000 ≤ t) (h1 : t < 8000) : densI t = lineI 6000 98320 8000 97180 t := by
  unfold densI
  rw [if_neg (show ¬ t < 2000 by omega), if_neg (show ¬ t < 4000 by omega), if_neg (show ¬ t < 6000 by omega), if_pos h1]
theorem dens_at4 {t : Int} (h0 : 8000 ≤ t) (h1 : t < 10000) : densI t = lineI 8000 97180 10000 95835 t := by
  unfold densI
  rw [if_neg (show ¬ t < 2000 by omega), if_neg (show ¬ t < 4000 by omega), if_neg (show ¬ t < 6000 by omega), if_neg (show ¬ t < 8000 by omega), if_pos h1]
theorem dens_at5 {t : Int} (h0 : 10000 ≤ t) (h1 : t < 12000) : densI t = lineI 10000 95835 12000 94310 t := by
  unfold densI
  rw [if_neg (show ¬ t < 2000 by omega), if_neg (show ¬ t < 4000 by omega), if_neg (show ¬ t < 6000 by omega), if_neg (show ¬ t < 8000 by omega), if_neg (show ¬ t < 10000 by omega), if_pos h1]
theorem dens_at6 {t : Int} (h0 : 12000 ≤ t) (h1 : t < 14000) : densI t = lineI 12000 94310 14000 92610 t := by
  unfold densI
  rw [if_neg (show ¬ t < 2000 by omega), if_neg (show ¬ t < 4000 by omega), if_neg (show ¬ t < 6000 by omega), if_neg (show ¬ t < 8000 by omega), if_neg (show ¬ t < 10000 by omega), if_neg (show ¬ t < 12000 by omega), if_pos h1]
theorem dens_at7 {t : Int} (h0 : 14000 ≤ t) (h1 : t < 16000) : densI t = lineI 14000 92610 16000 90745 t := by
  unfold densI
  rw [if_neg (show ¬ t < 2000 by omega), if_neg (show ¬ t < 4000 by omega), if_neg (show ¬ t < 6000 by omega), if_neg (show ¬ t < 8000 by omega), if_neg (show ¬ t < 10000 by omega), if_neg (show ¬ t < 12000 by omega), if_neg (show ¬ t < 14000 by omega), if_pos h1]
theorem dens_at8 {t : Int} (h0 : 16000 ≤ t) : densI t = lineI 16000 90745 18000 88700 t := by
  unfold densI
  rw [if_neg (show ¬ t < 2000 by omega), if_neg (show ¬ t < 4000 by omega), if_neg (show ¬ t < 6000 by omega), if_neg (show ¬ t < 8000 by omega), if_neg (show ¬ t < 10000 by omega), if_neg (show ¬ t < 12000 by omega), if_neg (show ¬ t < 14000 by omega), if_neg (show ¬ t < 16000 by omega)]
theorem dens_to0 {t : Int} (h1 : t ≤ 2000) : densI t = lineI 0 99984 2000 99820 t := by
  by_cases c : t = 2000
  · subst c
    rw [dens_at1 (t := 2000) (by omega) (by omega)]
    simp [lineI]
  · exact dens_at0 (by omega)
theorem dens_to1 {t : Int} (h0 : 2000 < t) (h1 : t ≤ 4000) : densI t = lineI 2000 99820 4000 99220 t := by
  by_cases c : t = 4000
  · subst c
    rw [dens_at2 (t := 4000) (by omega) (by omega)]
    simp [lineI]
  · exact dens_at1 (by omega) (by omega)
theorem dens_to2 {t : Int} (h0 : 4000 < t) (h1 : t ≤ 6000) : densI t = lineI 4000 99220 6000 98320 t := by
  by_cases c : t = 6000
  · subst c
    rw [dens_at3 (t := 6000) (by omega) (by omega)]
    simp [lineI]
  · exact dens_at2 (by omega) (by omega)
theorem dens_to3 {t : Int} (h0 : 6000 < t) (h1 : t ≤ 8000) : densI t = lineI 6000 98320 8000 97180 t := by
  by_cases c : t = 8000
  · subst c
    rw [dens_at4 (t := 8000) (by omega) (by omega)]
    simp [lineI]
  · exact dens_at3 (by omega) (by omega)
theorem dens_to4 {t : Int} (h0 : 8000 < t) (h1 : t ≤ 10000) : densI t = lineI 8000 97180 10000 95835 t := by
  by_cases c : t = 10000
  · subst c
    rw [dens_at5 (t := 10000) (by omega) (by omega)]
    simp [lineI]
  · exact dens_at4 (by omega) (by omega)
theorem dens_to5 {t : Int} (h0 : 10000 < t) (h1 : t ≤ 12000) : densI t = lineI 10000 95835 12000 94310 t := by
  by_cases c : t = 12000
  · subst c
    rw [dens_at6 (t := 12000) (by omega) (by omega)]
    simp [lineI]
  · exact dens_at5 (by omega) (by omega)
theorem dens_to6 {t : Int} (h0 : 12000 < t) (h1 : t ≤ 14000) : densI t = lineI 12000 94310 14000 92610 t := by
  by_cases c : t = 14000
  · subst c
    rw [dens_at7 (t := 14000) (by omega) (by omega)]
    simp [lineI]
  · exact dens_at6 (by omega) (by omega)
theorem dens_to7 {t : Int} (h0 : 14000 < t) (h1 : t ≤ 16000) : densI t = lineI 14000 92610 16000 90745 t := by
  by_cases c : t = 16000
  · subst c
    rw [dens_at8 (t := 16000) (by omega)]
    simp [lineI]
  · exact dens_at7 (by omega) (by omega)
theorem dens_to8 {t : Int} (h0 : 16000 < t) : densI t = lineI 16000 90745 18000 88700 t := dens_at8 (by omega)
def boilI (p : Int) : Int := if p < 2000 then lineI 1000 700 2000 1750 p else if p < 10000 then lineI 2000 1750 10000 4580 p else if p < 50000 then lineI 10000 4580 50000 8135 p else if p < 101325 then lineI 50000 8135 101325 9961 p else if p < 200000 then lineI 101325 9961 200000 12023 p else if p < 400000 then lineI 200000 12023 400000 14361 p else if p < 600000 then lineI 400000 14361 600000 15883 p else if p < 1000000 then lineI 600000 15883 1000000 17988 p else lineI 1000000 17988 1200000 18796 p
theorem boil_at0 {p : Int} (h1 : p < 2000) : boilI p = lineI 1000 700 2000 1750 p := by
  unfold boilI
  rw [if_pos h1]
theorem boil_at1 {p : Int} (h0 : 2000 ≤ p) (h1 : p < 10000) : boilI p = lineI 2000 1750 10000 4580 p := by
  unfold boilI
  rw [if_neg (show ¬ p < 2000 by omega), if_pos h1]
theorem boil_at2 {p : Int} (h0 : 10000 ≤ p) (h1 : p < 50000) : boilI p = lineI 10000 4580 50000 8135 p := by
  unfold boilI
  rw [if_neg (show ¬ p < 2000 by omega), if_neg (show ¬ p < 10000 by omega), if_pos h1]
theorem boil_at3 {p : Int} (h0 : 50000 ≤ p) (h1 : p < 101325) : boilI p = lineI 50000 8135 101325 9961 p := by
  unfold boilI
  rw [if_neg (show ¬ p < 2000 by omega), if_neg (show ¬ p < 10000 by omega), if_neg (show ¬ p < 50000 by omega), if_pos h1]
theorem boil_at4 {p : Int} (h0 : 101325 ≤ p) (h1 : p < 200000) : boilI p = lineI 101325 9961 200000 12023 p := by
  unfold boilI
  rw [if_neg (show ¬ p < 2000 by omega), if_neg (show ¬ p < 10000 by omega), if_neg (show ¬ p < 50000 by omega), if_neg (show ¬ p < 101325 by omega), if_pos h1]
theorem boil_at5 {p : Int} (h0 : 200000 ≤ p) (h1 : p < 400000) : boilI p = lineI 200000 12023 400000 14361 p := by
  unfold boilI
  rw [if_neg (show ¬ p < 2000 by omega), if_neg (show ¬ p < 10000 by omega), if_neg (show ¬ p < 50000 by omega), if_neg (show ¬ p < 101325 by omega), if_neg (show ¬ p < 200000 by omega), if_pos h1]
theorem boil_at6 {p : Int} (h0 : 400000 ≤ p) (h1 : p < 600000) : boilI p = lineI 400000 14361 600000 15883 p := by
  unfold boilI
  rw [if_neg (show ¬ p < 2000 by omega), if_neg (show ¬ p < 10000 by omega), if_neg (show ¬ p < 50000 by omega), if_neg (show ¬ p < 101325 by omega), if_neg (show ¬ p < 200000 by omega), if_neg (show ¬ p < 400000 by omega), if_pos h1]
theorem boil_at7 {p : Int} (h0 : 600000 ≤ p) (h1 : p < 1000000) : boilI p = lineI 600000 15883 1000000 17988 p := by
  unfold boilI
  rw [if_neg (show ¬ p < 2000 by omega), if_neg (show ¬ p < 10000 by omega), if_neg (show ¬ p < 50000 by omega), if_neg (show ¬ p < 101325 by omega), if_neg (show ¬ p < 200000 by omega), if_neg (show ¬ p < 400000 by omega), if_neg (show ¬ p < 600000 by omega), if_pos h1]
theorem boil_at8 {p : Int} (h0 : 1000000 ≤ p) : boilI p = lineI 1000000 17988 1200000 18796 p := by
  unfold boilI
  rw [if_neg (show ¬ p < 2000 by omega), if_neg (show ¬ p < 10000 by omega), if_neg (show ¬ p < 50000 by omega), if_neg (show ¬ p < 101325 by omega), if_neg (show ¬ p < 200000 by omega), if_neg (show ¬ p < 400000 by omega), if_neg (show ¬ p < 600000 by omega), if_neg (show ¬ p < 1000000 by omega)]
theorem boil_to0 {p : Int} (h1 : p ≤ 2000) : boilI p = lineI 1000 700 2000 1750 p := by
  by_cases c : p = 2000
  · subst c
    rw [boil_at1 (p := 2000) (by omega) (by omega)]
    simp [lineI]
  · exact boil_at0 (by omega)
theorem boil_to1 {p : Int} (h0 : 2000 < p) (h1 : p ≤ 10000) : boilI p = lineI 2000 1750 10000 4580 p := by
  by_cases c : p = 10000
  · subst c
    rw [boil_at2 (p := 10000) (by omega) (by omega)]
    simp [lineI]
  · exact boil_at1 (by omega) (by omega)
theorem boil_to2 {p : Int} (h0 : 10000 < p) (h1 : p ≤ 50000) : boilI p = lineI 10000 4580 50000 8135 p := by
  by_cases c : p = 50000
  · subst c
    rw [boil_at3 (p := 50000) (by omega) (by omega)]
    simp [lineI]
  · exact boil_at2 (by omega) (by omega)
theorem boil_to3 {p : Int} (h0 : 50000 < p) (h1 : p ≤ 101325) : boilI p = lineI 50000 8135 101325 9961 p := by
  by_cases c : p = 101325
  · subst c
    rw [boil_at4 (p := 101325) (by omega) (by omega)]
    simp [lineI]
  · exact boil_at3 (by omega) (by omega)
theorem boil_to4 {p : Int} (h0 : 101325 < p) (h1 : p ≤ 200000) : boilI p = lineI 101325 9961 200000 12023 p := by
  by_cases c : p = 200000
  · subst c
    rw [boil_at5 (p := 200000) (by omega) (by omega)]
    simp [lineI]
  · exact boil_at4 (by omega) (by omega)
theorem boil_to5 {p : Int} (h0 : 200000 < p) (h1 : p ≤ 400000) : boilI p = lineI 200000 12023 400000 14361 p := by
  by_cases c : p = 400000
  · subst c
    rw [boil_at6 (p := 400000) (by omega) (by omega)]
    simp [lineI]
  · exact boil_at5 (by omega) (by omega)
theorem boil_to6 {p : Int} (h0 : 400000 < p) (h1 : p ≤ 600000) : boilI p = lineI 400000 14361 600000 15883 p := by
  by_cases c : p = 600000
  · subst c
    rw [boil_at7 (p := 600000) (by omega) (by omega)]
    simp [lineI]
  · exact boil_at6 (by omega) (by omega)
theorem boil_to7 {p : Int} (h0 : 600000 < p) (h1 : p ≤ 1000000) : boilI p = lineI 600000 15883 1000000 17988 p := by
  by_cases c : p = 1000000
  · subst c
    rw [boil_at8 (p := 1000000) (by omega)]
    simp [lineI]
  · exact boil_at7 (by omega) (by omega)
theorem boil_to8 {p : Int} (h0 : 1000000 < p) : boilI p = lineI 1000000 17988 1200000 18796 p := boil_at8 (by omega)
/-- On a line between two points a number lies between theirs. -/
theorem rdiv_down {n d y : Int} (hd : 0 < d) (hn : n ≤ 0) (hy : y ≤ 0) (h : y * d ≤ n) : y ≤ rdiv n d ∧ rdiv n d ≤ 0 := by
  unfold rdiv rdivp
  rw [if_neg (by omega)]
  by_cases c : n < 0
  · rw [if_pos c]
    have h1 : 0 ≤ (d - 2 * n) / (2 * d) := Int.ediv_nonneg (by omega) (by omega)
    have h2 : (d - 2 * n) / (2 * d) < -y + 1 := Int.ediv_lt_of_lt_mul (by omega) (by
      have e : (-y + 1) * (2 * d) = -(2 * (y * d)) + 2 * d := by rw [Int.add_mul, Int.neg_mul, Int.mul_left_comm]; omega
      omega)
    omega
  · obtain rfl : n = 0 := by omega
    rw [if_neg c, Int.ediv_eq_zero_of_lt (by omega) (by omega)]
    omega
theorem line_down {x0 y0 x1 y1 x : Int} (hx : x0 < x1) (hy : y1 ≤ y0) : y1 ≤ lineI x0 y0 x1 y1 x ∧ lineI x0 y0 x1 y1 x ≤ y0 := by
  unfold lineI
  split
  · omega
  · split
    · omega
    · have h1 : (y1 - y0) * (x1 - x0) ≤ (y1 - y0) * (x - x0) := Int.mul_le_mul_of_nonpos_left (by omega) (by omega)
      have h2 : (y1 - y0) * (x - x0) ≤ 0 := Int.mul_nonpos_of_nonpos_of_nonneg (by omega) (by omega)
      have := rdiv_down (n := (y1 - y0) * (x - x0)) (d := x1 - x0) (y := y1 - y0) (by omega) h2 (by omega) h1
      omega
theorem dens_range (t : Int) (h1 : 0 ≤ t) (h2 : t ≤ 18000) : 88700 ≤ densI t ∧ densI t ≤ 99984 := by
  by_cases c0 : t < 2000
  · rw [dens_at0 (by omega)]; have := line_down (x0 := 0) (y0 := 99984) (x1 := 2000) (y1 := 99820) (x := t) (by omega) (by omega); omega
  by_cases c1 : t < 4000
  · rw [dens_at1 (by omega) (by omega)]; have := line_down (x0 := 2000) (y0 := 99820) (x1 := 4000) (y1 := 99220) (x := t) (by omega) (by omega); omega
  by_cases c2 : t < 6000
  · rw [dens_at2 (by omega) (by omega)]; have := line_down (x0 := 4000) (y0 := 99220) (x1 := 6000) (y1 := 98320) (x := t) (by omega) (by omega); omega
  by_cases c3 : t < 8000
  · rw [dens_at3 (by omega) (by omega)]; have := line_down (x0 := 6000) (y0 := 98320) (x1 := 8000) (y1 := 97180) (x := t) (by omega) (by omega); omega
  by_cases c4 : t < 10000
  · rw [dens_at4 (by omega) (by omega)]; have := line_down (x0 := 8000) (y0 := 97180) (x1 := 10000) (y1 := 95835) (x := t) (by omega) (by omega); omega
  by_cases c5 : t < 12000
  · rw [dens_at5 (by omega) (by omega)]; have := line_down (x0 := 10000) (y0 := 95835) (x1 := 12000) (y1 := 94310) (x := t) (by omega) (by omega); omega
  by_cases c6 : t < 14000
  · rw [dens_at6 (by omega) (by omega)]; have := line_down (x0 := 12000) (y0 := 94310) (x1 := 14000) (y1 := 92610) (x := t) (by omega) (by omega); omega
  by_cases c7 : t < 16000
  · rw [dens_at7 (by omega) (by omega)]; have := line_down (x0 := 14000) (y0 := 92610) (x1 := 16000) (y1 := 90745) (x := t) (by omega) (by omega); omega
  · rw [dens_at8 (by omega)]; have := line_down (x0 := 16000) (y0 := 90745) (x1 := 18000) (y1 := 88700) (x := t) (by omega) (by omega); omega
theorem rdiv_mono {a b d : Int} (hd : 0 < d) (h : a ≤ b) : rdiv a d ≤ rdiv b d := by
  unfold rdiv rdivp
  simp only [if_neg (show ¬ d < 0 by omega)]
  by_cases c : a < 0
  · rw [if_pos c]
    have h1 : 0 ≤ (d - 2 * a) / (2 * d) := Int.ediv_nonneg (by omega) (by omega)
    by_cases c' : b < 0
    · rw [if_pos c']
      have := Int.ediv_le_ediv (c := 2 * d) (by omega) (show d - 2 * b ≤ d - 2 * a by omega)
      omega
    · rw [if_neg c']
      have h2 : 0 ≤ (2 * b + d) / (2 * d) := Int.ediv_nonneg (by omega) (by omega)
      omega
  · rw [if_neg c, if_neg (by omega)]
    exact Int.ediv_le_ediv (by omega) (by omega)
theorem rdiv_whole (q d : Int) (hd : 0 < d) : rdiv (q * d) d = q := by
  unfold rdiv rdivp
  rw [if_neg (by omega)]
  by_cases c : q * d < 0
  · rw [if_pos c]
    have e : d - 2 * (q * d) = d + 2 * d * (-q) := by rw [Int.mul_neg, Int.mul_assoc, Int.mul_comm d q]; omega
    rw [e, Int.add_mul_ediv_left _ _ (by omega), Int.ediv_eq_zero_of_lt (by omega) (by omega)]; omega
  · rw [if_neg c]
    have e : 2 * (q * d) + d = d + 2 * d * q := by rw [Int.mul_assoc, Int.mul_comm d q]; omega
    rw [e, Int.add_mul_ediv_left _ _ (by omega), Int.ediv_eq_zero_of_lt (by omega) (by omega)]; omega
theorem line_up {x0 y0 x1 y1 x : Int} (hx : x0 < x1) (hy : y0 ≤ y1) : y0 ≤ lineI x0 y0 x1 y1 x ∧ lineI x0 y0 x1 y1 x ≤ y1 := by
  unfold lineI
  split
  · omega
  · split
    · omega
    · have h1 : (y1 - y0) * (x - x0) ≤ (y1 - y0) * (x1 - x0) := Int.mul_le_mul_of_nonneg_left (by omega) (by omega)
      have h2 : 0 ≤ (y1 - y0) * (x - x0) := Int.mul_nonneg (by omega) (by omega)
      have h3 := rdiv_mono (d := x1 - x0) (by omega) h1
      have h4 := rdiv_mono (d := x1 - x0) (by omega) h2
      rw [rdiv_whole _ _ (by omega)] at h3
      have h5 : rdiv 0 (x1 - x0) = 0 := by have := rdiv_whole 0 (x1 - x0) (by omega); rwa [Int.zero_mul] at this
      omega
theorem line_mono {x0 y0 x1 y1 a b : Int} (hx : x0 < x1) (hy : y0 ≤ y1) (h : a ≤ b) : lineI x0 y0 x1 y1 a ≤ lineI x0 y0 x1 y1 b := by
  have ua := line_up (x := a) hx hy
  have ub := line_up (x := b) hx hy
  by_cases c1 : a ≤ x0 ∨ x1 ≤ x0
  · have : lineI x0 y0 x1 y1 a = y0 := by unfold lineI; rw [if_pos c1]
    omega
  · by_cases c2 : x1 ≤ b
    · have : lineI x0 y0 x1 y1 b = y1 := by unfold lineI; rw [if_neg (by omega), if_pos c2]
      omega
    · unfold lineI
      rw [if_neg c1, if_neg (by omega), if_neg (by omega), if_neg c2]
      have := rdiv_mono (d := x1 - x0) (by omega) (Int.mul_le_mul_of_nonneg_left (show a - x0 ≤ b - x0 by omega) (show 0 ≤ y1 - y0 by omega))
      omega
theorem boil_ge8 {p : Int} (h : 1000000 ≤ p) : 17988 ≤ boilI p := by
  rw [boil_at8 (by omega)]; exact (line_up (x0 := 1000000) (y0 := 17988) (x1 := 1200000) (y1 := 18796) (x := p) (by omega) (by omega)).1
theorem boil_ge7 {p : Int} (h : 600000 ≤ p) : 15883 ≤ boilI p := by
  by_cases c : p < 1000000
  · rw [boil_at7 (by omega) (by omega)]; exact (line_up (x0 := 600000) (y0 := 15883) (x1 := 1000000) (y1 := 17988) (x := p) (by omega) (by omega)).1
  · have := boil_ge8 (p := p) (by omega); omega
theorem boil_ge6 {p : Int} (h : 400000 ≤ p) : 14361 ≤ boilI p := by
  by_cases c : p < 600000
  · rw [boil_at6 (by omega) (by omega)]; exact (line_up (x0 := 400000) (y0 := 14361) (x1 := 600000) (y1 := 15883) (x := p) (by omega) (by omega)).1
  · have := boil_ge7 (p := p) (by omega); omega
theorem boil_ge5 {p : Int} (h : 200000 ≤ p) : 12023 ≤ boilI p := by
  by_cases c : p < 400000
  · rw [boil_at5 (by omega) (by omega)]; exact (line_up (x0 := 200000) (y0 := 12023) (x1 := 400000) (y1 := 14361) (x := p) (by omega) (by omega)).1
  · have := boil_ge6 (p := p) (by omega); omega
theorem boil_ge4 {p : Int} (h : 101325 ≤ p) : 9961 ≤ boilI p := by
  by_cases c : p < 200000
  · rw [boil_at4 (by omega) (by omega)]; exact (line_up (x0 := 101325) (y0 := 9961) (x1 := 200000) (y1 := 12023) (x := p) (by omega) (by omega)).1
  · have := boil_ge5 (p := p) (by omega); omega
theorem boil_ge3 {p : Int} (h : 50000 ≤ p) : 8135 ≤ boilI p := by
  by_cases c : p < 101325
  · rw [boil_at3 (by omega) (by omega)]; exact (line_up (x0 := 50000) (y0 := 8135) (x1 := 101325) (y1 := 9961) (x := p) (by omega) (by omega)).1
  · have := boil_ge4 (p := p) (by omega); omega
theorem boil_ge2 {p : Int} (h : 10000 ≤ p) : 4580 ≤ boilI p := by
  by_cases c : p < 50000
  · rw [boil_at2 (by omega) (by omega)]; exact (line_up (x0 := 10000) (y0 := 4580) (x1 := 50000) (y1 := 8135) (x := p) (by omega) (by omega)).1
  · have := boil_ge3 (p := p) (by omega); omega
theorem boil_ge1 {p : Int} (h : 2000 ≤ p) : 1750 ≤ boilI p := by
  by_cases c : p < 10000
  · rw [boil_at1 (by omega) (by omega)]; exact (line_up (x0 := 2000) (y0 := 1750) (x1 := 10000) (y1 := 4580) (x := p) (by omega) (by omega)).1
  · have := boil_ge2 (p := p) (by omega); omega
theorem boil_ge0 {p : Int} (h : 1000 ≤ p) : 700 ≤ boilI p := by
  by_cases c : p < 2000
  · rw [boil_at0 (by omega)]; exact (line_up (x0 := 1000) (y0 := 700) (x1 := 2000) (y1 := 1750) (x := p) (by omega) (by omega)).1
  · have := boil_ge1 (p := p) (by omega); omega
theorem boil_mono {a b : Int} (h0 : 1000 ≤ a) (h : a ≤ b) : boilI a ≤ boilI b := by
  by_cases a0 : a < 2000
  · rw [boil_at0 (by omega)]
    by_cases c : b < 2000
    · rw [boil_at0 (by omega)]; exact line_mono (by omega) (by omega) h
    · have := boil_ge1 (p := b) (by omega); have := line_up (x0 := 1000) (y0 := 700) (x1 := 2000) (y1 := 1750) (x := a) (by omega) (by omega); omega
  by_cases a1 : a < 10000
  · rw [boil_at1 (by omega) (by omega)]
    by_cases c : b < 10000
    · rw [boil_at1 (by omega) (by omega)]; exact line_mono (by omega) (by omega) h
    · have := boil_ge2 (p := b) (by omega); have := line_up (x0 := 2000) (y0 := 1750) (x1 := 10000) (y1 := 4580) (x := a) (by omega) (by omega); omega
  by_cases a2 : a < 50000
  · rw [boil_at2 (by omega) (by omega)]
    by_cases c : b < 50000
    · rw [boil_at2 (by omega) (by omega)]; exact line_mono (by omega) (by omega) h
    · have := boil_ge3 (p := b) (by omega); have := line_up (x0 := 10000) (y0 := 4580) (x1 := 50000) (y1 := 8135) (x := a) (by omega) (by omega); omega
  by_cases a3 : a < 101325
  · rw [boil_at3 (by omega) (by omega)]
    by_cases c : b < 101325
    · rw [boil_at3 (by omega) (by omega)]; exact line_mono (by omega) (by omega) h
    · have := boil_ge4 (p := b) (by omega); have := line_up (x0 := 50000) (y0 := 8135) (x1 := 101325) (y1 := 9961) (x := a) (by omega) (by omega); omega
  by_cases a4 : a < 200000
  · rw [boil_at4 (by omega) (by omega)]
    by_cases c : b < 200000
    · rw [boil_at4 (by omega) (by omega)]; exact line_mono (by omega) (by omega) h
    · have := boil_ge5 (p := b) (by omega); have := line_up (x0 := 101325) (y0 := 9961) (x1 := 200000) (y1 := 12023) (x := a) (by omega) (by omega); omega
  by_cases a5 : a < 400000
  · rw [boil_at5 (by omega) (by omega)]
    by_cases c : b < 400000
    · rw [boil_at5 (by omega) (by omega)]; exact line_mono (by omega) (by omega) h
    · have := boil_ge6 (p := b) (by omega); have := line_up (x0 := 200000) (y0 := 12023) (x1 := 400000) (y1 := 14361) (x := a) (by omega) (by omega); omega
  by_cases a6 : a < 600000
  · rw [boil_at6 (by omega) (by omega)]
    by_cases c : b < 600000
    · rw [boil_at6 (by omega) (by omega)]; exact line_mono (by omega) (by omega) h
    · have := boil_ge7 (p := b) (by omega); have := line_up (x0 := 400000) (y0 := 14361) (x1 := 600000) (y1 := 15883) (x := a) (by omega) (by omega); omega
  by_cases a7 : a < 1000000
  · rw [boil_at7 (by omega) (by omega)]
    by_cases c : b < 1000000
    · rw [boil_at7 (by omega) (by omega)]; exact line_mono (by omega) (by omega) h
    · have := boil_ge8 (p := b) (by omega); have := line_up (x0 := 600000) (y0 := 15883) (x1 := 1000000) (y1 := 17988) (x := a) (by omega) (by omega); omega
  · rw [boil_at8 (by omega), boil_at8 (by omega)]; exact line_mono (by omega) (by omega) h
theorem boil_range (p : Int) (h : 1000 ≤ p) : 700 ≤ boilI p ∧ boilI p ≤ 18796 := by
  refine ⟨boil_ge0 h, ?_⟩
  by_cases c0 : p < 2000
  · rw [boil_at0 (by omega)]; have := (line_up (x0 := 1000) (y0 := 700) (x1 := 2000) (y1 := 1750) (x := p) (by omega) (by omega)).2; omega
  by_cases c1 : p < 10000
  · rw [boil_at1 (by omega) (by omega)]; have := (line_up (x0 := 2000) (y0 := 1750) (x1 := 10000) (y1 := 4580) (x := p) (by omega) (by omega)).2; omega
  by_cases c2 : p < 50000
  · rw [boil_at2 (by omega) (by omega)]; have := (line_up (x0 := 10000) (y0 := 4580) (x1 := 50000) (y1 := 8135) (x := p) (by omega) (by omega)).2; omega
  by_cases c3 : p < 101325
  · rw [boil_at3 (by omega) (by omega)]; have := (line_up (x0 := 50000) (y0 := 8135) (x1 := 101325) (y1 := 9961) (x := p) (by omega) (by omega)).2; omega
  by_cases c4 : p < 200000
  · rw [boil_at4 (by omega) (by omega)]; have := (line_up (x0 := 101325) (y0 := 9961) (x1 := 200000) (y1 := 12023) (x := p) (by omega) (by omega)).2; omega
  by_cases c5 : p < 400000
  · rw [boil_at5 (by omega) (by omega)]; have := (line_up (x0 := 200000) (y0 := 12023) (x1 := 400000) (y1 := 14361) (x := p) (by omega) (by omega)).2; omega
  by_cases c6 : p < 600000
  · rw [boil_at6 (by omega) (by omega)]; have := (line_up (x0 := 400000) (y0 := 14361) (x1 := 600000) (y1 := 15883) (x := p) (by omega) (by omega)).2; omega
  by_cases c7 : p < 1000000
  · rw [boil_at7 (by omega) (by omega)]; have := (line_up (x0 := 600000) (y0 := 15883) (x1 := 1000000) (y1 := 17988) (x := p) (by omega) (by omega)).2; omega
  · rw [boil_at8 (by omega)]; have := (line_up (x0 := 1000000) (y0 := 17988) (x1 := 1200000) (y1 := 18796) (x := p) (by omega) (by omega)).2; omega
/-- The power that a flow gives off. -/
def powerI (q a b : Int) : Int := rdiv (q * 4186 * (a - b)) 100000
theorem power_mono {a b p q : Int} (h : b ≤ a) (hq : p ≤ q) : powerI p a b ≤ powerI q a b :=
  rdiv_mono (by omega) (Int.mul_le_mul_of_nonneg_right (by omega) (by omega))
theorem power_num {q a b : Int} (h0 : 0 ≤ q) (h1 : q ≤ 100000) (h2 : 0 ≤ a - b) (h3 : a - b ≤ 18000) : 0 ≤ q * 4186 * (a - b) ∧ q * 4186 * (a - b) ≤ 7534800000000 := by
  have := mulb (a := q * 4186) (b := a - b) 418600000 18000 (by omega) (by omega) (by omega) (by omega)
  have := Int.mul_nonneg (show 0 ≤ q * 4186 by omega) h2
  omega
theorem alloc_new_ (w : World) (o : Obj) : (w.alloc o).heap[w.heap.size]? = some o := by rw [← World.alloc_eq]; simp
theorem alloc_two (w : World) (A B : Obj) : ((w.alloc A).alloc B).heap[w.heap.size + 1]? = some B := by
  have : (w.alloc A).heap.size = w.heap.size + 1 := by simp
  rw [← this]; exact alloc_new_ _ _
end Go.Proofs.YtabgkdejpkpejaaDoorM
