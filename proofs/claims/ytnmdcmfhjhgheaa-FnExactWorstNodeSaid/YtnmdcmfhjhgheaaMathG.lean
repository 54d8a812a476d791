/- Plain laws on graphs of numbers: what is joined, labels of parts, counting parts. No program in sight. No condition. -/
import Derived.Test.YtnmdcmfhjhgheaaMath
namespace Go.Proofs.YtnmdcmfhjhgheaaM
set_option linter.unusedVariables false
set_option linter.unusedSimpArgs false
inductive Conn (E : Int → Int → Prop) (x : Int) : Int → Prop
  | refl : Conn E x x
  | step {y z : Int} : Conn E x y → E y z → Conn E x z
theorem Conn.trans {E : Int → Int → Prop} {x y z : Int} (h : Conn E x y) (h' : Conn E y z) : Conn E x z := by
  induction h' with
  | refl => exact h
  | step _ e ih => exact ih.step e
theorem Conn.one {E : Int → Int → Prop} {x y : Int} (h : E x y) : Conn E x y := .step .refl h
theorem Conn.symm {E : Int → Int → Prop} (hs : ∀ x y, E x y → E y x) {x y : Int} (h : Conn E x y) : Conn E y x := by
  induction h with
  | refl => exact .refl
  | step _ e ih => exact (Conn.one (hs _ _ e)).trans ih
theorem Conn.mono {E F : Int → Int → Prop} (h : ∀ x y, E x y → F x y) {x y : Int} (c : Conn E x y) : Conn F x y := by
  induction c with
  | refl => exact .refl
  | step _ e ih => exact ih.step (h _ _ e)
theorem Conn.over {E F : Int → Int → Prop} (h : ∀ x y, E x y → Conn F x y) {x y : Int} (c : Conn E x y) : Conn F x y := by
  induction c with
  | refl => exact .refl
  | step _ e ih => exact ih.trans (h _ _ e)
theorem Conn.none {E : Int → Int → Prop} (h : ∀ x y, ¬ E x y) {x y : Int} (c : Conn E x y) : x = y := by
  induction c with
  | refl => rfl
  | step _ e _ => exact absurd e (h _ _)
def addE (E : Int → Int → Prop) (a b x y : Int) : Prop := E x y ∨ (x = a ∧ y = b) ∨ (x = b ∧ y = a)
theorem conn_add {E : Int → Int → Prop} {a b x y : Int} : Conn (addE E a b) x y ↔ Conn E x y ∨ (Conn E x a ∧ Conn E b y) ∨ (Conn E x b ∧ Conn E a y) := by
  constructor
  · intro h
    induction h with
    | refl => exact .inl .refl
    | step _ e ih =>
      rcases e with e | ⟨rfl, rfl⟩ | ⟨rfl, rfl⟩
      · rcases ih with h | ⟨h1, h2⟩ | ⟨h1, h2⟩
        · exact .inl (h.step e)
        · exact .inr (.inl ⟨h1, h2.step e⟩)
        · exact .inr (.inr ⟨h1, h2.step e⟩)
      · rcases ih with h | ⟨h1, h2⟩ | ⟨h1, h2⟩
        · exact .inr (.inl ⟨h, .refl⟩)
        · exact .inr (.inl ⟨h1, .refl⟩)
        · exact .inl h1
      · rcases ih with h | ⟨h1, h2⟩ | ⟨h1, h2⟩
        · exact .inr (.inr ⟨h, .refl⟩)
        · exact .inl h1
        · exact .inr (.inr ⟨h1, .refl⟩)
  · have hm : ∀ {u v : Int}, Conn E u v → Conn (addE E a b) u v := fun h => h.mono fun _ _ e => .inl e
    rintro (h | ⟨h1, h2⟩ | ⟨h1, h2⟩)
    · exact hm h
    · exact ((hm h1).step (.inr (.inl ⟨rfl, rfl⟩))).trans (hm h2)
    · exact ((hm h1).step (.inr (.inr ⟨rfl, rfl⟩))).trans (hm h2)
theorem conn_add_old {E : Int → Int → Prop} (hs : ∀ x y, E x y → E y x) {a b x y : Int} (h : Conn E a b) : Conn (addE E a b) x y ↔ Conn E x y := by
  rw [conn_add]
  constructor
  · rintro (c | ⟨h1, h2⟩ | ⟨h1, h2⟩)
    · exact c
    · exact (h1.trans h).trans h2
    · exact (h1.trans (h.symm hs)).trans h2
  · exact .inl
theorem conn_congr {E F : Int → Int → Prop} (h : ∀ x y, E x y ↔ F x y) {x y : Int} : Conn E x y ↔ Conn F x y :=
  ⟨fun c => c.mono fun _ _ e => (h _ _).1 e, fun c => c.mono fun _ _ e => (h _ _).2 e⟩
abbrev lb (out : List Int) (x : Int) : Int := out.getD x.toNat 0
def relab (out : List Int) (H L : Int) : List Int := out.map fun v => if v = H then L else v
theorem relab_length (out : List Int) (H L : Int) : (relab out H L).length = out.length := by unfold relab; simp
theorem lb_relab {out : List Int} {H L x : Int} (h0 : 0 ≤ x) (h : x < out.length) : lb (relab out H L) x = if lb out x = H then L else lb out x := by
  unfold lb relab
  have hx : x.toNat < out.length := by omega
  simp only [List.getD_eq_getElem?_getD, List.getElem?_map, List.getElem?_eq_getElem hx, Option.map_some, Option.getD_some]
structure Lab (E : Int → Int → Prop) (n : Nat) (out : List Int) : Prop where
  len : out.length = n
  same : ∀ x y : Int, 0 ≤ x → x < n → 0 ≤ y → y < n → (lb out x = lb out y ↔ Conn E x y)
  range : ∀ x : Int, 0 ≤ x → x < n → 0 ≤ lb out x ∧ lb out x < n
  own : ∀ x : Int, 0 ≤ x → x < n → lb out (lb out x) = lb out x
def numsU : Int → Nat → List Int
  | _, 0 => []
  | a, d + 1 => a :: numsU (a + 1) d
theorem numsU_length : ∀ (d : Nat) (a : Int), (numsU a d).length = d
  | 0, _ => rfl
  | d + 1, a => by simp [numsU, numsU_length d]
theorem numsU_get : ∀ (d : Nat) (a : Int) (i : Nat), i < d → (numsU a d).getD i 0 = a + i
  | 0, _, i, h => by omega
  | d + 1, a, 0, _ => by simp [numsU]
  | d + 1, a, i + 1, h => by
    have := numsU_get d (a + 1) i (by omega)
    simp only [numsU, List.getD_cons_succ, this]
    omega
theorem numsU_snoc : ∀ (d : Nat) (a : Int), numsU a (d + 1) = numsU a d ++ [a + d]
  | 0, a => by simp [numsU]
  | d + 1, a => by
    have h := numsU_snoc d (a + 1)
    show a :: numsU (a + 1) (d + 1) = (a :: numsU (a + 1) d) ++ [a + ((d + 1 : Nat) : Int)]
    rw [h, List.cons_append, show a + ((d + 1 : Nat) : Int) = a + 1 + (d : Int) by omega]
theorem lb_numsU {n : Nat} {x : Int} (h0 : 0 ≤ x) (h : x < n) : lb (numsU 0 n) x = x := by
  unfold lb
  rw [numsU_get n 0 x.toNat (by omega)]
  omega
theorem Lab.start {E : Int → Int → Prop} (hE : ∀ x y, ¬ E x y) (n : Nat) : Lab E n (numsU 0 n) where
  len := numsU_length n 0
  same x y h0 h1 h2 h3 := by
    rw [lb_numsU h0 h1, lb_numsU h2 h3]
    exact ⟨fun h => h ▸ .refl, fun h => h.none hE⟩
  range x h0 h1 := by rw [lb_numsU h0 h1]; exact ⟨h0, h1⟩
  own x h0 h1 := by rw [lb_numsU h0 h1, lb_numsU h0 h1]
theorem Lab.join {E : Int → Int → Prop} {n : Nat} {out : List Int} (hL : Lab E n out) {a b H L : Int} (a0 : 0 ≤ a) (a1 : a < n) (b0 : 0 ≤ b) (b1 : b < n)
    (h : (H = lb out a ∧ L = lb out b) ∨ (H = lb out b ∧ L = lb out a)) : Lab (addE E a b) n (relab out H L) where
  len := by rw [relab_length, hL.len]
  same x y h0 h1 h2 h3 := by
    have hl := hL.len
    rw [lb_relab h0 (by omega), lb_relab h2 (by omega), conn_add, ← hL.same x y h0 h1 h2 h3, ← hL.same x a h0 h1 a0 a1, ← hL.same b y b0 b1 h2 h3, ← hL.same x b h0 h1 b0 b1, ← hL.same a y a0 a1 h2 h3]
    generalize lb out x = X, lb out y = Y, lb out a = A, lb out b = B at *
    rcases h with ⟨rfl, rfl⟩ | ⟨rfl, rfl⟩ <;> (split <;> split <;> omega)
  range x h0 h1 := by
    rw [lb_relab h0 (by have := hL.len; omega)]
    have ra := hL.range a a0 a1
    have rb := hL.range b b0 b1
    have rx := hL.range x h0 h1
    rcases h with ⟨rfl, rfl⟩ | ⟨rfl, rfl⟩ <;> (split <;> omega)
  own x h0 h1 := by
    have hl := hL.len
    have ra := hL.range a a0 a1
    have rb := hL.range b b0 b1
    have rx := hL.range x h0 h1
    have oa := hL.own a a0 a1
    have ob := hL.own b b0 b1
    have ox := hL.own x h0 h1
    rw [lb_relab h0 (by omega)]
    have hr : 0 ≤ L ∧ L < n ∧ lb out L = L := by rcases h with ⟨rfl, rfl⟩ | ⟨rfl, rfl⟩ <;> (refine ⟨by omega, by omega, ?_⟩ <;> assumption)
    by_cases c : lb out x = H
    · rw [if_pos c, lb_relab hr.1 (by omega), hr.2.2]
      split <;> rfl
    · rw [if_neg c, lb_relab rx.1 (by omega), ox, if_neg c]
theorem Lab.congr {E F : Int → Int → Prop} {n : Nat} {out : List Int} (hL : Lab E n out) (h : ∀ x y : Int, 0 ≤ x → x < n → 0 ≤ y → y < n → (Conn E x y ↔ Conn F x y)) : Lab F n out where
  len := hL.len
  same x y a b c d := (hL.same x y a b c d).trans (h x y a b c d)
  range := hL.range
  own := hL.own
def Low (n : Nat) (out : List Int) : Prop := ∀ x : Int, 0 ≤ x → x < n → lb out x ≤ x
theorem Low.start (n : Nat) : Low n (numsU 0 n) := fun x h0 h1 => by rw [lb_numsU h0 h1]; exact Int.le_refl _
theorem Low.join {n : Nat} {out : List Int} (hl : out.length = n) (h : Low n out) {H L : Int} (hHL : L ≤ H) : Low n (relab out H L) := fun x h0 h1 => by
  have := h x h0 h1
  rw [lb_relab h0 (by omega)]
  split <;> omega
def cntL (out : List Int) : Nat → Nat
  | 0 => 0
  | d + 1 => cntL out d + if lb out (d : Int) = (d : Int) then 1 else 0
theorem cntL_start (n : Nat) : ∀ d, d ≤ n → cntL (numsU 0 n) d = d
  | 0, _ => rfl
  | d + 1, h => by simp only [cntL]; rw [cntL_start n d (by omega), lb_numsU (by omega) (by omega), if_pos rfl]
theorem cntL_join {n : Nat} {out : List Int} (hl : out.length = n) {H L : Int} (hH : lb out H = H) (hHL : H ≠ L) (hLL : lb out L = L) : ∀ d, d ≤ n → cntL (relab out H L) d + (if 0 ≤ H ∧ H < d then 1 else 0) = cntL out d
  | 0, _ => by simp only [cntL]; rw [if_neg (by omega)]
  | d + 1, h => by
    have ih := cntL_join hl hH hHL hLL d (by omega)
    simp only [cntL]
    rw [lb_relab (x := (d : Int)) (by omega) (by omega)]
    by_cases e : (d : Int) = H
    · subst e
      rw [if_pos hH, if_neg (fun h => hHL h.symm), if_pos (by omega), if_pos hH]
      rw [if_neg (by omega)] at ih
      omega
    · by_cases c : lb out (d : Int) = H
      · rw [if_pos c, if_neg (show ¬ L = (d : Int) from fun h => by rw [← h, hLL] at c; exact hHL c.symm), if_neg (show ¬ lb out (d : Int) = (d : Int) by rw [c]; exact fun h => e h.symm)]
        split at ih <;> split <;> omega
      · rw [if_neg c]
        split at ih <;> split <;> split <;> omega
theorem cntL_one {out : List Int} {c : Int} (hc : lb out c = c) : ∀ d : Nat, (∀ x : Int, 0 ≤ x → x < d → lb out x = x → x = c) → cntL out d = if 0 ≤ c ∧ c < d then 1 else 0
  | 0, _ => by simp only [cntL]; rw [if_neg (by omega)]
  | d + 1, h => by
    have ih := cntL_one hc d (fun x h0 h1 => h x h0 (by omega))
    simp only [cntL]
    by_cases e : lb out (d : Int) = (d : Int)
    · have := h d (by omega) (by omega) e
      subst this
      rw [if_pos e, if_pos (by omega), ih, if_neg (by omega)]
    · rw [if_neg e, ih]
      have : (d : Int) ≠ c := fun h => e (by rw [h]; exact hc)
      split <;> split <;> omega
theorem cntL_two {out : List Int} {c e : Int} (hc : lb out c = c) (he : lb out e = e) (hn : c < e) (h0 : 0 ≤ c) : ∀ d : Nat, (c < d → 1 ≤ cntL out d) ∧ (e < d → 2 ≤ cntL out d)
  | 0 => ⟨fun h => by omega, fun h => by omega⟩
  | d + 1 => by
    have ih := cntL_two hc he hn h0 d
    simp only [cntL]
    refine ⟨fun h => ?_, fun h => ?_⟩
    · by_cases x : c = (d : Int)
      · rw [← x, if_pos hc]; omega
      · have := ih.1 (by omega); omega
    · by_cases x : e = (d : Int)
      · rw [← x, if_pos he]; have := ih.1 (by omega); omega
      · have := ih.2 (by omega); omega
theorem cntL_all {E : Int → Int → Prop} {n : Nat} {out : List Int} (hL : Lab E n out) (hn : 0 < n) : cntL out n = 1 ↔ ∀ x : Int, 0 ≤ x → x < n → Conn E 0 x := by
  have r0 := hL.range 0 (by omega) (by omega)
  have o0 := hL.own 0 (by omega) (by omega)
  constructor
  · intro h x h0 h1
    rw [← hL.same 0 x (by omega) (by omega) h0 h1]
    have rx := hL.range x h0 h1
    have ox := hL.own x h0 h1
    by_cases c : lb out 0 = lb out x
    · exact c
    · exfalso
      rcases Int.lt_or_gt_of_ne c with g | g
      · have := (cntL_two o0 ox g r0.1 n).2 rx.2; omega
      · have := (cntL_two ox o0 g rx.1 n).2 r0.2; omega
  · intro h
    rw [cntL_one o0 n (fun x h0 h1 hx => by rw [← hx]; exact ((hL.same 0 x (by omega) (by omega) h0 h1).2 (h x h0 h1)).symm), if_pos ⟨r0.1, r0.2⟩]
theorem cntL_pos {E : Int → Int → Prop} {n : Nat} {out : List Int} (hL : Lab E n out) (hn : 0 < n) : 1 ≤ cntL out n := by
  have r0 := hL.range 0 (by omega) (by omega)
  have o0 := hL.own 0 (by omega) (by omega)
  by_cases c : ∃ e, 0 ≤ e ∧ e < (n : Int) ∧ lb out e = e ∧ lb out 0 ≠ e
  · obtain ⟨e, e0, e1, he, hne⟩ := c
    rcases Int.lt_or_gt_of_ne hne with g | g
    · have := (cntL_two o0 he g r0.1 n).2 e1; omega
    · have := (cntL_two he o0 g e0 n).2 r0.2; omega
  · rw [cntL_one o0 n (fun x h0 h1 hx => Classical.byContradiction fun g => c ⟨x, h0, h1, hx, fun h => g h.symm⟩), if_pos ⟨r0.1, r0.2⟩]
    exact Nat.le_refl _
end Go.Proofs.YtnmdcmfhjhgheaaM
