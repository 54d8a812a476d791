/- Plain laws on graphs of numbers: what is joined, labels of parts, counting parts. No program in sight. No condition. -/
import Derived.Test.YtcgbagdpedpdpaaMath
namespace Go.Proofs.YtcgbagdpedpdpaaM
set_option linter.unusedVariables false
set_option linter.unusedSimpArgs false
inductive Conn (E : Int → Int → Prop) (x : Int) : Int → Prop
  | refl : Conn E x x
  | step {y z : Int} : Conn E x y → E y z → Conn E x z
theorem Conn.trans {E : Int → Int → Prop} {x y z : Int} (h : Conn E x y) (h' : Conn E y z) : Conn E x z := by
  induction h' with
  | refl => exact h
  | step _ e ih => exact ih.step e
theorem Conn.one {E : Int → Int → Prop} {x y : Int} (h : E x y) : Conn E x y := .step .refl h
theorem Conn.symm {E : Int → Int → Prop} (hs : ∀ x y, E x y → E y x) {x y : Int} (h : Conn E x y) : Conn E y x := by
  induction h with
  | refl => exact .refl
  | step _ e ih => exact (Conn.one (hs _ _ e)).trans ih
theorem Conn.mono {E F : Int → Int → Prop} (h : ∀ x y, E x y → F x y) {x y : Int} (c : Conn E x y) : Conn F x y := by
  induction c with
  | refl => exact .refl
  | step _ e ih => exact ih.step (h _ _ e)
theorem Conn.over {E F : Int → Int → Prop} (h : ∀ x y, E x y → Conn F x y) {x y : Int} (c : Conn E x y) : Conn F x y := by
  induction c with
  | refl => exact .refl
  | step _ e ih => exact ih.trans (h _ _ e)
theorem Conn.none {E : Int → Int → Prop} (h : ∀ x y, ¬ E x y) {x y : Int} (c : Conn E x y) : x = y := by
  induction c with
  | refl => rfl
  | step _ e _ => exact absurd e (h _ _)
abbrev lb (out : List Int) (x : Int) : Int := out.getD x.toNat 0
structure Lab (E : Int → Int → Prop) (n : Nat) (out : List Int) : Prop where
  len : out.length = n
  same : ∀ x y : Int, 0 ≤ x → x < n → 0 ≤ y → y < n → (lb out x = lb out y ↔ Conn E x y)
  range : ∀ x : Int, 0 ≤ x → x < n → 0 ≤ lb out x ∧ lb out x < n
  own : ∀ x : Int, 0 ≤ x → x < n → lb out (lb out x) = lb out x
theorem Lab.congr {E F : Int → Int → Prop} {n : Nat} {out : List Int} (hL : Lab E n out) (h : ∀ x y : Int, 0 ≤ x → x < n → 0 ≤ y → y < n → (Conn E x y ↔ Conn F x y)) : Lab F n out where
  len := hL.len
  same x y a b c d := (hL.same x y a b c d).trans (h x y a b c d)
  range := hL.range
  own := hL.own
end Go.Proofs.YtcgbagdpedpdpaaM
