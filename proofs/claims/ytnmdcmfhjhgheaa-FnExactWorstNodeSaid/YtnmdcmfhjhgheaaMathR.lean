/- Plain laws on the order of byte lists, on marked lists, and on networks' parts. No program in sight. No condition. -/
import Derived.Test.YtnmdcmfhjhgheaaMath
import Derived.Test.YtnmdcmfhjhgheaaMathN
import Derived.Test.YtnmdcmfhjhgheaaMathP
import Derived.Test.YtnmdcmfhjhgheaaMathQ
namespace Go.Proofs.YtnmdcmfhjhgheaaM
open Go.RowKit Go.Proofs.YtnmdcmfhjhgheaaW.PrintWords
set_option linter.unusedVariables false
set_option linter.unusedSimpArgs false
abbrev Y : Bool := true
abbrev J : Bool := false
abbrev rA := @Kd.R_alloc
abbrev rN := @Kd.R_drewN
abbrev rW := @Kd.R_drew
abbrev bN := @blk_drewN
abbrev bW := @blk_drew
abbrev bA := @blk_alloc
abbrev wA := @below_alloc
abbrev wN := @pw_below_drewN
abbrev wD := @below_drew1
abbrev wS := @below_set
theorem pU (a : Act) (d : Nat) (v : Value) : a.put (some d) v = { tmps := a.tmps.setIfInBounds d v, defers := a.defers } := rfl
theorem pN (a : Act) (v : Value) : a.put none v = a := rfl
theorem sB {α : Type} (l : List α) (i : Nat) (a : α) : l.toArray.setIfInBounds i a = (l.set i a).toArray := List.setIfInBounds_toArray l i a
theorem sZ {α : Type} (x : α) (xs : List α) (a : α) : (x :: xs).set 0 a = a :: xs := List.set_cons_zero
theorem sS {α : Type} (x : α) (xs : List α) (n : Nat) (a : α) : (x :: xs).set (n + 1) a = x :: xs.set n a := List.set_cons_succ
theorem bytes_tri : ∀ a b : List UInt8, Op.bytesLess a b = !(Op.bytesLess b a || b == a)
  | [], [] => by simp [Op.bytesLess]
  | [], b :: l => by simp [Op.bytesLess]
  | a :: l, [] => by simp [Op.bytesLess]
  | a :: l, b :: m => by
    have ih := bytes_tri l m
    simp only [Op.bytesLess]
    rcases Nat.lt_trichotomy a.toNat b.toNat with h | h | h
    · have h1 : a < b := UInt8.lt_iff_toNat_lt.mpr h
      have h2 : ¬ b < a := fun h' => by have := UInt8.lt_iff_toNat_lt.mp h'; omega
      have h3 : ¬ b = a := fun h' => by rw [h'] at h; omega
      have h4 : (b == a) = false := by simpa using h3
      have h5 : (b :: m == a :: l) = false := by simp [h3]
      simp [h1, h2, h4, h5]
    · have e : a = b := UInt8.toNat_inj.mp h
      subst e
      have h2 : ¬ a < a := fun h' => by have := UInt8.lt_iff_toNat_lt.mp h'; omega
      have h5 : (a :: m == a :: l) = (m == l) := by simp
      simp [h2, h5, ih]
    · have h1 : b < a := UInt8.lt_iff_toNat_lt.mpr h
      have h2 : ¬ a < b := fun h' => by have := UInt8.lt_iff_toNat_lt.mp h'; omega
      have h3 : ¬ a = b := fun h' => by rw [h'] at h; omega
      have h4 : (a == b) = false := by simpa using h3
      simp [h1, h2, h4]
theorem take_mid {α : Type} : ∀ (A B : List α) (a : α), (A ++ a :: B).take (A.length + 1) = A ++ [a]
  | [], B, a => by simp
  | x :: A, B, a => by
    have := take_mid A B a
    simp only [List.cons_append, List.length_cons, List.take_succ_cons, this]
theorem take_set {α : Type} (l : List α) (i : Nat) (h : i < l.length) (a : α) : (l.set i a).take (i + 1) = l.take i ++ [a] := by
  have e : l.set i a = l.take i ++ a :: l.drop (i + 1) := by rw [List.set_eq_take_append_cons_drop, if_pos h]
  have hl : (l.take i).length = i := by simp; omega
  have := take_mid (l.take i) (l.drop (i + 1)) a
  rw [hl] at this
  rw [e, this]
end Go.Proofs.YtnmdcmfhjhgheaaM
