/- For every pump the program's ValidPump answers as the reference's ValidPump does, and leaves the pump as it is. No condition. -/
import Derived.Test.YthgfkbkobnfnaaaPFnExactValidPumpx6
import Derived.Test.YthgfkbkobnfnaaaMath
import Derived.Test.YthgfkbkobnfnaaaMathR
namespace Go.Proofs.Ythgfkbkobnfnaaa.Pure
open Go.RowKit Go.Proofs.Ythgfkbkobnfnaaa.PFnExactValidPump Go.Proofs.YthgfkbkobnfnaaaW.PrintWords Go.Proofs.YthgfkbkobnfnaaaW.PrintLast Go.Proofs.YthgfkbkobnfnaaaW.PrintMore Go.Proofs.YthgfkbkobnfnaaaM
set_option linter.unusedSimpArgs false
set_option linter.unusedVariables false
theorem roomOf_ok {a n : Int} (h : ¬ roomOf a n < 0) : n ≤ a ∧ roomOf a n = a - n := by
  unfold roomOf at *
  split at h
  · omega
  · rename_i c; rw [if_neg c]; exact ⟨by omega, rfl⟩
theorem szPump_is (s : ByteArray) (c : List (List Int)) (a : Int) (hs : s.size ≤ 9223372036854775807) (hc : c.length ≤ 9223372036854775807) (hx : ∀ x ∈ c, x.length ≤ 9223372036854775807) (h0 : 0 ≤ a) (h1 : a ≤ 1048576) :
    laws_szPump.f s c a = some (roomOf a ((s.size : Int) + ((c.length : Int) + sizeSS c))) := by
  unfold laws_szPump.f
  have hn := sizeSS_nonneg c
  rw [w64 (x := a - (s.size : Int)) (by omega) (by omega)]
  by_cases n1 : a - (s.size : Int) < 0
  · rw [if_pos n1]; unfold roomOf; rw [if_pos (by omega)]
  · rw [if_neg n1]
    have e : laws_szInt64SS_.f c (a - (s.size : Int)) = some (roomOf (a - (s.size : Int)) ((c.length : Int) + sizeSS c)) := by unfold laws_szInt64SS_.f; rw [if_pos ⟨⟨by omega, by omega⟩, hc, hx⟩]
    rw [e]
    simp only [Option.bind_some]
    unfold roomOf
    rw [show a - ((s.size : Int) + ((c.length : Int) + sizeSS c)) = a - (s.size : Int) - ((c.length : Int) + sizeSS c) by omega]
    by_cases n2 : a - (s.size : Int) - ((c.length : Int) + sizeSS c) < 0
    · rw [if_pos n2, if_pos (by omega)]
    · rw [if_neg n2, if_neg n2]
theorem toSS_is {c : List (List Int)} (h : c.length ≤ 1048576) (hx : ∀ x ∈ c, x.length ≤ 1048576) : laws_toInt64SS_.f c = some c := by
  unfold laws_toInt64SS_.f; rw [if_pos ⟨by omega, fun x hx' => by have := hx x hx'; omega⟩]
theorem eqSS_refl {c : List (List Int)} (h : c.length ≤ 1048576) (hx : ∀ x ∈ c, x.length ≤ 1048576) : laws_eqInt64SS_.f c c = some true := by
  unfold laws_eqInt64SS_.f; rw [if_pos ⟨by omega, fun x hx' => by have := hx x hx'; omega⟩]; simp
theorem pumpBits {s : ByteArray} {c : List (List Int)} (b : s.size ≤ 1048576) (h : c.length ≤ 1048576) (hx : ∀ x ∈ c, x.length ≤ 1048576) : laws_toPump.f s c = some (s, c) ∧ laws_eqPump.f s c s c = some true := by
  refine ⟨?_, ?_⟩
  · unfold laws_toPump.f; rw [toSS_is h hx]; rfl
  · unfold laws_eqPump.f; rw [eqSS_refl h hx]; simp
theorem FnExactValidPump : ∀ (a0_0 : ByteArray) (l0_1 : List (List (Int))), (a0_0.size ≤ 9223372036854775807) → (l0_1.length ≤ 9223372036854775807) → (∀ p ∈ l0_1, p.length ≤ 9223372036854775807 ∧ (∀ q ∈ p, (Lit.int .i64 q).wf = true)) → ∃ k, laws_FnExactValidPump.f k a0_0 l0_1 = some true := by
  intro s c hs hc hcx
  have hcl : ∀ x ∈ c, x.length ≤ 9223372036854775807 := fun x hx => (hcx x hx).1
  have k1 := sizeSS_nonneg c
  refine ⟨40, ?_⟩
  unfold laws_FnExactValidPump.f
  rw [szPump_is s c 1048576 hs hc hcl (by omega) (by omega)]
  simp only [Option.bind_some]
  by_cases n1 : roomOf 1048576 ((s.size : Int) + ((c.length : Int) + sizeSS c)) < 0
  · rw [if_pos n1]
  rw [if_neg n1]
  have b1 := roomOf_ok n1
  have cx : ∀ x ∈ c, x.length ≤ 1048576 := fun x hx => by have := sizeSS_elem (l := c) (m := 1048576) (by omega) x hx; omega
  obtain ⟨tp, ep⟩ := pumpBits (s := s) (c := c) (by omega) (by omega) cx
  have sv : spec_ValidPump.f s c = some (pumpOk s c) := by unfold spec_ValidPump.f spec_l08Ok_.f; rw [if_pos (by omega)]; rfl
  have iv : impl_ValidPump_.f s c = some (pumpOk s c) := by unfold impl_ValidPump_.f; rw [if_pos (by omega)]
  simp [tp, ep, sv, iv, laws_FnExactValidPump.j0, laws_FnExactValidPump.j1]

end Go.Proofs.Ythgfkbkobnfnaaa.Pure
