/- For all pairs of pumps the program's SamePump answers as the reference's SamePump does, and leaves the pumps as they are. No condition. -/
import Derived.Test.YthgfkbkobnfnaaaPFnExactSamePumpx4
import Derived.Test.YthgfkbkobnfnaaaMath
import Derived.Test.YthgfkbkobnfnaaaMathQ
namespace Go.Proofs.Ythgfkbkobnfnaaa.Pure
open Go.RowKit Go.Proofs.Ythgfkbkobnfnaaa.PFnExactSamePump Go.Proofs.YthgfkbkobnfnaaaW.PrintWords Go.Proofs.YthgfkbkobnfnaaaW.PrintLast Go.Proofs.YthgfkbkobnfnaaaW.PrintMore Go.Proofs.YthgfkbkobnfnaaaM
set_option linter.unusedSimpArgs false
set_option linter.unusedVariables false
theorem roomOf_ok {a n : Int} (h : ¬ roomOf a n < 0) : n ≤ a ∧ roomOf a n = a - n := by
  unfold roomOf at *
  split at h
  · omega
  · rename_i c; rw [if_neg c]; exact ⟨by omega, rfl⟩
theorem szPump_is (s : ByteArray) (c : List (List Int)) (a : Int) (hs : s.size ≤ 9223372036854775807) (hc : c.length ≤ 9223372036854775807) (hx : ∀ x ∈ c, x.length ≤ 9223372036854775807) (h0 : 0 ≤ a) (h1 : a ≤ 1048576) :
    laws_szPump.f s c a = some (roomOf a ((s.size : Int) + ((c.length : Int) + sizeSS c))) := by
  unfold laws_szPump.f
  have hn := sizeSS_nonneg c
  rw [w64 (x := a - (s.size : Int)) (by omega) (by omega)]
  by_cases n1 : a - (s.size : Int) < 0
  · rw [if_pos n1]; unfold roomOf; rw [if_pos (by omega)]
  · rw [if_neg n1]
    have e : laws_szInt64SS_.f c (a - (s.size : Int)) = some (roomOf (a - (s.size : Int)) ((c.length : Int) + sizeSS c)) := by unfold laws_szInt64SS_.f; rw [if_pos ⟨⟨by omega, by omega⟩, hc, hx⟩]
    rw [e]
    simp only [Option.bind_some]
    unfold roomOf
    rw [show a - ((s.size : Int) + ((c.length : Int) + sizeSS c)) = a - (s.size : Int) - ((c.length : Int) + sizeSS c) by omega]
    by_cases n2 : a - (s.size : Int) - ((c.length : Int) + sizeSS c) < 0
    · rw [if_pos n2, if_pos (by omega)]
    · rw [if_neg n2, if_neg n2]
theorem toSS_is {c : List (List Int)} (h : c.length ≤ 1048576) (hx : ∀ x ∈ c, x.length ≤ 1048576) : laws_toInt64SS_.f c = some c := by
  unfold laws_toInt64SS_.f; rw [if_pos ⟨by omega, fun x hx' => by have := hx x hx'; omega⟩]
theorem eqSS_refl {c : List (List Int)} (h : c.length ≤ 1048576) (hx : ∀ x ∈ c, x.length ≤ 1048576) : laws_eqInt64SS_.f c c = some true := by
  unfold laws_eqInt64SS_.f; rw [if_pos ⟨by omega, fun x hx' => by have := hx x hx'; omega⟩]; simp
theorem FnExactSamePump : ∀ (a0_0 : ByteArray) (l0_1 : List (List (Int))) (a1_0 : ByteArray) (l1_1 : List (List (Int))), (a0_0.size ≤ 9223372036854775807) → (l0_1.length ≤ 9223372036854775807) → (∀ p ∈ l0_1, p.length ≤ 9223372036854775807 ∧ (∀ q ∈ p, (Lit.int .i64 q).wf = true)) → (a1_0.size ≤ 9223372036854775807) → (l1_1.length ≤ 9223372036854775807) → (∀ p ∈ l1_1, p.length ≤ 9223372036854775807 ∧ (∀ q ∈ p, (Lit.int .i64 q).wf = true)) → laws_FnExactSamePump.f a0_0 l0_1 a1_0 l1_1 = some true := by
  intro s c t d hs hc hcx ht hd hdx
  have hcl : ∀ x ∈ c, x.length ≤ 9223372036854775807 := fun x hx => (hcx x hx).1
  have hdl : ∀ x ∈ d, x.length ≤ 9223372036854775807 := fun x hx => (hdx x hx).1
  have k1 := sizeSS_nonneg c
  have k2 := sizeSS_nonneg d
  unfold laws_FnExactSamePump.f laws_toPump.f spec_SamePump.f laws_eqPump.f
  rw [szPump_is s c 1048576 hs hc hcl (by omega) (by omega)]
  simp only [Option.bind_some]
  by_cases n1 : roomOf 1048576 ((s.size : Int) + ((c.length : Int) + sizeSS c)) < 0
  · rw [if_pos n1]
  rw [if_neg n1]
  have b1 := roomOf_ok n1
  rw [szPump_is t d _ ht hd hdl (by omega) (by omega)]
  simp only [Option.bind_some]
  by_cases n2 : roomOf (roomOf 1048576 ((s.size : Int) + ((c.length : Int) + sizeSS c))) ((t.size : Int) + ((d.length : Int) + sizeSS d)) < 0
  · rw [if_pos n2]
  rw [if_neg n2]
  have b2 := roomOf_ok n2
  have cx : ∀ x ∈ c, x.length ≤ 1048576 := fun x hx => by have := sizeSS_elem (l := c) (m := 1048576) (by omega) x hx; omega
  have dx : ∀ x ∈ d, x.length ≤ 1048576 := fun x hx => by have := sizeSS_elem (l := d) (m := 1048576) (by omega) x hx; omega
  have tc : laws_toInt64SS_.f c = some c := toSS_is (by omega) cx
  have td : laws_toInt64SS_.f d = some d := toSS_is (by omega) dx
  have ec : laws_eqInt64SS_.f c c = some true := eqSS_refl (by omega) cx
  have ed : laws_eqInt64SS_.f d d = some true := eqSS_refl (by omega) dx
  have cl : c.length ≤ 4611686018427387904 := by omega
  have dl : d.length ≤ 4611686018427387904 := by omega
  have cx2 : ∀ x ∈ c, x.length ≤ 4611686018427387904 := fun x hx => by have := cx x hx; omega
  have sm : spec_l08Same_.f s c t d = some (decide (s.toList = t.toList) && decide (c = d)) := by unfold spec_l08Same_.f; rw [if_pos ⟨cl, cx2⟩]
  have im : impl_SamePump.f s c t d = some (decide (s.toList = t.toList) && decide (c = d)) := by unfold impl_SamePump.f; rw [if_pos ⟨cl, dl, cx2⟩]
  simp [tc, td, ec, ed, sm, im]

end Go.Proofs.Ythgfkbkobnfnaaa.Pure
