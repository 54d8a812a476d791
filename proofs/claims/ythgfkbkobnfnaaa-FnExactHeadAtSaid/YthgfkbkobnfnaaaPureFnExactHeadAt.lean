/- For every pump and flow the program's HeadAt answers as the reference's HeadAt does, and leaves the pump as it is. No condition. -/
import Derived.Test.YthgfkbkobnfnaaaPFnExactHeadAtx7
import Derived.Test.YthgfkbkobnfnaaaMath
import Derived.Test.YthgfkbkobnfnaaaMathR
namespace Go.Proofs.Ythgfkbkobnfnaaa.Pure
open Go.RowKit Go.Proofs.Ythgfkbkobnfnaaa.PFnExactHeadAt Go.Proofs.YthgfkbkobnfnaaaW.PrintWords Go.Proofs.YthgfkbkobnfnaaaW.PrintLast Go.Proofs.YthgfkbkobnfnaaaW.PrintMore Go.Proofs.YthgfkbkobnfnaaaM
set_option linter.unusedSimpArgs false
set_option linter.unusedVariables false
theorem roomOf_ok {a n : Int} (h : ¬ roomOf a n < 0) : n ≤ a ∧ roomOf a n = a - n := by
  unfold roomOf at *
  split at h
  · omega
  · rename_i c; rw [if_neg c]; exact ⟨by omega, rfl⟩
theorem szPump_is (s : ByteArray) (c : List (List Int)) (a : Int) (hs : s.size ≤ 9223372036854775807) (hc : c.length ≤ 9223372036854775807) (hx : ∀ x ∈ c, x.length ≤ 9223372036854775807) (h0 : 0 ≤ a) (h1 : a ≤ 1048576) :
    laws_szPump.f s c a = some (roomOf a ((s.size : Int) + ((c.length : Int) + sizeSS c))) := by
  unfold laws_szPump.f
  have hn := sizeSS_nonneg c
  rw [w64 (x := a - (s.size : Int)) (by omega) (by omega)]
  by_cases n1 : a - (s.size : Int) < 0
  · rw [if_pos n1]; unfold roomOf; rw [if_pos (by omega)]
  · rw [if_neg n1]
    have e : laws_szInt64SS_.f c (a - (s.size : Int)) = some (roomOf (a - (s.size : Int)) ((c.length : Int) + sizeSS c)) := by unfold laws_szInt64SS_.f; rw [if_pos ⟨⟨by omega, by omega⟩, hc, hx⟩]
    rw [e]
    simp only [Option.bind_some]
    unfold roomOf
    rw [show a - ((s.size : Int) + ((c.length : Int) + sizeSS c)) = a - (s.size : Int) - ((c.length : Int) + sizeSS c) by omega]
    by_cases n2 : a - (s.size : Int) - ((c.length : Int) + sizeSS c) < 0
    · rw [if_pos n2, if_pos (by omega)]
    · rw [if_neg n2, if_neg n2]
theorem toSS_is {c : List (List Int)} (h : c.length ≤ 1048576) (hx : ∀ x ∈ c, x.length ≤ 1048576) : laws_toInt64SS_.f c = some c := by
  unfold laws_toInt64SS_.f; rw [if_pos ⟨by omega, fun x hx' => by have := hx x hx'; omega⟩]
theorem eqSS_refl {c : List (List Int)} (h : c.length ≤ 1048576) (hx : ∀ x ∈ c, x.length ≤ 1048576) : laws_eqInt64SS_.f c c = some true := by
  unfold laws_eqInt64SS_.f; rw [if_pos ⟨by omega, fun x hx' => by have := hx x hx'; omega⟩]; simp
theorem pumpBits {s : ByteArray} {c : List (List Int)} (b : s.size ≤ 1048576) (h : c.length ≤ 1048576) (hx : ∀ x ∈ c, x.length ≤ 1048576) : laws_toPump.f s c = some (s, c) ∧ laws_eqPump.f s c s c = some true := by
  refine ⟨?_, ?_⟩
  · unfold laws_toPump.f; rw [toSS_is h hx]; rfl
  · unfold laws_eqPump.f; rw [eqSS_refl h hx]; simp
def headAtI (s : ByteArray) (c : List (List Int)) (q : Int) : Int × Int := if pumpOk s c = true then (if 0 ≤ q ∧ q ≤ 100000 then (headI c q, 0) else (0, 2)) else (0, 1)
theorem FnExactHeadAt : ∀ (a0_0 : ByteArray) (l0_1 : List (List (Int))) (a1 : Int), (a0_0.size ≤ 9223372036854775807) → (l0_1.length ≤ 9223372036854775807) → (∀ p ∈ l0_1, p.length ≤ 9223372036854775807 ∧ (∀ q ∈ p, (Lit.int .i64 q).wf = true)) → ((Lit.int .i64 a1).wf = true) → ∃ k, laws_FnExactHeadAt.f k a0_0 l0_1 a1 = some true := by
  intro s c q hs hc hcx hq
  have hcl : ∀ x ∈ c, x.length ≤ 9223372036854775807 := fun x hx => (hcx x hx).1
  have k1 := sizeSS_nonneg c
  refine ⟨40, ?_⟩
  unfold laws_FnExactHeadAt.f
  rw [szPump_is s c 1048576 hs hc hcl (by omega) (by omega)]
  simp only [Option.bind_some]
  by_cases n1 : roomOf 1048576 ((s.size : Int) + ((c.length : Int) + sizeSS c)) < 0
  · rw [if_pos n1]
  rw [if_neg n1]
  have b1 := roomOf_ok n1
  have cx : ∀ x ∈ c, x.length ≤ 1048576 := fun x hx => by have := sizeSS_elem (l := c) (m := 1048576) (by omega) x hx; omega
  obtain ⟨tp, ep⟩ := pumpBits (s := s) (c := c) (by omega) (by omega) cx
  have so : spec_l08Ok_.f s c = some (pumpOk s c) := by unfold spec_l08Ok_.f; rw [if_pos (by omega)]
  have vo : impl_ValidPump_.f s c = some (pumpOk s c) := by unfold impl_ValidPump_.f; rw [if_pos (by omega)]
  have sv : spec_HeadAt.f s c q = some (headAtI s c q) := by
    unfold spec_HeadAt.f headAtI
    rw [so]
    simp only [Option.bind_some]
    by_cases h : pumpOk s c = true
    · obtain ⟨p1, p2, p3⟩ := pump_parts h
      have hh : spec_l08Head_.f s c q = some (headI c q) := by unfold spec_l08Head_.f; rw [if_pos ⟨p2, p3⟩]
      rw [if_pos h, if_pos h, flow_b, hh]
      simp only [Option.bind_some]
      by_cases g : 0 ≤ q ∧ q ≤ 100000
      · rw [if_pos (decide_eq_true g), if_pos g]
      · rw [if_neg (by rw [decide_eq_false g]; simp), if_neg g]
    · rw [if_neg h, if_neg h]
  have iv : impl_HeadAt.f s c q = some (headAtI s c q) := by
    unfold impl_HeadAt.f headAtI
    rw [vo]
    simp only [Option.bind_some]
    by_cases h : pumpOk s c = true
    · obtain ⟨p1, p2, p3⟩ := pump_parts h
      have hh : impl_Pump_head_.f s c q = some (headI c q) := by unfold impl_Pump_head_.f; rw [if_pos ⟨by omega, p2, p3⟩]
      rw [if_pos h, if_pos h, within_vp, hh]
      simp only [Option.bind_some]
      by_cases g : 0 ≤ q ∧ q ≤ 100000
      · rw [if_pos (decide_eq_true g), if_pos g]
      · rw [if_neg (by rw [decide_eq_false g]; simp), if_neg g]
    · rw [if_neg h, if_neg h]
  simp [tp, ep, sv, iv, laws_FnExactHeadAt.j0, laws_FnExactHeadAt.j1, laws_FnExactHeadAt.j2]

end Go.Proofs.Ythgfkbkobnfnaaa.Pure
