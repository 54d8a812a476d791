/- For every pump, flow and efficiency the program's ElectricPower answers as the reference's ElectricPower does, and leaves the pump as it is. No condition. -/
import Derived.Test.YthgfkbkobnfnaaaPFnExactElectricPowerx7
import Derived.Test.YthgfkbkobnfnaaaMath
import Derived.Test.YthgfkbkobnfnaaaMathR
namespace Go.Proofs.Ythgfkbkobnfnaaa.Pure
open Go.RowKit Go.Proofs.Ythgfkbkobnfnaaa.PFnExactElectricPower Go.Proofs.YthgfkbkobnfnaaaW.PrintWords Go.Proofs.YthgfkbkobnfnaaaW.PrintLast Go.Proofs.YthgfkbkobnfnaaaW.PrintMore Go.Proofs.YthgfkbkobnfnaaaM
set_option linter.unusedSimpArgs false
set_option linter.unusedVariables false
theorem roomOf_ok {a n : Int} (h : ¬ roomOf a n < 0) : n ≤ a ∧ roomOf a n = a - n := by
  unfold roomOf at *
  split at h
  · omega
  · rename_i c; rw [if_neg c]; exact ⟨by omega, rfl⟩
theorem szPump_is (s : ByteArray) (c : List (List Int)) (a : Int) (hs : s.size ≤ 9223372036854775807) (hc : c.length ≤ 9223372036854775807) (hx : ∀ x ∈ c, x.length ≤ 9223372036854775807) (h0 : 0 ≤ a) (h1 : a ≤ 1048576) :
    laws_szPump.f s c a = some (roomOf a ((s.size : Int) + ((c.length : Int) + sizeSS c))) := by
  unfold laws_szPump.f
  have hn := sizeSS_nonneg c
  rw [w64 (x := a - (s.size : Int)) (by omega) (by omega)]
  by_cases n1 : a - (s.size : Int) < 0
  · rw [if_pos n1]; unfold roomOf; rw [if_pos (by omega)]
  · rw [if_neg n1]
    have e : laws_szInt64SS_.f c (a - (s.size : Int)) = some (roomOf (a - (s.size : Int)) ((c.length : Int) + sizeSS c)) := by unfold laws_szInt64SS_.f; rw [if_pos ⟨⟨by omega, by omega⟩, hc, hx⟩]
    rw [e]
    simp only [Option.bind_some]
    unfold roomOf
    rw [show a - ((s.size : Int) + ((c.length : Int) + sizeSS c)) = a - (s.size : Int) - ((c.length : Int) + sizeSS c) by omega]
    by_cases n2 : a - (s.size : Int) - ((c.length : Int) + sizeSS c) < 0
    · rw [if_pos n2, if_pos (by omega)]
    · rw [if_neg n2, if_neg n2]
theorem toSS_is {c : List (List Int)} (h : c.length ≤ 1048576) (hx : ∀ x ∈ c, x.length ≤ 1048576) : laws_toInt64SS_.f c = some c := by
  unfold laws_toInt64SS_.f; rw [if_pos ⟨by omega, fun x hx' => by have := hx x hx'; omega⟩]
theorem eqSS_refl {c : List (List Int)} (h : c.length ≤ 1048576) (hx : ∀ x ∈ c, x.length ≤ 1048576) : laws_eqInt64SS_.f c c = some true := by
  unfold laws_eqInt64SS_.f; rw [if_pos ⟨by omega, fun x hx' => by have := hx x hx'; omega⟩]; simp
theorem pumpBits {s : ByteArray} {c : List (List Int)} (b : s.size ≤ 1048576) (h : c.length ≤ 1048576) (hx : ∀ x ∈ c, x.length ≤ 1048576) : laws_toPump.f s c = some (s, c) ∧ laws_eqPump.f s c s c = some true := by
  refine ⟨?_, ?_⟩
  · unfold laws_toPump.f; rw [toSS_is h hx]; rfl
  · unfold laws_eqPump.f; rw [eqSS_refl h hx]; simp
theorem head_range (c : List (List Int)) (q : Int) (hp : ∀ j, j < c.length → pointOk c j = true) : ∀ (d i : Nat), 1 ≤ i → i + d ≤ c.length ∨ d = 0 → 0 ≤ headFrom c q d i ∧ headFrom c q d i ≤ 2000000 := by
  intro d
  induction d with
  | zero => intro i _ _; simp only [headFrom]; omega
  | succ d ih =>
    intro i h1 h2
    simp only [headFrom]
    split
    · have ra := point_range (hp (i - 1) (by omega))
      have rb := point_range (hp i (by omega))
      have hk := hp i (by omega)
      unfold pointOk at hk
      simp only [Bool.and_eq_true, decide_eq_true_eq] at hk
      have h3 := hk.2.2.2
      rw [if_neg (by omega)] at h3
      simp only [Bool.and_eq_true, decide_eq_true_eq] at h3
      have := line_down (x0 := (c.getD (i - 1) []).getD 0 0) (y0 := (c.getD (i - 1) []).getD 1 0) (x1 := (c.getD i []).getD 0 0) (y1 := (c.getD i []).getD 1 0) (x := q) h3.1 h3.2
      omega
    · exact ih (i + 1) (by omega) (by omega)
def elecI (s : ByteArray) (c : List (List Int)) (q e : Int) : Int × Int := if pumpOk s c = true then (if 0 ≤ q ∧ q ≤ 100000 then (if 1 ≤ e ∧ e ≤ 1000 then (rdiv (headI c q * q) (1000 * e), 0) else (0, 2)) else (0, 2)) else (0, 1)
theorem FnExactElectricPower : ∀ (a0_0 : ByteArray) (l0_1 : List (List (Int))) (a1 : Int) (a2 : Int), (a0_0.size ≤ 9223372036854775807) → (l0_1.length ≤ 9223372036854775807) → (∀ p ∈ l0_1, p.length ≤ 9223372036854775807 ∧ (∀ q ∈ p, (Lit.int .i64 q).wf = true)) → ((Lit.int .i64 a1).wf = true) → ((Lit.int .i64 a2).wf = true) → ∃ k, laws_FnExactElectricPower.f k a0_0 l0_1 a1 a2 = some true := by
  intro s c q e hs hc hcx hq he
  have hcl : ∀ x ∈ c, x.length ≤ 9223372036854775807 := fun x hx => (hcx x hx).1
  have k1 := sizeSS_nonneg c
  refine ⟨40, ?_⟩
  unfold laws_FnExactElectricPower.f
  rw [szPump_is s c 1048576 hs hc hcl (by omega) (by omega)]
  simp only [Option.bind_some]
  by_cases n1 : roomOf 1048576 ((s.size : Int) + ((c.length : Int) + sizeSS c)) < 0
  · rw [if_pos n1]
  rw [if_neg n1]
  have b1 := roomOf_ok n1
  have cx : ∀ x ∈ c, x.length ≤ 1048576 := fun x hx => by have := sizeSS_elem (l := c) (m := 1048576) (by omega) x hx; omega
  obtain ⟨tp, ep⟩ := pumpBits (s := s) (c := c) (by omega) (by omega) cx
  have so : spec_l08Ok_.f s c = some (pumpOk s c) := by unfold spec_l08Ok_.f; rw [if_pos (by omega)]
  have vo : impl_ValidPump_.f s c = some (pumpOk s c) := by unfold impl_ValidPump_.f; rw [if_pos (by omega)]
  have both : ∀ k, spec_ElectricPower.f (k + 1) s c q e = some (elecI s c q e) ∧ impl_ElectricPower.f (k + 1) s c q e = some (elecI s c q e) := by
    intro k
    unfold spec_ElectricPower.f impl_ElectricPower.f elecI
    rw [so, vo]
    simp only [Option.bind_some]
    by_cases h : pumpOk s c = true
    · obtain ⟨p1, p2, p3⟩ := pump_parts h
      have hh : spec_l08Head_.f s c q = some (headI c q) := by unfold spec_l08Head_.f; rw [if_pos ⟨p2, p3⟩]
      have hi : impl_Pump_head_.f s c q = some (headI c q) := by unfold impl_Pump_head_.f; rw [if_pos ⟨by omega, p2, p3⟩]
      have hr : 0 ≤ headI c q ∧ headI c q ≤ 2000000 := head_range c q p3 (c.length - 1) 1 (by omega) (by omega)
      rw [if_pos h, if_pos h, if_pos h, flow_b, within_vp, within_vp, in_b]
      simp only [Option.bind_some, spec_ElectricPower.j0, impl_ElectricPower.j0]
      rw [hh, hi]
      by_cases g : 0 ≤ q ∧ q ≤ 100000
      · rw [if_pos (decide_eq_true g), if_pos (decide_eq_true g), if_pos g]
        by_cases g2 : 1 ≤ e ∧ e ≤ 1000
        · have hm := mulb (a := headI c q) (b := q) 2000000 100000 (by omega) (by omega) (by omega) (by omega)
          have d1 : spec_l01Div_.f (headI c q * q) (1000 * e) = some (rdiv (headI c q * q) (1000 * e)) := by unfold spec_l01Div_.f; rw [if_pos (by omega)]
          have d2 : impl_divRound.f (headI c q * q) (1000 * e) = some (rdiv (headI c q * q) (1000 * e)) := by unfold impl_divRound.f; rw [if_pos (by omega)]
          rw [decide_eq_true g2, if_pos g2]
          simp only [Option.bind_some]
          rw [w64 (x := headI c q * q) (by omega) (by omega), w64 (x := 1000 * e) (by omega) (by omega), d1, d2]
          simp
        · rw [decide_eq_false g2, if_neg g2]; simp
      · simp only [decide_eq_false g, if_neg g]; simp
    · rw [if_neg h, if_neg h, if_neg h]; simp
  have sv := fun k => (both k).1
  have iv := fun k => (both k).2
  simp [tp, ep, sv, iv, laws_FnExactElectricPower.j0, laws_FnExactElectricPower.j1, laws_FnExactElectricPower.j2]

end Go.Proofs.Ythgfkbkobnfnaaa.Pure
