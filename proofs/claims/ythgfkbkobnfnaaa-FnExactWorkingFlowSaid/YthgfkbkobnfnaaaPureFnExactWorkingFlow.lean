/- For every pump and system the program's WorkingFlow answers as the reference's WorkingFlow does, and leaves the pump as it is. No condition. -/
import Derived.Test.YthgfkbkobnfnaaaPFnExactWorkingFlowx8
import Derived.Test.YthgfkbkobnfnaaaMath
import Derived.Test.YthgfkbkobnfnaaaMathR
namespace Go.Proofs.Ythgfkbkobnfnaaa.Pure
open Go.RowKit Go.Proofs.Ythgfkbkobnfnaaa.PFnExactWorkingFlow Go.Proofs.YthgfkbkobnfnaaaW.PrintWords Go.Proofs.YthgfkbkobnfnaaaW.PrintLast Go.Proofs.YthgfkbkobnfnaaaW.PrintMore Go.Proofs.YthgfkbkobnfnaaaM
set_option linter.unusedSimpArgs false
set_option linter.unusedVariables false
theorem roomOf_ok {a n : Int} (h : ¬ roomOf a n < 0) : n ≤ a ∧ roomOf a n = a - n := by
  unfold roomOf at *
  split at h
  · omega
  · rename_i c; rw [if_neg c]; exact ⟨by omega, rfl⟩
theorem szPump_is (s : ByteArray) (c : List (List Int)) (a : Int) (hs : s.size ≤ 9223372036854775807) (hc : c.length ≤ 9223372036854775807) (hx : ∀ x ∈ c, x.length ≤ 9223372036854775807) (h0 : 0 ≤ a) (h1 : a ≤ 1048576) :
    laws_szPump.f s c a = some (roomOf a ((s.size : Int) + ((c.length : Int) + sizeSS c))) := by
  unfold laws_szPump.f
  have hn := sizeSS_nonneg c
  rw [w64 (x := a - (s.size : Int)) (by omega) (by omega)]
  by_cases n1 : a - (s.size : Int) < 0
  · rw [if_pos n1]; unfold roomOf; rw [if_pos (by omega)]
  · rw [if_neg n1]
    have e : laws_szInt64SS_.f c (a - (s.size : Int)) = some (roomOf (a - (s.size : Int)) ((c.length : Int) + sizeSS c)) := by unfold laws_szInt64SS_.f; rw [if_pos ⟨⟨by omega, by omega⟩, hc, hx⟩]
    rw [e]
    simp only [Option.bind_some]
    unfold roomOf
    rw [show a - ((s.size : Int) + ((c.length : Int) + sizeSS c)) = a - (s.size : Int) - ((c.length : Int) + sizeSS c) by omega]
    by_cases n2 : a - (s.size : Int) - ((c.length : Int) + sizeSS c) < 0
    · rw [if_pos n2, if_pos (by omega)]
    · rw [if_neg n2, if_neg n2]
theorem toSS_is {c : List (List Int)} (h : c.length ≤ 1048576) (hx : ∀ x ∈ c, x.length ≤ 1048576) : laws_toInt64SS_.f c = some c := by
  unfold laws_toInt64SS_.f; rw [if_pos ⟨by omega, fun x hx' => by have := hx x hx'; omega⟩]
theorem eqSS_refl {c : List (List Int)} (h : c.length ≤ 1048576) (hx : ∀ x ∈ c, x.length ≤ 1048576) : laws_eqInt64SS_.f c c = some true := by
  unfold laws_eqInt64SS_.f; rw [if_pos ⟨by omega, fun x hx' => by have := hx x hx'; omega⟩]; simp
theorem pumpBits {s : ByteArray} {c : List (List Int)} (b : s.size ≤ 1048576) (h : c.length ≤ 1048576) (hx : ∀ x ∈ c, x.length ≤ 1048576) : laws_toPump.f s c = some (s, c) ∧ laws_eqPump.f s c s c = some true := by
  refine ⟨?_, ?_⟩
  · unfold laws_toPump.f; rw [toSS_is h hx]; rfl
  · unfold laws_eqPump.f; rw [eqSS_refl h hx]; simp
theorem work_is {c : List (List Int)} {st co hi : Int} (h0 : 0 ≤ hi) (h1 : hi ≤ 100001) (ha : ∀ t, 0 ≤ t → t < hi → systemI st co t ≤ headI c t) (hb : ∀ t, hi ≤ t → t ≤ 100000 → headI c t < systemI st co t) : ((workI c st co : Nat) : Int) = hi := by
  unfold workI
  rw [firstTrue_unique _ 100001 hi.toNat (by omega) (fun t ht => decide_eq_false (by have := ha (0 + (t : Int)) (by omega) (by omega); omega)) (fun t ht hn => decide_eq_true (hb _ (by omega) (by omega)))]
  omega
theorem needs_is (st co q : Int) (h1 : 0 ≤ st ∧ st ≤ 2000000) (h2 : 0 ≤ co ∧ co ≤ 100000000) (h3 : 0 ≤ q ∧ q ≤ 100000) : spec_l08Needs.f st co q = some (systemI st co q) := by
  unfold spec_l08Needs.f systemI
  have hm := mulb (a := co) (b := q) 100000000 100000 (by omega) (by omega) (by omega) (by omega)
  have hm2 := mulb (a := co * q) (b := q) 10000000000000 100000 (by omega) (by omega) (by omega) (by omega)
  have hr := rdiv_bound (co * q * q) 10000000000
  have d1 : spec_l01Div_.f (co * q * q) 10000000000 = some (rdiv (co * q * q) 10000000000) := by unfold spec_l01Div_.f; rw [if_pos (by omega)]
  rw [w64 (x := co * q) (by omega) (by omega), w64 (x := co * q * q) (by omega) (by omega), d1]
  simp only [Option.bind_some]
  rw [w64 (by omega) (by omega)]
def pow2 : Nat → Int
  | 0 => 1
  | n + 1 => 2 * pow2 n
theorem work_loop {s : ByteArray} {c : List (List Int)} {st co : Int} (p2 : 2 ≤ c.length ∧ c.length ≤ 8) (p3 : ∀ j, j < c.length → pointOk c j = true) (hst : 0 ≤ st ∧ st ≤ 2000000) (hco : 0 ≤ co ∧ co ≤ 100000000) :
    ∀ (n k : Nat) (lo hi : Int), n < k → hi - lo ≤ pow2 n → -1 ≤ lo → lo < hi → hi ≤ 100001 → (∀ t, 0 ≤ t → t ≤ lo → systemI st co t ≤ headI c t) → (∀ t, hi ≤ t → t ≤ 100000 → headI c t < systemI st co t) →
      spec_WorkingFlow.l0 k st co lo hi s c = some (if workI c st co = 0 then (0, 0, 3) else (((workI c st co : Nat) : Int) - 1, headI c (((workI c st co : Nat) : Int) - 1), 0)) := by
  have hh : ∀ q, spec_l08Head_.f s c q = some (headI c q) := fun q => by unfold spec_l08Head_.f; rw [if_pos ⟨p2.2, p3⟩]
  have stop : ∀ (k : Nat) (lo hi : Int), 0 < k → hi = lo + 1 → -1 ≤ lo → hi ≤ 100001 → (∀ t, 0 ≤ t → t ≤ lo → systemI st co t ≤ headI c t) → (∀ t, hi ≤ t → t ≤ 100000 → headI c t < systemI st co t) →
      spec_WorkingFlow.l0 k st co lo hi s c = some (if workI c st co = 0 then (0, 0, 3) else (((workI c st co : Nat) : Int) - 1, headI c (((workI c st co : Nat) : Int) - 1), 0)) := by
    intro k lo hi hk e h1 h3 ha hb
    obtain ⟨k, rfl⟩ : ∃ m, k = m + 1 := ⟨k - 1, by omega⟩
    simp only [spec_WorkingFlow.l0]
    rw [w64 (x := hi - lo) (by omega) (by omega), if_neg (by omega)]
    have hw := work_is (c := c) (st := st) (co := co) (hi := hi) (by omega) h3 (fun t h t' => ha t h (by omega)) hb
    by_cases c0 : lo < 0
    · rw [if_pos c0, if_pos (by omega)]
    · rw [if_neg c0, if_neg (by omega), hh, show ((workI c st co : Nat) : Int) - 1 = lo by omega]
      rfl
  intro n
  induction n with
  | zero =>
    intro k lo hi hk hd h1 h2 h3 ha hb
    exact stop k lo hi hk (by have : pow2 0 = 1 := rfl; omega) h1 h3 ha hb
  | succ n ih =>
    intro k lo hi hk hd h1 h2 h3 ha hb
    by_cases hg : hi - lo > 1
    · obtain ⟨k, rfl⟩ : ∃ m, k = m + 1 := ⟨k - 1, by omega⟩
      simp only [spec_WorkingFlow.l0]
      have em : wrap64 (Int.tdiv (wrap64 (lo + hi)) 2) = (lo + hi) / 2 := by rw [w64 (x := lo + hi) (by omega) (by omega), Int.tdiv_eq_ediv_of_nonneg (by omega), w64 (by omega) (by omega)]
      have hp : pow2 (n + 1) = 2 * pow2 n := rfl
      rw [w64 (x := hi - lo) (by omega) (by omega), if_pos hg, em, needs_is st co _ hst hco (by omega), hh]
      simp only [Option.bind_some]
      by_cases cc : systemI st co ((lo + hi) / 2) ≤ headI c ((lo + hi) / 2)
      · rw [if_pos cc]
        exact ih k _ hi (by omega) (by omega) (by omega) (by omega) h3 (fun t g1 g2 => Int.le_trans (system_mono hco.1 g1 g2) (Int.le_trans cc (headI_anti c g2 p3 (by omega)))) hb
      · rw [if_neg cc]
        exact ih k lo _ (by omega) (by omega) h1 (by omega) (by omega) ha (fun t g1 g2 => Int.lt_of_le_of_lt (headI_anti c g1 p3 (by omega)) (Int.lt_of_lt_of_le (Int.not_le.mp cc) (system_mono hco.1 (by omega) g1)))
    · exact stop k lo hi (by omega) (by omega) h1 h3 ha hb
theorem FnExactWorkingFlow : ∀ (a0_0 : ByteArray) (l0_1 : List (List (Int))) (a1 : Int) (a2 : Int), (a0_0.size ≤ 9223372036854775807) → (l0_1.length ≤ 9223372036854775807) → (∀ p ∈ l0_1, p.length ≤ 9223372036854775807 ∧ (∀ q ∈ p, (Lit.int .i64 q).wf = true)) → ((Lit.int .i64 a1).wf = true) → ((Lit.int .i64 a2).wf = true) → ∃ k, laws_FnExactWorkingFlow.f k a0_0 l0_1 a1 a2 = some true := by
  intro s c st co hs hc hcx hq he
  have hcl : ∀ x ∈ c, x.length ≤ 9223372036854775807 := fun x hx => (hcx x hx).1
  have k1 := sizeSS_nonneg c
  refine ⟨60, ?_⟩
  unfold laws_FnExactWorkingFlow.f
  rw [szPump_is s c 1048576 hs hc hcl (by omega) (by omega)]
  simp only [Option.bind_some]
  by_cases n1 : roomOf 1048576 ((s.size : Int) + ((c.length : Int) + sizeSS c)) < 0
  · rw [if_pos n1]
  rw [if_neg n1]
  have b1 := roomOf_ok n1
  have cx : ∀ x ∈ c, x.length ≤ 1048576 := fun x hx => by have := sizeSS_elem (l := c) (m := 1048576) (by omega) x hx; omega
  obtain ⟨tp, ep⟩ := pumpBits (s := s) (c := c) (by omega) (by omega) cx
  have so : spec_l08Ok_.f s c = some (pumpOk s c) := by unfold spec_l08Ok_.f; rw [if_pos (by omega)]
  have iv : impl_WorkingFlow.f s c st co = some (workR s c st co) := by unfold impl_WorkingFlow.f; rw [if_pos (by omega)]
  have sy : spec_l08System.f st co = some (decide ((0 ≤ st ∧ st ≤ 2000000) ∧ (0 ≤ co ∧ co ≤ 100000000))) := by
    unfold spec_l08System.f spec_l00In_.f
    by_cases g1 : 0 ≤ st ∧ st ≤ 2000000
    · by_cases g2 : 0 ≤ co ∧ co ≤ 100000000
      · simp [g1, g2]
      · simp [g1, g2]
    · simp [g1]
  have sv : ∀ k, spec_WorkingFlow.f (k + 18) s c st co = some (workR s c st co) := by
    intro k
    unfold spec_WorkingFlow.f workR
    rw [so]
    simp only [Option.bind_some]
    by_cases h : pumpOk s c = true
    · obtain ⟨p1, p2, p3⟩ := pump_parts h
      rw [if_pos h, if_pos h, sy]
      simp only [Option.bind_some]
      by_cases g : (0 ≤ st ∧ st ≤ 2000000) ∧ (0 ≤ co ∧ co ≤ 100000000)
      · rw [if_pos (decide_eq_true g), if_pos g]
        exact work_loop ⟨p1, p2⟩ p3 g.1 g.2 17 (k + 18) (-1) 100001 (by omega) (by decide) (by omega) (by omega) (by omega) (fun t g1 g2 => by omega) (fun t g1 g2 => by omega)
      · rw [if_neg (by rw [decide_eq_false g]; simp), if_neg g]
    · rw [if_neg h, if_neg h]
  simp [tp, ep, sv, iv, laws_FnExactWorkingFlow.j0, laws_FnExactWorkingFlow.j1, laws_FnExactWorkingFlow.j2]

end Go.Proofs.Ythgfkbkobnfnaaa.Pure
