/- For every pump and speed the program's SlowPump answers as the reference's does, leaves the pump as it is, and hands out memory of its own. No condition. -/
import Derived.Test.YtcggfmmjjkdgnaaPFnExactSlowPumpx8
import Derived.Test.YtcggfmmjjkdgnaaMath
import Derived.Test.YtcggfmmjjkdgnaaMathQ
import Derived.Test.YtcggfmmjjkdgnaaMathR
namespace Go.Proofs.Ytcggfmmjjkdgnaa.Pure
open Go.RowKit Go.Proofs.Ytcggfmmjjkdgnaa.PFnExactSlowPump Go.Proofs.YtcggfmmjjkdgnaaW.PrintWords Go.Proofs.YtcggfmmjjkdgnaaW.PrintLast Go.Proofs.YtcggfmmjjkdgnaaW.PrintMore Go.Proofs.YtcggfmmjjkdgnaaM
set_option linter.unusedSimpArgs false
set_option linter.unusedVariables false
theorem roomOf_ok {a n : Int} (h : ¬ roomOf a n < 0) : n ≤ a ∧ roomOf a n = a - n := by
  unfold roomOf at *
  split at h
  · omega
  · rename_i c; rw [if_neg c]; exact ⟨by omega, rfl⟩
theorem szPump_is (s : ByteArray) (c : List (List Int)) (a : Int) (hs : s.size ≤ 9223372036854775807) (hc : c.length ≤ 9223372036854775807) (hx : ∀ x ∈ c, x.length ≤ 9223372036854775807) (h0 : 0 ≤ a) (h1 : a ≤ 1048576) :
    laws_szPump.f s c a = some (roomOf a ((s.size : Int) + ((c.length : Int) + sizeSS c))) := by
  unfold laws_szPump.f
  have hn := sizeSS_nonneg c
  rw [w64 (x := a - (s.size : Int)) (by omega) (by omega)]
  by_cases n1 : a - (s.size : Int) < 0
  · rw [if_pos n1]; unfold roomOf; rw [if_pos (by omega)]
  · rw [if_neg n1]
    have e : laws_szInt64SS_.f c (a - (s.size : Int)) = some (roomOf (a - (s.size : Int)) ((c.length : Int) + sizeSS c)) := by unfold laws_szInt64SS_.f; rw [if_pos ⟨⟨by omega, by omega⟩, hc, hx⟩]
    rw [e]
    simp only [Option.bind_some]
    unfold roomOf
    rw [show a - ((s.size : Int) + ((c.length : Int) + sizeSS c)) = a - (s.size : Int) - ((c.length : Int) + sizeSS c) by omega]
    by_cases n2 : a - (s.size : Int) - ((c.length : Int) + sizeSS c) < 0
    · rw [if_pos n2, if_pos (by omega)]
    · rw [if_neg n2, if_neg n2]
theorem toSS_is {c : List (List Int)} (h : c.length ≤ 1048576) (hx : ∀ x ∈ c, x.length ≤ 1048576) : laws_toInt64SS_.f c = some c := by
  unfold laws_toInt64SS_.f; rw [if_pos ⟨by omega, fun x hx' => by have := hx x hx'; omega⟩]
theorem eqSS_refl {c : List (List Int)} (h : c.length ≤ 1048576) (hx : ∀ x ∈ c, x.length ≤ 1048576) : laws_eqInt64SS_.f c c = some true := by
  unfold laws_eqInt64SS_.f; rw [if_pos ⟨by omega, fun x hx' => by have := hx x hx'; omega⟩]; simp
theorem slow_succ {i : Nat} (h : i < 9000000000000000000) : wrap64 ((i : Int) + 1) = ((i + 1 : Nat) : Int) := by rw [w64 (by omega) (by omega)]; omega
/-- A point at another speed. -/
def slowP (v : Int) (x : List Int) : List Int := [rdiv (x.getD 0 0 * v) 1000, rdiv (x.getD 1 0 * v * v) 1000000]
theorem slow_range {a b v : Int} (a0 : 0 ≤ a) (a1 : a ≤ 100000) (b0 : 0 ≤ b) (b1 : b ≤ 2000000) (v0 : 100 ≤ v) (v1 : v ≤ 1200) : (0 ≤ a * v ∧ a * v ≤ 120000000) ∧ (0 ≤ b * v ∧ b * v ≤ 2400000000) ∧ 0 ≤ b * v * v ∧ b * v * v ≤ 2880000000000 := by
  have h1 : a * v ≤ 100000 * 1200 := Int.mul_le_mul a1 v1 (by omega) (by omega)
  have h2 : 0 ≤ a * v := Int.mul_nonneg a0 (by omega)
  have h3 : b * v ≤ 2000000 * 1200 := Int.mul_le_mul b1 v1 (by omega) (by omega)
  have h4 : 0 ≤ b * v := Int.mul_nonneg b0 (by omega)
  have h5 : b * v * v ≤ 2400000000 * 1200 := Int.mul_le_mul (by omega) v1 (by omega) (by omega)
  have h6 : 0 ≤ b * v * v := Int.mul_nonneg h4 (by omega)
  omega
theorem rdL (c : List (List Int)) (i : Nat) : rd_L1 c (i : Int) = c.getD i [] := by unfold rd_L1; rw [Int.toNat_natCast]
theorem drop_row (c : List (List Int)) (i : Nat) (h : i < c.length) : c.drop i = c.getD i [] :: c.drop (i + 1) := by
  rw [List.drop_eq_getElem_cons h, List.getD_eq_getElem?_getD, List.getElem?_eq_getElem h]; rfl
theorem sslow_l0 {s : ByteArray} {c : List (List Int)} (hp : pumpOk s c = true) {v : Int} (v0 : 100 ≤ v) (v1 : v ≤ 1200) (t : ByteArray) : ∀ (d K i : Nat) (o : List (List Int)), i + d = c.length → o.length = i → d < K → spec_l08Slow.l0 K v (i : Int) s c t o = some (t, o ++ (c.drop i).map (slowP v))
  | d, 0, i, o, hd, ho, hK => by omega
  | 0, K + 1, i, o, hd, ho, hK => by
    simp only [spec_l08Slow.l0]
    rw [if_neg (by omega), List.drop_of_length_le (by omega)]; simp
  | d + 1, K + 1, i, o, hd, ho, hK => by
    obtain ⟨_, h8, hpt⟩ := pump_parts hp
    have hx := hpt i (by omega)
    have hl := point_len hx
    obtain ⟨⟨a0, a1⟩, b0, b1⟩ := point_range hx
    obtain ⟨⟨r0, r1⟩, ⟨r2, r3⟩, r4, r5⟩ := slow_range a0 a1 b0 b1 v0 v1
    have e0 : rd (c.getD i []) 0 = (c.getD i []).getD 0 0 := rfl
    have e1 : rd (c.getD i []) 1 = (c.getD i []).getD 1 0 := rfl
    simp only [spec_l08Slow.l0]
    rw [if_pos (by omega), if_pos (by omega), rdL, if_pos (by omega), e0, e1, w64 (x := (c.getD i []).getD 0 0 * v) (by omega) (by omega), w64 (x := (c.getD i []).getD 1 0 * v) (by omega) (by omega), w64 (x := (c.getD i []).getD 1 0 * v * v) (by omega) (by omega)]
    unfold spec_l01Div_.f
    rw [if_pos ⟨by omega, by omega, by omega, by omega, by omega⟩, Option.bind_some, if_pos (by omega), if_pos ⟨by omega, by omega, by omega, by omega, by omega⟩, Option.bind_some, if_pos (by omega), slow_succ (by omega), sslow_l0 hp v0 v1 t d K (i + 1) _ (by omega) (by simp [ho]) (by omega), drop_row c i (by omega), List.map_cons, List.append_assoc]
    rfl
theorem islow_l0 {s : ByteArray} {c : List (List Int)} (hp : pumpOk s c = true) {v : Int} (v0 : 100 ≤ v) (v1 : v ≤ 1200) (t : ByteArray) : ∀ (d K i : Nat) (o : List (List Int)), i + d = c.length → o.length = i → d < K → impl_Pump_atSpeed.l0 K v c (c.length : Int) (i : Int) t o = some (t, o ++ (c.drop i).map (slowP v))
  | d, 0, i, o, hd, ho, hK => by omega
  | 0, K + 1, i, o, hd, ho, hK => by
    simp only [impl_Pump_atSpeed.l0]
    rw [if_neg (by omega), List.drop_of_length_le (by omega)]; simp
  | d + 1, K + 1, i, o, hd, ho, hK => by
    obtain ⟨_, h8, hpt⟩ := pump_parts hp
    have hx := hpt i (by omega)
    have hl := point_len hx
    obtain ⟨⟨a0, a1⟩, b0, b1⟩ := point_range hx
    obtain ⟨⟨r0, r1⟩, ⟨r2, r3⟩, r4, r5⟩ := slow_range a0 a1 b0 b1 v0 v1
    have e0 : rd (c.getD i []) 0 = (c.getD i []).getD 0 0 := rfl
    have e1 : rd (c.getD i []) 1 = (c.getD i []).getD 1 0 := rfl
    simp only [impl_Pump_atSpeed.l0]
    rw [if_pos (by omega), if_pos (by omega), if_pos (by omega), rdL, if_pos (by omega), e0, e1, w64 (x := (c.getD i []).getD 0 0 * v) (by omega) (by omega), w64 (x := (c.getD i []).getD 1 0 * v) (by omega) (by omega), w64 (x := (c.getD i []).getD 1 0 * v * v) (by omega) (by omega)]
    unfold impl_divRound.f
    rw [if_pos ⟨by omega, by omega, by omega, by omega, by omega⟩, Option.bind_some, if_pos (by omega), if_pos ⟨by omega, by omega, by omega, by omega, by omega⟩, Option.bind_some, if_pos (by omega), slow_succ (by omega), islow_l0 hp v0 v1 t d K (i + 1) _ (by omega) (by simp [ho]) (by omega), drop_row c i (by omega), List.map_cons, List.append_assoc]
    rfl
/-- The answer. -/
def slowV (s : ByteArray) (c : List (List Int)) (v : Int) : ByteArray × List (List Int) × Int :=
  if pumpOk s c = true then (if 100 ≤ v ∧ v ≤ 1200 then (if pumpOk s (c.map (slowP v)) = true then (s, c.map (slowP v), 0) else (⟨#[]⟩, [], 6)) else (⟨#[]⟩, [], 2)) else (⟨#[]⟩, [], 1)
theorem ssLen_size (l : List (List Int)) : ssLen l = sizeSS l := by
  induction l with
  | nil => rfl
  | cons x l ih => simp only [ssLen, sizeSS, ih]
theorem held_l0 {L : List (List Int)} (hL : L.length ≤ 1048576) : ∀ (d : List (List Int)) (K i : Nat) (k : Int), L.drop i = ssMark d k → 0 ≤ k → k + ssLen d ≤ 1000000000000 → d.length < K → laws_heldInt64SS.l0 K L k (i : Int) = some (k + ssLen d)
  | d, 0, i, k, _, _, _, hK => by omega
  | [], K + 1, i, k, hi, _, _, hK => by
    have : L.length ≤ i := List.drop_eq_nil_iff.1 hi
    simp only [laws_heldInt64SS.l0]
    rw [if_neg (by omega)]
    simp [ssLen]
  | x :: d, K + 1, i, k, hi, h0, h1, hK => by
    have hn := ssLen_nonneg d
    simp only [ssLen] at h1
    simp only [ssMark] at hi
    have hlt : i < L.length := by
      rcases Nat.lt_or_ge i L.length with h | h
      · exact h
      · rw [List.drop_of_length_le h] at hi; cases hi
    rw [drop_row L i hlt] at hi
    injection hi with hx hr
    have hml : (marks k x.length).length = x.length := by rw [marks_length]
    have hh : laws_heldInt64S_.f (rd_L1 L (i : Int)) k = some (k + (x.length : Int)) := by
      unfold laws_heldInt64S_.f
      rw [rdL, hx, if_pos ⟨by omega, by rw [hml]; omega⟩, held_marks]
    simp only [laws_heldInt64SS.l0]
    rw [if_pos (by omega), if_pos (by omega), hh, Option.bind_some, if_neg (by omega), slow_succ (by omega), held_l0 hL d K (i + 1) (k + (x.length : Int)) hr (by omega) (by omega) (by simp only [List.length_cons] at hK; omega)]
    simp only [ssLen]
    rw [Int.add_assoc]
theorem FnExactSlowPump : ∀ (a0_0 : ByteArray) (l0_1 : List (List (Int))) (a1 : Int), (a0_0.size ≤ 9223372036854775807) → (l0_1.length ≤ 9223372036854775807) → (∀ p ∈ l0_1, p.length ≤ 9223372036854775807 ∧ (∀ q ∈ p, (Lit.int .i64 q).wf = true)) → ((Lit.int .i64 a1).wf = true) → ∃ k, laws_FnExactSlowPump.f k a0_0 l0_1 a1 = some true := by
  intro s c v hs hc hcx hv
  have hcl : ∀ x ∈ c, x.length ≤ 9223372036854775807 := fun x hx => (hcx x hx).1
  have k1 := sizeSS_nonneg c
  refine ⟨1048700, ?_⟩
  unfold laws_FnExactSlowPump.f
  rw [szPump_is s c 1048576 hs hc hcl (by omega) (by omega)]
  simp only [Option.bind_some]
  by_cases n1 : roomOf 1048576 ((s.size : Int) + ((c.length : Int) + sizeSS c)) < 0
  · rw [if_pos n1]
  rw [if_neg n1]
  have b1 := roomOf_ok n1
  have cx : ∀ x ∈ c, x.length ≤ 1048576 := fun x hx => by have := sizeSS_elem (l := c) (m := 1048576) (by omega) x hx; omega
  have tc : laws_toPump.f s c = some (s, c) := by unfold laws_toPump.f; rw [toSS_is (by omega) cx]; rfl
  have ec : laws_eqPump.f s c s c = some true := by unfold laws_eqPump.f; rw [if_pos rfl, eqSS_refl (by omega) cx]; rfl
  have mc : laws_markPump.f s c 1 = some (1 + ssLen c) := by unfold laws_markPump.f; rw [if_pos ⟨⟨by omega, by rw [ssLen_size]; omega⟩, by omega⟩]
  have mc0 : ¬ (1 + ssLen c < 0) := by have := ssLen_nonneg c; omega
  have hW : impl_within_.f v 100 1200 = some (decide (100 ≤ v ∧ v ≤ 1200)) := rfl
  have hS : spec_l08Speed.f v = some (decide (100 ≤ v ∧ v ≤ 1200)) := rfl
  have vO : ∀ t d, t.size ≤ 9000000000000000000 → impl_ValidPump_.f t d = some (pumpOk t d) := fun t d h => by unfold impl_ValidPump_.f; rw [if_pos h]
  have sO : ∀ t d, t.size ≤ 9000000000000000000 → spec_l08Ok_.f t d = some (pumpOk t d) := fun t d h => by unfold spec_l08Ok_.f; rw [if_pos h]
  have hss : s.size ≤ 9000000000000000000 := by omega
  have sv : ∀ K, 100 ≤ K → spec_SlowPump.f K s c v = some (slowV s c v) := by
    intro K hK
    unfold spec_SlowPump.f slowV
    rw [sO s c hss, Option.bind_some, hS, Option.bind_some]
    by_cases p : pumpOk s c = true
    · rw [if_pos p, if_pos p]
      by_cases q : 100 ≤ v ∧ v ≤ 1200
      · have h8 := (pump_parts p).2.1
        have hl := sslow_l0 p q.1 q.2 s c.length K 0 [] (by omega) rfl (by omega)
        rw [List.drop_zero, List.nil_append] at hl
        have hf : spec_l08Slow.f K s c v = some (s, c.map (slowP v)) := hl
        rw [decide_eq_true q, if_pos rfl, if_pos q, hf, Option.bind_some]
        simp only []
        rw [sO _ _ hss, Option.bind_some]
        split <;> rfl
      · rw [decide_eq_false q, if_neg (by simp), if_neg q]
    · rw [if_neg p, if_neg p]
  have iv : ∀ K, 100 ≤ K → impl_SlowPump.f K s c v = some (slowV s c v) := by
    intro K hK
    unfold impl_SlowPump.f slowV
    rw [vO s c hss, Option.bind_some, hW, Option.bind_some]
    by_cases p : pumpOk s c = true
    · rw [if_pos p, if_pos p]
      by_cases q : 100 ≤ v ∧ v ≤ 1200
      · have h8 := (pump_parts p).2.1
        have hl := islow_l0 p q.1 q.2 s c.length K 0 [] (by omega) rfl (by omega)
        rw [List.drop_zero, List.nil_append] at hl
        have hf : impl_Pump_atSpeed.f K s c v = some (s, c.map (slowP v)) := hl
        rw [decide_eq_true q, if_pos rfl, if_pos q, hf, Option.bind_some]
        simp only []
        rw [vO _ _ hss, Option.bind_some]
        split <;> rfl
      · rw [decide_eq_false q, if_neg (by simp), if_neg q]
    · rw [if_neg p, if_neg p]
  have hR : (slowV s c v).2.1.length ≤ 1048576 ∧ (∀ x ∈ (slowV s c v).2.1, x.length ≤ 1048576) ∧ ssLen (slowV s c v).2.1 ≤ 4194304 := by
    have hm : ∀ d : List (List Int), ssLen (d.map (slowP v)) = 2 * (d.length : Int) := fun d => by
      induction d with
      | nil => rfl
      | cons x d ih => simp only [List.map_cons, ssLen, ih, slowP, List.length_cons, List.length_nil]; omega
    unfold slowV
    split
    · split
      · split
        · refine ⟨by simp; omega, fun x hx => ?_, ?_⟩
          · obtain ⟨y, _, rfl⟩ := List.mem_map.1 hx
            simp [slowP]
          · show ssLen (c.map (slowP v)) ≤ _
            rw [hm]; omega
        · simp [ssLen]
      · simp [ssLen]
    · simp [ssLen]
  generalize slowV s c v = R at sv iv hR
  obtain ⟨hR1, hR2, hR3⟩ := hR
  have hn := ssLen_nonneg R.2.1
  have eR : laws_eqPump.f R.1 R.2.1 R.1 R.2.1 = some true := by unfold laws_eqPump.f; rw [if_pos rfl, eqSS_refl hR1 hR2]; rfl
  have mR : laws_markPump.f R.1 R.2.1 1 = some (1 + ssLen R.2.1) := by unfold laws_markPump.f; rw [if_pos ⟨⟨by omega, by omega⟩, by omega⟩]
  have hH : ∀ K, 1048600 ≤ K → laws_heldPump.f K R.1 (ssMark R.2.1 1) 1 = some (1 + ssLen R.2.1) := by
    intro K hK
    unfold laws_heldPump.f laws_heldInt64SS.f
    have := held_l0 (L := ssMark R.2.1 1) (by rw [ssMark_length]; exact hR1) R.2.1 K 0 1 rfl (by omega) (by omega) (by omega)
    rw [show ((0 : Nat) : Int) = (0 : Int) from rfl] at this
    rw [this, Option.bind_some, if_neg (by omega)]
  have h0 : ¬ (1 + ssLen R.2.1 < 0) := by omega
  simp [tc, ec, mc, mc0, sv, iv, eR, mR, hH, h0, laws_FnExactSlowPump.j0, laws_FnExactSlowPump.j1, laws_FnExactSlowPump.j2, laws_FnExactSlowPump.j3, laws_FnExactSlowPump.j4, laws_FnExactSlowPump.j5, laws_FnExactSlowPump.j6, laws_FnExactSlowPump.j7, laws_FnExactSlowPump.j8, laws_FnExactSlowPump.j9]

end Go.Proofs.Ytcggfmmjjkdgnaa.Pure
