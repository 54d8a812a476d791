/- For all pairs of networks the program's SameNetwork answers as the reference's SameNetwork does, and leaves the networks as they are. No condition. -/
import Derived.Test.YthgfkbkobnfnaaaPFnExactSameNetworkx5
import Derived.Test.YthgfkbkobnfnaaaMath
import Derived.Test.YthgfkbkobnfnaaaMathR
namespace Go.Proofs.Ythgfkbkobnfnaaa.Pure
open Go.RowKit Go.Proofs.Ythgfkbkobnfnaaa.PFnExactSameNetwork Go.Proofs.YthgfkbkobnfnaaaW.PrintWords Go.Proofs.YthgfkbkobnfnaaaW.PrintLast Go.Proofs.YthgfkbkobnfnaaaW.PrintMore Go.Proofs.YthgfkbkobnfnaaaM
set_option linter.unusedSimpArgs false
set_option linter.unusedVariables false
theorem roomOf_ok {a n : Int} (h : ¬ roomOf a n < 0) : n ≤ a ∧ roomOf a n = a - n := by
  unfold roomOf at *
  split at h
  · omega
  · rename_i c; rw [if_neg c]; exact ⟨by omega, rfl⟩
theorem szNet_is (ns : List Int) (qs : List S69) (a : Int) (hn : ns.length ≤ 9223372036854775807) (hq : qs.length ≤ 9223372036854775807) (hx : ∀ p ∈ qs, p.f0.size ≤ 9223372036854775807) (h0 : 0 ≤ a) (h1 : a ≤ 1048576) :
    laws_szNetwork.f ns qs a = some (roomOf a ((ns.length : Int) + ((qs.length : Int) + sizeP qs))) := by
  unfold laws_szNetwork.f laws_szInt64S.f
  have hz := sizeP_nonneg qs
  rw [w64 (x := a - (ns.length : Int)) (by omega) (by omega)]
  by_cases n1 : a - (ns.length : Int) < 0
  · rw [if_pos n1]; simp only [Option.bind_some]; unfold roomOf; rw [if_pos (by omega), if_pos (by omega)]
  · rw [if_neg n1]
    simp only [Option.bind_some]
    have e : laws_szPipeS_.f qs (a - (ns.length : Int)) = some (roomOf (a - (ns.length : Int)) ((qs.length : Int) + sizeP qs)) := by unfold laws_szPipeS_.f; rw [if_pos ⟨⟨by omega, by omega⟩, hq, hx⟩]
    rw [if_neg n1, e]
    simp only [Option.bind_some]
    unfold roomOf
    rw [show a - ((ns.length : Int) + ((qs.length : Int) + sizeP qs)) = a - (ns.length : Int) - ((qs.length : Int) + sizeP qs) by omega]
    by_cases n2 : a - (ns.length : Int) - ((qs.length : Int) + sizeP qs) < 0
    · rw [if_pos n2, if_pos (by omega)]
    · rw [if_neg n2, if_neg n2]
theorem toNet_is {ns : List Int} {qs : List S69} (hn : ns.length ≤ 1048576) (hq : qs.length ≤ 1048576) : laws_toNetwork.f ns qs = some (ns, qs.map cvP) := by
  unfold laws_toNetwork.f laws_toInt64S_.f laws_toPipeS_.f
  rw [if_pos (by omega), if_pos (by omega)]; rfl
theorem eqNet_refl {ns : List Int} {ps : List S72} (hn : ns.length ≤ 1048576) (hq : ps.length ≤ 1048576) : laws_eqNetwork.f ns ps ns ps = some true := by
  unfold laws_eqNetwork.f laws_eqInt64S_.f laws_eqPipeS_.f
  rw [if_pos (by omega), if_pos (by omega)]; simp [pipesEq_refl]
theorem cv_size {qs : List S69} {m : Nat} (h : sizeP qs ≤ (m : Int)) : ∀ p ∈ qs.map cvP, p.f0.size ≤ m := by
  intro p hp
  obtain ⟨q, hq, rfl⟩ := List.mem_map.mp hp
  have := sizeP_elem h q hq
  show q.f0.size ≤ m
  omega
def pipeNe (p q : S72) : Bool := !(p.f0.toList == q.f0.toList) || (!(p.f1 == q.f1) || (!(p.f2 == q.f2) || (!(p.f3 == q.f3) || (!(p.f4 == q.f4) || !(p.f5 == q.f5)))))
theorem pipeNe_not (p q : S72) : pipeNe p q = !pipeEq p q := by
  unfold pipeNe pipeEq
  by_cases h0 : p.f0.toList = q.f0.toList <;> by_cases h1 : p.f1 = q.f1 <;> by_cases h2 : p.f2 = q.f2 <;> by_cases h3 : p.f3 = q.f3 <;> by_cases h4 : p.f4 = q.f4 <;> by_cases h5 : p.f5 = q.f5 <;> simp [h0, h1, h2, h3, h4, h5]
theorem ssame_loop (ns ms : List Int) (l m : List S72) (he : l.length = m.length) (hl : l.length ≤ 1048576) : ∀ (d k i : Nat), i ≤ l.length → l.length - i = d → d < k → spec_SameNetwork.l0 k (i : Int) ns l ms m = some (pipesEq (l.drop i) (m.drop i)) := by
  intro d
  induction d with
  | zero =>
    intro k i h1 hd hk
    obtain ⟨k, rfl⟩ : ∃ m, k = m + 1 := ⟨k - 1, by omega⟩
    simp only [spec_SameNetwork.l0]; rw [if_neg (by omega), List.drop_of_length_le (by omega), List.drop_of_length_le (by omega)]; rfl
  | succ d ih =>
    intro k i h1 hd hk
    obtain ⟨k, rfl⟩ : ∃ m, k = m + 1 := ⟨k - 1, by omega⟩
    simp only [spec_SameNetwork.l0]
    rw [if_pos (by omega), if_pos (by omega), if_pos (by omega), rdP_impl, rdP_impl, w64 (x := (i : Int) + 1) (by omega) (by omega), show (i : Int) + 1 = ((i + 1 : Nat) : Int) by omega, ih k (i + 1) (by omega) (by omega) (by omega), dropP l i (by omega), dropP m i (by omega)]
    show (if pipeNe (l.getD i z72) (m.getD i z72) = true then _ else _) = _
    rw [pipeNe_not]
    simp only [pipesEq]
    cases pipeEq (l.getD i z72) (m.getD i z72) <;> simp
theorem isame_loop (l m : List S72) (he : l.length = m.length) (hl : l.length ≤ 1048576) : ∀ (d k i : Nat), i ≤ l.length → l.length - i = d → d < k → impl_Pipe.l0 k l m (l.length : Int) (i : Int) = some (pipesEq (l.drop i) (m.drop i)) := by
  intro d
  induction d with
  | zero =>
    intro k i h1 hd hk
    obtain ⟨k, rfl⟩ : ∃ m, k = m + 1 := ⟨k - 1, by omega⟩
    simp only [impl_Pipe.l0]; rw [if_neg (by omega), List.drop_of_length_le (by omega), List.drop_of_length_le (by omega)]; rfl
  | succ d ih =>
    intro k i h1 hd hk
    obtain ⟨k, rfl⟩ : ∃ m, k = m + 1 := ⟨k - 1, by omega⟩
    simp only [impl_Pipe.l0]
    rw [if_pos (by omega), if_pos (by omega), if_pos (by omega), if_pos (by omega), rdP_impl, rdP_impl, w64 (x := (i : Int) + 1) (by omega) (by omega), show (i : Int) + 1 = ((i + 1 : Nat) : Int) by omega, ih k (i + 1) (by omega) (by omega) (by omega), dropP l i (by omega), dropP m i (by omega)]
    show (if pipeNe (l.getD i z72) (m.getD i z72) = true then _ else _) = _
    rw [pipeNe_not]
    simp only [pipesEq]
    cases pipeEq (l.getD i z72) (m.getD i z72) <;> simp
theorem FnExactSameNetwork : ∀ (l0_0 : List (Int)) (l0_1 : List (S69)) (l1_0 : List (Int)) (l1_1 : List (S69)), (l0_0.length ≤ 9223372036854775807) → (∀ p ∈ l0_0, (Lit.int .i64 p).wf = true) → (l0_1.length ≤ 9223372036854775807) → (∀ p ∈ l0_1, p.f0.size ≤ 9223372036854775807 ∧ (Lit.int .i64 p.f1).wf = true ∧ (Lit.int .i64 p.f2).wf = true ∧ (Lit.int .i64 p.f3).wf = true ∧ (Lit.int .i64 p.f4).wf = true ∧ (Lit.int .i64 p.f5).wf = true) → (l1_0.length ≤ 9223372036854775807) → (∀ p ∈ l1_0, (Lit.int .i64 p).wf = true) → (l1_1.length ≤ 9223372036854775807) → (∀ p ∈ l1_1, p.f0.size ≤ 9223372036854775807 ∧ (Lit.int .i64 p.f1).wf = true ∧ (Lit.int .i64 p.f2).wf = true ∧ (Lit.int .i64 p.f3).wf = true ∧ (Lit.int .i64 p.f4).wf = true ∧ (Lit.int .i64 p.f5).wf = true) → ∃ k, laws_FnExactSameNetwork.f k l0_0 l0_1 l1_0 l1_1 = some true := by
  intro ns qs ms rs hn hw hq hx hn2 hw2 hq2 hx2
  have hxs : ∀ p ∈ qs, p.f0.size ≤ 9223372036854775807 := fun p hp => (hx p hp).1
  have hxs2 : ∀ p ∈ rs, p.f0.size ≤ 9223372036854775807 := fun p hp => (hx2 p hp).1
  have hz := sizeP_nonneg qs
  have hz2 := sizeP_nonneg rs
  refine ⟨qs.length + 40, ?_⟩
  unfold laws_FnExactSameNetwork.f
  rw [szNet_is ns qs 1048576 hn hq hxs (by omega) (by omega)]
  simp only [Option.bind_some]
  by_cases n1 : roomOf 1048576 ((ns.length : Int) + ((qs.length : Int) + sizeP qs)) < 0
  · rw [if_pos n1]
  rw [if_neg n1]
  have b1 := roomOf_ok n1
  have s2 := szNet_is ms rs (roomOf 1048576 ((ns.length : Int) + ((qs.length : Int) + sizeP qs))) hn2 hq2 hxs2 (by omega) (by omega)
  have tn : laws_toNetwork.f ns qs = some (ns, qs.map cvP) := toNet_is (by omega) (by omega)
  have en : laws_eqNetwork.f ns (qs.map cvP) ns (qs.map cvP) = some true := eqNet_refl (by omega) (by simp; omega)
  by_cases n2 : roomOf (roomOf 1048576 ((ns.length : Int) + ((qs.length : Int) + sizeP qs))) ((ms.length : Int) + ((rs.length : Int) + sizeP rs)) < 0
  · simp [s2, n2, laws_FnExactSameNetwork.j0, laws_FnExactSameNetwork.j1, laws_FnExactSameNetwork.j2, laws_FnExactSameNetwork.j3]
  have b2 := roomOf_ok n2
  have tn2 : laws_toNetwork.f ms rs = some (ms, rs.map cvP) := toNet_is (by omega) (by omega)
  have en2 : laws_eqNetwork.f ms (rs.map cvP) ms (rs.map cvP) = some true := eqNet_refl (by omega) (by simp; omega)
  have hl : (qs.map cvP).length = qs.length := by simp
  have hl2 : (rs.map cvP).length = rs.length := by simp
  generalize qs.map cvP = ps at *
  generalize rs.map cvP = os at *
  have e1 : spec_l00Same_.f ns ms = some (decide (ns = ms)) := by unfold spec_l00Same_.f; rw [if_pos (by omega)]
  have e2 : slices_Equal_int64_int64_.f ns ms = some (decide (ns = ms)) := by unfold slices_Equal_int64_int64_.f; rw [if_pos (by omega)]
  have sv : ∀ k, qs.length + 5 ≤ k → spec_SameNetwork.f k ns ps ms os = some (decide (ns = ms) && pipesEq ps os) := by
    intro k hk
    obtain ⟨k, rfl⟩ : ∃ m, k = m + 1 := ⟨k - 1, by omega⟩
    unfold spec_SameNetwork.f
    rw [e1]
    simp only [Option.bind_some, spec_SameNetwork.j0]
    by_cases c : ns = ms
    · rw [if_pos (decide_eq_true c), decide_eq_true c, Bool.true_and]
      by_cases he : ps.length = os.length
      · have e : ((ps.length : Int) != (os.length : Int)) = false := by simp; omega
        rw [e, if_neg (by simp)]
        have := ssame_loop ns ms ps os he (by omega) ps.length k 0 (by omega) (by omega) (by omega)
        simpa using this
      · have e : ((ps.length : Int) != (os.length : Int)) = true := by simp; omega
        rw [e, if_pos rfl, pipesEq_len ps os he]
    · rw [if_neg (by rw [decide_eq_false c]; simp), decide_eq_false c]; simp
  have iv : ∀ k, qs.length + 5 ≤ k → impl_SameNetwork.f k ns ps ms os = some (decide (ns = ms) && pipesEq ps os) := by
    intro k hk
    unfold impl_SameNetwork.f impl_Pipe.f
    rw [e2]
    simp only [Option.bind_some]
    by_cases c : ns = ms
    · rw [if_pos (decide_eq_true c), decide_eq_true c, Bool.true_and]
      by_cases he : ps.length = os.length
      · rw [if_pos (by omega)]
        have := isame_loop ps os he (by omega) ps.length k 0 (by omega) (by omega) (by omega)
        simp at this
        simp [this]
      · rw [if_neg (by omega), pipesEq_len ps os he]; simp
    · rw [if_neg (by rw [decide_eq_false c]; simp), decide_eq_false c]; simp
  simp [s2, n2, tn, en, tn2, en2, sv, iv, laws_FnExactSameNetwork.j0, laws_FnExactSameNetwork.j1, laws_FnExactSameNetwork.j2, laws_FnExactSameNetwork.j3]

end Go.Proofs.Ythgfkbkobnfnaaa.Pure
