/- For every network, list of flows and node the program's BalanceAt answers as the reference's BalanceAt does, and leaves its arguments as they are. No condition. -/
import Derived.Test.YthgfkbkobnfnaaaPFnExactBalanceAtx9
import Derived.Test.YthgfkbkobnfnaaaMath
import Derived.Test.YthgfkbkobnfnaaaMathR
namespace Go.Proofs.Ythgfkbkobnfnaaa.Pure
open Go.RowKit Go.Proofs.Ythgfkbkobnfnaaa.PFnExactBalanceAt Go.Proofs.YthgfkbkobnfnaaaW.PrintWords Go.Proofs.YthgfkbkobnfnaaaW.PrintLast Go.Proofs.YthgfkbkobnfnaaaW.PrintMore Go.Proofs.YthgfkbkobnfnaaaM
set_option linter.unusedSimpArgs false
set_option linter.unusedVariables false
theorem roomOf_ok {a n : Int} (h : ¬ roomOf a n < 0) : n ≤ a ∧ roomOf a n = a - n := by
  unfold roomOf at *
  split at h
  · omega
  · rename_i c; rw [if_neg c]; exact ⟨by omega, rfl⟩
theorem szNet_is (ns : List Int) (qs : List S69) (a : Int) (hn : ns.length ≤ 9223372036854775807) (hq : qs.length ≤ 9223372036854775807) (hx : ∀ p ∈ qs, p.f0.size ≤ 9223372036854775807) (h0 : 0 ≤ a) (h1 : a ≤ 1048576) :
    laws_szNetwork.f ns qs a = some (roomOf a ((ns.length : Int) + ((qs.length : Int) + sizeP qs))) := by
  unfold laws_szNetwork.f laws_szInt64S.f
  have hz := sizeP_nonneg qs
  rw [w64 (x := a - (ns.length : Int)) (by omega) (by omega)]
  by_cases n1 : a - (ns.length : Int) < 0
  · rw [if_pos n1]; simp only [Option.bind_some]; unfold roomOf; rw [if_pos (by omega), if_pos (by omega)]
  · rw [if_neg n1]
    simp only [Option.bind_some]
    have e : laws_szPipeS_.f qs (a - (ns.length : Int)) = some (roomOf (a - (ns.length : Int)) ((qs.length : Int) + sizeP qs)) := by unfold laws_szPipeS_.f; rw [if_pos ⟨⟨by omega, by omega⟩, hq, hx⟩]
    rw [if_neg n1, e]
    simp only [Option.bind_some]
    unfold roomOf
    rw [show a - ((ns.length : Int) + ((qs.length : Int) + sizeP qs)) = a - (ns.length : Int) - ((qs.length : Int) + sizeP qs) by omega]
    by_cases n2 : a - (ns.length : Int) - ((qs.length : Int) + sizeP qs) < 0
    · rw [if_pos n2, if_pos (by omega)]
    · rw [if_neg n2, if_neg n2]
theorem toNet_is {ns : List Int} {qs : List S69} (hn : ns.length ≤ 1048576) (hq : qs.length ≤ 1048576) : laws_toNetwork.f ns qs = some (ns, qs.map cvP) := by
  unfold laws_toNetwork.f laws_toInt64S_.f laws_toPipeS_.f
  rw [if_pos (by omega), if_pos (by omega)]; rfl
theorem eqNet_refl {ns : List Int} {ps : List S72} (hn : ns.length ≤ 1048576) (hq : ps.length ≤ 1048576) : laws_eqNetwork.f ns ps ns ps = some true := by
  unfold laws_eqNetwork.f laws_eqInt64S_.f laws_eqPipeS_.f
  rw [if_pos (by omega), if_pos (by omega)]; simp [pipesEq_refl]
theorem cv_size {qs : List S69} {m : Nat} (h : sizeP qs ≤ (m : Int)) : ∀ p ∈ qs.map cvP, p.f0.size ≤ m := by
  intro p hp
  obtain ⟨q, hq, rfl⟩ := List.mem_map.mp hp
  have := sizeP_elem h q hq
  show q.f0.size ≤ m
  omega
theorem FnExactBalanceAt : ∀ (l0_0 : List (Int)) (l0_1 : List (S69)) (l1 : List (Int)) (a2 : Int), (l0_0.length ≤ 9223372036854775807) → (∀ p ∈ l0_0, (Lit.int .i64 p).wf = true) → (l0_1.length ≤ 9223372036854775807) → (∀ p ∈ l0_1, p.f0.size ≤ 9223372036854775807 ∧ (Lit.int .i64 p.f1).wf = true ∧ (Lit.int .i64 p.f2).wf = true ∧ (Lit.int .i64 p.f3).wf = true ∧ (Lit.int .i64 p.f4).wf = true ∧ (Lit.int .i64 p.f5).wf = true) → (l1.length ≤ 9223372036854775807) → (∀ p ∈ l1, (Lit.int .i64 p).wf = true) → ((Lit.int .i64 a2).wf = true) → ∃ k, laws_FnExactBalanceAt.f k l0_0 l0_1 l1 a2 = some true := by
  intro ns qs fs x hn hw hq hx hf hwf _
  have hxs : ∀ p ∈ qs, p.f0.size ≤ 9223372036854775807 := fun p hp => (hx p hp).1
  have hz := sizeP_nonneg qs
  refine ⟨40, ?_⟩
  unfold laws_FnExactBalanceAt.f
  by_cases n0 : (fs.length : Int) > 1048576
  · rw [if_pos n0]
  rw [if_neg n0]
  have z1 := szNet_is ns qs 1048576 hn hq hxs (by omega) (by omega)
  by_cases n1 : roomOf 1048576 ((ns.length : Int) + ((qs.length : Int) + sizeP qs)) < 0
  · simp [z1, n1, laws_FnExactBalanceAt.j0, laws_FnExactBalanceAt.j1, laws_FnExactBalanceAt.j2, laws_FnExactBalanceAt.j3, laws_FnExactBalanceAt.j4]
  have b1 := roomOf_ok n1
  have tn : laws_toNetwork.f ns qs = some (ns, qs.map cvP) := toNet_is (by omega) (by omega)
  have en : laws_eqNetwork.f ns (qs.map cvP) ns (qs.map cvP) = some true := eqNet_refl (by omega) (by simp; omega)
  have hc := cv_size (qs := qs) (m := 1048576) (by omega)
  have hs : ns.length ≤ 4611686018427387904 ∧ ∀ p ∈ qs.map cvP, p.f0.size ≤ 9000000000000000000 := ⟨by omega, fun p hp => by have := hc p hp; omega⟩
  have tf : laws_toInt64S_.f fs = some fs := by unfold laws_toInt64S_.f; rw [if_pos (by omega)]
  have ef : laws_eqInt64S_.f fs fs = some true := by unfold laws_eqInt64S_.f; rw [if_pos (by omega)]; simp
  have sv : spec_BalanceAt_.f ns (qs.map cvP) fs x = some (balI ns (qs.map cvP) fs x) := by unfold spec_BalanceAt_.f; rw [if_pos ⟨hs, by omega⟩]
  have iv : impl_BalanceAt_.f ns (qs.map cvP) fs x = some (balI ns (qs.map cvP) fs x) := by unfold impl_BalanceAt_.f; rw [if_pos ⟨hs, by omega⟩]
  simp [z1, n1, tn, en, sv, iv, tf, ef, laws_FnExactBalanceAt.j0, laws_FnExactBalanceAt.j1, laws_FnExactBalanceAt.j2, laws_FnExactBalanceAt.j3, laws_FnExactBalanceAt.j4]

end Go.Proofs.Ythgfkbkobnfnaaa.Pure
