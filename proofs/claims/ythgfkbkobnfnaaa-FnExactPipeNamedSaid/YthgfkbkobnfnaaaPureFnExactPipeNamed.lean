/- For every network and name the program's PipeNamed answers as the reference's PipeNamed does, and leaves the network as it is. No condition. -/
import Derived.Test.YthgfkbkobnfnaaaPFnExactPipeNamedx8
import Derived.Test.YthgfkbkobnfnaaaMath
import Derived.Test.YthgfkbkobnfnaaaMathR
namespace Go.Proofs.Ythgfkbkobnfnaaa.Pure
open Go.RowKit Go.Proofs.Ythgfkbkobnfnaaa.PFnExactPipeNamed Go.Proofs.YthgfkbkobnfnaaaW.PrintWords Go.Proofs.YthgfkbkobnfnaaaW.PrintLast Go.Proofs.YthgfkbkobnfnaaaW.PrintMore Go.Proofs.YthgfkbkobnfnaaaM
set_option linter.unusedSimpArgs false
set_option linter.unusedVariables false
theorem roomOf_ok {a n : Int} (h : ¬ roomOf a n < 0) : n ≤ a ∧ roomOf a n = a - n := by
  unfold roomOf at *
  split at h
  · omega
  · rename_i c; rw [if_neg c]; exact ⟨by omega, rfl⟩
theorem szNet_is (ns : List Int) (qs : List S69) (a : Int) (hn : ns.length ≤ 9223372036854775807) (hq : qs.length ≤ 9223372036854775807) (hx : ∀ p ∈ qs, p.f0.size ≤ 9223372036854775807) (h0 : 0 ≤ a) (h1 : a ≤ 1048576) :
    laws_szNetwork.f ns qs a = some (roomOf a ((ns.length : Int) + ((qs.length : Int) + sizeP qs))) := by
  unfold laws_szNetwork.f laws_szInt64S.f
  have hz := sizeP_nonneg qs
  rw [w64 (x := a - (ns.length : Int)) (by omega) (by omega)]
  by_cases n1 : a - (ns.length : Int) < 0
  · rw [if_pos n1]; simp only [Option.bind_some]; unfold roomOf; rw [if_pos (by omega), if_pos (by omega)]
  · rw [if_neg n1]
    simp only [Option.bind_some]
    have e : laws_szPipeS_.f qs (a - (ns.length : Int)) = some (roomOf (a - (ns.length : Int)) ((qs.length : Int) + sizeP qs)) := by unfold laws_szPipeS_.f; rw [if_pos ⟨⟨by omega, by omega⟩, hq, hx⟩]
    rw [if_neg n1, e]
    simp only [Option.bind_some]
    unfold roomOf
    rw [show a - ((ns.length : Int) + ((qs.length : Int) + sizeP qs)) = a - (ns.length : Int) - ((qs.length : Int) + sizeP qs) by omega]
    by_cases n2 : a - (ns.length : Int) - ((qs.length : Int) + sizeP qs) < 0
    · rw [if_pos n2, if_pos (by omega)]
    · rw [if_neg n2, if_neg n2]
theorem toNet_is {ns : List Int} {qs : List S69} (hn : ns.length ≤ 1048576) (hq : qs.length ≤ 1048576) : laws_toNetwork.f ns qs = some (ns, qs.map cvP) := by
  unfold laws_toNetwork.f laws_toInt64S_.f laws_toPipeS_.f
  rw [if_pos (by omega), if_pos (by omega)]; rfl
theorem eqNet_refl {ns : List Int} {ps : List S72} (hn : ns.length ≤ 1048576) (hq : ps.length ≤ 1048576) : laws_eqNetwork.f ns ps ns ps = some true := by
  unfold laws_eqNetwork.f laws_eqInt64S_.f laws_eqPipeS_.f
  rw [if_pos (by omega), if_pos (by omega)]; simp [pipesEq_refl]
theorem cv_size {qs : List S69} {m : Nat} (h : sizeP qs ≤ (m : Int)) : ∀ p ∈ qs.map cvP, p.f0.size ≤ m := by
  intro p hp
  obtain ⟨q, hq, rfl⟩ := List.mem_map.mp hp
  have := sizeP_elem h q hq
  show q.f0.size ≤ m
  omega
def foundI (r : Int) : Int × Int := if 0 ≤ r then (r, 0) else (0, 3)
theorem idxFrom_range (p : S72 → Bool) (l : List S72) : ∀ d i, -1 ≤ idxFrom p l d i ∧ idxFrom p l d i ≤ (i : Int) + d := by
  intro d
  induction d with
  | zero => intro i; simp only [idxFrom]; omega
  | succ d ih => intro i; have := ih (i + 1); simp only [idxFrom]; split <;> omega
theorem sp_loop (ns : List Int) (ps : List S72) (id : ByteArray) (hp : ps.length ≤ 20) : ∀ (d k i : Nat), i ≤ ps.length → ps.length - i = d → d < k → spec_PipeNamed.l0 k id (i : Int) ns ps = some (foundI (idxFrom (fun p => p.f0.toList == id.toList) ps d i)) := by
  intro d
  induction d with
  | zero =>
    intro k i h1 hd hk
    obtain ⟨k, rfl⟩ : ∃ m, k = m + 1 := ⟨k - 1, by omega⟩
    simp only [spec_PipeNamed.l0]; rw [if_neg (by omega)]; rfl
  | succ d ih =>
    intro k i h1 hd hk
    obtain ⟨k, rfl⟩ : ∃ m, k = m + 1 := ⟨k - 1, by omega⟩
    simp only [spec_PipeNamed.l0, idxFrom]
    rw [if_pos (by omega), if_pos (by omega), rdP_ok, w64 (x := (i : Int) + 1) (by omega) (by omega), show (i : Int) + 1 = ((i + 1 : Nat) : Int) by omega, ih k (i + 1) (by omega) (by omega) (by omega)]
    by_cases c : (ps.getD i z72).f0.toList = id.toList
    · rw [if_pos c, if_pos (by simpa using c)]; unfold foundI; rw [if_pos (by omega)]
    · rw [if_neg c, if_neg (by simpa using c)]
theorem FnExactPipeNamed : ∀ (l0_0 : List (Int)) (l0_1 : List (S69)) (a1 : ByteArray), (l0_0.length ≤ 9223372036854775807) → (∀ p ∈ l0_0, (Lit.int .i64 p).wf = true) → (l0_1.length ≤ 9223372036854775807) → (∀ p ∈ l0_1, p.f0.size ≤ 9223372036854775807 ∧ (Lit.int .i64 p.f1).wf = true ∧ (Lit.int .i64 p.f2).wf = true ∧ (Lit.int .i64 p.f3).wf = true ∧ (Lit.int .i64 p.f4).wf = true ∧ (Lit.int .i64 p.f5).wf = true) → (a1.size ≤ 9223372036854775807) → ∃ k, laws_FnExactPipeNamed.f k l0_0 l0_1 a1 = some true := by
  intro ns qs id hn hw hq hx hid
  have hxs : ∀ p ∈ qs, p.f0.size ≤ 9223372036854775807 := fun p hp => (hx p hp).1
  have hz := sizeP_nonneg qs
  refine ⟨40, ?_⟩
  unfold laws_FnExactPipeNamed.f
  by_cases n0 : (id.size : Int) > 1048576
  · rw [if_pos n0]
  rw [if_neg n0]
  have z1 := szNet_is ns qs 1048576 hn hq hxs (by omega) (by omega)
  by_cases n1 : roomOf 1048576 ((ns.length : Int) + ((qs.length : Int) + sizeP qs)) < 0
  · simp [z1, n1, laws_FnExactPipeNamed.j0, laws_FnExactPipeNamed.j1, laws_FnExactPipeNamed.j2, laws_FnExactPipeNamed.j3]
  have b1 := roomOf_ok n1
  have tn : laws_toNetwork.f ns qs = some (ns, qs.map cvP) := toNet_is (by omega) (by omega)
  have en : laws_eqNetwork.f ns (qs.map cvP) ns (qs.map cvP) = some true := eqNet_refl (by omega) (by simp; omega)
  have hc := cv_size (qs := qs) (m := 1048576) (by omega)
  have hs : ns.length ≤ 4611686018427387904 ∧ ∀ p ∈ qs.map cvP, p.f0.size ≤ 9000000000000000000 := ⟨by omega, fun p hp => by have := hc p hp; omega⟩
  have hl : (qs.map cvP).length ≤ 4611686018427387904 := by simp; omega
  generalize qs.map cvP = ps at *
  have so : spec_l04Ok_.f ns ps = some (netOk ns ps) := by unfold spec_l04Ok_.f; rw [if_pos hs]
  have vo : impl_ValidNetwork_.f ns ps = some (netOk ns ps) := by unfold impl_ValidNetwork_.f; rw [if_pos hs]
  have pn : impl_Network_pipeNamed.f ns ps id = some (namedIdx ps id) := by unfold impl_Network_pipeNamed.f; rw [if_pos hl]
  by_cases c : netOk ns ps = true
  · have sv : ∀ k, 25 ≤ k → spec_PipeNamed.f k ns ps id = some (foundI (namedIdx ps id)) := by
      intro k hk
      unfold spec_PipeNamed.f
      rw [so]
      simp only [Option.bind_some, c, if_true]
      exact sp_loop ns ps id (netOk_parts c).2.1 ps.length k 0 (by omega) (by omega) (by have := (netOk_parts c).2.1; omega)
    have iv : impl_PipeNamed.f ns ps id = some (foundI (namedIdx ps id)) := by
      unfold impl_PipeNamed.f impl_orNotFound.f foundI
      rw [vo, pn]
      simp only [Option.bind_some, c, if_true]
      by_cases h : 0 ≤ namedIdx ps id
      · simp [h]
      · simp [h]
    simp [z1, n1, tn, en, sv, iv, laws_FnExactPipeNamed.j0, laws_FnExactPipeNamed.j1, laws_FnExactPipeNamed.j2, laws_FnExactPipeNamed.j3]
  · have c' : netOk ns ps = false := by simpa using c
    have sv : ∀ k, spec_PipeNamed.f k ns ps id = some (0, 1) := by intro k; unfold spec_PipeNamed.f; rw [so]; simp [c']
    have iv : impl_PipeNamed.f ns ps id = some (0, 1) := by unfold impl_PipeNamed.f; rw [vo]; simp [c']
    simp [z1, n1, tn, en, sv, iv, laws_FnExactPipeNamed.j0, laws_FnExactPipeNamed.j1, laws_FnExactPipeNamed.j2, laws_FnExactPipeNamed.j3]

end Go.Proofs.Ythgfkbkobnfnaaa.Pure
