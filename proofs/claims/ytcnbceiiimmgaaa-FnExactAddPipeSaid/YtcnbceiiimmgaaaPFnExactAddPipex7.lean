-- Printed by a program of this session (wip/hprint.sh: the kit's print with hand-proved contracts put in); not by print.sh itself.
import Derived.Test.YtcnbceiiimmgaaaPFnExactAddPipex0
import Derived.Test.YtcnbceiiimmgaaaPFnExactAddPipex1
import Derived.Test.YtcnbceiiimmgaaaPFnExactAddPipex2
import Derived.Test.YtcnbceiiimmgaaaPFnExactAddPipex5
import Derived.Test.YtcnbceiiimmgaaaPFnExactAddPipex6
namespace Go.Proofs.Ytcnbceiiimmgaaa.PFnExactAddPipe
open Go.RowKit Go.Proofs.YtcnbceiiimmgaaaW.PrintWords Go.Proofs.YtcnbceiiimmgaaaW.PrintLast Go.Proofs.YtcnbceiiimmgaaaW.PrintMore Go.Proofs.YtcnbceiiimmgaaaM
attribute [local go_sem] max2_int min2_int max_two min_two max_three min_three max_four min_four   -- for this text's walks alone
set_option linter.unusedVariables false
set_option linter.unusedSimpArgs false

open Go.Proofs.YtcnbceiiimmgaaaM
def impl_ValidNetwork_.f (l0_0 : List Int) (l0_1 : List S36) : Option Bool := if l0_0.length ≤ 4611686018427387904 ∧ (∀ p ∈ l0_1, p.f0.size ≤ 9000000000000000000) then some (netOk l0_0 l0_1) else none
theorem hasNode_f (ns : List Int) (ps : List S36) (x : Int) (h : 1 ≤ ns.length ∧ ns.length ≤ 16) : impl_Network_hasNode_.f ns ps x = some (decide (0 ≤ x ∧ x ≤ (ns.length : Int) - 1)) := by
  unfold impl_Network_hasNode_.f
  rw [if_pos (by omega)]
theorem hasEnds_f (ns : List Int) (ps : List S36) (p : S36) (h : 1 ≤ ns.length ∧ ns.length ≤ 16) (hp : pipeOk p.f0 p.f1 p.f2 p.f3 p.f4 p.f5 = true) : impl_Network_hasEnds.f ns ps p.f0 p.f1 p.f2 p.f3 p.f4 p.f5 = some (fitsOk ns.length p) := by
  have hr := pipeOk_range hp
  unfold impl_Network_hasEnds.f fitsOk
  rw [hasNode_f ns ps _ h, hasNode_f ns ps _ h, hp]
  simp only [Option.bind_some, Bool.true_and]
  by_cases c1 : p.f1 < (ns.length : Int)
  · rw [decide_eq_true c1, decide_eq_true (show 0 ≤ p.f1 ∧ p.f1 ≤ (ns.length : Int) - 1 by omega)]
    by_cases c2 : p.f2 < (ns.length : Int)
    · rw [decide_eq_true c2, decide_eq_true (show 0 ≤ p.f2 ∧ p.f2 ≤ (ns.length : Int) - 1 by omega)]; rfl
    · rw [decide_eq_false c2, decide_eq_false (show ¬ (0 ≤ p.f2 ∧ p.f2 ≤ (ns.length : Int) - 1) by omega)]; rfl
  · rw [decide_eq_false c1, decide_eq_false (show ¬ (0 ≤ p.f1 ∧ p.f1 ≤ (ns.length : Int) - 1) by omega)]; rfl
theorem vnP_loop (ns : List Int) (ps : List S36) (hn : 1 ≤ ns.length ∧ ns.length ≤ 16) (hp : ps.length ≤ 20) (hs : ∀ p ∈ ps, p.f0.size ≤ 9000000000000000000) : ∀ (d k i : Nat), i ≤ ps.length → ps.length - i = d → d < k → impl_ValidNetwork.l0 k ps (ps.length : Int) (i : Int) ns ps = some (stepsFrom ns.length ps d i) := by
  intro d
  induction d with
  | zero =>
    intro k i h1 hd hk
    obtain ⟨k, rfl⟩ : ∃ m, k = m + 1 := ⟨k - 1, by omega⟩
    simp only [impl_ValidNetwork.l0]; rw [if_neg (by omega)]; rfl
  | succ d ih =>
    intro k i h1 hd hk
    obtain ⟨k, rfl⟩ : ∃ m, k = m + 1 := ⟨k - 1, by omega⟩
    simp only [impl_ValidNetwork.l0]
    have hm := hs _ (getD_mem z36 (show i < ps.length by omega))
    have e : stepsFrom ns.length ps (d + 1) i = (stepOk ns.length ps i && stepsFrom ns.length ps d (i + 1)) := rfl
    rw [if_pos (by omega), if_pos (by omega), if_pos (by omega), rdP_ok, e, w64 (x := (i : Int) + 1) (by omega) (by omega), show (i : Int) + 1 = ((i + 1 : Nat) : Int) by omega, ih k (i + 1) (by omega) (by omega) (by omega)]
    unfold impl_ValidPipe_.f
    rw [if_pos hm]
    simp only [Option.bind_some]
    unfold stepOk
    by_cases hv : pipeOk (ps.getD i z36).f0 (ps.getD i z36).f1 (ps.getD i z36).f2 (ps.getD i z36).f3 (ps.getD i z36).f4 (ps.getD i z36).f5 = true
    · rw [if_pos hv, hasEnds_f ns ps _ hn hv]
      simp only [Option.bind_some]
      cases hf : fitsOk ns.length (ps.getD i z36)
      · simp
      · rw [if_pos rfl]
        by_cases h0 : i = 0
        · subst h0; simp
        · have e1 : wrap64 ((i : Int) - 1) = ((i - 1 : Nat) : Int) := by rw [w64 (by omega) (by omega)]; omega
          rw [if_pos (by omega), e1, if_pos (by omega), if_pos (by omega), rdP_ok, decide_eq_false h0, bytes_tri (ps.getD (i - 1) z36).f0.toList (ps.getD i z36).f0.toList]
          cases (Op.bytesLess (ps.getD i z36).f0.toList (ps.getD (i - 1) z36).f0.toList || (ps.getD i z36).f0.toList == (ps.getD (i - 1) z36).f0.toList) <;> simp
    · have hf : fitsOk ns.length (ps.getD i z36) = false := by unfold fitsOk; rw [Bool.eq_false_iff.mpr hv]; rfl
      rw [if_neg hv, hf]; rfl
theorem impl_ValidNetwork_.same (ns : List Int) (ps : List S36) (h : ns.length ≤ 4611686018427387904 ∧ ∀ p ∈ ps, p.f0.size ≤ 9000000000000000000) : impl_ValidNetwork.f 25 ns ps = some (netOk ns ps) := by
  unfold impl_ValidNetwork.f netOk tailOk
  simp only [impl_ValidNetwork.j0]
  by_cases c1 : (ns.length : Int) < 1
  · rw [if_pos c1, decide_eq_false (show ¬ 1 ≤ ns.length by omega)]; simp
  · rw [if_neg c1, decide_eq_true (show 1 ≤ ns.length by omega)]
    by_cases c2 : (ns.length : Int) > 16
    · rw [if_pos c2, decide_eq_false (show ¬ ns.length ≤ 16 by omega)]; simp
    · rw [if_neg c2, decide_eq_true (show ns.length ≤ 16 by omega)]
      unfold impl_allWithin.f
      rw [if_pos (by omega)]
      have ha : allIn (-100000) 100000 ns = nodesOk ns := rfl
      rw [ha]
      simp only [Option.bind_some]
      cases nodesOk ns
      · simp
      · by_cases c3 : (ps.length : Int) > 20
        · rw [decide_eq_true c3, decide_eq_false (show ¬ ps.length ≤ 20 by omega)]; simp
        · rw [decide_eq_false c3, decide_eq_true (show ps.length ≤ 20 by omega)]
          have := vnP_loop ns ps (by omega) (by omega) h.2 ps.length 24 0 (by omega) (by omega) (by omega)
          simpa using this
theorem impl_ValidNetwork_.calls (A0_0 : Option Addr) (c0_0 : Nat) (l0_0 : List Int) (A0_1 : Option Addr) (c0_1 : Nat) (l0_1 : List (S36)) (r : Bool) (w : World) (hr0_0 : Kd.C (Kd.int .i64) w A0_0 l0_0.length l0_0) (hc0_0 : l0_0.length ≤ c0_0) (hr0_1 : Kd.C k36 w A0_1 l0_1.length l0_1) (hc0_1 : l0_1.length ≤ c0_1) (h : impl_ValidNetwork_.f l0_0 l0_1 = some r) :
    Calls Try.prog 20 #[.agg #[.slice A0_0 l0_0.length c0_0, .slice A0_1 l0_1.length c0_1]] w fun e w' => e = .returned (.bool r) ∧ Below w.heap.size w w' := by
  unfold impl_ValidNetwork_.f at h
  split at h
  · rename_i hs
    exact impl_ValidNetwork.calls 25 A0_0 c0_0 l0_0 A0_1 c0_1 l0_1 r w hr0_0 hc0_0 hr0_1 hc0_1 (by rw [← h]; exact impl_ValidNetwork_.same l0_0 l0_1 hs)
  · exact absurd h (by simp)



/-! ### impl_Pipe_21: function 21 -/
open Go.Proofs.YtcnbceiiimmgaaaM
def aggP (p : S36) : Value := .agg #[.string p.f0, .int .i64 p.f1, .int .i64 p.f2, .int .i64 p.f3, .int .i64 p.f4, .int .i64 p.f5]
def cmpB (x y : ByteArray) : Int := if Op.bytesLess x.toList y.toList = true then -1 else if (x.toList == y.toList) = true then 0 else 1
set_option maxHeartbeats 1000000 in
set_option maxRecDepth 100000 in
theorem nan_str (x : ByteArray) (W : World) : Calls Try.prog 38 #[.string x] W fun e w' => e = .returned (.bool false) ∧ Drawn0 W w' := by
  have h : (x.toList != x.toList) = false := by simp
  go_enter Try.func38, Try.ntmps38
  go_wp2
  go_ret
  exact ⟨z225_, z21_⟩
set_option maxHeartbeats 4000000 in
set_option maxRecDepth 100000 in
theorem cmp_str (x y : ByteArray) (W : World) : Calls Try.prog 23 #[.string x, .string y] W fun e w' => e = .returned (.int .i64 (cmpB x y)) ∧ Drawn0 W w' := by
  unfold cmpB
  cases h1 : Op.bytesLess x.toList y.toList
  · cases h2 : x.toList == y.toList
    · go_enter Try.func23, Try.ntmps23
      go_wp2_with (go_at_call 38; refine (nan_str _ _).mono ?_; rintro e w' ⟨rfl, ⟨nd, rfl⟩⟩)
      go_ret
      exact ⟨z225_, z21_⟩
    · go_enter Try.func23, Try.ntmps23
      go_wp2_with (go_at_call 38; refine (nan_str _ _).mono ?_; rintro e w' ⟨rfl, ⟨nd, rfl⟩⟩)
      go_ret
      exact ⟨z225_, z21_⟩
  · go_enter Try.func23, Try.ntmps23
    go_wp2_with (go_at_call 38; refine (nan_str _ _).mono ?_; rintro e w' ⟨rfl, ⟨nd, rfl⟩⟩)
    go_ret
    exact ⟨z225_, z21_⟩
set_option maxHeartbeats 4000000 in
set_option maxRecDepth 100000 in
theorem cmp_closure (x y : S36) (W : World) : Calls Try.prog 22 (#[aggP x, aggP y] ++ #[]) W fun e w' => e = .returned (.int .i64 (cmpB x.f0 y.f0)) ∧ Below W.heap.size W w' := by
  have hu72 := Try.underlying36
  have hc := fun V => cmp_str x.f0 y.f0 V
  generalize cmpB x.f0 y.f0 = r at hc
  have HC := Aside0.mk hc
  clear hc
  unfold aggP
  go_enter Try.func22, Try.ntmps22
  go_wp2_with (go_at_call 23; refine (HC.out _).mono ?_; rintro e w' ⟨rfl, ⟨nd, rfl⟩⟩)
  go_ret
  exact ⟨rfl, z112_⟩
/-- The place that a search by halves finds, with so many rounds. -/
def bsL (l : List S36) (t : ByteArray) : Nat → Nat → Nat → Nat
  | 0, i, _ => i
  | k + 1, i, j => if i < j then (if Op.bytesLess (l.getD ((i + j) / 2) z36).f0.toList t.toList = true then bsL l t k ((i + j) / 2 + 1) j else bsL l t k i ((i + j) / 2)) else i
theorem bsL_end (l : List S36) (t : ByteArray) (k i : Nat) : bsL l t k i i = i := by
  cases k
  · rfl
  · simp [bsL]
def bsH (l : List S36) (t : ByteArray) (i : Nat) : Bool := decide (i < l.length) && decide (cmpB (l.getD i z36).f0 t = 0)
theorem rdP_bs (c : List S36) (i : Nat) : rd_T36 c (i : Int) = c.getD i z36 := by unfold rd_T36; rw [Int.toNat_natCast]
theorem bs_held {P : Prop} {n : Nat} {W w1 : World} (h : P ∧ Below n W w1) : Below n W w1 := h.2
theorem bs_keep {W w' : World} {A0 A1 A2 A3 A4 A5 B0 B1 B2 B3 B4 B5 : Addr} {v0 v1 v2 v3 v4 v5 v6 v7 v8 v9 v10 v11 : Value} (h0 : W.cell? A0 = some v0) (h1 : W.cell? A1 = some v1) (h2 : W.cell? A2 = some v2) (h3 : W.cell? A3 = some v3) (h4 : W.cell? A4 = some v4) (h5 : W.cell? A5 = some v5) (h6 : W.cell? B0 = some v6) (h7 : W.cell? B1 = some v7) (h8 : W.cell? B2 = some v8) (h9 : W.cell? B3 = some v9) (h10 : W.cell? B4 = some v10) (h11 : W.cell? B5 = some v11) (hb : Below W.heap.size W w') :
    (w'.cell? A0 = some v0 ∧ w'.cell? A1 = some v1 ∧ w'.cell? A2 = some v2 ∧ w'.cell? A3 = some v3 ∧ w'.cell? A4 = some v4 ∧ w'.cell? A5 = some v5 ∧ w'.cell? B0 = some v6 ∧ w'.cell? B1 = some v7 ∧ w'.cell? B2 = some v8 ∧ w'.cell? B3 = some v9 ∧ w'.cell? B4 = some v10 ∧ w'.cell? B5 = some v11) ∧ Below W.heap.size W w' :=
  ⟨⟨pw_cell_below hb h0, pw_cell_below hb h1, pw_cell_below hb h2, pw_cell_below hb h3, pw_cell_below hb h4, pw_cell_below hb h5, pw_cell_below hb h6, pw_cell_below hb h7, pw_cell_below hb h8, pw_cell_below hb h9, pw_cell_below hb h10, pw_cell_below hb h11⟩, hb⟩
set_option maxHeartbeats 8000000 in
set_option maxRecDepth 100000 in
theorem bs_any (A : Option Addr) (c : Nat) (l : List S36) (q : S36) (w : World) (hr : Kd.C k36 w A l.length l) (hl : l.length ≤ 1000000) :
    Calls Try.prog 21 #[.slice A l.length c, aggP q, .func (.func 22) #[] #[]] w fun e w' => e = .returned (.tuple #[.int .i64 (bsL l q.f0 l.length 0 l.length : Nat), .bool (bsH l q.f0 (bsL l q.f0 l.length 0 l.length))]) ∧ Below w.heap.size w w' := by
  have HR := Aside0.mk hr
  clear hr
  have hu72 := Try.underlying36
  have eg' : ∀ args w, (callFunc 22 args).run Try.prog w = .ok (.enter 22 args) w := enters_of Try.func22 (z22_) rfl
  obtain ⟨R, hR⟩ : ∃ R, bsL l q.f0 l.length 0 l.length = R := ⟨_, rfl⟩
  rw [hR]
  obtain ⟨H, hH⟩ : ∃ H, bsH l q.f0 R = H := ⟨_, rfl⟩
  rw [hH]
  have RR := Aside0.mk hR
  have HH := Aside0.mk hH
  clear hR hH
  have HC := Aside0.mk (fun (x : S36) (V : World) => cmp_closure x q V)
  obtain ⟨W0, hW0⟩ : ∃ W0, w.alloc (.cells #[.string q.f0, .int .i64 q.f1, .int .i64 q.f2, .int .i64 q.f3, .int .i64 q.f4, .int .i64 q.f5] 36) = W0 := ⟨_, rfl⟩
  have hB0 : Below w.heap.size w W0 := by rw [← hW0]; exact below_alloc (Below.refl w.heap.size w) _
  have hs0 : W0.heap.size = w.heap.size + 1 := by rw [← hW0]; simp
  have b0 : W0.cell? ⟨w.heap.size, 0, none⟩ = some (.string q.f0) := by rw [← hW0]; simp
  have b1 : W0.cell? ⟨w.heap.size, 1, none⟩ = some (.int .i64 q.f1) := by rw [← hW0]; simp
  have b2 : W0.cell? ⟨w.heap.size, 2, none⟩ = some (.int .i64 q.f2) := by rw [← hW0]; simp
  have b3 : W0.cell? ⟨w.heap.size, 3, none⟩ = some (.int .i64 q.f3) := by rw [← hW0]; simp
  have b4 : W0.cell? ⟨w.heap.size, 4, none⟩ = some (.int .i64 q.f4) := by rw [← hW0]; simp
  have b5 : W0.cell? ⟨w.heap.size, 5, none⟩ = some (.int .i64 q.f5) := by rw [← hW0]; simp
  have B0 := Aside0.mk (And.intro b0 (And.intro b1 (And.intro b2 (And.intro b3 (And.intro b4 b5)))))
  have HB0 := Aside0.mk hB0
  have HS0 := Aside0.mk hs0
  clear b0 b1 b2 b3 b4 b5 hB0 hs0
  unfold aggP at HC ⊢
  go_enter Try.func21, Try.ntmps21
  go_wp2
  clear hW0
  go_loopg [9, 10] l.length (fun kx s9 s10 wr => ∃ lo hi : Nat, s9 = .int .i64 lo ∧ s10 = .int .i64 hi ∧ lo ≤ hi ∧ hi ≤ l.length ∧ hi - lo ≤ kx ∧ Aside0 (Below W0.heap.size W0 wr) ∧ Aside0 (∃ k, hi - lo ≤ k ∧ bsL l q.f0 k lo hi = R))
  case atStart => exact ⟨0, l.length, rfl, rfl, Nat.zero_le _, Nat.le_refl _, by omega, ⟨Below.refl _ _⟩, ⟨_, by omega, RR.out⟩⟩
  case round =>
    obtain ⟨lo, hi, rfl, rfl, hlh, hin, hg, HB, I⟩ := hrel
    obtain ⟨b0, b1, b2, b3, b4, b5⟩ := B0.out
    replace b0 := pw_cell_below HB.out b0
    replace b1 := pw_cell_below HB.out b1
    replace b2 := pw_cell_below HB.out b2
    replace b3 := pw_cell_below HB.out b3
    replace b4 := pw_cell_below HB.out b4
    replace b5 := pw_cell_below HB.out b5
    have hBw : Below w.heap.size w wr := HB0.out.trans (HB.out.mono (by rw [HS0.out]; omega))
    by_cases hlt : lo < hi
    · have i0 : (0 : Int) ≤ ((lo : Int) + (hi : Int)) / 2 := by omega
      have i1 : ((lo : Int) + (hi : Int)) / 2 < (l.length : Int) := by omega
      obtain ⟨ad, ead, hx0, hx1, hx2, hx3, hx4, hx5⟩ := at_T36 (Kd.C_below HR.out hBw) (((lo : Int) + (hi : Int)) / 2) i0 i1
      cases ead
      obtain ⟨x, hx⟩ : ∃ x, rd_T36 l (((lo : Int) + (hi : Int)) / 2) = x := ⟨_, rfl⟩
      rw [hx] at hx0 hx1 hx2 hx3 hx4 hx5
      rw [show ((lo : Int) + (hi : Int)) / 2 = (((lo + hi) / 2 : Nat) : Int) by omega, rdP_bs] at hx
      have hc := HC.out x
      obtain ⟨k, hk, hbs⟩ := I.out
      obtain ⟨k, rfl⟩ : ∃ m, k = m + 1 := ⟨k - 1, by omega⟩
      simp only [bsL] at hbs
      rw [if_pos hlt, hx] at hbs
      unfold cmpB at hc
      cases hp : Op.bytesLess x.f0.toList q.f0.toList
      · rw [hp, if_neg (by decide)] at hbs hc
        obtain ⟨r, hr0⟩ : ∃ r : Int, (if (x.f0.toList == q.f0.toList) = true then (0 : Int) else 1) = r := ⟨_, rfl⟩
        have hrn : (r < 0) = False := eq_false (by rw [← hr0]; split <;> decide)
        rw [hr0] at hc
        have HCC := Aside0.mk hc
        have HBS := Aside0.mk hbs
        have HK := Aside0.mk hk
        clear hc hbs hk hp hr0 hx
        go_wp2_with fail
        go_region_held3 (fun w' => (w'.cell? (ad.add ((((lo : Int) + (hi : Int)) / 2).toNat * 6)) = some (.string x.f0) ∧ w'.cell? ⟨(ad.add ((((lo : Int) + (hi : Int)) / 2).toNat * 6)).block, (ad.add ((((lo : Int) + (hi : Int)) / 2).toNat * 6)).off + 1, none⟩ = some (.int .i64 x.f1) ∧ w'.cell? ⟨(ad.add ((((lo : Int) + (hi : Int)) / 2).toNat * 6)).block, (ad.add ((((lo : Int) + (hi : Int)) / 2).toNat * 6)).off + 2, none⟩ = some (.int .i64 x.f2) ∧ w'.cell? ⟨(ad.add ((((lo : Int) + (hi : Int)) / 2).toNat * 6)).block, (ad.add ((((lo : Int) + (hi : Int)) / 2).toNat * 6)).off + 3, none⟩ = some (.int .i64 x.f3) ∧ w'.cell? ⟨(ad.add ((((lo : Int) + (hi : Int)) / 2).toNat * 6)).block, (ad.add ((((lo : Int) + (hi : Int)) / 2).toNat * 6)).off + 4, none⟩ = some (.int .i64 x.f4) ∧ w'.cell? ⟨(ad.add ((((lo : Int) + (hi : Int)) / 2).toNat * 6)).block, (ad.add ((((lo : Int) + (hi : Int)) / 2).toNat * 6)).off + 5, none⟩ = some (.int .i64 x.f5) ∧ w'.cell? ⟨w.heap.size, 0, none⟩ = some (.string q.f0) ∧ w'.cell? ⟨w.heap.size, 1, none⟩ = some (.int .i64 q.f1) ∧ w'.cell? ⟨w.heap.size, 2, none⟩ = some (.int .i64 q.f2) ∧ w'.cell? ⟨w.heap.size, 3, none⟩ = some (.int .i64 q.f3) ∧ w'.cell? ⟨w.heap.size, 4, none⟩ = some (.int .i64 q.f4) ∧ w'.cell? ⟨w.heap.size, 5, none⟩ = some (.int .i64 q.f5)) ∧ Below wr.heap.size wr w') (first | assumption | exact bs_keep hx0 hx1 hx2 hx3 hx4 hx5 b0 b1 b2 b3 b4 b5 (below_drew1 (Below.refl _ _)) | exact bs_keep hx0 hx1 hx2 hx3 hx4 hx5 b0 b1 b2 b3 b4 b5 (below_then (below_drew1 (Below.refl _ _)) (Nat.le_refl _) hb)) (first | (go_at_fn 22; refine (HCC.out _).mono ?_; rintro e w' ⟨rfl, hb⟩))
        go_wp2
        go_roundg ((lo + hi) / 2 - lo)
        case measure => omega
        case rel => exact ⟨lo, (lo + hi) / 2, rfl, by rw [show ((lo : Int) + (hi : Int)) / 2 = (((lo + hi) / 2 : Nat) : Int) by omega], by omega, by omega, Nat.le_refl _, ⟨below_then HB.out HB.out.size (bs_held (by assumption))⟩, ⟨k, by have := HK.out; omega, HBS.out⟩⟩
      · rw [hp, if_pos rfl] at hbs hc
        have HCC := Aside0.mk hc
        have HBS := Aside0.mk hbs
        have HK := Aside0.mk hk
        clear hc hbs hk hp hx
        go_wp2_with fail
        go_region_held3 (fun w' => (w'.cell? (ad.add ((((lo : Int) + (hi : Int)) / 2).toNat * 6)) = some (.string x.f0) ∧ w'.cell? ⟨(ad.add ((((lo : Int) + (hi : Int)) / 2).toNat * 6)).block, (ad.add ((((lo : Int) + (hi : Int)) / 2).toNat * 6)).off + 1, none⟩ = some (.int .i64 x.f1) ∧ w'.cell? ⟨(ad.add ((((lo : Int) + (hi : Int)) / 2).toNat * 6)).block, (ad.add ((((lo : Int) + (hi : Int)) / 2).toNat * 6)).off + 2, none⟩ = some (.int .i64 x.f2) ∧ w'.cell? ⟨(ad.add ((((lo : Int) + (hi : Int)) / 2).toNat * 6)).block, (ad.add ((((lo : Int) + (hi : Int)) / 2).toNat * 6)).off + 3, none⟩ = some (.int .i64 x.f3) ∧ w'.cell? ⟨(ad.add ((((lo : Int) + (hi : Int)) / 2).toNat * 6)).block, (ad.add ((((lo : Int) + (hi : Int)) / 2).toNat * 6)).off + 4, none⟩ = some (.int .i64 x.f4) ∧ w'.cell? ⟨(ad.add ((((lo : Int) + (hi : Int)) / 2).toNat * 6)).block, (ad.add ((((lo : Int) + (hi : Int)) / 2).toNat * 6)).off + 5, none⟩ = some (.int .i64 x.f5) ∧ w'.cell? ⟨w.heap.size, 0, none⟩ = some (.string q.f0) ∧ w'.cell? ⟨w.heap.size, 1, none⟩ = some (.int .i64 q.f1) ∧ w'.cell? ⟨w.heap.size, 2, none⟩ = some (.int .i64 q.f2) ∧ w'.cell? ⟨w.heap.size, 3, none⟩ = some (.int .i64 q.f3) ∧ w'.cell? ⟨w.heap.size, 4, none⟩ = some (.int .i64 q.f4) ∧ w'.cell? ⟨w.heap.size, 5, none⟩ = some (.int .i64 q.f5)) ∧ Below wr.heap.size wr w') (first | assumption | exact bs_keep hx0 hx1 hx2 hx3 hx4 hx5 b0 b1 b2 b3 b4 b5 (below_drew1 (Below.refl _ _)) | exact bs_keep hx0 hx1 hx2 hx3 hx4 hx5 b0 b1 b2 b3 b4 b5 (below_then (below_drew1 (Below.refl _ _)) (Nat.le_refl _) hb)) (first | (go_at_fn 22; refine (HCC.out _).mono ?_; rintro e w' ⟨rfl, hb⟩))
        go_wp2
        go_roundg (hi - ((lo + hi) / 2 + 1))
        case measure => omega
        case rel => exact ⟨(lo + hi) / 2 + 1, hi, by rw [show ((lo : Int) + (hi : Int)) / 2 + 1 = (((lo + hi) / 2 + 1 : Nat) : Int) by omega], rfl, by omega, hin, Nat.le_refl _, ⟨below_then HB.out HB.out.size (bs_held (by assumption))⟩, ⟨k, by have := HK.out; omega, HBS.out⟩⟩
    · obtain rfl : hi = lo := by omega
      obtain ⟨k, hk, hbs⟩ := I.out
      rw [bsL_end] at hbs
      subst hbs
      have hH := HH.out
      unfold bsH at hH
      by_cases hn : hi < l.length
      · have i0 : (0 : Int) ≤ (hi : Int) := by omega
        have i1 : (hi : Int) < (l.length : Int) := by omega
        obtain ⟨ad, ead, hx0, hx1, hx2, hx3, hx4, hx5⟩ := at_T36 (Kd.C_below HR.out hBw) (hi : Int) i0 i1
        cases ead
        rw [rdP_bs] at hx0 hx1 hx2 hx3 hx4 hx5
        rw [Int.toNat_natCast] at hx0 hx1 hx2 hx3 hx4 hx5
        rw [decide_eq_true hn, Bool.true_and] at hH
        obtain ⟨x, hx⟩ : ∃ x, l.getD hi z36 = x := ⟨_, rfl⟩
        rw [hx] at hx0 hx1 hx2 hx3 hx4 hx5 hH
        have hc := HC.out x
        obtain ⟨r, hr0⟩ : ∃ r : Int, cmpB x.f0 q.f0 = r := ⟨_, rfl⟩
        rw [hr0] at hc hH
        have HCC := Aside0.mk hc
        have HH' := Aside0.mk hH
        clear hc hH hr0 hx HC
        go_wp2_with fail
        go_region_held3 (fun w' => (w'.cell? (ad.add (hi * 6)) = some (.string x.f0) ∧ w'.cell? ⟨(ad.add (hi * 6)).block, (ad.add (hi * 6)).off + 1, none⟩ = some (.int .i64 x.f1) ∧ w'.cell? ⟨(ad.add (hi * 6)).block, (ad.add (hi * 6)).off + 2, none⟩ = some (.int .i64 x.f2) ∧ w'.cell? ⟨(ad.add (hi * 6)).block, (ad.add (hi * 6)).off + 3, none⟩ = some (.int .i64 x.f3) ∧ w'.cell? ⟨(ad.add (hi * 6)).block, (ad.add (hi * 6)).off + 4, none⟩ = some (.int .i64 x.f4) ∧ w'.cell? ⟨(ad.add (hi * 6)).block, (ad.add (hi * 6)).off + 5, none⟩ = some (.int .i64 x.f5) ∧ w'.cell? ⟨w.heap.size, 0, none⟩ = some (.string q.f0) ∧ w'.cell? ⟨w.heap.size, 1, none⟩ = some (.int .i64 q.f1) ∧ w'.cell? ⟨w.heap.size, 2, none⟩ = some (.int .i64 q.f2) ∧ w'.cell? ⟨w.heap.size, 3, none⟩ = some (.int .i64 q.f3) ∧ w'.cell? ⟨w.heap.size, 4, none⟩ = some (.int .i64 q.f4) ∧ w'.cell? ⟨w.heap.size, 5, none⟩ = some (.int .i64 q.f5)) ∧ Below wr.heap.size wr w') (first | assumption | exact bs_keep hx0 hx1 hx2 hx3 hx4 hx5 b0 b1 b2 b3 b4 b5 (below_drew1 (Below.refl _ _)) | exact bs_keep hx0 hx1 hx2 hx3 hx4 hx5 b0 b1 b2 b3 b4 b5 (below_then (below_drew1 (Below.refl _ _)) (Nat.le_refl _) hb)) (first | (go_at_fn 22; refine (HCC.out _).mono ?_; rintro e w' ⟨rfl, hb⟩))
        go_wp2
        go_ret2
        exact ⟨by rw [← HH'.out]; by_cases hz : r = 0 <;> simp [hz], hBw.trans ((bs_held (by assumption)).mono hBw.size)⟩
      · rw [decide_eq_false hn, Bool.false_and] at hH
        have HH' := Aside0.mk hH
        clear hH
        have hn1 : ((hi : Int) < (l.length : Int)) = False := eq_false (by omega)
        have hn2 : (hi < l.length) = False := eq_false hn
        have hn3 : decide (hi < l.length) = false := decide_eq_false hn
        have hn4 : decide ((hi : Int) < (l.length : Int)) = false := decide_eq_false (by omega)
        clear hn
        go_wp2_with fail
        go_quiet (fail)
        go_wp2
        go_ret2
        exact ⟨by rw [← HH'.out]; first | rfl | simp, by repeat (first | exact hBw | apply pw_below_drewN | apply below_drew1)⟩
def impl_Pipe_21.f (l0 : List S36) (a1_0 : ByteArray) (a1_1 a1_2 a1_3 a1_4 a1_5 : Int) : Option (Int × Bool) := if l0.length ≤ 1000000 then some (((bsL l0 a1_0 l0.length 0 l0.length : Nat) : Int), bsH l0 a1_0 (bsL l0 a1_0 l0.length 0 l0.length)) else none
theorem impl_Pipe_21.calls (A0 : Option Addr) (c0 : Nat) (l0 : List S36) (a1_0 : ByteArray) (a1_1 a1_2 a1_3 a1_4 a1_5 : Int) (r1 : Int) (r2 : Bool) (w : World) (hr0 : Kd.C k36 w A0 l0.length l0) (hc0 : l0.length ≤ c0) (h : impl_Pipe_21.f l0 a1_0 a1_1 a1_2 a1_3 a1_4 a1_5 = some (r1, r2)) :
    Calls Try.prog 21 #[.slice A0 l0.length c0, .agg #[.string a1_0, .int .i64 a1_1, .int .i64 a1_2, .int .i64 a1_3, .int .i64 a1_4, .int .i64 a1_5], .func (.func 22) #[] #[]] w fun e w' => e = .returned (.tuple #[.int .i64 r1, .bool r2]) ∧ Below w.heap.size w w' := by
  unfold impl_Pipe_21.f at h
  split at h
  case isFalse => exact absurd h (by simp)
  rename_i hl
  obtain ⟨rfl, rfl⟩ := Prod.mk.inj (Option.some.inj h)
  exact bs_any A0 c0 l0 ⟨a1_0, a1_1, a1_2, a1_3, a1_4, a1_5⟩ w hr0 hl


/-! ### slices_Clone_int64_int64: function 26 -/
open Go.Proofs.YtcnbceiiimmgaaaM
def slices_Clone_int64_int64.f (l0 : List Int) : Option (List Int) := if l0.length < 17592186044416 then some l0 else none
set_option maxHeartbeats 8000000 in
set_option maxRecDepth 100000 in
theorem slices_Clone_int64_int64.calls (A0 : Option Addr) (c0 : Nat) (l0 : List Int) (r : List Int) (w : World) (hr0 : Kd.C (Kd.int .i64) w A0 l0.length l0) (hc0 : l0.length ≤ c0) (h : slices_Clone_int64_int64.f l0 = some r) :
    Calls Try.prog 26 #[.slice A0 l0.length c0] w fun e w' => ∃ v0_ : Value, e = .returned (v0_) ∧ Kd.R (Kd.int .i64) 2 w' w.heap.size (fun _ => True) v0_ r ∧ Below w.heap.size w w' := by
  unfold slices_Clone_int64_int64.f at h
  split at h
  case isFalse => exact absurd h (by simp)
  rename_i hl
  obtain rfl := Option.some.inj h;clear h;have HB := Aside0.mk (Below.refl w.heap.size w)
  cases A0 with
  | none =>
    have e0 : l0 = [] := by
      cases l0 with
      | nil => rfl
      | cons x l => obtain ⟨ad, h, _⟩ := hr0.2.2 (by simp); cases h
    subst e0;clear hr0 hl;(have hq : ∀ W, (binOp .eql 22 (.slice none 0 c0) (.slice none 0 0)).run Try.prog W = .ok (.bool true) W := fun W => Lib.run_eql_slice_nil W 22 2 none 0 c0 0 0 Try.underlying22);go_enter Try.func26, Try.ntmps26;go_wp2;go_ret;exact ⟨_, rfl, Kd.R_nil _ _ _ _ _, by repeat (first | exact HB.out | apply below_alloc | apply pw_below_drewN | apply below_drew1)⟩
  | some a =>
    have HR0 := Aside0.mk hr0;obtain ⟨y169, hy169⟩ : ∃ y_ : List Int, y_ = ([] : List Int) := ⟨_, rfl⟩;obtain ⟨y172, hy172⟩ : ∃ y_ : List Int, y_ = (y169 ++ l0) := ⟨_, rfl⟩;have Ny169 := Aside0.mk hy169;have Ny172 := Aside0.mk hy172;have LMc2 : Aside0 (y169.length + l0.length < 17592186044416) := ⟨by rw [hy169]; simpa using hl⟩;have HY : Aside0 (y172 = l0) := ⟨by rw [hy172, hy169]; rfl⟩;clear hr0 hl hy169 hy172;(have hq : ∀ W, (binOp .eql 22 (.slice (some a) l0.length c0) (.slice none 0 0)).run Try.prog W = .ok (.bool false) W := fun W => Lib.run_eql_slice_nil W 22 2 (some a) l0.length c0 0 0 Try.underlying22);go_enter Try.func26, Try.ntmps26
    go_wp2_with (first | ((with_reducible refine gate_dst (N := 5) rfl ?_); refine Kd.R_lit (Kd.int .i64) _ 2 ?hg (N := 5) ?hd (xs := ([] : List Int)) (inner := []) (ok := fun _ => True) (okp := fun _ => True) ?hr ?hp (fun _ hk => hk) trivial (Below.refl _ _) (Nat.le_refl _) (by simp) ?_; (case hd => rfl); (case hg => rfl); (case hr => first | (go_simp; done) | (go_simp; rfl)); (case hp => exact (Reps.none _ _)); intro v170 w3 ho4 hb hg_ hnew_; clear hg_ hnew_; (first | rw [← Ny169.out] at ho4 | (simp only [Int.reduceToNat] at ho4; rw [← Ny169.out] at ho4)); have HO171 := Aside0.mk (Kd.R_lower ho4 (below_size (z64_))); replace HB := Aside0.mk (below_step (z64_) hb); clear hb ho4) | ((with_reducible refine gate_builtin (b := .append) (xs := #[.tmp 5, .tmp 6]) rfl ?_); at_builtin; refine Kd.R_append_rows (Kd.int .i64) (w0 := w) w.heap.size rfl (.tmp 5) (.tmp 6) 22 2 (.int .i64 0) 8 rfl Try.underlying22 info2 rfl (by decide) (by omega) v170 y169 l0 _ _ _ (fun _ => True) (fun _ => False) rfl rfl ?aO ?aR (fun _ _ h => h) (fun _ h => h.elim) ?aF ?aB ?aS ?aL ?_; (case aR => repeat (first | exact (Kd.C_below HR0.out HB.out) | (with_reducible refine Kd.C_alloc ?_ _) | (with_reducible refine Kd.C_drewN ?_ _) | (with_reducible refine Kd.C_drew ?_))); (case aB => exact (z64_)); (case aF => exact (fun _ _ => trivial)); (case aO => exact (by (with_reducible repeat (first | apply Kd.R_alloc | apply Kd.R_drewN | apply Kd.R_drew)); exact HO171.out)); (case aS => exact (below_size (z64_))); (case aL => have := LMc2.out; omega); intro v173 w5 ho hb hg hat; rw [← Ny172.out] at ho; have n0_ := Aside0.mk (hb); have n1_ := Aside0.mk (ho); clear HB; clear HO171; have HB := n0_; have HO174 := n1_; clear n0_ n1_; clear ho hb hg hat))
    go_ret;exact ⟨_, rfl, z242_, z64_⟩

-- NOT PRINTED: function 43 (impl_Pipe_43)


end Go.Proofs.Ytcnbceiiimmgaaa.PFnExactAddPipe
