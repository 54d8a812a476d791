-- Printed by a program of this session (wip/hprint.sh: the kit's print with hand-proved contracts put in); not by print.sh itself.
import Derived.Test.YtnmdcmfhjhgheaaPFnExactPressuresOfx0
import Derived.Test.YtnmdcmfhjhgheaaPFnExactPressuresOfx2
namespace Go.Proofs.Ytnmdcmfhjhgheaa.PFnExactPressuresOf
open Go.RowKit Go.Proofs.YtnmdcmfhjhgheaaW.PrintWords Go.Proofs.YtnmdcmfhjhgheaaW.PrintLast Go.Proofs.YtnmdcmfhjhgheaaW.PrintMore Go.Proofs.YtnmdcmfhjhgheaaM
attribute [local go_sem] max2_int min2_int max_two min_two max_three min_three max_four min_four   -- for this text's walks alone
set_option linter.unusedVariables false
set_option linter.unusedSimpArgs false

/-! ### laws_markPipeS: function 35 -/
def laws_markPipeS.l0 : Nat → List (S73) → Int → Int → Option (Int × (List (S73)))
 | 0, _, _, _ => none
 | k + 1, x0, x1, x5 => if x5 < (x0.length : Int) then ((laws_markText_.f x1).bind fun t148 => (if 0 ≤ x5 then ((some (x0.set (x5 : Int).toNat (⟨t148, (rd_T73 x0 x5).f1, (rd_T73 x0 x5).f2, (rd_T73 x0 x5).f3, (rd_T73 x0 x5).f4, (rd_T73 x0 x5).f5⟩ : S73) : List (S73))).bind fun y149 => ((some (y149.set (x5 : Int).toNat (⟨(rd_T73 y149 x5).f0, wrap64 (x1 + 1), (rd_T73 y149 x5).f2, (rd_T73 y149 x5).f3, (rd_T73 y149 x5).f4, (rd_T73 y149 x5).f5⟩ : S73) : List (S73))).bind fun y150 => ((some (y150.set (x5 : Int).toNat (⟨(rd_T73 y150 x5).f0, (rd_T73 y150 x5).f1, wrap64 ((wrap64 (x1 + 1)) + 1), (rd_T73 y150 x5).f3, (rd_T73 y150 x5).f4, (rd_T73 y150 x5).f5⟩ : S73) : List (S73))).bind fun y151 => ((some (y151.set (x5 : Int).toNat (⟨(rd_T73 y151 x5).f0, (rd_T73 y151 x5).f1, (rd_T73 y151 x5).f2, wrap64 ((wrap64 ((wrap64 (x1 + 1)) + 1)) + 1), (rd_T73 y151 x5).f4, (rd_T73 y151 x5).f5⟩ : S73) : List (S73))).bind fun y152 => ((some (y152.set (x5 : Int).toNat (⟨(rd_T73 y152 x5).f0, (rd_T73 y152 x5).f1, (rd_T73 y152 x5).f2, (rd_T73 y152 x5).f3, wrap64 ((wrap64 ((wrap64 ((wrap64 (x1 + 1)) + 1)) + 1)) + 1), (rd_T73 y152 x5).f5⟩ : S73) : List (S73))).bind fun y153 => (laws_markPipeS.l0 k (y153.set (x5 : Int).toNat (⟨(rd_T73 y153 x5).f0, (rd_T73 y153 x5).f1, (rd_T73 y153 x5).f2, (rd_T73 y153 x5).f3, (rd_T73 y153 x5).f4, wrap64 ((wrap64 ((wrap64 ((wrap64 ((wrap64 (x1 + 1)) + 1)) + 1)) + 1)) + 1)⟩ : S73)) (wrap64 ((wrap64 ((wrap64 ((wrap64 ((wrap64 ((wrap64 (x1 + 1)) + 1)) + 1)) + 1)) + 1)) + 1)) (wrap64 (x5 + 1)))))))) else (none))) else (some (x1, x0))
def laws_markPipeS.f (k : Nat) (l0 : List (S73)) (a1 : Int) : Option (Int × (List (S73))) := laws_markPipeS.l0 k l0 a1 0
theorem laws_markPipeS.mono_l : ∀ k, (∀ y0 y1 y2, LeO (laws_markPipeS.l0 k y0 y1 y2) (laws_markPipeS.l0 (k + 1) y0 y1 y2))
 | 0 => fun _ _ _ r h => by simp [laws_markPipeS.l0] at h
 | k + 1 => by
  have ih0 := laws_markPipeS.mono_l k
  ·intro y0 y1 y2
   unfold laws_markPipeS.l0
   exact z220_
theorem laws_markPipeS.mono : ∀ a0 a1 k, LeO (laws_markPipeS.f k a0 a1) (laws_markPipeS.f (k + 1) a0 a1) := by
 intro a0 a1 k
 have ih0 := laws_markPipeS.mono_l k
 unfold laws_markPipeS.f
 exact z220_
set_option maxHeartbeats 8000000 in
set_option maxRecDepth 100000 in
theorem laws_markPipeS.calls (k : Nat) (P0_ : Nat → Prop) (u9000_ : Value) (l0 : List (S73)) (a1 : Int) (r1 : Int) (r2 : List (S73)) (w0 w : World) (hB : Below w0.heap.size w0 w) (ho0 : Kd.R k73 73 w w0.heap.size P0_ u9000_ l0) (h : laws_markPipeS.f k l0 a1 = some (r1, r2)) :
  Calls Try.prog 35 #[u9000_, .int .i64 a1] w fun e w' => e = .returned (.int .i64 r1) ∧ Kd.R k73 73 w' w0.heap.size (fun k_ => (P0_ k_ ∨ w.heap.size ≤ k_)) u9000_ r2 ∧ Below w0.heap.size w0 w' ∧ Kept w w' (fun k_ => P0_ k_) := by
 have HO0 := Aside0.mk (show Kd.R k73 73 w w0.heap.size (fun k_ => (P0_ k_ ∨ w.heap.size ≤ k_)) u9000_ l0 from Kd.R_mono ho0 (fun k_ hk => (.inl hk)))
 have HK := Aside0.mk (Kept.refl w (fun k_ => P0_ k_))
 have HW0 := Aside0.mk hB.size
 have HB := Aside0.mk hB
 clear hB
 unfold laws_markPipeS.f at h;have H := h;clear h
 have H' := Aside0.mk H
 clear H
 go_enter Try.func35, Try.ntmps35
 go_wp2
 go_loopg [1, 5] k (fun kq v1 v5 w' => ∃ (x0_1 : List (S73)) (x1_1 : Int) (x5_1 : Int), v1 = .int .i64 x1_1 ∧ v5 = .int .i64 x5_1 ∧ Aside0 (laws_markPipeS.l0 kq x0_1 x1_1 x5_1 = some (r1, r2)) ∧ Aside0 (kq ≤ k) ∧ Aside0 (Kd.R k73 73 w' w0.heap.size (fun k_ => (P0_ k_ ∨ w.heap.size ≤ k_)) u9000_ x0_1) ∧ Aside0 (Kept w w' (fun k_ => P0_ k_)) ∧ Aside0 (Below w0.heap.size w0 w'))
 case atStart => exact ⟨(l0), (a1), (0), (z7_), (z7_), H', ⟨Nat.le_refl _⟩, ⟨by (with_reducible repeat (first | apply rA|apply rN|apply rW)); exact HO0.out⟩, ⟨z32_⟩, ⟨z2_⟩⟩
 case round =>
  clear H';obtain ⟨x0_1, x1_1, x5_1, rfl, rfl, HA, HK1, HO_0, HK, HB⟩ := hrel
  cases gk with
  | zero => exact absurd HA.out (by simp [laws_markPipeS.l0])
  | succ k1 =>
   have H := HA.out;clear HA;(simp only [laws_markPipeS.l0] at H);by_cases c3 : x5_1 < (x0_1.length : Int)
   ·(rw [if_pos c3] at H);have c3b0 := decide_eq_true c3;clear c3;replace H := Option.bind_eq_some_iff.mp H;obtain ⟨t148, A40, H⟩ := H;have A4 := Aside0.mk A40;clear A40;obtain ⟨c5b0,H⟩ := pd_ H;obtain ⟨y149, hy149⟩ : ∃ y_ : List (S73), y_ = (x0_1.set (x5_1 : Int).toNat (⟨t148, (rd_T73 x0_1 x5_1).f1, (rd_T73 x0_1 x5_1).f2, (rd_T73 x0_1 x5_1).f3, (rd_T73 x0_1 x5_1).f4, (rd_T73 x0_1 x5_1).f5⟩ : S73)) := ⟨_, rfl⟩;(replace H : ((some (y149.set (x5_1 : Int).toNat (⟨(rd_T73 y149 x5_1).f0, wrap64 (x1_1 + 1), (rd_T73 y149 x5_1).f2, (rd_T73 y149 x5_1).f3, (rd_T73 y149 x5_1).f4, (rd_T73 y149 x5_1).f5⟩ : S73) : List (S73))).bind fun y150 => ((some (y150.set (x5_1 : Int).toNat (⟨(rd_T73 y150 x5_1).f0, (rd_T73 y150 x5_1).f1, wrap64 ((wrap64 (x1_1 + 1)) + 1), (rd_T73 y150 x5_1).f3, (rd_T73 y150 x5_1).f4, (rd_T73 y150 x5_1).f5⟩ : S73) : List (S73))).bind fun y151 => ((some (y151.set (x5_1 : Int).toNat (⟨(rd_T73 y151 x5_1).f0, (rd_T73 y151 x5_1).f1, (rd_T73 y151 x5_1).f2, wrap64 ((wrap64 ((wrap64 (x1_1 + 1)) + 1)) + 1), (rd_T73 y151 x5_1).f4, (rd_T73 y151 x5_1).f5⟩ : S73) : List (S73))).bind fun y152 => ((some (y152.set (x5_1 : Int).toNat (⟨(rd_T73 y152 x5_1).f0, (rd_T73 y152 x5_1).f1, (rd_T73 y152 x5_1).f2, (rd_T73 y152 x5_1).f3, wrap64 ((wrap64 ((wrap64 ((wrap64 (x1_1 + 1)) + 1)) + 1)) + 1), (rd_T73 y152 x5_1).f5⟩ : S73) : List (S73))).bind fun y153 => (laws_markPipeS.l0 k1 (y153.set (x5_1 : Int).toNat (⟨(rd_T73 y153 x5_1).f0, (rd_T73 y153 x5_1).f1, (rd_T73 y153 x5_1).f2, (rd_T73 y153 x5_1).f3, (rd_T73 y153 x5_1).f4, wrap64 ((wrap64 ((wrap64 ((wrap64 ((wrap64 (x1_1 + 1)) + 1)) + 1)) + 1)) + 1)⟩ : S73)) (wrap64 ((wrap64 ((wrap64 ((wrap64 ((wrap64 ((wrap64 (x1_1 + 1)) + 1)) + 1)) + 1)) + 1)) + 1)) (wrap64 (x5_1 + 1))))))) = some (r1, r2) := by first | (rw [hy149]; with_reducible exact H) | (have H2_ := (Option.bind_some _ _).symm.trans H; rw [hy149]; with_reducible exact H2_) | (have H2_ := (Option.bind_some _ _).symm.trans H; with_reducible exact H2_) | with_reducible exact H | (rw [hy149]; exact H) | exact H);have Ny149 := Aside0.mk hy149;clear hy149;obtain ⟨y150, hy150⟩ : ∃ y_ : List (S73), y_ = (y149.set (x5_1 : Int).toNat (⟨(rd_T73 y149 x5_1).f0, wrap64 (x1_1 + 1), (rd_T73 y149 x5_1).f2, (rd_T73 y149 x5_1).f3, (rd_T73 y149 x5_1).f4, (rd_T73 y149 x5_1).f5⟩ : S73)) := ⟨_, rfl⟩;(replace H : ((some (y150.set (x5_1 : Int).toNat (⟨(rd_T73 y150 x5_1).f0, (rd_T73 y150 x5_1).f1, wrap64 ((wrap64 (x1_1 + 1)) + 1), (rd_T73 y150 x5_1).f3, (rd_T73 y150 x5_1).f4, (rd_T73 y150 x5_1).f5⟩ : S73) : List (S73))).bind fun y151 => ((some (y151.set (x5_1 : Int).toNat (⟨(rd_T73 y151 x5_1).f0, (rd_T73 y151 x5_1).f1, (rd_T73 y151 x5_1).f2, wrap64 ((wrap64 ((wrap64 (x1_1 + 1)) + 1)) + 1), (rd_T73 y151 x5_1).f4, (rd_T73 y151 x5_1).f5⟩ : S73) : List (S73))).bind fun y152 => ((some (y152.set (x5_1 : Int).toNat (⟨(rd_T73 y152 x5_1).f0, (rd_T73 y152 x5_1).f1, (rd_T73 y152 x5_1).f2, (rd_T73 y152 x5_1).f3, wrap64 ((wrap64 ((wrap64 ((wrap64 (x1_1 + 1)) + 1)) + 1)) + 1), (rd_T73 y152 x5_1).f5⟩ : S73) : List (S73))).bind fun y153 => (laws_markPipeS.l0 k1 (y153.set (x5_1 : Int).toNat (⟨(rd_T73 y153 x5_1).f0, (rd_T73 y153 x5_1).f1, (rd_T73 y153 x5_1).f2, (rd_T73 y153 x5_1).f3, (rd_T73 y153 x5_1).f4, wrap64 ((wrap64 ((wrap64 ((wrap64 ((wrap64 (x1_1 + 1)) + 1)) + 1)) + 1)) + 1)⟩ : S73)) (wrap64 ((wrap64 ((wrap64 ((wrap64 ((wrap64 ((wrap64 (x1_1 + 1)) + 1)) + 1)) + 1)) + 1)) + 1)) (wrap64 (x5_1 + 1)))))) = some (r1, r2) := by first | (rw [hy150]; with_reducible exact H) | (have H2_ := (Option.bind_some _ _).symm.trans H; rw [hy150]; with_reducible exact H2_) | (have H2_ := (Option.bind_some _ _).symm.trans H; with_reducible exact H2_) | with_reducible exact H | (rw [hy150]; exact H) | exact H);have Ny150 := Aside0.mk hy150;clear hy150;obtain ⟨y151, hy151⟩ : ∃ y_ : List (S73), y_ = (y150.set (x5_1 : Int).toNat (⟨(rd_T73 y150 x5_1).f0, (rd_T73 y150 x5_1).f1, wrap64 ((wrap64 (x1_1 + 1)) + 1), (rd_T73 y150 x5_1).f3, (rd_T73 y150 x5_1).f4, (rd_T73 y150 x5_1).f5⟩ : S73)) := ⟨_, rfl⟩;(replace H : ((some (y151.set (x5_1 : Int).toNat (⟨(rd_T73 y151 x5_1).f0, (rd_T73 y151 x5_1).f1, (rd_T73 y151 x5_1).f2, wrap64 ((wrap64 ((wrap64 (x1_1 + 1)) + 1)) + 1), (rd_T73 y151 x5_1).f4, (rd_T73 y151 x5_1).f5⟩ : S73) : List (S73))).bind fun y152 => ((some (y152.set (x5_1 : Int).toNat (⟨(rd_T73 y152 x5_1).f0, (rd_T73 y152 x5_1).f1, (rd_T73 y152 x5_1).f2, (rd_T73 y152 x5_1).f3, wrap64 ((wrap64 ((wrap64 ((wrap64 (x1_1 + 1)) + 1)) + 1)) + 1), (rd_T73 y152 x5_1).f5⟩ : S73) : List (S73))).bind fun y153 => (laws_markPipeS.l0 k1 (y153.set (x5_1 : Int).toNat (⟨(rd_T73 y153 x5_1).f0, (rd_T73 y153 x5_1).f1, (rd_T73 y153 x5_1).f2, (rd_T73 y153 x5_1).f3, (rd_T73 y153 x5_1).f4, wrap64 ((wrap64 ((wrap64 ((wrap64 ((wrap64 (x1_1 + 1)) + 1)) + 1)) + 1)) + 1)⟩ : S73)) (wrap64 ((wrap64 ((wrap64 ((wrap64 ((wrap64 ((wrap64 (x1_1 + 1)) + 1)) + 1)) + 1)) + 1)) + 1)) (wrap64 (x5_1 + 1))))) = some (r1, r2) := by first | (rw [hy151]; with_reducible exact H) | (have H2_ := (Option.bind_some _ _).symm.trans H; rw [hy151]; with_reducible exact H2_) | (have H2_ := (Option.bind_some _ _).symm.trans H; with_reducible exact H2_) | with_reducible exact H | (rw [hy151]; exact H) | exact H);have Ny151 := Aside0.mk hy151;clear hy151;obtain ⟨y152, hy152⟩ : ∃ y_ : List (S73), y_ = (y151.set (x5_1 : Int).toNat (⟨(rd_T73 y151 x5_1).f0, (rd_T73 y151 x5_1).f1, (rd_T73 y151 x5_1).f2, wrap64 ((wrap64 ((wrap64 (x1_1 + 1)) + 1)) + 1), (rd_T73 y151 x5_1).f4, (rd_T73 y151 x5_1).f5⟩ : S73)) := ⟨_, rfl⟩;(replace H : ((some (y152.set (x5_1 : Int).toNat (⟨(rd_T73 y152 x5_1).f0, (rd_T73 y152 x5_1).f1, (rd_T73 y152 x5_1).f2, (rd_T73 y152 x5_1).f3, wrap64 ((wrap64 ((wrap64 ((wrap64 (x1_1 + 1)) + 1)) + 1)) + 1), (rd_T73 y152 x5_1).f5⟩ : S73) : List (S73))).bind fun y153 => (laws_markPipeS.l0 k1 (y153.set (x5_1 : Int).toNat (⟨(rd_T73 y153 x5_1).f0, (rd_T73 y153 x5_1).f1, (rd_T73 y153 x5_1).f2, (rd_T73 y153 x5_1).f3, (rd_T73 y153 x5_1).f4, wrap64 ((wrap64 ((wrap64 ((wrap64 ((wrap64 (x1_1 + 1)) + 1)) + 1)) + 1)) + 1)⟩ : S73)) (wrap64 ((wrap64 ((wrap64 ((wrap64 ((wrap64 ((wrap64 (x1_1 + 1)) + 1)) + 1)) + 1)) + 1)) + 1)) (wrap64 (x5_1 + 1)))) = some (r1, r2) := by first | (rw [hy152]; with_reducible exact H) | (have H2_ := (Option.bind_some _ _).symm.trans H; rw [hy152]; with_reducible exact H2_) | (have H2_ := (Option.bind_some _ _).symm.trans H; with_reducible exact H2_) | with_reducible exact H | (rw [hy152]; exact H) | exact H);have Ny152 := Aside0.mk hy152;clear hy152;obtain ⟨y153, hy153⟩ : ∃ y_ : List (S73), y_ = (y152.set (x5_1 : Int).toNat (⟨(rd_T73 y152 x5_1).f0, (rd_T73 y152 x5_1).f1, (rd_T73 y152 x5_1).f2, (rd_T73 y152 x5_1).f3, wrap64 ((wrap64 ((wrap64 ((wrap64 (x1_1 + 1)) + 1)) + 1)) + 1), (rd_T73 y152 x5_1).f5⟩ : S73)) := ⟨_, rfl⟩;(replace H : (laws_markPipeS.l0 k1 (y153.set (x5_1 : Int).toNat (⟨(rd_T73 y153 x5_1).f0, (rd_T73 y153 x5_1).f1, (rd_T73 y153 x5_1).f2, (rd_T73 y153 x5_1).f3, (rd_T73 y153 x5_1).f4, wrap64 ((wrap64 ((wrap64 ((wrap64 ((wrap64 (x1_1 + 1)) + 1)) + 1)) + 1)) + 1)⟩ : S73)) (wrap64 ((wrap64 ((wrap64 ((wrap64 ((wrap64 ((wrap64 (x1_1 + 1)) + 1)) + 1)) + 1)) + 1)) + 1)) (wrap64 (x5_1 + 1))) = some (r1, r2) := by first | (rw [hy153]; with_reducible exact H) | (have H2_ := (Option.bind_some _ _).symm.trans H; rw [hy153]; with_reducible exact H2_) | (have H2_ := (Option.bind_some _ _).symm.trans H; with_reducible exact H2_) | with_reducible exact H | (rw [hy153]; exact H) | exact H);have Ny153 := Aside0.mk hy153;clear hy153;obtain ⟨y154, hy154⟩ : ∃ y_ : List (S73), y_ = (y153.set (x5_1 : Int).toNat (⟨(rd_T73 y153 x5_1).f0, (rd_T73 y153 x5_1).f1, (rd_T73 y153 x5_1).f2, (rd_T73 y153 x5_1).f3, (rd_T73 y153 x5_1).f4, wrap64 ((wrap64 ((wrap64 ((wrap64 ((wrap64 (x1_1 + 1)) + 1)) + 1)) + 1)) + 1)⟩ : S73)) := ⟨_, rfl⟩;(replace H : (laws_markPipeS.l0 k1 y154 (wrap64 ((wrap64 ((wrap64 ((wrap64 ((wrap64 ((wrap64 (x1_1 + 1)) + 1)) + 1)) + 1)) + 1)) + 1)) (wrap64 (x5_1 + 1))) = some (r1, r2) := by first | (rw [hy154]; with_reducible exact H) | (have H2_ := (Option.bind_some _ _).symm.trans H; rw [hy154]; with_reducible exact H2_) | (have H2_ := (Option.bind_some _ _).symm.trans H; with_reducible exact H2_) | with_reducible exact H | (rw [hy154]; exact H) | exact H);have Ny154 := Aside0.mk hy154;clear hy154;have H' := Aside0.mk H;clear H;obtain ⟨Ao12, co12, eo12⟩ := Kd.R_slice HO_0.out;subst eo12
    go_wp2_with (first | ((with_reducible refine gate_callee (f := 67) rfl ?_); refine goesL_ (some 15) rfl rfl Try.func67 (z13_) rfl #[.int .i64 x1_1] rfl (z1_) ?_; (with_reducible refine (laws_markText_.calls x1_1 t148 _ A4.out).mono ?_); rintro e w13 ⟨rfl, hb⟩; refine ⟨_, rfl, ?_⟩; replace HO_0 := Aside0.mk (Kd.R_below (z66_) hb); replace HK := Aside0.mk (Kept.below (S := (fun k_ => P0_ k_)) (z32_) hb); replace HB := Aside0.mk (below_step (z2_) hb); (try clear hb); (try clear hk); have p6 : 0 ≤ (x5_1 : Int) := of_decide_eq_true (z0_); have q6 : (x5_1 : Int) < ((x0_1.length : Int) : Int) := of_decide_eq_true (z0_); obtain ⟨go6, co6, eo6, gb6, gl6, cl6, HG6⟩ := Kd.R_form HO_0.out (by omega); (first | cases eo6 | (injection eo6 with ea_ en_ ec_; (first | subst ea_ | (injection ea_ with ea_; subst ea_)); subst ec_; clear en_)); have GB6 := Aside0.mk gb6; have GG6 := Aside0.mk HG6; clear gb6 gl6 HG6; have HMgo6 := Aside0.mk (show (P0_ go6 ∨ w.heap.size ≤ go6) from (HO_0.out.1 _ rfl)); obtain ⟨ce6, hcl6, hM6, hcc6, hfr6⟩ := Kd.R_elem HO_0.out z73 (x5_1 : Int) p6 q6; obtain rfl := k73_openM hM6; have hx6_0 : w13.cell? ⟨go6, (x5_1 : Int).toNat * 6, none⟩ = some (.string ((rd_T73 x0_1 x5_1).f0)) := hcc6 0 _ rfl; have hx6_1 : w13.cell? ⟨go6, (x5_1 : Int).toNat * 6 + 1, none⟩ = some (.int .i64 ((rd_T73 x0_1 x5_1).f1)) := hcc6 1 _ rfl; have hx6_2 : w13.cell? ⟨go6, (x5_1 : Int).toNat * 6 + 2, none⟩ = some (.int .i64 ((rd_T73 x0_1 x5_1).f2)) := hcc6 2 _ rfl; have hx6_3 : w13.cell? ⟨go6, (x5_1 : Int).toNat * 6 + 3, none⟩ = some (.int .i64 ((rd_T73 x0_1 x5_1).f3)) := hcc6 3 _ rfl; have hx6_4 : w13.cell? ⟨go6, (x5_1 : Int).toNat * 6 + 4, none⟩ = some (.int .i64 ((rd_T73 x0_1 x5_1).f4)) := hcc6 4 _ rfl; have hx6_5 : w13.cell? ⟨go6, (x5_1 : Int).toNat * 6 + 5, none⟩ = some (.int .i64 ((rd_T73 x0_1 x5_1).f5)) := hcc6 5 _ rfl; have hf6_0 : w13.frozen? ⟨go6, (x5_1 : Int).toNat * 6, none⟩ = false := hfr6 0; have hf6_1 : w13.frozen? ⟨go6, (x5_1 : Int).toNat * 6 + 1, none⟩ = false := hfr6 1; have hf6_2 : w13.frozen? ⟨go6, (x5_1 : Int).toNat * 6 + 2, none⟩ = false := hfr6 2; have hf6_3 : w13.frozen? ⟨go6, (x5_1 : Int).toNat * 6 + 3, none⟩ = false := hfr6 3; have hf6_4 : w13.frozen? ⟨go6, (x5_1 : Int).toNat * 6 + 4, none⟩ = false := hfr6 4; have hf6_5 : w13.frozen? ⟨go6, (x5_1 : Int).toNat * 6 + 5, none⟩ = false := hfr6 5; (try clear hcl6); (try clear hcc6); (try clear hfr6); (try clear hM6); replace p6 := eq_true p6; replace q6 := eq_true q6; have HX14 := Aside0.mk (show Kd.R k73 73 w13 w0.heap.size (fun k_ => (P0_ k_ ∨ w.heap.size ≤ k_)) (.slice (some ⟨go6, 0, none⟩) x0_1.length co12) x0_1 from (z66_)); obtain ⟨ce14, hcl14, hM14, hcc14, hfr14⟩ := Kd.R_elem HX14.out z73 (x5_1 : Int) (of_decide_eq_true (z0_)) (by have h_ : (x5_1 : Int) < ((x0_1.length : Int) : Int) := of_decide_eq_true (z0_); first | exact h_ | (have e_ := (Kd.R_reads' HO_0.out).1; omega) | simpa using h_); obtain rfl := k73_openM hM14; have HP14 := Kd.R_seg HX14.out (x5_1 : Int) (of_decide_eq_true (z0_)) (by have h_ : (x5_1 : Int) < ((x0_1.length : Int) : Int) := of_decide_eq_true (z0_); first | exact h_ | (have e_ := (Kd.R_reads' HO_0.out).1; omega) | simpa using h_) (seg := [.string t148]) (j := 0) hcl14 hcc14 (show 1 ≤ 6 from by decide) (x' := (⟨t148, (rd_T73 x0_1 x5_1).f1, (rd_T73 x0_1 x5_1).f2, (rd_T73 x0_1 x5_1).f3, (rd_T73 x0_1 x5_1).f4, (rd_T73 x0_1 x5_1).f5⟩ : S73)) (k73_mkM _ _ _ (⟨t148, (rd_T73 x0_1 x5_1).f1, (rd_T73 x0_1 x5_1).f2, (rd_T73 x0_1 x5_1).f3, (rd_T73 x0_1 x5_1).f4, (rd_T73 x0_1 x5_1).f5⟩ : S73) ) (fun _ hk => hk); have hx14_0 := hcc14 0 _ rfl; (try simp only [show (k73).sz = 6 from rfl, Nat.mul_one, Nat.add_zero] at hx14_0); have hf14_0 := hfr14 0; (try simp only [show (k73).sz = 6 from rfl, Nat.mul_one, Nat.add_zero] at hf14_0); (try clear hcl14); (try clear hcc14); (try clear hfr14); (try clear hM14)) | ((with_reducible refine gate_store (t := 9) (p := 17) rfl ?_); refine store_event (t := 9) (p := 17) (v := ?vo_w15) (w1 := (w13.setCell ⟨go6, (x5_1 : Int).toNat * 6, none⟩ (.string t148))) ?hg ?ho ?hn ?hr ?_; (case ho => rfl); (case hg => rfl); (case hn => rfl); (case hr => first | (go_simp; done) | (go_simp; rfl)); intro w15 hw; have hg : w13.grownBy w15 (some go6) := (by rw [hw]; exact HP14.2); have hp_ : Kd.R k73 73 w15 w0.heap.size (fun k_ => (P0_ k_ ∨ w.heap.size ≤ k_)) (.slice (some ⟨go6, 0, none⟩) x0_1.length co12) y149 := (by rw [hw, Ny149.out]; exact HP14.1); clear HP14; replace HB := Aside0.mk ((z179_ : Below w0.heap.size w0 w15)); replace HK := Aside0.mk (Kept.of_grown (S := (fun k_ => P0_ k_)) hg (z32_) (fun k_ e_ => (HO_0.out.1 k_ e_))); replace HO_0 := Aside0.mk (hp_); clear hg hw hp_; have p7 : 0 ≤ (x5_1 : Int) := of_decide_eq_true (z0_); have q7 : (x5_1 : Int) < ((x0_1.length : Int) : Int) := of_decide_eq_true (z0_); obtain ⟨ce7, hcl7, hM7, hcc7, hfr7⟩ := Kd.R_elem HO_0.out z73 (x5_1 : Int) p7 q7; obtain rfl := k73_openM hM7; have hx7_0 : w15.cell? ⟨go6, (x5_1 : Int).toNat * 6, none⟩ = some (.string ((rd_T73 y149 x5_1).f0)) := hcc7 0 _ rfl; have hx7_1 : w15.cell? ⟨go6, (x5_1 : Int).toNat * 6 + 1, none⟩ = some (.int .i64 ((rd_T73 y149 x5_1).f1)) := hcc7 1 _ rfl; have hx7_2 : w15.cell? ⟨go6, (x5_1 : Int).toNat * 6 + 2, none⟩ = some (.int .i64 ((rd_T73 y149 x5_1).f2)) := hcc7 2 _ rfl; have hx7_3 : w15.cell? ⟨go6, (x5_1 : Int).toNat * 6 + 3, none⟩ = some (.int .i64 ((rd_T73 y149 x5_1).f3)) := hcc7 3 _ rfl; have hx7_4 : w15.cell? ⟨go6, (x5_1 : Int).toNat * 6 + 4, none⟩ = some (.int .i64 ((rd_T73 y149 x5_1).f4)) := hcc7 4 _ rfl; have hx7_5 : w15.cell? ⟨go6, (x5_1 : Int).toNat * 6 + 5, none⟩ = some (.int .i64 ((rd_T73 y149 x5_1).f5)) := hcc7 5 _ rfl; have hf7_0 : w15.frozen? ⟨go6, (x5_1 : Int).toNat * 6, none⟩ = false := hfr7 0; have hf7_1 : w15.frozen? ⟨go6, (x5_1 : Int).toNat * 6 + 1, none⟩ = false := hfr7 1; have hf7_2 : w15.frozen? ⟨go6, (x5_1 : Int).toNat * 6 + 2, none⟩ = false := hfr7 2; have hf7_3 : w15.frozen? ⟨go6, (x5_1 : Int).toNat * 6 + 3, none⟩ = false := hfr7 3; have hf7_4 : w15.frozen? ⟨go6, (x5_1 : Int).toNat * 6 + 4, none⟩ = false := hfr7 4; have hf7_5 : w15.frozen? ⟨go6, (x5_1 : Int).toNat * 6 + 5, none⟩ = false := hfr7 5; (try clear hcl7); (try clear hcc7); (try clear hfr7); (try clear hM7); replace p7 := eq_true p7; replace q7 := eq_true q7; have HX16 := Aside0.mk (show Kd.R k73 73 w15 w0.heap.size (fun k_ => (P0_ k_ ∨ w.heap.size ≤ k_)) (.slice (some ⟨go6, 0, none⟩) x0_1.length co12) y149 from (z66_)); obtain ⟨ce16, hcl16, hM16, hcc16, hfr16⟩ := Kd.R_elem HX16.out z73 (x5_1 : Int) (of_decide_eq_true (z0_)) (by have h_ : (x5_1 : Int) < ((x0_1.length : Int) : Int) := of_decide_eq_true (z0_); first | exact h_ | (have e_ := (Kd.R_reads' HO_0.out).1; omega) | simpa using h_); obtain rfl := k73_openM hM16; have HP16 := Kd.R_seg HX16.out (x5_1 : Int) (of_decide_eq_true (z0_)) (by have h_ : (x5_1 : Int) < ((x0_1.length : Int) : Int) := of_decide_eq_true (z0_); first | exact h_ | (have e_ := (Kd.R_reads' HO_0.out).1; omega) | simpa using h_) (seg := [.int .i64 (wrap64 (x1_1 + 1))]) (j := 1) hcl16 hcc16 (show 2 ≤ 6 from by decide) (x' := (⟨(rd_T73 y149 x5_1).f0, wrap64 (x1_1 + 1), (rd_T73 y149 x5_1).f2, (rd_T73 y149 x5_1).f3, (rd_T73 y149 x5_1).f4, (rd_T73 y149 x5_1).f5⟩ : S73)) (k73_mkM _ _ _ (⟨(rd_T73 y149 x5_1).f0, wrap64 (x1_1 + 1), (rd_T73 y149 x5_1).f2, (rd_T73 y149 x5_1).f3, (rd_T73 y149 x5_1).f4, (rd_T73 y149 x5_1).f5⟩ : S73) ) (fun _ hk => hk); have hx16_1 := hcc16 1 _ rfl; (try simp only [show (k73).sz = 6 from rfl, Nat.mul_one, Nat.add_zero] at hx16_1); have hf16_1 := hfr16 1; (try simp only [show (k73).sz = 6 from rfl, Nat.mul_one, Nat.add_zero] at hf16_1); (try clear hcl16); (try clear hcc16); (try clear hfr16); (try clear hM16)) | ((with_reducible refine gate_store (t := 2) (p := 24) rfl ?_); refine store_event (t := 2) (p := 24) (v := ?vo_w17) (w1 := (w15.setCell ⟨go6, (x5_1 : Int).toNat * 6 + 1, none⟩ (.int .i64 (wrap64 (x1_1 + 1))))) ?hg ?ho ?hn ?hr ?_; (case ho => rfl); (case hg => rfl); (case hn => rfl); (case hr => first | (go_simp; done) | (go_simp; rfl)); intro w17 hw; have hg : w15.grownBy w17 (some go6) := (by rw [hw]; exact HP16.2); have hp_ : Kd.R k73 73 w17 w0.heap.size (fun k_ => (P0_ k_ ∨ w.heap.size ≤ k_)) (.slice (some ⟨go6, 0, none⟩) x0_1.length co12) y150 := (by rw [hw, Ny150.out]; exact HP16.1); clear HP16; replace HB := Aside0.mk ((z179_ : Below w0.heap.size w0 w17)); replace HK := Aside0.mk (Kept.of_grown (S := (fun k_ => P0_ k_)) hg (z32_) (fun k_ e_ => (HO_0.out.1 k_ e_))); replace HO_0 := Aside0.mk (hp_); clear hg hw hp_; have p8 : 0 ≤ (x5_1 : Int) := of_decide_eq_true (z0_); have q8 : (x5_1 : Int) < ((x0_1.length : Int) : Int) := of_decide_eq_true (z0_); obtain ⟨ce8, hcl8, hM8, hcc8, hfr8⟩ := Kd.R_elem HO_0.out z73 (x5_1 : Int) p8 q8; obtain rfl := k73_openM hM8; have hx8_0 : w17.cell? ⟨go6, (x5_1 : Int).toNat * 6, none⟩ = some (.string ((rd_T73 y150 x5_1).f0)) := hcc8 0 _ rfl; have hx8_1 : w17.cell? ⟨go6, (x5_1 : Int).toNat * 6 + 1, none⟩ = some (.int .i64 ((rd_T73 y150 x5_1).f1)) := hcc8 1 _ rfl; have hx8_2 : w17.cell? ⟨go6, (x5_1 : Int).toNat * 6 + 2, none⟩ = some (.int .i64 ((rd_T73 y150 x5_1).f2)) := hcc8 2 _ rfl; have hx8_3 : w17.cell? ⟨go6, (x5_1 : Int).toNat * 6 + 3, none⟩ = some (.int .i64 ((rd_T73 y150 x5_1).f3)) := hcc8 3 _ rfl; have hx8_4 : w17.cell? ⟨go6, (x5_1 : Int).toNat * 6 + 4, none⟩ = some (.int .i64 ((rd_T73 y150 x5_1).f4)) := hcc8 4 _ rfl; have hx8_5 : w17.cell? ⟨go6, (x5_1 : Int).toNat * 6 + 5, none⟩ = some (.int .i64 ((rd_T73 y150 x5_1).f5)) := hcc8 5 _ rfl; have hf8_0 : w17.frozen? ⟨go6, (x5_1 : Int).toNat * 6, none⟩ = false := hfr8 0; have hf8_1 : w17.frozen? ⟨go6, (x5_1 : Int).toNat * 6 + 1, none⟩ = false := hfr8 1; have hf8_2 : w17.frozen? ⟨go6, (x5_1 : Int).toNat * 6 + 2, none⟩ = false := hfr8 2; have hf8_3 : w17.frozen? ⟨go6, (x5_1 : Int).toNat * 6 + 3, none⟩ = false := hfr8 3; have hf8_4 : w17.frozen? ⟨go6, (x5_1 : Int).toNat * 6 + 4, none⟩ = false := hfr8 4; have hf8_5 : w17.frozen? ⟨go6, (x5_1 : Int).toNat * 6 + 5, none⟩ = false := hfr8 5; (try clear hcl8); (try clear hcc8); (try clear hfr8); (try clear hM8); replace p8 := eq_true p8; replace q8 := eq_true q8; have HX18 := Aside0.mk (show Kd.R k73 73 w17 w0.heap.size (fun k_ => (P0_ k_ ∨ w.heap.size ≤ k_)) (.slice (some ⟨go6, 0, none⟩) x0_1.length co12) y150 from (z66_)); obtain ⟨ce18, hcl18, hM18, hcc18, hfr18⟩ := Kd.R_elem HX18.out z73 (x5_1 : Int) (of_decide_eq_true (z0_)) (by have h_ : (x5_1 : Int) < ((x0_1.length : Int) : Int) := of_decide_eq_true (z0_); first | exact h_ | (have e_ := (Kd.R_reads' HO_0.out).1; omega) | simpa using h_); obtain rfl := k73_openM hM18; have HP18 := Kd.R_seg HX18.out (x5_1 : Int) (of_decide_eq_true (z0_)) (by have h_ : (x5_1 : Int) < ((x0_1.length : Int) : Int) := of_decide_eq_true (z0_); first | exact h_ | (have e_ := (Kd.R_reads' HO_0.out).1; omega) | simpa using h_) (seg := [.int .i64 (wrap64 ((wrap64 (x1_1 + 1)) + 1))]) (j := 2) hcl18 hcc18 (show 3 ≤ 6 from by decide) (x' := (⟨(rd_T73 y150 x5_1).f0, (rd_T73 y150 x5_1).f1, wrap64 ((wrap64 (x1_1 + 1)) + 1), (rd_T73 y150 x5_1).f3, (rd_T73 y150 x5_1).f4, (rd_T73 y150 x5_1).f5⟩ : S73)) (k73_mkM _ _ _ (⟨(rd_T73 y150 x5_1).f0, (rd_T73 y150 x5_1).f1, wrap64 ((wrap64 (x1_1 + 1)) + 1), (rd_T73 y150 x5_1).f3, (rd_T73 y150 x5_1).f4, (rd_T73 y150 x5_1).f5⟩ : S73) ) (fun _ hk => hk); have hx18_2 := hcc18 2 _ rfl; (try simp only [show (k73).sz = 6 from rfl, Nat.mul_one, Nat.add_zero] at hx18_2); have hf18_2 := hfr18 2; (try simp only [show (k73).sz = 6 from rfl, Nat.mul_one, Nat.add_zero] at hf18_2); (try clear hcl18); (try clear hcc18); (try clear hfr18); (try clear hM18)) | ((with_reducible refine gate_store (t := 2) (p := 31) rfl ?_); refine store_event (t := 2) (p := 31) (v := ?vo_w19) (w1 := (w17.setCell ⟨go6, (x5_1 : Int).toNat * 6 + 2, none⟩ (.int .i64 (wrap64 ((wrap64 (x1_1 + 1)) + 1))))) ?hg ?ho ?hn ?hr ?_; (case ho => rfl); (case hg => rfl); (case hn => rfl); (case hr => first | (go_simp; done) | (go_simp; rfl)); intro w19 hw; have hg : w17.grownBy w19 (some go6) := (by rw [hw]; exact HP18.2); have hp_ : Kd.R k73 73 w19 w0.heap.size (fun k_ => (P0_ k_ ∨ w.heap.size ≤ k_)) (.slice (some ⟨go6, 0, none⟩) x0_1.length co12) y151 := (by rw [hw, Ny151.out]; exact HP18.1); clear HP18; replace HB := Aside0.mk ((z179_ : Below w0.heap.size w0 w19)); replace HK := Aside0.mk (Kept.of_grown (S := (fun k_ => P0_ k_)) hg (z32_) (fun k_ e_ => (HO_0.out.1 k_ e_))); replace HO_0 := Aside0.mk (hp_); clear hg hw hp_; have p9 : 0 ≤ (x5_1 : Int) := of_decide_eq_true (z0_); have q9 : (x5_1 : Int) < ((x0_1.length : Int) : Int) := of_decide_eq_true (z0_); obtain ⟨ce9, hcl9, hM9, hcc9, hfr9⟩ := Kd.R_elem HO_0.out z73 (x5_1 : Int) p9 q9; obtain rfl := k73_openM hM9; have hx9_0 : w19.cell? ⟨go6, (x5_1 : Int).toNat * 6, none⟩ = some (.string ((rd_T73 y151 x5_1).f0)) := hcc9 0 _ rfl; have hx9_1 : w19.cell? ⟨go6, (x5_1 : Int).toNat * 6 + 1, none⟩ = some (.int .i64 ((rd_T73 y151 x5_1).f1)) := hcc9 1 _ rfl; have hx9_2 : w19.cell? ⟨go6, (x5_1 : Int).toNat * 6 + 2, none⟩ = some (.int .i64 ((rd_T73 y151 x5_1).f2)) := hcc9 2 _ rfl; have hx9_3 : w19.cell? ⟨go6, (x5_1 : Int).toNat * 6 + 3, none⟩ = some (.int .i64 ((rd_T73 y151 x5_1).f3)) := hcc9 3 _ rfl; have hx9_4 : w19.cell? ⟨go6, (x5_1 : Int).toNat * 6 + 4, none⟩ = some (.int .i64 ((rd_T73 y151 x5_1).f4)) := hcc9 4 _ rfl; have hx9_5 : w19.cell? ⟨go6, (x5_1 : Int).toNat * 6 + 5, none⟩ = some (.int .i64 ((rd_T73 y151 x5_1).f5)) := hcc9 5 _ rfl; have hf9_0 : w19.frozen? ⟨go6, (x5_1 : Int).toNat * 6, none⟩ = false := hfr9 0; have hf9_1 : w19.frozen? ⟨go6, (x5_1 : Int).toNat * 6 + 1, none⟩ = false := hfr9 1; have hf9_2 : w19.frozen? ⟨go6, (x5_1 : Int).toNat * 6 + 2, none⟩ = false := hfr9 2; have hf9_3 : w19.frozen? ⟨go6, (x5_1 : Int).toNat * 6 + 3, none⟩ = false := hfr9 3; have hf9_4 : w19.frozen? ⟨go6, (x5_1 : Int).toNat * 6 + 4, none⟩ = false := hfr9 4; have hf9_5 : w19.frozen? ⟨go6, (x5_1 : Int).toNat * 6 + 5, none⟩ = false := hfr9 5; (try clear hcl9); (try clear hcc9); (try clear hfr9); (try clear hM9); replace p9 := eq_true p9; replace q9 := eq_true q9; have HX20 := Aside0.mk (show Kd.R k73 73 w19 w0.heap.size (fun k_ => (P0_ k_ ∨ w.heap.size ≤ k_)) (.slice (some ⟨go6, 0, none⟩) x0_1.length co12) y151 from (z66_)); obtain ⟨ce20, hcl20, hM20, hcc20, hfr20⟩ := Kd.R_elem HX20.out z73 (x5_1 : Int) (of_decide_eq_true (z0_)) (by have h_ : (x5_1 : Int) < ((x0_1.length : Int) : Int) := of_decide_eq_true (z0_); first | exact h_ | (have e_ := (Kd.R_reads' HO_0.out).1; omega) | simpa using h_); obtain rfl := k73_openM hM20; have HP20 := Kd.R_seg HX20.out (x5_1 : Int) (of_decide_eq_true (z0_)) (by have h_ : (x5_1 : Int) < ((x0_1.length : Int) : Int) := of_decide_eq_true (z0_); first | exact h_ | (have e_ := (Kd.R_reads' HO_0.out).1; omega) | simpa using h_) (seg := [.int .i64 (wrap64 ((wrap64 ((wrap64 (x1_1 + 1)) + 1)) + 1))]) (j := 3) hcl20 hcc20 (show 4 ≤ 6 from by decide) (x' := (⟨(rd_T73 y151 x5_1).f0, (rd_T73 y151 x5_1).f1, (rd_T73 y151 x5_1).f2, wrap64 ((wrap64 ((wrap64 (x1_1 + 1)) + 1)) + 1), (rd_T73 y151 x5_1).f4, (rd_T73 y151 x5_1).f5⟩ : S73)) (k73_mkM _ _ _ (⟨(rd_T73 y151 x5_1).f0, (rd_T73 y151 x5_1).f1, (rd_T73 y151 x5_1).f2, wrap64 ((wrap64 ((wrap64 (x1_1 + 1)) + 1)) + 1), (rd_T73 y151 x5_1).f4, (rd_T73 y151 x5_1).f5⟩ : S73) ) (fun _ hk => hk); have hx20_3 := hcc20 3 _ rfl; (try simp only [show (k73).sz = 6 from rfl, Nat.mul_one, Nat.add_zero] at hx20_3); have hf20_3 := hfr20 3; (try simp only [show (k73).sz = 6 from rfl, Nat.mul_one, Nat.add_zero] at hf20_3); (try clear hcl20); (try clear hcc20); (try clear hfr20); (try clear hM20)) | ((with_reducible refine gate_store (t := 2) (p := 38) rfl ?_); refine store_event (t := 2) (p := 38) (v := ?vo_w21) (w1 := (w19.setCell ⟨go6, (x5_1 : Int).toNat * 6 + 3, none⟩ (.int .i64 (wrap64 ((wrap64 ((wrap64 (x1_1 + 1)) + 1)) + 1))))) ?hg ?ho ?hn ?hr ?_; (case ho => rfl); (case hg => rfl); (case hn => rfl); (case hr => first | (go_simp; done) | (go_simp; rfl)); intro w21 hw; have hg : w19.grownBy w21 (some go6) := (by rw [hw]; exact HP20.2); have hp_ : Kd.R k73 73 w21 w0.heap.size (fun k_ => (P0_ k_ ∨ w.heap.size ≤ k_)) (.slice (some ⟨go6, 0, none⟩) x0_1.length co12) y152 := (by rw [hw, Ny152.out]; exact HP20.1); clear HP20; replace HB := Aside0.mk ((z179_ : Below w0.heap.size w0 w21)); replace HK := Aside0.mk (Kept.of_grown (S := (fun k_ => P0_ k_)) hg (z32_) (fun k_ e_ => (HO_0.out.1 k_ e_))); replace HO_0 := Aside0.mk (hp_); clear hg hw hp_; have p10 : 0 ≤ (x5_1 : Int) := of_decide_eq_true (z0_); have q10 : (x5_1 : Int) < ((x0_1.length : Int) : Int) := of_decide_eq_true (z0_); obtain ⟨ce10, hcl10, hM10, hcc10, hfr10⟩ := Kd.R_elem HO_0.out z73 (x5_1 : Int) p10 q10; obtain rfl := k73_openM hM10; have hx10_0 : w21.cell? ⟨go6, (x5_1 : Int).toNat * 6, none⟩ = some (.string ((rd_T73 y152 x5_1).f0)) := hcc10 0 _ rfl; have hx10_1 : w21.cell? ⟨go6, (x5_1 : Int).toNat * 6 + 1, none⟩ = some (.int .i64 ((rd_T73 y152 x5_1).f1)) := hcc10 1 _ rfl; have hx10_2 : w21.cell? ⟨go6, (x5_1 : Int).toNat * 6 + 2, none⟩ = some (.int .i64 ((rd_T73 y152 x5_1).f2)) := hcc10 2 _ rfl; have hx10_3 : w21.cell? ⟨go6, (x5_1 : Int).toNat * 6 + 3, none⟩ = some (.int .i64 ((rd_T73 y152 x5_1).f3)) := hcc10 3 _ rfl; have hx10_4 : w21.cell? ⟨go6, (x5_1 : Int).toNat * 6 + 4, none⟩ = some (.int .i64 ((rd_T73 y152 x5_1).f4)) := hcc10 4 _ rfl; have hx10_5 : w21.cell? ⟨go6, (x5_1 : Int).toNat * 6 + 5, none⟩ = some (.int .i64 ((rd_T73 y152 x5_1).f5)) := hcc10 5 _ rfl; have hf10_0 : w21.frozen? ⟨go6, (x5_1 : Int).toNat * 6, none⟩ = false := hfr10 0; have hf10_1 : w21.frozen? ⟨go6, (x5_1 : Int).toNat * 6 + 1, none⟩ = false := hfr10 1; have hf10_2 : w21.frozen? ⟨go6, (x5_1 : Int).toNat * 6 + 2, none⟩ = false := hfr10 2; have hf10_3 : w21.frozen? ⟨go6, (x5_1 : Int).toNat * 6 + 3, none⟩ = false := hfr10 3; have hf10_4 : w21.frozen? ⟨go6, (x5_1 : Int).toNat * 6 + 4, none⟩ = false := hfr10 4; have hf10_5 : w21.frozen? ⟨go6, (x5_1 : Int).toNat * 6 + 5, none⟩ = false := hfr10 5; (try clear hcl10); (try clear hcc10); (try clear hfr10); (try clear hM10); replace p10 := eq_true p10; replace q10 := eq_true q10; have HX22 := Aside0.mk (show Kd.R k73 73 w21 w0.heap.size (fun k_ => (P0_ k_ ∨ w.heap.size ≤ k_)) (.slice (some ⟨go6, 0, none⟩) x0_1.length co12) y152 from (z66_)); obtain ⟨ce22, hcl22, hM22, hcc22, hfr22⟩ := Kd.R_elem HX22.out z73 (x5_1 : Int) (of_decide_eq_true (z0_)) (by have h_ : (x5_1 : Int) < ((x0_1.length : Int) : Int) := of_decide_eq_true (z0_); first | exact h_ | (have e_ := (Kd.R_reads' HO_0.out).1; omega) | simpa using h_); obtain rfl := k73_openM hM22; have HP22 := Kd.R_seg HX22.out (x5_1 : Int) (of_decide_eq_true (z0_)) (by have h_ : (x5_1 : Int) < ((x0_1.length : Int) : Int) := of_decide_eq_true (z0_); first | exact h_ | (have e_ := (Kd.R_reads' HO_0.out).1; omega) | simpa using h_) (seg := [.int .i64 (wrap64 ((wrap64 ((wrap64 ((wrap64 (x1_1 + 1)) + 1)) + 1)) + 1))]) (j := 4) hcl22 hcc22 (show 5 ≤ 6 from by decide) (x' := (⟨(rd_T73 y152 x5_1).f0, (rd_T73 y152 x5_1).f1, (rd_T73 y152 x5_1).f2, (rd_T73 y152 x5_1).f3, wrap64 ((wrap64 ((wrap64 ((wrap64 (x1_1 + 1)) + 1)) + 1)) + 1), (rd_T73 y152 x5_1).f5⟩ : S73)) (k73_mkM _ _ _ (⟨(rd_T73 y152 x5_1).f0, (rd_T73 y152 x5_1).f1, (rd_T73 y152 x5_1).f2, (rd_T73 y152 x5_1).f3, wrap64 ((wrap64 ((wrap64 ((wrap64 (x1_1 + 1)) + 1)) + 1)) + 1), (rd_T73 y152 x5_1).f5⟩ : S73) ) (fun _ hk => hk); have hx22_4 := hcc22 4 _ rfl; (try simp only [show (k73).sz = 6 from rfl, Nat.mul_one, Nat.add_zero] at hx22_4); have hf22_4 := hfr22 4; (try simp only [show (k73).sz = 6 from rfl, Nat.mul_one, Nat.add_zero] at hf22_4); (try clear hcl22); (try clear hcc22); (try clear hfr22); (try clear hM22)) | ((with_reducible refine gate_store (t := 2) (p := 45) rfl ?_); refine store_event (t := 2) (p := 45) (v := ?vo_w23) (w1 := (w21.setCell ⟨go6, (x5_1 : Int).toNat * 6 + 4, none⟩ (.int .i64 (wrap64 ((wrap64 ((wrap64 ((wrap64 (x1_1 + 1)) + 1)) + 1)) + 1))))) ?hg ?ho ?hn ?hr ?_; (case ho => rfl); (case hg => rfl); (case hn => rfl); (case hr => first | (go_simp; done) | (go_simp; rfl)); intro w23 hw; have hg : w21.grownBy w23 (some go6) := (by rw [hw]; exact HP22.2); have hp_ : Kd.R k73 73 w23 w0.heap.size (fun k_ => (P0_ k_ ∨ w.heap.size ≤ k_)) (.slice (some ⟨go6, 0, none⟩) x0_1.length co12) y153 := (by rw [hw, Ny153.out]; exact HP22.1); clear HP22; replace HB := Aside0.mk ((z179_ : Below w0.heap.size w0 w23)); replace HK := Aside0.mk (Kept.of_grown (S := (fun k_ => P0_ k_)) hg (z32_) (fun k_ e_ => (HO_0.out.1 k_ e_))); replace HO_0 := Aside0.mk (hp_); clear hg hw hp_; have p11 : 0 ≤ (x5_1 : Int) := of_decide_eq_true (z0_); have q11 : (x5_1 : Int) < ((x0_1.length : Int) : Int) := of_decide_eq_true (z0_); obtain ⟨ce11, hcl11, hM11, hcc11, hfr11⟩ := Kd.R_elem HO_0.out z73 (x5_1 : Int) p11 q11; obtain rfl := k73_openM hM11; have hx11_0 : w23.cell? ⟨go6, (x5_1 : Int).toNat * 6, none⟩ = some (.string ((rd_T73 y153 x5_1).f0)) := hcc11 0 _ rfl; have hx11_1 : w23.cell? ⟨go6, (x5_1 : Int).toNat * 6 + 1, none⟩ = some (.int .i64 ((rd_T73 y153 x5_1).f1)) := hcc11 1 _ rfl; have hx11_2 : w23.cell? ⟨go6, (x5_1 : Int).toNat * 6 + 2, none⟩ = some (.int .i64 ((rd_T73 y153 x5_1).f2)) := hcc11 2 _ rfl; have hx11_3 : w23.cell? ⟨go6, (x5_1 : Int).toNat * 6 + 3, none⟩ = some (.int .i64 ((rd_T73 y153 x5_1).f3)) := hcc11 3 _ rfl; have hx11_4 : w23.cell? ⟨go6, (x5_1 : Int).toNat * 6 + 4, none⟩ = some (.int .i64 ((rd_T73 y153 x5_1).f4)) := hcc11 4 _ rfl; have hx11_5 : w23.cell? ⟨go6, (x5_1 : Int).toNat * 6 + 5, none⟩ = some (.int .i64 ((rd_T73 y153 x5_1).f5)) := hcc11 5 _ rfl; have hf11_0 : w23.frozen? ⟨go6, (x5_1 : Int).toNat * 6, none⟩ = false := hfr11 0; have hf11_1 : w23.frozen? ⟨go6, (x5_1 : Int).toNat * 6 + 1, none⟩ = false := hfr11 1; have hf11_2 : w23.frozen? ⟨go6, (x5_1 : Int).toNat * 6 + 2, none⟩ = false := hfr11 2; have hf11_3 : w23.frozen? ⟨go6, (x5_1 : Int).toNat * 6 + 3, none⟩ = false := hfr11 3; have hf11_4 : w23.frozen? ⟨go6, (x5_1 : Int).toNat * 6 + 4, none⟩ = false := hfr11 4; have hf11_5 : w23.frozen? ⟨go6, (x5_1 : Int).toNat * 6 + 5, none⟩ = false := hfr11 5; (try clear hcl11); (try clear hcc11); (try clear hfr11); (try clear hM11); replace p11 := eq_true p11; replace q11 := eq_true q11; have HX24 := Aside0.mk (show Kd.R k73 73 w23 w0.heap.size (fun k_ => (P0_ k_ ∨ w.heap.size ≤ k_)) (.slice (some ⟨go6, 0, none⟩) x0_1.length co12) y153 from (z66_)); obtain ⟨ce24, hcl24, hM24, hcc24, hfr24⟩ := Kd.R_elem HX24.out z73 (x5_1 : Int) (of_decide_eq_true (z0_)) (by have h_ : (x5_1 : Int) < ((x0_1.length : Int) : Int) := of_decide_eq_true (z0_); first | exact h_ | (have e_ := (Kd.R_reads' HO_0.out).1; omega) | simpa using h_); obtain rfl := k73_openM hM24; have HP24 := Kd.R_seg HX24.out (x5_1 : Int) (of_decide_eq_true (z0_)) (by have h_ : (x5_1 : Int) < ((x0_1.length : Int) : Int) := of_decide_eq_true (z0_); first | exact h_ | (have e_ := (Kd.R_reads' HO_0.out).1; omega) | simpa using h_) (seg := [.int .i64 (wrap64 ((wrap64 ((wrap64 ((wrap64 ((wrap64 (x1_1 + 1)) + 1)) + 1)) + 1)) + 1))]) (j := 5) hcl24 hcc24 (show 6 ≤ 6 from by decide) (x' := (⟨(rd_T73 y153 x5_1).f0, (rd_T73 y153 x5_1).f1, (rd_T73 y153 x5_1).f2, (rd_T73 y153 x5_1).f3, (rd_T73 y153 x5_1).f4, wrap64 ((wrap64 ((wrap64 ((wrap64 ((wrap64 (x1_1 + 1)) + 1)) + 1)) + 1)) + 1)⟩ : S73)) (k73_mkM _ _ _ (⟨(rd_T73 y153 x5_1).f0, (rd_T73 y153 x5_1).f1, (rd_T73 y153 x5_1).f2, (rd_T73 y153 x5_1).f3, (rd_T73 y153 x5_1).f4, wrap64 ((wrap64 ((wrap64 ((wrap64 ((wrap64 (x1_1 + 1)) + 1)) + 1)) + 1)) + 1)⟩ : S73) ) (fun _ hk => hk); have hx24_5 := hcc24 5 _ rfl; (try simp only [show (k73).sz = 6 from rfl, Nat.mul_one, Nat.add_zero] at hx24_5); have hf24_5 := hfr24 5; (try simp only [show (k73).sz = 6 from rfl, Nat.mul_one, Nat.add_zero] at hf24_5); (try clear hcl24); (try clear hcc24); (try clear hfr24); (try clear hM24)) | ((with_reducible refine gate_store (t := 2) (p := 52) rfl ?_); refine store_event (t := 2) (p := 52) (v := ?vo_w25) (w1 := (w23.setCell ⟨go6, (x5_1 : Int).toNat * 6 + 5, none⟩ (.int .i64 (wrap64 ((wrap64 ((wrap64 ((wrap64 ((wrap64 (x1_1 + 1)) + 1)) + 1)) + 1)) + 1))))) ?hg ?ho ?hn ?hr ?_; (case ho => rfl); (case hg => rfl); (case hn => rfl); (case hr => first | (go_simp; done) | (go_simp; rfl)); intro w25 hw; have hg : w23.grownBy w25 (some go6) := (by rw [hw]; exact HP24.2); have hp_ : Kd.R k73 73 w25 w0.heap.size (fun k_ => (P0_ k_ ∨ w.heap.size ≤ k_)) (.slice (some ⟨go6, 0, none⟩) x0_1.length co12) y154 := (by rw [hw, Ny154.out]; exact HP24.1); clear HP24; replace HB := Aside0.mk ((z179_ : Below w0.heap.size w0 w25)); replace HK := Aside0.mk (Kept.of_grown (S := (fun k_ => P0_ k_)) hg (z32_) (fun k_ e_ => (HO_0.out.1 k_ e_))); replace HO_0 := Aside0.mk (hp_); clear hg hw hp_))
    go_roundg k1
    case measure => have := HK1.out; omega
    case rel => exact ⟨(y154), (wrap64 ((wrap64 ((wrap64 ((wrap64 ((wrap64 ((wrap64 (x1_1 + 1)) + 1)) + 1)) + 1)) + 1)) + 1)), (wrap64 (x5_1 + 1)), (z7_), (z7_), H', ⟨z112_⟩, ⟨z66_⟩, ⟨z32_⟩, ⟨z2_⟩⟩
   ·(rw [if_neg c3] at H);have c3b0 := decide_eq_false c3;clear c3;(simp only [Option.some.injEq, Prod.mk.injEq] at H);obtain ⟨rfl, rfl⟩ := H;obtain ⟨Ao26, co26, eo26⟩ := Kd.R_slice HO_0.out;subst eo26;go_wp2;go_ret;exact ⟨z5_, z66_, z2_, z32_⟩

open Go.Proofs.YtnmdcmfhjhgheaaM
def marksP : Int → Nat → List S73
  | _, 0 => []
  | a, d + 1 => ⟨mtext a, a + 1, a + 2, a + 3, a + 4, a + 5⟩ :: marksP (a + 6) d
theorem marksP_length (a : Int) (d : Nat) : (marksP a d).length = d := by
  induction d generalizing a with
  | zero => rfl
  | succ d ih => simp [marksP, ih]
theorem rdP_mk (c : List S73) (i : Nat) : rd_T73 c (i : Int) = c.getD i z73 := by unfold rd_T73; rw [Int.toNat_natCast]
theorem rdP_set (c : List S73) (i : Nat) (h : i < c.length) (v : S73) : rd_T73 (c.set i v) (i : Int) = v := by
  rw [rdP_mk, List.getD_eq_getElem?_getD, List.getElem?_eq_getElem (by simpa using h)]; simp
def laws_markPipeS_.f (l0 : List S73) (a1 : Int) : Option (Int × List S73) := if (0 ≤ a1 ∧ a1 ≤ 1000000000000) ∧ l0.length ≤ 1000000000000 then some (a1 + 6 * l0.length, marksP a1 l0.length) else none
theorem markP_loop : ∀ (d k i : Nat) (l : List S73) (a : Int), i ≤ l.length → l.length - i = d → d < k → l.length ≤ 1000000000000 → 0 ≤ a → a + 6 * d ≤ 20000000000000 → laws_markPipeS.l0 k l a (i : Int) = some (a + 6 * d, l.take i ++ marksP a d) := by
  intro d
  induction d with
  | zero =>
    intro k i l a h1 hd hk hl h0 ha
    obtain ⟨k, rfl⟩ : ∃ m, k = m + 1 := ⟨k - 1, by omega⟩
    simp only [laws_markPipeS.l0]; rw [if_neg (by omega), List.take_of_length_le (by omega)]; simp [marksP]
  | succ d ih =>
    intro k i l a h1 hd hk hl h0 ha
    obtain ⟨k, rfl⟩ : ∃ m, k = m + 1 := ⟨k - 1, by omega⟩
    have hi : i < l.length := by omega
    have ht : laws_markText_.f a = some (mtext a) := by unfold laws_markText_.f; rw [if_pos (by omega)]
    have this := ih k (i + 1) (l.set i ⟨mtext a, a + 1, a + 2, a + 3, a + 4, a + 5⟩) (a + 6) (by simp; omega) (by simp; omega) (by omega) (by simp; omega) (by omega) (by omega)
    simp only [laws_markPipeS.l0]
    rw [if_pos (by omega), ht]
    simp only [Option.bind_some]
    rw [if_pos (by omega)]
    simp only [Int.toNat_natCast, rdP_set l i hi, List.set_set]
    rw [w64 (x := a + 1) (by omega) (by omega)]
    rw [w64 (x := a + 1 + 1) (by omega) (by omega)]
    rw [w64 (x := a + 1 + 1 + 1) (by omega) (by omega)]
    rw [w64 (x := a + 1 + 1 + 1 + 1) (by omega) (by omega)]
    rw [w64 (x := a + 1 + 1 + 1 + 1 + 1) (by omega) (by omega)]
    rw [w64 (x := a + 1 + 1 + 1 + 1 + 1 + 1) (by omega) (by omega), w64 (x := (i : Int) + 1) (by omega) (by omega)]
    rw [show a + 1 + 1 + 1 + 1 + 1 + 1 = a + 6 by omega, show a + 1 + 1 + 1 + 1 + 1 = a + 5 by omega, show a + 1 + 1 + 1 + 1 = a + 4 by omega, show a + 1 + 1 + 1 = a + 3 by omega, show a + 1 + 1 = a + 2 by omega, show (i : Int) + 1 = ((i + 1 : Nat) : Int) by omega, this, take_set l i hi]
    simp only [marksP, List.append_assoc, List.singleton_append]
    congr 2
    push_cast; omega
theorem laws_markPipeS_.same (l : List S73) (a : Int) (h : (0 ≤ a ∧ a ≤ 1000000000000) ∧ l.length ≤ 1000000000000) : laws_markPipeS.f (l.length + 1) l a = some (a + 6 * l.length, marksP a l.length) := by
  unfold laws_markPipeS.f
  have := markP_loop l.length (l.length + 1) 0 l a (by omega) (by omega) (by omega) h.2 h.1.1 (by omega)
  simpa using this
theorem laws_markPipeS_.calls (P0_ : Nat → Prop) (u9000_ : Value) (l0 : List (S73)) (a1 : Int) (r1 : Int) (r2 : List (S73)) (w0 w : World) (hB : Below w0.heap.size w0 w) (ho0 : Kd.R k73 73 w w0.heap.size P0_ u9000_ l0) (h : laws_markPipeS_.f l0 a1 = some (r1, r2)) :
    Calls Try.prog 35 #[u9000_, .int .i64 a1] w fun e w' => e = .returned (.int .i64 r1) ∧ Kd.R k73 73 w' w0.heap.size (fun k_ => (P0_ k_ ∨ w.heap.size ≤ k_)) u9000_ r2 ∧ Below w0.heap.size w0 w' ∧ Kept w w' (fun k_ => P0_ k_) := by
  unfold laws_markPipeS_.f at h
  split at h
  · rename_i hs
    exact laws_markPipeS.calls (l0.length + 1) P0_ u9000_ l0 a1 r1 r2 w0 w hB ho0 (by rw [← h]; exact laws_markPipeS_.same l0 a1 hs)
  · exact absurd h (by simp)


/-! ### laws_markNetwork: function 15 -/
def laws_markNetwork.f (l0_0 : List Int) (l0_1 : List (S73)) (a1 : Int) : Option (Int × List Int × (List (S73))) := (laws_markInt64S_.f l0_0 a1).bind fun bt156 => ((laws_markPipeS_.f l0_1 bt156.1).bind fun bt158 => (some (bt158.1, bt156.2, bt158.2)))
set_option maxHeartbeats 8000000 in
set_option maxRecDepth 100000 in
theorem laws_markNetwork.calls (P0_0_ : Nat → Prop) (u9000_ : Value) (l0_0 : List Int) (P0_1_ : Nat → Prop) (u9001_ : Value) (l0_1 : List (S73)) (a1 : Int) (r1 : Int) (r2 : List Int) (r3 : List (S73)) (w0 w : World) (hB : Below w0.heap.size w0 w) (ho0_0 : Kd.R (Kd.int .i64) 2 w w0.heap.size P0_0_ u9000_ l0_0) (ho0_1 : Kd.R k73 73 w w0.heap.size P0_1_ u9001_ l0_1) (h : laws_markNetwork.f l0_0 l0_1 a1 = some (r1, r2, r3)) :
  Calls Try.prog 15 #[.agg #[u9000_, u9001_], .int .i64 a1] w fun e w' => e = .returned (.int .i64 r1) ∧ Kd.R (Kd.int .i64) 2 w' w0.heap.size (fun k_ => ((P0_0_ k_ ∨ P0_1_ k_) ∨ w.heap.size ≤ k_)) u9000_ r2 ∧ Kd.R k73 73 w' w0.heap.size (fun k_ => ((P0_0_ k_ ∨ P0_1_ k_) ∨ w.heap.size ≤ k_)) u9001_ r3 ∧ Below w0.heap.size w0 w' ∧ Kept w w' (fun k_ => P0_0_ k_ ∨ P0_1_ k_) := by
 have hu31 := Try.underlying31
 have HO0_0 := Aside0.mk (show Kd.R (Kd.int .i64) 2 w w0.heap.size (fun k_ => ((P0_0_ k_ ∨ P0_1_ k_) ∨ w.heap.size ≤ k_)) u9000_ l0_0 from Kd.R_mono ho0_0 (fun k_ hk => (.inl (.inl hk))))
 have HO0_1 := Aside0.mk (show Kd.R k73 73 w w0.heap.size (fun k_ => ((P0_0_ k_ ∨ P0_1_ k_) ∨ w.heap.size ≤ k_)) u9001_ l0_1 from Kd.R_mono ho0_1 (fun k_ hk => (.inl (.inr hk))))
 have HK := Aside0.mk (Kept.refl w (fun k_ => P0_0_ k_ ∨ P0_1_ k_))
 have HW0 := Aside0.mk hB.size
 have HB := Aside0.mk hB
 clear hB
 unfold laws_markNetwork.f at h;have H := h;clear h
 replace H := Option.bind_eq_some_iff.mp H
 obtain ⟨⟨t156, t157⟩, A30, H⟩ := H
 replace H : ((laws_markPipeS_.f l0_1 t156).bind fun bt158 => (some (bt158.1, t157, bt158.2))) = some (r1, r2, r3) := H
 have A3 := Aside0.mk A30
 clear A30
 replace H := Option.bind_eq_some_iff.mp H
 obtain ⟨⟨t158, t159⟩, A40, H⟩ := H
 replace H : (some (t158, t157, t159)) = some (r1, r2, r3) := H
 have A4 := Aside0.mk A40
 clear A40
 simp only [Option.some.injEq, Prod.mk.injEq] at H
 obtain ⟨rfl, rfl, rfl⟩ := H
 obtain ⟨Ao5, co5, eo5⟩ := Kd.R_slice HO0_0.out
 subst eo5
 obtain ⟨Ao6, co6, eo6⟩ := Kd.R_slice HO0_1.out
 subst eo6
 go_enter Try.func15, Try.ntmps15
 go_wp2_with (first | ((with_reducible refine gate_dst (N := 2) rfl ?_); refine box_event ?hg (N := 2) ?hd (cs := #[.slice Ao5 l0_0.length co5, .slice Ao6 l0_1.length co6]) (t := 31) ?hr ?_; (case hd => rfl); (case hg => rfl); (case hr => first | (go_simp; done) | (go_simp; rfl)); intro gb155 hg w7 hbox hb; replace HO0_0 := Aside0.mk (Kd.R_below (by (with_reducible repeat (first | apply rA|apply rN|apply rW)); exact HO0_0.out) hb); replace HO0_1 := Aside0.mk (Kd.R_below (by (with_reducible repeat (first | apply rA|apply rN|apply rW)); exact HO0_1.out) hb); have BK155 := Aside0.mk (hbox); have GW155 := Aside0.mk ((by rw [hg]; exact (by first | exact HK.out.1 | exact (show Kept w _ (fun k_ => P0_0_ k_ ∨ P0_1_ k_) from by repeat (first | (with_reducible first | exact HK.out | apply Kept.alloc | apply Kept.drewN | apply Kept.drew) | exact HK.out)).1) : w.heap.size ≤ gb155)); replace HK := Aside0.mk (Kept.below (S := (fun k_ => P0_0_ k_ ∨ P0_1_ k_)) (z32_) hb); have GE155 := Aside0.mk ((z3_ : w0.heap.size ≤ gb155)); replace HB := Aside0.mk (below_step (z2_) hb); clear hb hbox hg; obtain ⟨hcz8_0,hcz8_1,hfz8_0,hfz8_1⟩ := bz2_ w7 BK155.out) | ((with_reducible refine gate_callee (f := 16) rfl ?_); refine goesL_ (some 8) rfl rfl Try.func16 (z13_) rfl #[.slice Ao5 l0_0.length co5, .int .i64 a1] rfl (z1_) ?_; (with_reducible refine (laws_markInt64S_.calls (fun k_ => some k_ = (.slice Ao5 l0_0.length co5 : Value).ownBlock) (.slice Ao5 l0_0.length co5) l0_0 a1 t156 t157 w0 _ ?side1 ?side2 A3.out).mono ?_); (case side1 => exact z211_); (case side2 => exact Kd.R_tight rfl HO0_0.out); rintro e w9 ⟨rfl, hy0, hb, hkp⟩; refine ⟨_, rfl, ?_⟩; replace HO0_1 := Aside0.mk (Kd.R_mono (ok' := fun k_ => ((P0_0_ k_ ∨ P0_1_ k_) ∨ w.heap.size ≤ k_)) (Kd.R_keptB ((Kd.R_apart' HO0_1.out (Kd.R_typed HO0_0.out) (by decide))) hkp (fun k_ hk_ hs_ => (hk_.2) hs_)) (fun k_ hk_ => hk_.1.1)); replace BK155 := Aside0.mk (blk_kept (by (with_reducible repeat (first | refine bN ?_ _|refine bW ?_|refine bA ?_ _)); exact BK155.out) hkp (fun hs_ => (fun e_ => (Kd.R_ne HO0_0.out BK155.out (by decide)) e_) hs_)); replace HK := Aside0.mk (Kept.then_ (S := (fun k_ => P0_0_ k_ ∨ P0_1_ k_)) (z104_) hkp (fun k_ hs_ => (fun e_ => (HO0_0.out.1 k_ e_.symm)) hs_)); replace HO0_0 := Aside0.mk (Kd.R_reok rfl hy0 (fun k_ e_ => HO0_0.out.1 k_ e_)); replace HB := Aside0.mk (hb); (try clear hb); (try clear hkp); (try clear hy0); obtain ⟨hcz10_0,hcz10_1,hfz10_0,hfz10_1⟩ := bz2_ w9 BK155.out) | ((with_reducible refine gate_callee (f := 35) rfl ?_); refine goesL_ (some 12) rfl rfl Try.func35 (z13_) rfl #[.slice Ao6 l0_1.length co6, .int .i64 t156] rfl (z1_) ?_; (with_reducible refine (laws_markPipeS_.calls (fun k_ => some k_ = (.slice Ao6 l0_1.length co6 : Value).ownBlock) (.slice Ao6 l0_1.length co6) l0_1 t156 t158 t159 w0 _ ?side1 ?side2 A4.out).mono ?_); (case side1 => exact z211_); (case side2 => exact Kd.R_tight rfl HO0_1.out); rintro e w11 ⟨rfl, hy0, hb, hkp⟩; refine ⟨_, rfl, ?_⟩; replace HO0_0 := Aside0.mk (Kd.R_mono (ok' := fun k_ => ((P0_0_ k_ ∨ P0_1_ k_) ∨ w.heap.size ≤ k_)) (Kd.R_keptB ((Kd.R_apart' HO0_0.out (Kd.R_typed HO0_1.out) (by decide))) hkp (fun k_ hk_ hs_ => (hk_.2) hs_)) (fun k_ hk_ => hk_.1.1)); replace BK155 := Aside0.mk (blk_kept (by (with_reducible repeat (first | refine bN ?_ _|refine bW ?_|refine bA ?_ _)); exact BK155.out) hkp (fun hs_ => (fun e_ => (Kd.R_ne HO0_1.out BK155.out (by decide)) e_) hs_)); replace HK := Aside0.mk (Kept.then_ (S := (fun k_ => P0_0_ k_ ∨ P0_1_ k_)) (z104_) hkp (fun k_ hs_ => (fun e_ => (HO0_1.out.1 k_ e_.symm)) hs_)); replace HO0_1 := Aside0.mk (Kd.R_reok rfl hy0 (fun k_ e_ => HO0_1.out.1 k_ e_)); replace HB := Aside0.mk (hb); (try clear hb); (try clear hkp); (try clear hy0)))
 go_ret
 exact ⟨z5_, by (with_reducible repeat (first | apply rA|apply rN|apply rW)); exact HO0_0.out, by (with_reducible repeat (first | apply rA|apply rN|apply rW)); exact HO0_1.out, by repeat (first | (with_reducible first | exact HB.out|apply wA|apply wN|apply wD |refine wS ?_ GE155.out) | exact HB.out), z104_⟩

/-! ### laws_heldInt64S: function 17 -/
def laws_heldInt64S.l0 : Nat → List Int → Int → Int → Option (Int)
 | 0, _, _, _ => none
 | k + 1, x0, x1, x5 => if x5 < (x0.length : Int) then (if 0 ≤ x5 then (if (rd x0 x5) = x1 then (laws_heldInt64S.l0 k x0 (wrap64 (x1 + 1)) (wrap64 (x5 + 1))) else (some (-1))) else (none)) else (some x1)
def laws_heldInt64S.f (k : Nat) (l0 : List Int) (a1 : Int) : Option (Int) := laws_heldInt64S.l0 k l0 a1 0
theorem laws_heldInt64S.mono_l : ∀ k, (∀ y0 y1 y2, LeO (laws_heldInt64S.l0 k y0 y1 y2) (laws_heldInt64S.l0 (k + 1) y0 y1 y2))
 | 0 => fun _ _ _ r h => by simp [laws_heldInt64S.l0] at h
 | k + 1 => by
  have ih0 := laws_heldInt64S.mono_l k
  ·intro y0 y1 y2
   unfold laws_heldInt64S.l0
   exact z220_
theorem laws_heldInt64S.mono : ∀ a0 a1 k, LeO (laws_heldInt64S.f k a0 a1) (laws_heldInt64S.f (k + 1) a0 a1) := by
 intro a0 a1 k
 have ih0 := laws_heldInt64S.mono_l k
 unfold laws_heldInt64S.f
 exact z220_
set_option maxHeartbeats 8000000 in
set_option maxRecDepth 100000 in
theorem laws_heldInt64S.calls (k : Nat) (A0 : Option Addr) (c0 : Nat) (l0 : List Int) (a1 : Int) (r : Int) (w : World) (hr0 : Kd.C (Kd.int .i64) w A0 l0.length l0) (hc0 : l0.length ≤ c0) (h : laws_heldInt64S.f k l0 a1 = some r) :
  Calls Try.prog 17 #[.slice A0 l0.length c0, .int .i64 a1] w fun e w' => e = .returned (.int .i64 r) ∧ Drawn0 w w' := by
 have HR0 := Aside0.mk hr0
 have HC0 := Aside0.mk hc0
 clear hr0 hc0
 unfold laws_heldInt64S.f at h;have H := h;clear h
 have H' := Aside0.mk H
 clear H
 go_enter Try.func17, Try.ntmps17
 go_wp2
 go_loopg [1, 5] k (fun kq v1 v5 w' => ∃ (x1_1 : Int) (x5_1 : Int), v1 = .int .i64 x1_1 ∧ v5 = .int .i64 x5_1 ∧ Aside0 (laws_heldInt64S.l0 kq l0 x1_1 x5_1 = some r) ∧ Aside0 (kq ≤ k) ∧ Drawn0 w w')
 case atStart => exact ⟨(a1), (0), (z7_), (z7_), H', ⟨Nat.le_refl _⟩, z11_⟩
 case round =>
  clear H';obtain ⟨x1_1, x5_1, rfl, rfl, HA, HK1, ⟨m1, rfl⟩⟩ := hrel
  cases gk with
  | zero => exact absurd HA.out (by simp [laws_heldInt64S.l0])
  | succ k1 =>
   have H := HA.out;clear HA;(simp only [laws_heldInt64S.l0] at H);by_cases c3 : x5_1 < (l0.length : Int)
   ·(rw [if_pos c3] at H);have c3b0 := decide_eq_true c3;clear c3;obtain ⟨c4b0,H⟩ := pd_ H;by_cases c5 : (rd l0 x5_1) = x1_1
    ·(rw [if_pos c5] at H);have c5b0 : ((rd l0 x5_1) == x1_1) = true := beq_iff_eq.mpr c5;have c5b1 : ((rd l0 x5_1) != x1_1) = false := bne_eq_false_iff_eq.mpr c5;clear c5;have H' := Aside0.mk H;clear H;obtain ⟨p160,q160,ad160,e160,hx160_0⟩ := aq_ (Kd.at_int HR0.out x5_1) z0_ z0_;cases e160;go_wp2
     go_roundg k1
     case measure => have := HK1.out; omega
     case rel => exact ⟨(wrap64 (x1_1 + 1)), (wrap64 (x5_1 + 1)), (z7_), (z7_), H', ⟨z112_⟩, z11_⟩
    ·(rw [if_neg c5] at H);have c5b0 : ((rd l0 x5_1) == x1_1) = false := beq_eq_false_iff_ne.mpr c5;have c5b1 : ((rd l0 x5_1) != x1_1) = true := bne_iff_ne.mpr c5;obtain rfl := Option.some.inj H;obtain ⟨p160,q160,ad160,e160,hx160_0⟩ := aq_ (Kd.at_int HR0.out x5_1) z0_ z0_;cases e160;go_wp2;go_ret;exact ⟨z7_, z11_⟩
   ·(rw [if_neg c3] at H);have c3b0 := decide_eq_false c3;clear c3;obtain rfl := Option.some.inj H;go_wp2;go_ret;exact ⟨z7_, z11_⟩

open Go.Proofs.YtnmdcmfhjhgheaaM
def laws_heldInt64S_.f (l0 : List Int) (a1 : Int) : Option Int := if (0 ≤ a1 ∧ a1 ≤ 1000000000000) ∧ l0.length ≤ 1000000000000 then some (heldI l0 a1) else none
theorem held_loop (l : List Int) (hl : l.length ≤ 1000000000000) : ∀ (d k i : Nat) (a : Int), i ≤ l.length → l.length - i = d → d < k → 0 ≤ a → a + d ≤ 2000000000000 → laws_heldInt64S.l0 k l a (i : Int) = some (heldI (l.drop i) a) := by
  intro d
  induction d with
  | zero =>
    intro k i a h1 hd hk h0 ha
    obtain ⟨k, rfl⟩ : ∃ m, k = m + 1 := ⟨k - 1, by omega⟩
    simp only [laws_heldInt64S.l0]; rw [if_neg (by omega), List.drop_of_length_le (by omega)]; rfl
  | succ d ih =>
    intro k i a h1 hd hk h0 ha
    obtain ⟨k, rfl⟩ : ∃ m, k = m + 1 := ⟨k - 1, by omega⟩
    simp only [laws_heldInt64S.l0]
    have hi : i < l.length := by omega
    have e1 : rd l (i : Int) = l[i]'(by omega) := by unfold rd; rw [Int.toNat_natCast, List.getD_eq_getElem?_getD, List.getElem?_eq_getElem (by omega)]; rfl
    rw [if_pos (by omega), if_pos (by omega), e1, w64 (x := (i : Int) + 1) (by omega) (by omega), w64 (x := a + 1) (by omega) (by omega), show (i : Int) + 1 = ((i + 1 : Nat) : Int) by omega, ih k (i + 1) (a + 1) (by omega) (by omega) (by omega) (by omega) (by omega), List.drop_eq_getElem_cons hi]
    simp only [heldI]
    by_cases c : l[i] = a
    · rw [if_pos c, if_pos c]
    · rw [if_neg c, if_neg c]
theorem laws_heldInt64S_.same (l : List Int) (a : Int) (h : (0 ≤ a ∧ a ≤ 1000000000000) ∧ l.length ≤ 1000000000000) : laws_heldInt64S.f (l.length + 1) l a = some (heldI l a) := by
  unfold laws_heldInt64S.f
  have := held_loop l h.2 l.length (l.length + 1) 0 a (by omega) (by omega) (by omega) h.1.1 (by omega)
  simpa using this
theorem laws_heldInt64S_.calls (A0 : Option Addr) (c0 : Nat) (l0 : List Int) (a1 : Int) (r : Int) (w : World) (hr0 : Kd.C (Kd.int .i64) w A0 l0.length l0) (hc0 : l0.length ≤ c0) (h : laws_heldInt64S_.f l0 a1 = some r) :
    Calls Try.prog 17 #[.slice A0 l0.length c0, .int .i64 a1] w fun e w' => e = .returned (.int .i64 r) ∧ Drawn0 w w' := by
  unfold laws_heldInt64S_.f at h
  split at h
  · rename_i hs
    exact laws_heldInt64S.calls (l0.length + 1) A0 c0 l0 a1 r w hr0 hc0 (by rw [← h]; exact laws_heldInt64S_.same l0 a1 hs)
  · exact absurd h (by simp)


/-! ### spec_l00In: function 79 -/
def spec_l00In.f (a0 : Int) (a1 : Int) (a2 : Int) : Option (Bool) := if a0 ≥ a1 then (some (decide (a0 ≤ a2))) else (some false)
set_option maxHeartbeats 8000000 in
set_option maxRecDepth 100000 in
theorem spec_l00In.calls (a0 : Int) (a1 : Int) (a2 : Int) (r : Bool) (w : World) (h : spec_l00In.f a0 a1 a2 = some r) :
  Calls Try.prog 79 #[.int .i64 a0, .int .i64 a1, .int .i64 a2] w fun e w' => e = .returned (.bool r) ∧ Drawn0 w w' := by
 unfold spec_l00In.f at h;have H := h;clear h
 by_cases c4 : a0 ≥ a1
 ·(rw [if_pos c4] at H);have c4b0 : decide (a1 ≤ a0) = true := decide_eq_true c4;clear c4;obtain rfl := Option.some.inj H;go_enter Try.func79, Try.ntmps79;go_wp2;go_ret;exact ⟨z7_, z11_⟩
 ·(rw [if_neg c4] at H);have c4b0 : decide (a1 ≤ a0) = false := decide_eq_false c4;clear c4;obtain rfl := Option.some.inj H;go_enter Try.func79, Try.ntmps79;go_wp2;go_ret;exact ⟨z7_, z11_⟩

open Go.Proofs.YtnmdcmfhjhgheaaM
def spec_l00In_.f (a0 a1 a2 : Int) : Option Bool := some (decide (a1 ≤ a0 ∧ a0 ≤ a2))
theorem spec_l00In_.calls (a0 a1 a2 : Int) (r : Bool) (w : World) (h : spec_l00In_.f a0 a1 a2 = some r) :
    Calls Try.prog 79 #[.int .i64 a0, .int .i64 a1, .int .i64 a2] w fun e w' => e = .returned (.bool r) ∧ Drawn0 w w' :=
  spec_l00In.calls a0 a1 a2 r w ((in_both a0 a1 a2).trans h)

/-! ### spec_l01Small: function 113 -/
def spec_l01Small.f (a0 : Int) : Option (Bool) := if a0 ≥ 97 then (some (decide (a0 ≤ 122))) else (some false)
set_option maxHeartbeats 8000000 in
set_option maxRecDepth 100000 in
theorem spec_l01Small.calls (a0 : Int) (r : Bool) (w : World) (h : spec_l01Small.f a0 = some r) :
  Calls Try.prog 113 #[.int .u8 a0] w fun e w' => e = .returned (.bool r) ∧ Drawn0 w w' := by
 unfold spec_l01Small.f at h;have H := h;clear h
 by_cases c2 : a0 ≥ 97
 ·(rw [if_pos c2] at H);have c2b0 : decide (97 ≤ a0) = true := decide_eq_true c2;clear c2;obtain rfl := Option.some.inj H;go_enter Try.func113, Try.ntmps113;go_wp2;go_ret;exact ⟨z7_, z11_⟩
 ·(rw [if_neg c2] at H);have c2b0 : decide (97 ≤ a0) = false := decide_eq_false c2;clear c2;obtain rfl := Option.some.inj H;go_enter Try.func113, Try.ntmps113;go_wp2;go_ret;exact ⟨z7_, z11_⟩

/-! ### spec_l01Digit: function 114 -/
def spec_l01Digit.f (a0 : Int) : Option (Bool) := if a0 ≥ 48 then (some (decide (a0 ≤ 57))) else (some false)
set_option maxHeartbeats 8000000 in
set_option maxRecDepth 100000 in
theorem spec_l01Digit.calls (a0 : Int) (r : Bool) (w : World) (h : spec_l01Digit.f a0 = some r) :
  Calls Try.prog 114 #[.int .u8 a0] w fun e w' => e = .returned (.bool r) ∧ Drawn0 w w' := by
 unfold spec_l01Digit.f at h;have H := h;clear h
 by_cases c2 : a0 ≥ 48
 ·(rw [if_pos c2] at H);have c2b0 : decide (48 ≤ a0) = true := decide_eq_true c2;clear c2;obtain rfl := Option.some.inj H;go_enter Try.func114, Try.ntmps114;go_wp2;go_ret;exact ⟨z7_, z11_⟩
 ·(rw [if_neg c2] at H);have c2b0 : decide (48 ≤ a0) = false := decide_eq_false c2;clear c2;obtain rfl := Option.some.inj H;go_enter Try.func114, Try.ntmps114;go_wp2;go_ret;exact ⟨z7_, z11_⟩

/-! ### spec_l01Name: function 101 -/
mutual
def spec_l01Name.j0 : Nat → ByteArray → Bool → Option (Bool)
 | 0, _, _ => none
 | k + 1, x0, x16 => if x16 = true then (some false) else (spec_l01Name.l0 k x0 0)
def spec_l01Name.l0 : Nat → ByteArray → Int → Option (Bool)
 | 0, _, _ => none
 | k + 1, x0, x3 => if x3 < (x0.size : Int) then (if 0 ≤ x3 then ((spec_l01Small.f (bt x0 x3)).bind fun t162 => (if t162 = true then (spec_l01Name.l0 k x0 (wrap64 (x3 + 1))) else ((spec_l01Digit.f (bt x0 x3)).bind fun t163 => (if t163 = true then (spec_l01Name.l0 k x0 (wrap64 (x3 + 1))) else (some false))))) else (none)) else (some true)
end
def spec_l01Name.f (k : Nat) (a0 : ByteArray) : Option (Bool) := if a0.toList = ([] : List UInt8) then (spec_l01Name.j0 k a0 true) else (if (a0.size : Int) > 10 then (spec_l01Name.j0 k a0 true) else (if 0 < (a0.size : Int) then ((spec_l01Small.f (bt a0 0)).bind fun t161 => (spec_l01Name.j0 k a0 (!t161))) else (none)))
theorem spec_l01Name.mono_l : ∀ k, (∀ y0 y1, LeO (spec_l01Name.j0 k y0 y1) (spec_l01Name.j0 (k + 1) y0 y1)) ∧ (∀ y0 y1, LeO (spec_l01Name.l0 k y0 y1) (spec_l01Name.l0 (k + 1) y0 y1))
 | 0 => ⟨fun _ _ r h => by simp [spec_l01Name.j0] at h, fun _ _ r h => by simp [spec_l01Name.l0] at h⟩
 | k + 1 => by
  obtain ⟨ih0, ih1⟩ := spec_l01Name.mono_l k
  refine ⟨?_, ?_⟩
  ·intro y0 y1
   unfold spec_l01Name.j0
   exact z222_
  ·intro y0 y1
   unfold spec_l01Name.l0
   exact z222_
theorem spec_l01Name.mono : ∀ a0 k, LeO (spec_l01Name.f k a0) (spec_l01Name.f (k + 1) a0) := by
 intro a0 k
 obtain ⟨ih0, ih1⟩ := spec_l01Name.mono_l k
 unfold spec_l01Name.f
 exact z222_
set_option maxHeartbeats 8000000 in
set_option maxRecDepth 100000 in
theorem spec_l01Name.calls (k : Nat) (a0 : ByteArray) (r : Bool) (w : World) (h : spec_l01Name.f k a0 = some r) :
  Calls Try.prog 101 #[.string a0] w fun e w' => e = .returned (.bool r) ∧ Drawn0 w w' := by
 unfold spec_l01Name.f at h;have H := h;clear h
 have HC2 := Aside0.mk H
 clear H
 go_enter Try.func101, Try.ntmps101
 go_upto_region 1 with (fail)
 go_cut [16] (fun v16 wc => ∃ (kq : Nat) (x16_1 : Bool), v16 = .bool x16_1 ∧ Aside0 (spec_l01Name.j0 kq a0 x16_1 = some r) ∧ Aside0 (kq ≤ k) ∧ Drawn0 w wc)
 case first =>
  have H := HC2.out;clear HC2;by_cases c3 : a0.toList = ([] : List UInt8)
  ·(rw [if_pos c3] at H);have c3b0 : (a0.toList == ([] : List UInt8)) = true := beq_iff_eq.mpr c3;have c3b1 : (a0.toList != ([] : List UInt8)) = false := bne_eq_false_iff_eq.mpr c3;(try (have c3b2 : a0.toList.isEmpty = true := by simpa using c3));clear c3;(first | rw [c3b0] | (simp only [i64_w, i32_w]; rw [c3b0]) | rw [c3b2] | skip);have H' := Aside0.mk H;clear H;go_wp2;go_meet
   case rel => exact ⟨_, (true), (z7_), H', ⟨z133_⟩, z11_⟩
  ·(rw [if_neg c3] at H);have c3b0 : (a0.toList == ([] : List UInt8)) = false := beq_eq_false_iff_ne.mpr c3;have c3b1 : (a0.toList != ([] : List UInt8)) = true := bne_iff_ne.mpr c3;(try (have c3b2 : a0.toList.isEmpty = false := by simpa using c3));(first | rw [c3b0] | (simp only [i64_w, i32_w]; rw [c3b0]) | rw [c3b2] | skip);by_cases c4 : (a0.size : Int) > 10
   ·(rw [if_pos c4] at H);have c4b0 : decide (10 < (a0.size : Int)) = true := decide_eq_true c4;have c4b1 : decide (10 < a0.size) = true := decide_eq_true (by omega);clear c4;have H' := Aside0.mk H;clear H;go_wp2;go_meet
    case rel => exact ⟨_, (true), (z7_), H', ⟨z133_⟩, z11_⟩
   ·(rw [if_neg c4] at H);have c4b0 : decide (10 < (a0.size : Int)) = false := decide_eq_false c4;have c4b1 : decide (10 < a0.size) = false := decide_eq_false (by omega);clear c4;obtain ⟨c5,H⟩ := pp_ H;have c5b0 := decide_eq_true c5;have c5b1 : decide (0 < a0.size) = true := decide_eq_true (by omega);clear c5;replace H := Option.bind_eq_some_iff.mp H;obtain ⟨t161, A70, H⟩ := H;have A7 := Aside0.mk A70;clear A70;have H' := Aside0.mk H;clear H;have p6 : 0 ≤ (0 : Int) := (by omega);have q6 : 0 < a0.size := (by have : (0 : Int) < (a0.size : Int) := of_decide_eq_true (z0_); omega);have hx6 : ∀ h : 0 < a0.size, ((a0[0]'h).toNat : Int) = bt a0 0 := bt_at a0 0;clear p6;have qi6 : (0 < (a0.size : Int)) = True := eq_true (of_decide_eq_true (z0_));replace q6 := eq_true q6
    go_wp2_with (first | (go_at_call 113; (with_reducible refine (spec_l01Small.calls (bt a0 0) t161 _ A7.out).mono ?_); rintro e w' ⟨rfl, ⟨nd, rfl⟩⟩))
    go_meet
    case rel => exact ⟨_, (!t161), (z7_), H', ⟨z133_⟩, z11_⟩
 case rest =>
  clear HC2;(try clear c3);(try clear c3b0);(try clear c3b1);(try clear c3b2);(try clear c4);(try clear c4b0);(try clear c4b1);(try clear c5);(try clear c5b0);(try clear c5b1);(try clear p6);(try clear q6);(try clear hx6);(try clear qi6);(try clear p6);(try clear q6);obtain ⟨kq, x16_1, rfl, HA, HJ1, ⟨mc1, rfl⟩⟩ := hcut
  cases kq with
  | zero => exact absurd HA.out (by simp [spec_l01Name.j0])
  | succ kj1 =>
   have H := HA.out;clear HA;(simp only [spec_l01Name.j0] at H);by_cases c8 : x16_1 = true
   ·subst c8;(rw [if_pos rfl] at H);obtain rfl := Option.some.inj H;go_wp2;go_ret;exact ⟨z7_, z11_⟩
   ·replace c8 := Bool.eq_false_iff.mpr c8;subst c8;(rw [if_neg (show ¬ (false = true) by decide)] at H);have H' := Aside0.mk H;clear H;go_wp2
    go_loopg [3] kj1 (fun kq v3 w' => ∃ (x3_2 : Int), v3 = .int .i64 x3_2 ∧ Aside0 (spec_l01Name.l0 kq a0 x3_2 = some r) ∧ Aside0 (kq ≤ kj1) ∧ Drawn0 w w')
    case atStart => exact ⟨(0), (z7_), H', ⟨Nat.le_refl _⟩, z11_⟩
    case round =>
     clear H';(try clear c3);(try clear c3b0);(try clear c3b1);(try clear c3b2);(try clear c4);(try clear c4b0);(try clear c4b1);(try clear c5);(try clear c5b0);(try clear c5b1);(try clear p6);(try clear q6);(try clear hx6);(try clear qi6);(try clear c8);(try clear p6);(try clear q6);obtain ⟨x3_2, rfl, HA, HK2, ⟨m2, rfl⟩⟩ := hrel
     cases gk with
     | zero => exact absurd HA.out (by simp [spec_l01Name.l0])
     | succ k2 =>
      have H := HA.out;clear HA;(simp only [spec_l01Name.l0] at H);by_cases c9 : x3_2 < (a0.size : Int)
      ·(rw [if_pos c9] at H);have c9b0 := decide_eq_true c9;clear c9;obtain ⟨c10b0,H⟩ := pd_ H;replace H := Option.bind_eq_some_iff.mp H;obtain ⟨t162, A120, H⟩ := H;have A12 := Aside0.mk A120;clear A120;by_cases c13 : t162 = true
       ·subst c13;(rw [if_pos rfl] at H);have H' := Aside0.mk H;clear H;have p11 : 0 ≤ (x3_2 : Int) := of_decide_eq_true (z0_);have q11 : x3_2 < (a0.size : Int) := of_decide_eq_true (z0_);have hx11 := bt_at a0 x3_2;replace p11 := eq_true p11;replace q11 := eq_true q11
        go_wp2_with (first | ((with_reducible refine gate_callee (f := 113) rfl ?_); refine goesL_ (some 26) rfl rfl Try.func113 (z13_) rfl #[.int .u8 (bt a0 x3_2)] rfl (z1_) ?_; (with_reducible refine (spec_l01Small.calls (bt a0 x3_2) true _ A12.out).mono ?_); rintro e w' ⟨rfl, ⟨nd, rfl⟩⟩; refine ⟨_, rfl, ?_⟩))
        go_roundg k2
        case measure => have := HJ1.out; have := HK2.out; omega
        case rel => exact ⟨(wrap64 (x3_2 + 1)), (z7_), H', ⟨z195_⟩, z11_⟩
       ·replace c13 := Bool.eq_false_iff.mpr c13;subst c13;(rw [if_neg (show ¬ (false = true) by decide)] at H);replace H := Option.bind_eq_some_iff.mp H;obtain ⟨t163, A150, H⟩ := H;have A15 := Aside0.mk A150;clear A150;by_cases c16 : t163 = true
        ·subst c16;(rw [if_pos rfl] at H);have H' := Aside0.mk H;clear H;have p11 : 0 ≤ (x3_2 : Int) := of_decide_eq_true (z0_);have q11 : x3_2 < (a0.size : Int) := of_decide_eq_true (z0_);have hx11 := bt_at a0 x3_2;replace p11 := eq_true p11;replace q11 := eq_true q11
         go_wp2_with (first | ((with_reducible refine gate_callee (f := 113) rfl ?_); refine goesL_ (some 26) rfl rfl Try.func113 (z13_) rfl #[.int .u8 (bt a0 x3_2)] rfl (z1_) ?_; (with_reducible refine (spec_l01Small.calls (bt a0 x3_2) false _ A12.out).mono ?_); rintro e w' ⟨rfl, ⟨nd, rfl⟩⟩; refine ⟨_, rfl, ?_⟩; have p14 : 0 ≤ (x3_2 : Int) := of_decide_eq_true (z0_); have q14 : x3_2 < (a0.size : Int) := of_decide_eq_true (z0_); have hx14 := bt_at a0 x3_2; replace p14 := eq_true p14; replace q14 := eq_true q14) | (go_at_call 114; (with_reducible refine (spec_l01Digit.calls (bt a0 x3_2) true _ A15.out).mono ?_); rintro e w' ⟨rfl, ⟨nd, rfl⟩⟩))
         go_roundg k2
         case measure => have := HJ1.out; have := HK2.out; omega
         case rel => exact ⟨(wrap64 (x3_2 + 1)), (z7_), H', ⟨z195_⟩, z11_⟩
        ·replace c16 := Bool.eq_false_iff.mpr c16;subst c16;(rw [if_neg (show ¬ (false = true) by decide)] at H);obtain rfl := Option.some.inj H;have p11 : 0 ≤ (x3_2 : Int) := of_decide_eq_true (z0_);have q11 : x3_2 < (a0.size : Int) := of_decide_eq_true (z0_);have hx11 := bt_at a0 x3_2;replace p11 := eq_true p11;replace q11 := eq_true q11
         go_wp2_with (first | ((with_reducible refine gate_callee (f := 113) rfl ?_); refine goesL_ (some 26) rfl rfl Try.func113 (z13_) rfl #[.int .u8 (bt a0 x3_2)] rfl (z1_) ?_; (with_reducible refine (spec_l01Small.calls (bt a0 x3_2) false _ A12.out).mono ?_); rintro e w' ⟨rfl, ⟨nd, rfl⟩⟩; refine ⟨_, rfl, ?_⟩; have p14 : 0 ≤ (x3_2 : Int) := of_decide_eq_true (z0_); have q14 : x3_2 < (a0.size : Int) := of_decide_eq_true (z0_); have hx14 := bt_at a0 x3_2; replace p14 := eq_true p14; replace q14 := eq_true q14) | (go_at_call 114; (with_reducible refine (spec_l01Digit.calls (bt a0 x3_2) false _ A15.out).mono ?_); rintro e w' ⟨rfl, ⟨nd, rfl⟩⟩))
         go_ret;exact ⟨z7_, z11_⟩
      ·(rw [if_neg c9] at H);have c9b0 := decide_eq_false c9;clear c9;obtain rfl := Option.some.inj H;go_wp2;go_ret;exact ⟨z7_, z11_⟩

open Go.Proofs.YtnmdcmfhjhgheaaM
def spec_l01Name_.f (a0 : ByteArray) : Option Bool := if a0.size ≤ 9000000000000000000 then some (nameOk a0) else none
theorem small_f (c : Int) : spec_l01Small.f c = some (decide (97 ≤ c) && decide (c ≤ 122)) := by
  unfold spec_l01Small.f
  by_cases h : 97 ≤ c
  · rw [if_pos h]; simp [h]
  · rw [if_neg h]; simp [h]
theorem digit_f (c : Int) : spec_l01Digit.f c = some (decide (48 ≤ c) && decide (c ≤ 57)) := by
  unfold spec_l01Digit.f
  by_cases h : 48 ≤ c
  · rw [if_pos h]; simp [h]
  · rw [if_neg h]; simp [h]
theorem spec_names (s : ByteArray) (hs : s.size ≤ 9000000000000000000) : ∀ (d k : Nat) (i : Int), 0 ≤ i → (s.size : Int) - i = d → d < k → spec_l01Name.l0 k s i = some (namesFrom s d i) := by
  intro d
  induction d with
  | zero =>
    intro k i h0 hd hk
    obtain ⟨k, rfl⟩ : ∃ m, k = m + 1 := ⟨k - 1, by omega⟩
    simp only [spec_l01Name.l0]; rw [if_neg (by omega)]; rfl
  | succ d ih =>
    intro k i h0 hd hk
    obtain ⟨k, rfl⟩ : ∃ m, k = m + 1 := ⟨k - 1, by omega⟩
    have := ih k (i + 1) (by omega) (by omega) (by omega)
    simp only [spec_l01Name.l0]
    rw [if_pos (by omega), if_pos h0, small_f, digit_f, w64 (x := i + 1) (by omega) (by omega), this]
    simp only [Option.bind_some, namesFrom, nameByte]
    cases (decide (97 ≤ bt s i) && decide (bt s i ≤ 122)) <;> cases (decide (48 ≤ bt s i) && decide (bt s i ≤ 57)) <;> simp
theorem spec_l01Name_.same (s : ByteArray) (hs : s.size ≤ 9000000000000000000) : spec_l01Name.f (s.size + 2) s = some (nameOk s) := by
  unfold spec_l01Name.f nameOk
  rw [small_f]
  simp only [Option.bind_some, spec_l01Name.j0]
  by_cases h0 : s.size = 0
  · rw [if_pos ((size_empty s).2 h0)]; simp [h0]
  · rw [if_neg (fun h => h0 ((size_empty s).1 h))]
    by_cases h1 : (s.size : Int) > 10
    · rw [if_pos h1]
      have : ¬ s.size ≤ 10 := by omega
      simp [this]
    · rw [if_neg h1, if_pos (by omega), spec_names s hs s.size (s.size + 1) 0 (by omega) (by omega) (by omega)]
      have e1 : 1 ≤ s.size := by omega
      have e2 : s.size ≤ 10 := by omega
      simp only [e1, e2, decide_true, Bool.true_and]
      cases decide (97 ≤ bt s 0) <;> cases decide (bt s 0 ≤ 122) <;> simp
theorem spec_l01Name_.calls (a0 : ByteArray) (r : Bool) (w : World) (h : spec_l01Name_.f a0 = some r) :
    Calls Try.prog 101 #[.string a0] w fun e w' => e = .returned (.bool r) ∧ Drawn0 w w' := by
  unfold spec_l01Name_.f at h
  split at h
  · rename_i hs
    exact spec_l01Name.calls (a0.size + 2) a0 r w (by rw [← h]; exact spec_l01Name_.same a0 hs)
  · exact absurd h (by simp)


/-! ### spec_l03Ok: function 97 -/
open Go.Proofs.YtnmdcmfhjhgheaaM
theorem l00In_b (x lo hi : Int) (w : World) (b : Bool) (h : decide (lo ≤ x ∧ x ≤ hi) = b) : Calls Try.prog 79 #[.int .i64 x, .int .i64 lo, .int .i64 hi] w fun e w' => e = .returned (.bool b) ∧ Drawn0 w w' :=
  spec_l00In_.calls x lo hi b w (by rw [← h]; rfl)
set_option maxHeartbeats 4000000 in
set_option maxRecDepth 100000 in
/-- l03Ok of a pipe anywhere in memory. -/
theorem l03Ok_core (q : Addr) (s : ByteArray) (f t l d x : Int) (w : World) (b1 b2 b3 b4 b5 b6 b7 : Bool) (C1 : Aside0 (spec_l01Name_.f s = some b1)) (C2 : Aside0 (decide (0 ≤ f ∧ f ≤ 15) = b2)) (C3 : Aside0 (decide (0 ≤ t ∧ t ≤ 15) = b3))
    (h4 : (f == t) = b4) (C5 : Aside0 (decide (1 ≤ l ∧ l ≤ 10000) = b5)) (C6 : Aside0 (decide (20 ≤ d ∧ d ≤ 1000) = b6)) (C7 : Aside0 (decide (0 ≤ x ∧ x ≤ 5000) = b7))
    (c0 : w.cell? q = some (.string s)) (c1 : w.cell? ⟨q.block, q.off + 1, none⟩ = some (.int .i64 f)) (c2 : w.cell? ⟨q.block, q.off + 2, none⟩ = some (.int .i64 t)) (c3 : w.cell? ⟨q.block, q.off + 3, none⟩ = some (.int .i64 l)) (c4 : w.cell? ⟨q.block, q.off + 4, none⟩ = some (.int .i64 d)) (c5 : w.cell? ⟨q.block, q.off + 5, none⟩ = some (.int .i64 x)) :
    Calls Try.prog 97 #[.pointer (some q)] w fun e w' => e = .returned (.bool (b1 && (b2 && (b3 && (!b4 && (b5 && (b6 && b7))))))) ∧ Drawn0 w w' := by
  cases b1
  · go_enter Try.func97, Try.ntmps97
    go_wp2_with fail
    go_quiet ((first | (go_at_call 101; refine Calls.quiet_of (v := .bool false) ?_; (with_reducible refine (spec_l01Name_.calls s false _ C1.out).mono ?_); exact fun e w' hd => ⟨hd.1, hd.2.out⟩) | (go_at_call 79; refine Calls.quiet_of (v := .bool b2) ?_; (with_reducible refine (l00In_b f 0 15 _ b2 C2.out).mono ?_); exact fun e w' hd => ⟨hd.1, hd.2.out⟩) | (go_at_call 79; refine Calls.quiet_of (v := .bool b3) ?_; (with_reducible refine (l00In_b t 0 15 _ b3 C3.out).mono ?_); exact fun e w' hd => ⟨hd.1, hd.2.out⟩)))
    go_wp2
    go_ret
    exact ⟨z158_, z11_⟩
  cases b2
  · go_enter Try.func97, Try.ntmps97
    go_wp2_with fail
    go_quiet ((first | (go_at_call 101; refine Calls.quiet_of (v := .bool true) ?_; (with_reducible refine (spec_l01Name_.calls s true _ C1.out).mono ?_); exact fun e w' hd => ⟨hd.1, hd.2.out⟩) | (go_at_call 79; refine Calls.quiet_of (v := .bool false) ?_; (with_reducible refine (l00In_b f 0 15 _ false C2.out).mono ?_); exact fun e w' hd => ⟨hd.1, hd.2.out⟩) | (go_at_call 79; refine Calls.quiet_of (v := .bool b3) ?_; (with_reducible refine (l00In_b t 0 15 _ b3 C3.out).mono ?_); exact fun e w' hd => ⟨hd.1, hd.2.out⟩)))
    go_wp2
    go_ret
    exact ⟨z158_, z11_⟩
  cases b3
  · go_enter Try.func97, Try.ntmps97
    go_wp2_with fail
    go_quiet ((first | (go_at_call 101; refine Calls.quiet_of (v := .bool true) ?_; (with_reducible refine (spec_l01Name_.calls s true _ C1.out).mono ?_); exact fun e w' hd => ⟨hd.1, hd.2.out⟩) | (go_at_call 79; refine Calls.quiet_of (v := .bool true) ?_; (with_reducible refine (l00In_b f 0 15 _ true C2.out).mono ?_); exact fun e w' hd => ⟨hd.1, hd.2.out⟩) | (go_at_call 79; refine Calls.quiet_of (v := .bool false) ?_; (with_reducible refine (l00In_b t 0 15 _ false C3.out).mono ?_); exact fun e w' hd => ⟨hd.1, hd.2.out⟩)))
    go_wp2
    go_ret
    exact ⟨z158_, z11_⟩
  cases b4
  · cases b5
    · go_enter Try.func97, Try.ntmps97
      go_wp2_with fail
      go_quiet ((first | (go_at_call 101; refine Calls.quiet_of (v := .bool true) ?_; (with_reducible refine (spec_l01Name_.calls s true _ C1.out).mono ?_); exact fun e w' hd => ⟨hd.1, hd.2.out⟩) | (go_at_call 79; refine Calls.quiet_of (v := .bool true) ?_; (with_reducible refine (l00In_b f 0 15 _ true C2.out).mono ?_); exact fun e w' hd => ⟨hd.1, hd.2.out⟩) | (go_at_call 79; refine Calls.quiet_of (v := .bool true) ?_; (with_reducible refine (l00In_b t 0 15 _ true C3.out).mono ?_); exact fun e w' hd => ⟨hd.1, hd.2.out⟩)))
      go_wp2_with (first | (go_at_call 79; (with_reducible refine (l00In_b l 1 10000 _ false C5.out).mono ?_); rintro e w' ⟨rfl, ⟨nd, rfl⟩⟩) | (go_at_call 79; (with_reducible refine (l00In_b d 20 1000 _ b6 C6.out).mono ?_); rintro e w' ⟨rfl, ⟨nd, rfl⟩⟩) | (go_at_call 79; (with_reducible refine (l00In_b x 0 5000 _ b7 C7.out).mono ?_); rintro e w' ⟨rfl, ⟨nd, rfl⟩⟩))
      go_ret
      exact ⟨z158_, z11_⟩
    cases b6
    · go_enter Try.func97, Try.ntmps97
      go_wp2_with fail
      go_quiet ((first | (go_at_call 101; refine Calls.quiet_of (v := .bool true) ?_; (with_reducible refine (spec_l01Name_.calls s true _ C1.out).mono ?_); exact fun e w' hd => ⟨hd.1, hd.2.out⟩) | (go_at_call 79; refine Calls.quiet_of (v := .bool true) ?_; (with_reducible refine (l00In_b f 0 15 _ true C2.out).mono ?_); exact fun e w' hd => ⟨hd.1, hd.2.out⟩) | (go_at_call 79; refine Calls.quiet_of (v := .bool true) ?_; (with_reducible refine (l00In_b t 0 15 _ true C3.out).mono ?_); exact fun e w' hd => ⟨hd.1, hd.2.out⟩)))
      go_wp2_with (first | (go_at_call 79; (with_reducible refine (l00In_b l 1 10000 _ true C5.out).mono ?_); rintro e w' ⟨rfl, ⟨nd, rfl⟩⟩) | (go_at_call 79; (with_reducible refine (l00In_b d 20 1000 _ false C6.out).mono ?_); rintro e w' ⟨rfl, ⟨nd, rfl⟩⟩) | (go_at_call 79; (with_reducible refine (l00In_b x 0 5000 _ b7 C7.out).mono ?_); rintro e w' ⟨rfl, ⟨nd, rfl⟩⟩))
      go_ret
      exact ⟨z158_, z11_⟩
    cases b7
    · go_enter Try.func97, Try.ntmps97
      go_wp2_with fail
      go_quiet ((first | (go_at_call 101; refine Calls.quiet_of (v := .bool true) ?_; (with_reducible refine (spec_l01Name_.calls s true _ C1.out).mono ?_); exact fun e w' hd => ⟨hd.1, hd.2.out⟩) | (go_at_call 79; refine Calls.quiet_of (v := .bool true) ?_; (with_reducible refine (l00In_b f 0 15 _ true C2.out).mono ?_); exact fun e w' hd => ⟨hd.1, hd.2.out⟩) | (go_at_call 79; refine Calls.quiet_of (v := .bool true) ?_; (with_reducible refine (l00In_b t 0 15 _ true C3.out).mono ?_); exact fun e w' hd => ⟨hd.1, hd.2.out⟩)))
      go_wp2_with (first | (go_at_call 79; (with_reducible refine (l00In_b l 1 10000 _ true C5.out).mono ?_); rintro e w' ⟨rfl, ⟨nd, rfl⟩⟩) | (go_at_call 79; (with_reducible refine (l00In_b d 20 1000 _ true C6.out).mono ?_); rintro e w' ⟨rfl, ⟨nd, rfl⟩⟩) | (go_at_call 79; (with_reducible refine (l00In_b x 0 5000 _ false C7.out).mono ?_); rintro e w' ⟨rfl, ⟨nd, rfl⟩⟩))
      go_ret
      exact ⟨z158_, z11_⟩
    · go_enter Try.func97, Try.ntmps97
      go_wp2_with fail
      go_quiet ((first | (go_at_call 101; refine Calls.quiet_of (v := .bool true) ?_; (with_reducible refine (spec_l01Name_.calls s true _ C1.out).mono ?_); exact fun e w' hd => ⟨hd.1, hd.2.out⟩) | (go_at_call 79; refine Calls.quiet_of (v := .bool true) ?_; (with_reducible refine (l00In_b f 0 15 _ true C2.out).mono ?_); exact fun e w' hd => ⟨hd.1, hd.2.out⟩) | (go_at_call 79; refine Calls.quiet_of (v := .bool true) ?_; (with_reducible refine (l00In_b t 0 15 _ true C3.out).mono ?_); exact fun e w' hd => ⟨hd.1, hd.2.out⟩)))
      go_wp2_with (first | (go_at_call 79; (with_reducible refine (l00In_b l 1 10000 _ true C5.out).mono ?_); rintro e w' ⟨rfl, ⟨nd, rfl⟩⟩) | (go_at_call 79; (with_reducible refine (l00In_b d 20 1000 _ true C6.out).mono ?_); rintro e w' ⟨rfl, ⟨nd, rfl⟩⟩) | (go_at_call 79; (with_reducible refine (l00In_b x 0 5000 _ true C7.out).mono ?_); rintro e w' ⟨rfl, ⟨nd, rfl⟩⟩))
      go_ret
      exact ⟨z158_, z11_⟩
  · go_enter Try.func97, Try.ntmps97
    go_wp2_with fail
    go_quiet ((first | (go_at_call 101; refine Calls.quiet_of (v := .bool true) ?_; (with_reducible refine (spec_l01Name_.calls s true _ C1.out).mono ?_); exact fun e w' hd => ⟨hd.1, hd.2.out⟩) | (go_at_call 79; refine Calls.quiet_of (v := .bool true) ?_; (with_reducible refine (l00In_b f 0 15 _ true C2.out).mono ?_); exact fun e w' hd => ⟨hd.1, hd.2.out⟩) | (go_at_call 79; refine Calls.quiet_of (v := .bool true) ?_; (with_reducible refine (l00In_b t 0 15 _ true C3.out).mono ?_); exact fun e w' hd => ⟨hd.1, hd.2.out⟩)))
    go_wp2
    go_ret
    exact ⟨z158_, z11_⟩
theorem l03Ok_addr (q : Addr) (s : ByteArray) (f t l d x : Int) (w : World) (hs : s.size ≤ 9000000000000000000)
    (c0 : w.cell? q = some (.string s)) (c1 : w.cell? ⟨q.block, q.off + 1, none⟩ = some (.int .i64 f)) (c2 : w.cell? ⟨q.block, q.off + 2, none⟩ = some (.int .i64 t)) (c3 : w.cell? ⟨q.block, q.off + 3, none⟩ = some (.int .i64 l)) (c4 : w.cell? ⟨q.block, q.off + 4, none⟩ = some (.int .i64 d)) (c5 : w.cell? ⟨q.block, q.off + 5, none⟩ = some (.int .i64 x)) :
    Calls Try.prog 97 #[.pointer (some q)] w fun e w' => e = .returned (.bool (pipeOk s f t l d x)) ∧ Drawn0 w w' := by
  have h4 : (f == t) = decide (f = t) := by by_cases c : f = t <;> simp [c]
  exact l03Ok_core q s f t l d x w _ _ _ _ _ _ _ ⟨by unfold spec_l01Name_.f; rw [if_pos hs]⟩ ⟨rfl⟩ ⟨rfl⟩ h4 ⟨rfl⟩ ⟨rfl⟩ ⟨rfl⟩ c0 c1 c2 c3 c4 c5
theorem l03Ok_any (b o : Nat) (s : ByteArray) (f t l d x : Int) (w : World) (hs : s.size ≤ 9000000000000000000)
    (c0 : w.cell? ⟨b, o, none⟩ = some (.string s)) (c1 : w.cell? ⟨b, o + 1, none⟩ = some (.int .i64 f)) (c2 : w.cell? ⟨b, o + 2, none⟩ = some (.int .i64 t)) (c3 : w.cell? ⟨b, o + 3, none⟩ = some (.int .i64 l)) (c4 : w.cell? ⟨b, o + 4, none⟩ = some (.int .i64 d)) (c5 : w.cell? ⟨b, o + 5, none⟩ = some (.int .i64 x)) :
    Calls Try.prog 97 #[.pointer (some ⟨b, o, none⟩)] w fun e w' => e = .returned (.bool (pipeOk s f t l d x)) ∧ Drawn0 w w' :=
  l03Ok_addr ⟨b, o, none⟩ s f t l d x w hs c0 c1 c2 c3 c4 c5
def spec_l03Ok.f (a0_0 : ByteArray) (a0_1 a0_2 a0_3 a0_4 a0_5 : Int) : Option Bool := if a0_0.size ≤ 9000000000000000000 then some (pipeOk a0_0 a0_1 a0_2 a0_3 a0_4 a0_5) else none
theorem spec_l03Ok.calls (gr0 : Addr) (a0_0 : ByteArray) (a0_1 a0_2 a0_3 a0_4 a0_5 : Int) (r : Bool) (w : World) (c0 : w.cell? gr0 = some (.string a0_0)) (c1 : w.cell? ⟨gr0.block, gr0.off + 1, none⟩ = some (.int .i64 a0_1)) (c2 : w.cell? ⟨gr0.block, gr0.off + 2, none⟩ = some (.int .i64 a0_2)) (c3 : w.cell? ⟨gr0.block, gr0.off + 3, none⟩ = some (.int .i64 a0_3)) (c4 : w.cell? ⟨gr0.block, gr0.off + 4, none⟩ = some (.int .i64 a0_4)) (c5 : w.cell? ⟨gr0.block, gr0.off + 5, none⟩ = some (.int .i64 a0_5)) (h : spec_l03Ok.f a0_0 a0_1 a0_2 a0_3 a0_4 a0_5 = some r) :
    Calls Try.prog 97 #[.pointer (some gr0)] w fun e w' => e = .returned (.bool r) ∧ Drawn0 w w' := by
  unfold spec_l03Ok.f at h
  split at h
  · rename_i hs
    obtain rfl := Option.some.inj h
    exact l03Ok_addr gr0 a0_0 a0_1 a0_2 a0_3 a0_4 a0_5 w hs c0 c1 c2 c3 c4 c5
  · exact absurd h (by simp)


/-! ### spec_l04Fits: function 92 -/
open Go.Proofs.YtnmdcmfhjhgheaaM
/-- Whether a pipe fits in a network of so many nodes. -/
def fitsOk (n : Nat) (p : S73) : Bool := pipeOk p.f0 p.f1 p.f2 p.f3 p.f4 p.f5 && (decide (p.f1 < (n : Int)) && decide (p.f2 < (n : Int)))
set_option maxHeartbeats 4000000 in
set_option maxRecDepth 100000 in
theorem l04Fits_core (b o : Nat) (q : Addr) (s : ByteArray) (f t l d x : Int) (N : Option Addr) (n cn : Nat) (W : World) (b1 b2 b3 : Bool)
    (H1 : Aside0 (∀ V : World, Below W.heap.size W V → Calls Try.prog 97 #[.pointer (some q)] V fun e w' => e = .returned (.bool b1) ∧ Drawn0 V w')) (h2 : decide (f < (n : Int)) = b2) (h3 : decide (t < (n : Int)) = b3)
    (cN : W.cell? ⟨b, o, none⟩ = some (.slice N n cn)) (c1 : W.cell? ⟨q.block, q.off + 1, none⟩ = some (.int .i64 f)) (c2 : W.cell? ⟨q.block, q.off + 2, none⟩ = some (.int .i64 t)) :
    Calls Try.prog 92 #[.pointer (some ⟨b, o, none⟩), .pointer (some q)] W fun e w' => e = .returned (.bool (b1 && (b2 && b3))) ∧ Drawn0 W w' := by
  cases b1
  · go_enter Try.func92, Try.ntmps92
    go_wp2_with fail
    go_quiet ((go_at_call 97; refine Calls.quiet_of (v := .bool false) ?_; (with_reducible refine (H1.out _ (z149_)).mono ?_); exact fun e w' hd => ⟨hd.1, hd.2.out⟩))
    go_wp2
    go_ret
    exact ⟨z158_, z11_⟩
  cases b2
  · go_enter Try.func92, Try.ntmps92
    go_wp2_with fail
    go_quiet ((go_at_call 97; refine Calls.quiet_of (v := .bool true) ?_; (with_reducible refine (H1.out _ (z149_)).mono ?_); exact fun e w' hd => ⟨hd.1, hd.2.out⟩))
    go_wp2
    go_ret
    exact ⟨z158_, z11_⟩
  · go_enter Try.func92, Try.ntmps92
    go_wp2_with fail
    go_quiet ((go_at_call 97; refine Calls.quiet_of (v := .bool true) ?_; (with_reducible refine (H1.out _ (z149_)).mono ?_); exact fun e w' hd => ⟨hd.1, hd.2.out⟩))
    go_wp2
    go_ret
    exact ⟨z158_, z11_⟩
theorem l04Fits_any (b o : Nat) (q : Addr) (p : S73) (N : Option Addr) (n cn : Nat) (W : World) (hs : p.f0.size ≤ 9000000000000000000) (cN : W.cell? ⟨b, o, none⟩ = some (.slice N n cn))
    (c0 : W.cell? q = some (.string p.f0)) (c1 : W.cell? ⟨q.block, q.off + 1, none⟩ = some (.int .i64 p.f1)) (c2 : W.cell? ⟨q.block, q.off + 2, none⟩ = some (.int .i64 p.f2)) (c3 : W.cell? ⟨q.block, q.off + 3, none⟩ = some (.int .i64 p.f3)) (c4 : W.cell? ⟨q.block, q.off + 4, none⟩ = some (.int .i64 p.f4)) (c5 : W.cell? ⟨q.block, q.off + 5, none⟩ = some (.int .i64 p.f5)) :
    Calls Try.prog 92 #[.pointer (some ⟨b, o, none⟩), .pointer (some q)] W fun e w' => e = .returned (.bool (fitsOk n p)) ∧ Drawn0 W w' :=
  l04Fits_core b o q p.f0 p.f1 p.f2 p.f3 p.f4 p.f5 N n cn W _ _ _ ⟨fun V hb => l03Ok_addr q p.f0 p.f1 p.f2 p.f3 p.f4 p.f5 V hs (pw_cell_below hb c0) (pw_cell_below hb c1) (pw_cell_below hb c2) (pw_cell_below hb c3) (pw_cell_below hb c4) (pw_cell_below hb c5)⟩ rfl rfl cN c1 c2
def spec_l04Fits.f (l0_0 : List Int) (l0_1 : List S73) (a1_0 : ByteArray) (a1_1 a1_2 a1_3 a1_4 a1_5 : Int) : Option Bool := if a1_0.size ≤ 9000000000000000000 then some (fitsOk l0_0.length ⟨a1_0, a1_1, a1_2, a1_3, a1_4, a1_5⟩) else none
theorem spec_l04Fits.calls (gr0 : Nat) (A0_0 : Option Addr) (c0_0 : Nat) (l0_0 : List Int) (A0_1 : Option Addr) (c0_1 : Nat) (l0_1 : List S73) (gr1 : Addr) (a1_0 : ByteArray) (a1_1 a1_2 a1_3 a1_4 a1_5 : Int) (r : Bool) (w : World) (hb0 : w.heap[gr0]? = some (.cells #[.slice A0_0 l0_0.length c0_0, .slice A0_1 l0_1.length c0_1] 31 (0, 0))) (hr0_0 : Kd.C (Kd.int .i64) w A0_0 l0_0.length l0_0) (hc0_0 : l0_0.length ≤ c0_0) (hr0_1 : Kd.C k73 w A0_1 l0_1.length l0_1) (hc0_1 : l0_1.length ≤ c0_1) (c0 : w.cell? gr1 = some (.string a1_0)) (c1 : w.cell? ⟨gr1.block, gr1.off + 1, none⟩ = some (.int .i64 a1_1)) (c2 : w.cell? ⟨gr1.block, gr1.off + 2, none⟩ = some (.int .i64 a1_2)) (c3 : w.cell? ⟨gr1.block, gr1.off + 3, none⟩ = some (.int .i64 a1_3)) (c4 : w.cell? ⟨gr1.block, gr1.off + 4, none⟩ = some (.int .i64 a1_4)) (c5 : w.cell? ⟨gr1.block, gr1.off + 5, none⟩ = some (.int .i64 a1_5)) (h : spec_l04Fits.f l0_0 l0_1 a1_0 a1_1 a1_2 a1_3 a1_4 a1_5 = some r) :
    Calls Try.prog 92 #[.pointer (some ⟨gr0, 0, none⟩), .pointer (some gr1)] w fun e w' => e = .returned (.bool r) ∧ Drawn0 w w' := by
  unfold spec_l04Fits.f at h
  split at h
  · rename_i hs
    obtain rfl := Option.some.inj h
    exact l04Fits_any gr0 0 gr1 ⟨a1_0, a1_1, a1_2, a1_3, a1_4, a1_5⟩ A0_0 l0_0.length c0_0 w hs ((blk_cell hb0 0).trans rfl) c0 c1 c2 c3 c4 c5
  · exact absurd h (by simp)

end Go.Proofs.Ytnmdcmfhjhgheaa.PFnExactPressuresOf
