-- Printed by a program of this session (wip/hprint.sh: the kit's print with hand-proved contracts put in); not by print.sh itself.
import Derived.Test.YtcnbceiiimmgaaaPFnExactAddPipex0
import Derived.Test.YtcnbceiiimmgaaaPFnExactAddPipex1
namespace Go.Proofs.Ytcnbceiiimmgaaa.PFnExactAddPipe
open Go.RowKit Go.Proofs.YtcnbceiiimmgaaaW.PrintWords Go.Proofs.YtcnbceiiimmgaaaW.PrintLast Go.Proofs.YtcnbceiiimmgaaaW.PrintMore Go.Proofs.YtcnbceiiimmgaaaM
attribute [local go_sem] max2_int min2_int max_two min_two max_three min_three max_four min_four   -- for this text's walks alone
set_option linter.unusedVariables false
set_option linter.unusedSimpArgs false

/-! ### spec_l04Ok: function 15 -/
mutual
def spec_l04Ok.l0 : Nat → Int → List Int → List (S36) → Option (Bool)
 | 0, _, _, _ => none
 | k + 1, x3, x1000, x1001 => if x3 < (x1000.length : Int) then (if 0 ≤ x3 then ((spec_l00In_.f (rd x1000 x3) (-100000) 100000).bind fun t111 => (if t111 = true then (spec_l04Ok.l0 k (wrap64 (x3 + 1)) x1000 x1001) else (some false))) else (none)) else (if (x1000.length : Int) < 1 then (spec_l04Ok.j1 k true x1000 x1001) else (if (x1000.length : Int) > 16 then (spec_l04Ok.j1 k true x1000 x1001) else (spec_l04Ok.j1 k (decide ((x1001.length : Int) > 20)) x1000 x1001)))
def spec_l04Ok.j1 : Nat → Bool → List Int → List (S36) → Option (Bool)
 | 0, _, _, _ => none
 | k + 1, x44, x1000, x1001 => if x44 = true then (some false) else (spec_l04Ok.l1 k 0 x1000 x1001)
def spec_l04Ok.l1 : Nat → Int → List Int → List (S36) → Option (Bool)
 | 0, _, _, _ => none
 | k + 1, x4, x1000, x1001 => if x4 < (x1001.length : Int) then (if 0 ≤ x4 then ((spec_l04Fits.f x1000 x1001 ((rd_T36 x1001 x4).f0) ((rd_T36 x1001 x4).f1) ((rd_T36 x1001 x4).f2) ((rd_T36 x1001 x4).f3) ((rd_T36 x1001 x4).f4) ((rd_T36 x1001 x4).f5)).bind fun t113 => (if t113 = true then (if x4 > 0 then (if 0 ≤ (wrap64 (x4 - 1)) then (if (wrap64 (x4 - 1)) < (x1001.length : Int) then (if ((Op.bytesLess (((rd_T36 x1001 (wrap64 (x4 - 1))).f0).toList) (((rd_T36 x1001 x4).f0).toList)) = true) then (spec_l04Ok.l1 k (wrap64 (x4 + 1)) x1000 x1001) else (some false)) else (none)) else (none)) else (spec_l04Ok.l1 k (wrap64 (x4 + 1)) x1000 x1001)) else (some false))) else (none)) else (some true)
end
def spec_l04Ok.f (k : Nat) (l0_0 : List Int) (l0_1 : List (S36)) : Option (Bool) := spec_l04Ok.l0 k 0 l0_0 l0_1
theorem spec_l04Ok.mono_l : ∀ k, (∀ y0 y1 y2, LeO (spec_l04Ok.l0 k y0 y1 y2) (spec_l04Ok.l0 (k + 1) y0 y1 y2)) ∧ (∀ y0 y1 y2, LeO (spec_l04Ok.j1 k y0 y1 y2) (spec_l04Ok.j1 (k + 1) y0 y1 y2)) ∧ (∀ y0 y1 y2, LeO (spec_l04Ok.l1 k y0 y1 y2) (spec_l04Ok.l1 (k + 1) y0 y1 y2))
 | 0 => ⟨fun _ _ _ r h => by simp [spec_l04Ok.l0] at h, fun _ _ _ r h => by simp [spec_l04Ok.j1] at h, fun _ _ _ r h => by simp [spec_l04Ok.l1] at h⟩
 | k + 1 => by
  obtain ⟨ih0, ih1, ih2⟩ := spec_l04Ok.mono_l k
  refine ⟨?_, ?_, ?_⟩
  ·intro y0 y1 y2
   unfold spec_l04Ok.l0
   repeat' first|(with_reducible first|exact ih0 _ _ _|exact ih1 _ _ _|exact ih2 _ _ _|exact LeO.refl _|exact LeO.none _|refine LeO.ite ?_ ?_|refine LeO.bind ?_ (fun _ => ?_))|exact ih0 _ _ _|exact ih1 _ _ _|exact ih2 _ _ _|exact LeO.none _|refine LeO.ite ?_ ?_|refine LeO.bind ?_ (fun _ => ?_)
  ·intro y0 y1 y2
   unfold spec_l04Ok.j1
   repeat' first|(with_reducible first|exact ih0 _ _ _|exact ih1 _ _ _|exact ih2 _ _ _|exact LeO.refl _|exact LeO.none _|refine LeO.ite ?_ ?_|refine LeO.bind ?_ (fun _ => ?_))|exact ih0 _ _ _|exact ih1 _ _ _|exact ih2 _ _ _|exact LeO.none _|refine LeO.ite ?_ ?_|refine LeO.bind ?_ (fun _ => ?_)
  ·intro y0 y1 y2
   unfold spec_l04Ok.l1
   repeat' first|(with_reducible first|exact ih0 _ _ _|exact ih1 _ _ _|exact ih2 _ _ _|exact LeO.refl _|exact LeO.none _|refine LeO.ite ?_ ?_|refine LeO.bind ?_ (fun _ => ?_))|exact ih0 _ _ _|exact ih1 _ _ _|exact ih2 _ _ _|exact LeO.none _|refine LeO.ite ?_ ?_|refine LeO.bind ?_ (fun _ => ?_)
theorem spec_l04Ok.mono : ∀ a0 a1 k, LeO (spec_l04Ok.f k a0 a1) (spec_l04Ok.f (k + 1) a0 a1) := by
 intro a0 a1 k
 obtain ⟨ih0, ih1, ih2⟩ := spec_l04Ok.mono_l k
 unfold spec_l04Ok.f
 repeat' first|(with_reducible first|exact ih0 _ _ _|exact ih1 _ _ _|exact ih2 _ _ _|exact LeO.refl _|exact LeO.none _|refine LeO.ite ?_ ?_|refine LeO.bind ?_ (fun _ => ?_))|exact ih0 _ _ _|exact ih1 _ _ _|exact ih2 _ _ _|exact LeO.none _|refine LeO.ite ?_ ?_|refine LeO.bind ?_ (fun _ => ?_)
set_option maxHeartbeats 8000000 in
set_option maxRecDepth 100000 in
theorem spec_l04Ok.calls (k : Nat) (gr0 : Nat) (A0_0 : Option Addr) (c0_0 : Nat) (l0_0 : List Int) (A0_1 : Option Addr) (c0_1 : Nat) (l0_1 : List (S36)) (r : Bool) (w : World) (hb0 : w.heap[gr0]? = some (.cells #[.slice A0_0 l0_0.length c0_0, .slice A0_1 l0_1.length c0_1] 32 (0, 0))) (hr0_0 : Kd.C (Kd.int .i64) w A0_0 l0_0.length l0_0) (hc0_0 : l0_0.length ≤ c0_0) (hr0_1 : Kd.C k36 w A0_1 l0_1.length l0_1) (hc0_1 : l0_1.length ≤ c0_1) (h : spec_l04Ok.f k l0_0 l0_1 = some r) :
  Calls Try.prog 15 #[.pointer (some ⟨gr0, 0, none⟩)] w fun e w' => e = .returned (.bool r) ∧ Drawn0 w w' := by
 have HR0_0 := Aside0.mk hr0_0
 have HC0_0 := Aside0.mk hc0_0
 clear hr0_0 hc0_0
 have HR0_1 := Aside0.mk hr0_1
 have HC0_1 := Aside0.mk hc0_1
 clear hr0_1 hc0_1
 have BK0 := Aside0.mk hb0
 clear hb0
 have H : (spec_l04Ok.l0 k 0 l0_0 l0_1) = some r := h
 clear h
 have H' := Aside0.mk H
 clear H
 go_enter Try.func15, Try.ntmps15
 go_wp2
 repeat (go_quiet (fail); try go_wp2)
 go_loopg [3] k (fun kq v3 w' => ∃ (x3_1 : Int), v3 = .int .i64 x3_1 ∧ Aside0 (spec_l04Ok.l0 kq x3_1 l0_0 l0_1 = some r) ∧ Aside0 (kq ≤ k) ∧ Aside0 (w'.heap[gr0]? = some (.cells #[(.slice A0_0 l0_0.length c0_0), (.slice A0_1 l0_1.length c0_1)] 32 (0, 0))) ∧ Drawn0 w w')
 case atStart => exact ⟨(0), (z16_), H', ⟨Nat.le_refl _⟩, ⟨z55_⟩, z21_⟩
 case round =>
  clear H';(try clear c1);obtain ⟨x3_1, rfl, HA, HK1, BK0, ⟨m1, rfl⟩⟩ := hrel
  cases gk with
  | zero => exact absurd HA.out (by simp [spec_l04Ok.l0])
  | succ k1 =>
   have H := HA.out;clear HA;(simp only [spec_l04Ok.l0] at H);by_cases c2 : x3_1 < (l0_0.length : Int)
   ·(rw [if_pos c2] at H);have c2b0 := decide_eq_true c2;clear c2;by_cases c3 : 0 ≤ x3_1
    ·(rw [if_pos c3] at H);have c3b0 := decide_eq_true c3;clear c3;replace H := Option.bind_eq_some_iff.mp H;obtain ⟨t111, A40, H⟩ := H;have A4 := Aside0.mk A40;clear A40;by_cases c5 : t111 = true
     ·subst c5;(rw [if_pos rfl] at H);have H' := Aside0.mk H;clear H;have hcz6_0 := bc0_ w BK0.out;have hcz6_1 := bc1_ w BK0.out;have hfz6_0 := blk_frozen BK0.out 0;have hfz6_1 := blk_frozen BK0.out 1;have p110 : 0 ≤ (x3_1 : Int) := of_decide_eq_true (z2_);have q110 : x3_1 < (l0_0.length : Int) := of_decide_eq_true (z2_);obtain ⟨ad110, e110, hx110_0⟩ := Kd.at_int HR0_0.out x3_1 p110 q110;cases e110;replace p110 := eq_true p110;replace q110 := eq_true q110
      iterate 2 ((try go_quiet (first | (go_at_call 35; (with_reducible refine (spec_l00In_.calls (rd l0_0 x3_1) (-100000) 100000 true _ A4.out).mono ?_); rintro e w' ⟨rfl, ⟨nd, rfl⟩⟩; (try first | exact ⟨rfl, _, World.drewN_drewN _ _ _⟩ | exact ⟨rfl, _, Eq.trans (World.drewN_drewN _ _ _) (congrArg (World.drewN _) (Nat.add_assoc _ _ _))⟩)))); (try go_wp2_with (first | (go_at_call 35; (with_reducible refine (spec_l00In_.calls (rd l0_0 x3_1) (-100000) 100000 true _ A4.out).mono ?_); rintro e w' ⟨rfl, ⟨nd, rfl⟩⟩; (try first | exact ⟨rfl, _, World.drewN_drewN _ _ _⟩ | exact ⟨rfl, _, Eq.trans (World.drewN_drewN _ _ _) (congrArg (World.drewN _) (Nat.add_assoc _ _ _))⟩)))))
      go_roundg k1
      case measure => have := HK1.out; omega
      case rel => exact ⟨(wrap64 (x3_1 + 1)), (z16_), H', ⟨z197_⟩, ⟨z55_⟩, z21_⟩
     ·replace c5 := Bool.eq_false_iff.mpr c5;subst c5;(rw [if_neg (show ¬ (false = true) by decide)] at H);obtain rfl := Option.some.inj H;have hcz7_0 := bc0_ w BK0.out;have hcz7_1 := bc1_ w BK0.out;have hfz7_0 := blk_frozen BK0.out 0;have hfz7_1 := blk_frozen BK0.out 1;have p110 : 0 ≤ (x3_1 : Int) := of_decide_eq_true (z2_);have q110 : x3_1 < (l0_0.length : Int) := of_decide_eq_true (z2_);obtain ⟨ad110, e110, hx110_0⟩ := Kd.at_int HR0_0.out x3_1 p110 q110;cases e110;replace p110 := eq_true p110;replace q110 := eq_true q110
      iterate 2 ((try go_quiet (first | (go_at_call 35; (with_reducible refine (spec_l00In_.calls (rd l0_0 x3_1) (-100000) 100000 false _ A4.out).mono ?_); rintro e w' ⟨rfl, ⟨nd, rfl⟩⟩; (try first | exact ⟨rfl, _, World.drewN_drewN _ _ _⟩ | exact ⟨rfl, _, Eq.trans (World.drewN_drewN _ _ _) (congrArg (World.drewN _) (Nat.add_assoc _ _ _))⟩)))); (try go_wp2_with (first | (go_at_call 35; (with_reducible refine (spec_l00In_.calls (rd l0_0 x3_1) (-100000) 100000 false _ A4.out).mono ?_); rintro e w' ⟨rfl, ⟨nd, rfl⟩⟩; (try first | exact ⟨rfl, _, World.drewN_drewN _ _ _⟩ | exact ⟨rfl, _, Eq.trans (World.drewN_drewN _ _ _) (congrArg (World.drewN _) (Nat.add_assoc _ _ _))⟩)))))
      go_ret;exact ⟨z16_, z21_⟩
    ·(rw [if_neg c3] at H);exact absurd H (by simp)
   ·(rw [if_neg c2] at H);have c2b0 := decide_eq_false c2;clear c2;have HC8 := Aside0.mk H;clear H;have hcz9_0 := bc0_ w BK0.out;have hcz9_1 := bc1_ w BK0.out;have hfz9_0 := blk_frozen BK0.out 0;have hfz9_1 := blk_frozen BK0.out 1
    iterate 2 ((try go_quiet (fail)); (try go_upto_region 6 with (fail)))
    go_cut [44] (fun v44 wc => ∃ (kq : Nat) (x44_7 : Bool), v44 = .bool x44_7 ∧ Aside0 (spec_l04Ok.j1 kq x44_7 l0_0 l0_1 = some r) ∧ Aside0 (kq ≤ k1) ∧ Aside0 (wc.heap[gr0]? = some (.cells #[(.slice A0_0 l0_0.length c0_0), (.slice A0_1 l0_1.length c0_1)] 32 (0, 0))) ∧ Drawn0 w wc)
    case first =>
     have H := HC8.out;clear HC8;by_cases c10 : (l0_0.length : Int) < 1
     ·(rw [if_pos c10] at H);have c10b0 := decide_eq_true c10;have c10b1 : decide (l0_0.length < 1) = true := decide_eq_true (by omega);clear c10;(first | rw [c10b0] | (simp only [i64_w, i32_w]; rw [c10b0]) | rw [c10b2] | skip);have H' := Aside0.mk H;clear H;have hcz11_0 := bc0_ w BK0.out;have hcz11_1 := bc1_ w BK0.out;have hfz11_0 := blk_frozen BK0.out 0;have hfz11_1 := blk_frozen BK0.out 1;go_wp2
      repeat (go_quiet (fail); try go_wp2)
      go_meet
      case rel => exact ⟨_, (true), (z16_), H', ⟨z237_⟩, ⟨z55_⟩, z21_⟩
     ·(rw [if_neg c10] at H);have c10b0 := decide_eq_false c10;have c10b1 : decide (l0_0.length < 1) = false := decide_eq_false (by omega);clear c10;(first | rw [c10b0] | (simp only [i64_w, i32_w]; rw [c10b0]) | rw [c10b2] | skip);by_cases c12 : (l0_0.length : Int) > 16
      ·(rw [if_pos c12] at H);have c12b0 : decide (16 < (l0_0.length : Int)) = true := decide_eq_true c12;have c12b1 : decide (16 < l0_0.length) = true := decide_eq_true (by omega);clear c12;have H' := Aside0.mk H;clear H;have hcz13_0 := bc0_ w BK0.out;have hcz13_1 := bc1_ w BK0.out;have hfz13_0 := blk_frozen BK0.out 0;have hfz13_1 := blk_frozen BK0.out 1;go_wp2
       repeat (go_quiet (fail); try go_wp2)
       go_meet
       case rel => exact ⟨_, (true), (z16_), H', ⟨z237_⟩, ⟨z55_⟩, z21_⟩
      ·(rw [if_neg c12] at H);have c12b0 : decide (16 < (l0_0.length : Int)) = false := decide_eq_false c12;have c12b1 : decide (16 < l0_0.length) = false := decide_eq_false (by omega);clear c12;have H' := Aside0.mk H;clear H;have hcz14_0 := bc0_ w BK0.out;have hcz14_1 := bc1_ w BK0.out;have hfz14_0 := blk_frozen BK0.out 0;have hfz14_1 := blk_frozen BK0.out 1;go_wp2
       repeat (go_quiet (fail); try go_wp2)
       go_meet
       case rel => exact ⟨_, (decide ((l0_1.length : Int) > 20)), (z16_), H', ⟨z237_⟩, ⟨z55_⟩, z21_⟩
    case rest =>
     clear HC8;(try clear c1);(try clear p1);(try clear q1);(try clear hx1);(try clear c2);(try clear c2b0);(try clear p2);(try clear c3);(try clear c3b0);(try clear c5);(try clear p6);(try clear c10);(try clear c10b0);(try clear c10b1);(try clear c10b2);(try clear p11);(try clear q11);(try clear hx11);(try clear c12);(try clear c12b0);(try clear c12b1);(try clear hcz11_0);(try clear hcz11_1);(try clear hcz13_0);(try clear hcz13_1);(try clear hcz14_0);(try clear hcz14_1);(try clear hcz6_0);(try clear hcz6_1);(try clear hcz7_0);(try clear hcz7_1);(try clear hcz9_0);(try clear hcz9_1);(try clear hfz11_0);(try clear hfz11_1);(try clear hfz13_0);(try clear hfz13_1);(try clear hfz14_0);(try clear hfz14_1);(try clear hfz6_0);(try clear hfz6_1);(try clear hfz7_0);(try clear hfz7_1);(try clear hfz9_0);(try clear hfz9_1);(try clear hx110_0);(try clear p110);(try clear q110);obtain ⟨kq, x44_7, rfl, HA, HJ7, BK0, ⟨mc7, rfl⟩⟩ := hcut
     cases kq with
     | zero => exact absurd HA.out (by simp [spec_l04Ok.j1])
     | succ kj7 =>
      have H := HA.out;clear HA;(simp only [spec_l04Ok.j1] at H);by_cases c15 : x44_7 = true
      ·subst c15;(rw [if_pos rfl] at H);obtain rfl := Option.some.inj H;go_wp2
       repeat (go_quiet (fail); try go_wp2)
       go_ret;exact ⟨z16_, z21_⟩
      ·replace c15 := Bool.eq_false_iff.mpr c15;subst c15;(rw [if_neg (show ¬ (false = true) by decide)] at H);have H' := Aside0.mk H;clear H;go_wp2
       repeat (go_quiet (fail); try go_wp2)
       go_loopg [4] kj7 (fun kq v4 w' => ∃ (x4_3 : Int), v4 = .int .i64 x4_3 ∧ Aside0 (spec_l04Ok.l1 kq x4_3 l0_0 l0_1 = some r) ∧ Aside0 (kq ≤ kj7) ∧ Aside0 (w'.heap[gr0]? = some (.cells #[(.slice A0_0 l0_0.length c0_0), (.slice A0_1 l0_1.length c0_1)] 32 (0, 0))) ∧ Drawn0 w w')
       case atStart => exact ⟨(0), (z16_), H', ⟨Nat.le_refl _⟩, ⟨z55_⟩, z21_⟩
       case round =>
        clear H';(try clear c1);(try clear p1);(try clear q1);(try clear hx1);(try clear c2);(try clear c2b0);(try clear p2);(try clear c3);(try clear c3b0);(try clear c5);(try clear p6);(try clear c7);(try clear c10);(try clear c10b0);(try clear c10b1);(try clear c10b2);(try clear p11);(try clear q11);(try clear hx11);(try clear c12);(try clear c12b0);(try clear c12b1);(try clear c15);(try clear hcz11_0);(try clear hcz11_1);(try clear hcz13_0);(try clear hcz13_1);(try clear hcz14_0);(try clear hcz14_1);(try clear hcz6_0);(try clear hcz6_1);(try clear hcz7_0);(try clear hcz7_1);(try clear hcz9_0);(try clear hcz9_1);(try clear hfz11_0);(try clear hfz11_1);(try clear hfz13_0);(try clear hfz13_1);(try clear hfz14_0);(try clear hfz14_1);(try clear hfz6_0);(try clear hfz6_1);(try clear hfz7_0);(try clear hfz7_1);(try clear hfz9_0);(try clear hfz9_1);(try clear hx110_0);(try clear p1);(try clear p11);(try clear p110);(try clear p2);(try clear p6);(try clear q1);(try clear q11);(try clear q110);obtain ⟨x4_3, rfl, HA, HK3, BK0, ⟨m3, rfl⟩⟩ := hrel
        cases gk with
        | zero => exact absurd HA.out (by simp [spec_l04Ok.l1])
        | succ k3 =>
         have H := HA.out;clear HA;(simp only [spec_l04Ok.l1] at H);by_cases c16 : x4_3 < (l0_1.length : Int)
         ·(rw [if_pos c16] at H);have c16b0 := decide_eq_true c16;clear c16;by_cases c17 : 0 ≤ x4_3
          ·(rw [if_pos c17] at H);have c17b0 := decide_eq_true c17;clear c17;replace H := Option.bind_eq_some_iff.mp H;obtain ⟨t113, A180, H⟩ := H;have A18 := Aside0.mk A180;clear A180;by_cases c19 : t113 = true
           ·subst c19;(rw [if_pos rfl] at H);by_cases c20 : x4_3 > 0
            ·(rw [if_pos c20] at H);have c20b0 : decide (0 < x4_3) = true := decide_eq_true c20;clear c20;obtain ⟨ji21, hji21⟩ : ∃ j_ : Int, (wrap64 (x4_3 - 1)) = j_ := ⟨_, rfl⟩;(replace H : (if 0 ≤ (ji21) then (if (ji21) < (l0_1.length : Int) then (if ((Op.bytesLess (((rd_T36 l0_1 (ji21)).f0).toList) (((rd_T36 l0_1 x4_3).f0).toList)) = true) then (spec_l04Ok.l1 k3 (wrap64 (x4_3 + 1)) l0_0 l0_1) else (some false)) else (none)) else (none)) = some r := by first | (rw [hji21] at H; exact H) | (simp only [hji21] at H ⊢; exact H));(try rw [hji21] at A18);have hji21w : (IntKind.i64.wrap (x4_3 - 1)) = ji21 := (i64_w _).trans hji21;by_cases c22 : 0 ≤ (ji21)
             ·(rw [if_pos c22] at H);have c22b0 := decide_eq_true c22;clear c22;by_cases c23 : (ji21) < (l0_1.length : Int)
              ·(rw [if_pos c23] at H);have c23b0 := decide_eq_true c23;clear c23;by_cases c24 : ((Op.bytesLess (((rd_T36 l0_1 (ji21)).f0).toList) (((rd_T36 l0_1 x4_3).f0).toList)) = true)
               ·(rw [if_pos c24] at H);have c24b0 : (Op.bytesLess (((rd_T36 l0_1 (ji21)).f0).toList) (((rd_T36 l0_1 x4_3).f0).toList)) = true := c24;clear c24;have H' := Aside0.mk H;clear H;have hcz25_0 := bc0_ w BK0.out;have hcz25_1 := bc1_ w BK0.out;have hfz25_0 := blk_frozen BK0.out 0;have hfz25_1 := blk_frozen BK0.out 1;have p112 : 0 ≤ (x4_3 : Int) := of_decide_eq_true (z2_);have q112 : x4_3 < (l0_1.length : Int) := of_decide_eq_true (z2_);obtain ⟨ad112, e112, hx112_0, hx112_1, hx112_2, hx112_3, hx112_4, hx112_5⟩ := at_T36 HR0_1.out x4_3 p112 q112;cases e112;replace p112 := eq_true p112;replace q112 := eq_true q112
                iterate 2 ((try (first | (have p114 : 0 ≤ ((ji21) : Int) := of_decide_eq_true (z2_); have q114 : (ji21) < (l0_1.length : Int) := of_decide_eq_true (z2_); obtain ⟨ad114, e114, hx114_0, hx114_1, hx114_2, hx114_3, hx114_4, hx114_5⟩ := at_T36 HR0_1.out (ji21) p114 q114; obtain rfl : ad112 = ad114 := (by injection e114); replace p114 := eq_true p114; replace q114 := eq_true q114; have p115 : 0 ≤ (x4_3 : Int) := of_decide_eq_true (z2_); have q115 : x4_3 < (l0_1.length : Int) := of_decide_eq_true (z2_); obtain ⟨ad115, e115, hx115_0, hx115_1, hx115_2, hx115_3, hx115_4, hx115_5⟩ := at_T36 HR0_1.out x4_3 p115 q115; obtain rfl : ad112 = ad115 := (by injection e115); replace p115 := eq_true p115; replace q115 := eq_true q115; go_big_quiet (first | (go_at_call 16; (with_reducible refine (spec_l04Fits.calls gr0 A0_0 c0_0 l0_0 (some ad112) c0_1 l0_1 _ ((rd_T36 l0_1 x4_3).f0) ((rd_T36 l0_1 x4_3).f1) ((rd_T36 l0_1 x4_3).f2) ((rd_T36 l0_1 x4_3).f3) ((rd_T36 l0_1 x4_3).f4) ((rd_T36 l0_1 x4_3).f5) true _ ?side1 ?side2 ?side3 ?side4 ?side5 ?side6 ?side7 ?side8 ?side9 ?side10 ?side11 A18.out).mono ?_); (case side1 => exact (z55_)); (case side2 => repeat (first | exact HR0_0.out | (with_reducible first|refine Kd.C_alloc ?_ _|refine Kd.C_drewN ?_ _|refine Kd.C_drew ?_))); (case side3 => exact HC0_0.out); (case side4 => repeat (first | exact HR0_1.out | (with_reducible first|refine Kd.C_alloc ?_ _|refine Kd.C_drewN ?_ _|refine Kd.C_drew ?_))); (case side5 => exact HC0_1.out); (case side6 => first | assumption | (simp only [World.cell?_drewN, World.cell?_drew]; assumption) | (go_simp; done)); (case side7 => first | assumption | (simp only [World.cell?_drewN, World.cell?_drew]; assumption) | (go_simp; done)); (case side8 => first | assumption | (simp only [World.cell?_drewN, World.cell?_drew]; assumption) | (go_simp; done)); (case side9 => first | assumption | (simp only [World.cell?_drewN, World.cell?_drew]; assumption) | (go_simp; done)); (case side10 => first | assumption | (simp only [World.cell?_drewN, World.cell?_drew]; assumption) | (go_simp; done)); (case side11 => first | assumption | (simp only [World.cell?_drewN, World.cell?_drew]; assumption) | (go_simp; done)); rintro e w' ⟨rfl, ⟨nd, rfl⟩⟩; (try first | exact ⟨rfl, _, World.drewN_drewN _ _ _⟩ | exact ⟨rfl, _, Eq.trans (World.drewN_drewN _ _ _) (congrArg (World.drewN _) (Nat.add_assoc _ _ _))⟩)))) | go_big_quiet (first | (go_at_call 16; (with_reducible refine (spec_l04Fits.calls gr0 A0_0 c0_0 l0_0 (some ad112) c0_1 l0_1 _ ((rd_T36 l0_1 x4_3).f0) ((rd_T36 l0_1 x4_3).f1) ((rd_T36 l0_1 x4_3).f2) ((rd_T36 l0_1 x4_3).f3) ((rd_T36 l0_1 x4_3).f4) ((rd_T36 l0_1 x4_3).f5) true _ ?side1 ?side2 ?side3 ?side4 ?side5 ?side6 ?side7 ?side8 ?side9 ?side10 ?side11 A18.out).mono ?_); (case side1 => exact (z55_)); (case side2 => repeat (first | exact HR0_0.out | (with_reducible first|refine Kd.C_alloc ?_ _|refine Kd.C_drewN ?_ _|refine Kd.C_drew ?_))); (case side3 => exact HC0_0.out); (case side4 => repeat (first | exact HR0_1.out | (with_reducible first|refine Kd.C_alloc ?_ _|refine Kd.C_drewN ?_ _|refine Kd.C_drew ?_))); (case side5 => exact HC0_1.out); (case side6 => first | assumption | (simp only [World.cell?_drewN, World.cell?_drew]; assumption) | (go_simp; done)); (case side7 => first | assumption | (simp only [World.cell?_drewN, World.cell?_drew]; assumption) | (go_simp; done)); (case side8 => first | assumption | (simp only [World.cell?_drewN, World.cell?_drew]; assumption) | (go_simp; done)); (case side9 => first | assumption | (simp only [World.cell?_drewN, World.cell?_drew]; assumption) | (go_simp; done)); (case side10 => first | assumption | (simp only [World.cell?_drewN, World.cell?_drew]; assumption) | (go_simp; done)); (case side11 => first | assumption | (simp only [World.cell?_drewN, World.cell?_drew]; assumption) | (go_simp; done)); rintro e w' ⟨rfl, ⟨nd, rfl⟩⟩; (try first | exact ⟨rfl, _, World.drewN_drewN _ _ _⟩ | exact ⟨rfl, _, Eq.trans (World.drewN_drewN _ _ _) (congrArg (World.drewN _) (Nat.add_assoc _ _ _))⟩))))); (try go_wp2_with (first | (go_at_call 16; (with_reducible refine (spec_l04Fits.calls gr0 A0_0 c0_0 l0_0 (some ad112) c0_1 l0_1 _ ((rd_T36 l0_1 x4_3).f0) ((rd_T36 l0_1 x4_3).f1) ((rd_T36 l0_1 x4_3).f2) ((rd_T36 l0_1 x4_3).f3) ((rd_T36 l0_1 x4_3).f4) ((rd_T36 l0_1 x4_3).f5) true _ ?side1 ?side2 ?side3 ?side4 ?side5 ?side6 ?side7 ?side8 ?side9 ?side10 ?side11 A18.out).mono ?_); (case side1 => exact (z55_)); (case side2 => repeat (first | exact HR0_0.out | (with_reducible first|refine Kd.C_alloc ?_ _|refine Kd.C_drewN ?_ _|refine Kd.C_drew ?_))); (case side3 => exact HC0_0.out); (case side4 => repeat (first | exact HR0_1.out | (with_reducible first|refine Kd.C_alloc ?_ _|refine Kd.C_drewN ?_ _|refine Kd.C_drew ?_))); (case side5 => exact HC0_1.out); (case side6 => first | assumption | (simp only [World.cell?_drewN, World.cell?_drew]; assumption) | (go_simp; done)); (case side7 => first | assumption | (simp only [World.cell?_drewN, World.cell?_drew]; assumption) | (go_simp; done)); (case side8 => first | assumption | (simp only [World.cell?_drewN, World.cell?_drew]; assumption) | (go_simp; done)); (case side9 => first | assumption | (simp only [World.cell?_drewN, World.cell?_drew]; assumption) | (go_simp; done)); (case side10 => first | assumption | (simp only [World.cell?_drewN, World.cell?_drew]; assumption) | (go_simp; done)); (case side11 => first | assumption | (simp only [World.cell?_drewN, World.cell?_drew]; assumption) | (go_simp; done)); rintro e w' ⟨rfl, ⟨nd, rfl⟩⟩; (try first | exact ⟨rfl, _, World.drewN_drewN _ _ _⟩ | exact ⟨rfl, _, Eq.trans (World.drewN_drewN _ _ _) (congrArg (World.drewN _) (Nat.add_assoc _ _ _))⟩); have p114 : 0 ≤ ((ji21) : Int) := of_decide_eq_true (z2_); have q114 : (ji21) < (l0_1.length : Int) := of_decide_eq_true (z2_); obtain ⟨ad114, e114, hx114_0, hx114_1, hx114_2, hx114_3, hx114_4, hx114_5⟩ := at_T36 HR0_1.out (ji21) p114 q114; obtain rfl : ad112 = ad114 := (by injection e114); replace p114 := eq_true p114; replace q114 := eq_true q114; have p115 : 0 ≤ (x4_3 : Int) := of_decide_eq_true (z2_); have q115 : x4_3 < (l0_1.length : Int) := of_decide_eq_true (z2_); obtain ⟨ad115, e115, hx115_0, hx115_1, hx115_2, hx115_3, hx115_4, hx115_5⟩ := at_T36 HR0_1.out x4_3 p115 q115; obtain rfl : ad112 = ad115 := (by injection e115); replace p115 := eq_true p115; replace q115 := eq_true q115))))
                go_roundg k3
                case measure => have := HK1.out; have := HJ7.out; have := HK3.out; omega
                case rel => exact ⟨(wrap64 (x4_3 + 1)), (z16_), H', ⟨by have := HK1.out; have := HJ7.out; have := HK3.out; omega⟩, ⟨z55_⟩, z21_⟩
               ·(rw [if_neg c24] at H);(have c24b0 : (Op.bytesLess (((rd_T36 l0_1 (ji21)).f0).toList) (((rd_T36 l0_1 x4_3).f0).toList)) = false := by simpa using c24);clear c24;obtain rfl := Option.some.inj H;have hcz26_0 := bc0_ w BK0.out;have hcz26_1 := bc1_ w BK0.out;have hfz26_0 := blk_frozen BK0.out 0;have hfz26_1 := blk_frozen BK0.out 1;have p112 : 0 ≤ (x4_3 : Int) := of_decide_eq_true (z2_);have q112 : x4_3 < (l0_1.length : Int) := of_decide_eq_true (z2_);obtain ⟨ad112, e112, hx112_0, hx112_1, hx112_2, hx112_3, hx112_4, hx112_5⟩ := at_T36 HR0_1.out x4_3 p112 q112;cases e112;replace p112 := eq_true p112;replace q112 := eq_true q112
                iterate 2 ((try (first | (have p114 : 0 ≤ ((ji21) : Int) := of_decide_eq_true (z2_); have q114 : (ji21) < (l0_1.length : Int) := of_decide_eq_true (z2_); obtain ⟨ad114, e114, hx114_0, hx114_1, hx114_2, hx114_3, hx114_4, hx114_5⟩ := at_T36 HR0_1.out (ji21) p114 q114; obtain rfl : ad112 = ad114 := (by injection e114); replace p114 := eq_true p114; replace q114 := eq_true q114; have p115 : 0 ≤ (x4_3 : Int) := of_decide_eq_true (z2_); have q115 : x4_3 < (l0_1.length : Int) := of_decide_eq_true (z2_); obtain ⟨ad115, e115, hx115_0, hx115_1, hx115_2, hx115_3, hx115_4, hx115_5⟩ := at_T36 HR0_1.out x4_3 p115 q115; obtain rfl : ad112 = ad115 := (by injection e115); replace p115 := eq_true p115; replace q115 := eq_true q115; go_big_quiet (first | (go_at_call 16; (with_reducible refine (spec_l04Fits.calls gr0 A0_0 c0_0 l0_0 (some ad112) c0_1 l0_1 _ ((rd_T36 l0_1 x4_3).f0) ((rd_T36 l0_1 x4_3).f1) ((rd_T36 l0_1 x4_3).f2) ((rd_T36 l0_1 x4_3).f3) ((rd_T36 l0_1 x4_3).f4) ((rd_T36 l0_1 x4_3).f5) true _ ?side1 ?side2 ?side3 ?side4 ?side5 ?side6 ?side7 ?side8 ?side9 ?side10 ?side11 A18.out).mono ?_); (case side1 => exact (z55_)); (case side2 => repeat (first | exact HR0_0.out | (with_reducible first|refine Kd.C_alloc ?_ _|refine Kd.C_drewN ?_ _|refine Kd.C_drew ?_))); (case side3 => exact HC0_0.out); (case side4 => repeat (first | exact HR0_1.out | (with_reducible first|refine Kd.C_alloc ?_ _|refine Kd.C_drewN ?_ _|refine Kd.C_drew ?_))); (case side5 => exact HC0_1.out); (case side6 => first | assumption | (simp only [World.cell?_drewN, World.cell?_drew]; assumption) | (go_simp; done)); (case side7 => first | assumption | (simp only [World.cell?_drewN, World.cell?_drew]; assumption) | (go_simp; done)); (case side8 => first | assumption | (simp only [World.cell?_drewN, World.cell?_drew]; assumption) | (go_simp; done)); (case side9 => first | assumption | (simp only [World.cell?_drewN, World.cell?_drew]; assumption) | (go_simp; done)); (case side10 => first | assumption | (simp only [World.cell?_drewN, World.cell?_drew]; assumption) | (go_simp; done)); (case side11 => first | assumption | (simp only [World.cell?_drewN, World.cell?_drew]; assumption) | (go_simp; done)); rintro e w' ⟨rfl, ⟨nd, rfl⟩⟩; (try first | exact ⟨rfl, _, World.drewN_drewN _ _ _⟩ | exact ⟨rfl, _, Eq.trans (World.drewN_drewN _ _ _) (congrArg (World.drewN _) (Nat.add_assoc _ _ _))⟩)))) | go_big_quiet (first | (go_at_call 16; (with_reducible refine (spec_l04Fits.calls gr0 A0_0 c0_0 l0_0 (some ad112) c0_1 l0_1 _ ((rd_T36 l0_1 x4_3).f0) ((rd_T36 l0_1 x4_3).f1) ((rd_T36 l0_1 x4_3).f2) ((rd_T36 l0_1 x4_3).f3) ((rd_T36 l0_1 x4_3).f4) ((rd_T36 l0_1 x4_3).f5) true _ ?side1 ?side2 ?side3 ?side4 ?side5 ?side6 ?side7 ?side8 ?side9 ?side10 ?side11 A18.out).mono ?_); (case side1 => exact (z55_)); (case side2 => repeat (first | exact HR0_0.out | (with_reducible first|refine Kd.C_alloc ?_ _|refine Kd.C_drewN ?_ _|refine Kd.C_drew ?_))); (case side3 => exact HC0_0.out); (case side4 => repeat (first | exact HR0_1.out | (with_reducible first|refine Kd.C_alloc ?_ _|refine Kd.C_drewN ?_ _|refine Kd.C_drew ?_))); (case side5 => exact HC0_1.out); (case side6 => first | assumption | (simp only [World.cell?_drewN, World.cell?_drew]; assumption) | (go_simp; done)); (case side7 => first | assumption | (simp only [World.cell?_drewN, World.cell?_drew]; assumption) | (go_simp; done)); (case side8 => first | assumption | (simp only [World.cell?_drewN, World.cell?_drew]; assumption) | (go_simp; done)); (case side9 => first | assumption | (simp only [World.cell?_drewN, World.cell?_drew]; assumption) | (go_simp; done)); (case side10 => first | assumption | (simp only [World.cell?_drewN, World.cell?_drew]; assumption) | (go_simp; done)); (case side11 => first | assumption | (simp only [World.cell?_drewN, World.cell?_drew]; assumption) | (go_simp; done)); rintro e w' ⟨rfl, ⟨nd, rfl⟩⟩; (try first | exact ⟨rfl, _, World.drewN_drewN _ _ _⟩ | exact ⟨rfl, _, Eq.trans (World.drewN_drewN _ _ _) (congrArg (World.drewN _) (Nat.add_assoc _ _ _))⟩))))); (try go_wp2_with (first | (go_at_call 16; (with_reducible refine (spec_l04Fits.calls gr0 A0_0 c0_0 l0_0 (some ad112) c0_1 l0_1 _ ((rd_T36 l0_1 x4_3).f0) ((rd_T36 l0_1 x4_3).f1) ((rd_T36 l0_1 x4_3).f2) ((rd_T36 l0_1 x4_3).f3) ((rd_T36 l0_1 x4_3).f4) ((rd_T36 l0_1 x4_3).f5) true _ ?side1 ?side2 ?side3 ?side4 ?side5 ?side6 ?side7 ?side8 ?side9 ?side10 ?side11 A18.out).mono ?_); (case side1 => exact (z55_)); (case side2 => repeat (first | exact HR0_0.out | (with_reducible first|refine Kd.C_alloc ?_ _|refine Kd.C_drewN ?_ _|refine Kd.C_drew ?_))); (case side3 => exact HC0_0.out); (case side4 => repeat (first | exact HR0_1.out | (with_reducible first|refine Kd.C_alloc ?_ _|refine Kd.C_drewN ?_ _|refine Kd.C_drew ?_))); (case side5 => exact HC0_1.out); (case side6 => first | assumption | (simp only [World.cell?_drewN, World.cell?_drew]; assumption) | (go_simp; done)); (case side7 => first | assumption | (simp only [World.cell?_drewN, World.cell?_drew]; assumption) | (go_simp; done)); (case side8 => first | assumption | (simp only [World.cell?_drewN, World.cell?_drew]; assumption) | (go_simp; done)); (case side9 => first | assumption | (simp only [World.cell?_drewN, World.cell?_drew]; assumption) | (go_simp; done)); (case side10 => first | assumption | (simp only [World.cell?_drewN, World.cell?_drew]; assumption) | (go_simp; done)); (case side11 => first | assumption | (simp only [World.cell?_drewN, World.cell?_drew]; assumption) | (go_simp; done)); rintro e w' ⟨rfl, ⟨nd, rfl⟩⟩; (try first | exact ⟨rfl, _, World.drewN_drewN _ _ _⟩ | exact ⟨rfl, _, Eq.trans (World.drewN_drewN _ _ _) (congrArg (World.drewN _) (Nat.add_assoc _ _ _))⟩); have p114 : 0 ≤ ((ji21) : Int) := of_decide_eq_true (z2_); have q114 : (ji21) < (l0_1.length : Int) := of_decide_eq_true (z2_); obtain ⟨ad114, e114, hx114_0, hx114_1, hx114_2, hx114_3, hx114_4, hx114_5⟩ := at_T36 HR0_1.out (ji21) p114 q114; obtain rfl : ad112 = ad114 := (by injection e114); replace p114 := eq_true p114; replace q114 := eq_true q114; have p115 : 0 ≤ (x4_3 : Int) := of_decide_eq_true (z2_); have q115 : x4_3 < (l0_1.length : Int) := of_decide_eq_true (z2_); obtain ⟨ad115, e115, hx115_0, hx115_1, hx115_2, hx115_3, hx115_4, hx115_5⟩ := at_T36 HR0_1.out x4_3 p115 q115; obtain rfl : ad112 = ad115 := (by injection e115); replace p115 := eq_true p115; replace q115 := eq_true q115))))
                go_ret;exact ⟨by first | rfl | (simp; done) | (simp only [← hji21] <;> (first | rfl | simp)) | (simp [*]; done), z21_⟩
              ·(rw [if_neg c23] at H);exact absurd H (by simp)
             ·(rw [if_neg c22] at H);exact absurd H (by simp)
            ·(rw [if_neg c20] at H);have c20b0 : decide (0 < x4_3) = false := decide_eq_false c20;clear c20;have H' := Aside0.mk H;clear H;have hcz27_0 := bc0_ w BK0.out;have hcz27_1 := bc1_ w BK0.out;have hfz27_0 := blk_frozen BK0.out 0;have hfz27_1 := blk_frozen BK0.out 1;have p112 : 0 ≤ (x4_3 : Int) := of_decide_eq_true (z2_);have q112 : x4_3 < (l0_1.length : Int) := of_decide_eq_true (z2_);obtain ⟨ad112, e112, hx112_0, hx112_1, hx112_2, hx112_3, hx112_4, hx112_5⟩ := at_T36 HR0_1.out x4_3 p112 q112;cases e112;replace p112 := eq_true p112;replace q112 := eq_true q112
             iterate 2 ((try go_quiet (first | (go_at_call 16; (with_reducible refine (spec_l04Fits.calls gr0 A0_0 c0_0 l0_0 (some ad112) c0_1 l0_1 _ ((rd_T36 l0_1 x4_3).f0) ((rd_T36 l0_1 x4_3).f1) ((rd_T36 l0_1 x4_3).f2) ((rd_T36 l0_1 x4_3).f3) ((rd_T36 l0_1 x4_3).f4) ((rd_T36 l0_1 x4_3).f5) true _ ?side1 ?side2 ?side3 ?side4 ?side5 ?side6 ?side7 ?side8 ?side9 ?side10 ?side11 A18.out).mono ?_); (case side1 => exact (z55_)); (case side2 => repeat (first | exact HR0_0.out | (with_reducible first|refine Kd.C_alloc ?_ _|refine Kd.C_drewN ?_ _|refine Kd.C_drew ?_))); (case side3 => exact HC0_0.out); (case side4 => repeat (first | exact HR0_1.out | (with_reducible first|refine Kd.C_alloc ?_ _|refine Kd.C_drewN ?_ _|refine Kd.C_drew ?_))); (case side5 => exact HC0_1.out); (case side6 => first | assumption | (simp only [World.cell?_drewN, World.cell?_drew]; assumption) | (go_simp; done)); (case side7 => first | assumption | (simp only [World.cell?_drewN, World.cell?_drew]; assumption) | (go_simp; done)); (case side8 => first | assumption | (simp only [World.cell?_drewN, World.cell?_drew]; assumption) | (go_simp; done)); (case side9 => first | assumption | (simp only [World.cell?_drewN, World.cell?_drew]; assumption) | (go_simp; done)); (case side10 => first | assumption | (simp only [World.cell?_drewN, World.cell?_drew]; assumption) | (go_simp; done)); (case side11 => first | assumption | (simp only [World.cell?_drewN, World.cell?_drew]; assumption) | (go_simp; done)); rintro e w' ⟨rfl, ⟨nd, rfl⟩⟩; (try first | exact ⟨rfl, _, World.drewN_drewN _ _ _⟩ | exact ⟨rfl, _, Eq.trans (World.drewN_drewN _ _ _) (congrArg (World.drewN _) (Nat.add_assoc _ _ _))⟩)))); (try go_wp2_with (first | (go_at_call 16; (with_reducible refine (spec_l04Fits.calls gr0 A0_0 c0_0 l0_0 (some ad112) c0_1 l0_1 _ ((rd_T36 l0_1 x4_3).f0) ((rd_T36 l0_1 x4_3).f1) ((rd_T36 l0_1 x4_3).f2) ((rd_T36 l0_1 x4_3).f3) ((rd_T36 l0_1 x4_3).f4) ((rd_T36 l0_1 x4_3).f5) true _ ?side1 ?side2 ?side3 ?side4 ?side5 ?side6 ?side7 ?side8 ?side9 ?side10 ?side11 A18.out).mono ?_); (case side1 => exact (z55_)); (case side2 => repeat (first | exact HR0_0.out | (with_reducible first|refine Kd.C_alloc ?_ _|refine Kd.C_drewN ?_ _|refine Kd.C_drew ?_))); (case side3 => exact HC0_0.out); (case side4 => repeat (first | exact HR0_1.out | (with_reducible first|refine Kd.C_alloc ?_ _|refine Kd.C_drewN ?_ _|refine Kd.C_drew ?_))); (case side5 => exact HC0_1.out); (case side6 => first | assumption | (simp only [World.cell?_drewN, World.cell?_drew]; assumption) | (go_simp; done)); (case side7 => first | assumption | (simp only [World.cell?_drewN, World.cell?_drew]; assumption) | (go_simp; done)); (case side8 => first | assumption | (simp only [World.cell?_drewN, World.cell?_drew]; assumption) | (go_simp; done)); (case side9 => first | assumption | (simp only [World.cell?_drewN, World.cell?_drew]; assumption) | (go_simp; done)); (case side10 => first | assumption | (simp only [World.cell?_drewN, World.cell?_drew]; assumption) | (go_simp; done)); (case side11 => first | assumption | (simp only [World.cell?_drewN, World.cell?_drew]; assumption) | (go_simp; done)); rintro e w' ⟨rfl, ⟨nd, rfl⟩⟩; (try first | exact ⟨rfl, _, World.drewN_drewN _ _ _⟩ | exact ⟨rfl, _, Eq.trans (World.drewN_drewN _ _ _) (congrArg (World.drewN _) (Nat.add_assoc _ _ _))⟩)))))
             go_roundg k3
             case measure => have := HK1.out; have := HJ7.out; have := HK3.out; omega
             case rel => exact ⟨(wrap64 (x4_3 + 1)), (z16_), H', ⟨by have := HK1.out; have := HJ7.out; have := HK3.out; omega⟩, ⟨z55_⟩, z21_⟩
           ·replace c19 := Bool.eq_false_iff.mpr c19;subst c19;(rw [if_neg (show ¬ (false = true) by decide)] at H);obtain rfl := Option.some.inj H;have hcz28_0 := bc0_ w BK0.out;have hcz28_1 := bc1_ w BK0.out;have hfz28_0 := blk_frozen BK0.out 0;have hfz28_1 := blk_frozen BK0.out 1;have p112 : 0 ≤ (x4_3 : Int) := of_decide_eq_true (z2_);have q112 : x4_3 < (l0_1.length : Int) := of_decide_eq_true (z2_);obtain ⟨ad112, e112, hx112_0, hx112_1, hx112_2, hx112_3, hx112_4, hx112_5⟩ := at_T36 HR0_1.out x4_3 p112 q112;cases e112;replace p112 := eq_true p112;replace q112 := eq_true q112
            iterate 2 ((try go_quiet (first | (go_at_call 16; (with_reducible refine (spec_l04Fits.calls gr0 A0_0 c0_0 l0_0 (some ad112) c0_1 l0_1 _ ((rd_T36 l0_1 x4_3).f0) ((rd_T36 l0_1 x4_3).f1) ((rd_T36 l0_1 x4_3).f2) ((rd_T36 l0_1 x4_3).f3) ((rd_T36 l0_1 x4_3).f4) ((rd_T36 l0_1 x4_3).f5) false _ ?side1 ?side2 ?side3 ?side4 ?side5 ?side6 ?side7 ?side8 ?side9 ?side10 ?side11 A18.out).mono ?_); (case side1 => exact (z55_)); (case side2 => repeat (first | exact HR0_0.out | (with_reducible first|refine Kd.C_alloc ?_ _|refine Kd.C_drewN ?_ _|refine Kd.C_drew ?_))); (case side3 => exact HC0_0.out); (case side4 => repeat (first | exact HR0_1.out | (with_reducible first|refine Kd.C_alloc ?_ _|refine Kd.C_drewN ?_ _|refine Kd.C_drew ?_))); (case side5 => exact HC0_1.out); (case side6 => first | assumption | (simp only [World.cell?_drewN, World.cell?_drew]; assumption) | (go_simp; done)); (case side7 => first | assumption | (simp only [World.cell?_drewN, World.cell?_drew]; assumption) | (go_simp; done)); (case side8 => first | assumption | (simp only [World.cell?_drewN, World.cell?_drew]; assumption) | (go_simp; done)); (case side9 => first | assumption | (simp only [World.cell?_drewN, World.cell?_drew]; assumption) | (go_simp; done)); (case side10 => first | assumption | (simp only [World.cell?_drewN, World.cell?_drew]; assumption) | (go_simp; done)); (case side11 => first | assumption | (simp only [World.cell?_drewN, World.cell?_drew]; assumption) | (go_simp; done)); rintro e w' ⟨rfl, ⟨nd, rfl⟩⟩; (try first | exact ⟨rfl, _, World.drewN_drewN _ _ _⟩ | exact ⟨rfl, _, Eq.trans (World.drewN_drewN _ _ _) (congrArg (World.drewN _) (Nat.add_assoc _ _ _))⟩)))); (try go_wp2_with (first | (go_at_call 16; (with_reducible refine (spec_l04Fits.calls gr0 A0_0 c0_0 l0_0 (some ad112) c0_1 l0_1 _ ((rd_T36 l0_1 x4_3).f0) ((rd_T36 l0_1 x4_3).f1) ((rd_T36 l0_1 x4_3).f2) ((rd_T36 l0_1 x4_3).f3) ((rd_T36 l0_1 x4_3).f4) ((rd_T36 l0_1 x4_3).f5) false _ ?side1 ?side2 ?side3 ?side4 ?side5 ?side6 ?side7 ?side8 ?side9 ?side10 ?side11 A18.out).mono ?_); (case side1 => exact (z55_)); (case side2 => repeat (first | exact HR0_0.out | (with_reducible first|refine Kd.C_alloc ?_ _|refine Kd.C_drewN ?_ _|refine Kd.C_drew ?_))); (case side3 => exact HC0_0.out); (case side4 => repeat (first | exact HR0_1.out | (with_reducible first|refine Kd.C_alloc ?_ _|refine Kd.C_drewN ?_ _|refine Kd.C_drew ?_))); (case side5 => exact HC0_1.out); (case side6 => first | assumption | (simp only [World.cell?_drewN, World.cell?_drew]; assumption) | (go_simp; done)); (case side7 => first | assumption | (simp only [World.cell?_drewN, World.cell?_drew]; assumption) | (go_simp; done)); (case side8 => first | assumption | (simp only [World.cell?_drewN, World.cell?_drew]; assumption) | (go_simp; done)); (case side9 => first | assumption | (simp only [World.cell?_drewN, World.cell?_drew]; assumption) | (go_simp; done)); (case side10 => first | assumption | (simp only [World.cell?_drewN, World.cell?_drew]; assumption) | (go_simp; done)); (case side11 => first | assumption | (simp only [World.cell?_drewN, World.cell?_drew]; assumption) | (go_simp; done)); rintro e w' ⟨rfl, ⟨nd, rfl⟩⟩; (try first | exact ⟨rfl, _, World.drewN_drewN _ _ _⟩ | exact ⟨rfl, _, Eq.trans (World.drewN_drewN _ _ _) (congrArg (World.drewN _) (Nat.add_assoc _ _ _))⟩)))))
            go_ret;exact ⟨z16_, z21_⟩
          ·(rw [if_neg c17] at H);exact absurd H (by simp)
         ·(rw [if_neg c16] at H);have c16b0 := decide_eq_false c16;clear c16;obtain rfl := Option.some.inj H;have hcz29_0 := bc0_ w BK0.out;have hcz29_1 := bc1_ w BK0.out;have hfz29_0 := blk_frozen BK0.out 0;have hfz29_1 := blk_frozen BK0.out 1;go_wp2
          repeat (go_quiet (fail); try go_wp2)
          go_ret;exact ⟨z16_, z21_⟩

open Go.Proofs.YtcnbceiiimmgaaaM
/-- What is asked of the i-th pipe. -/
def stepOk (n : Nat) (ps : List S36) (i : Nat) : Bool := fitsOk n (ps.getD i z36) && (decide (i = 0) || Op.bytesLess (ps.getD (i - 1) z36).f0.toList (ps.getD i z36).f0.toList)
def stepsFrom (n : Nat) (ps : List S36) : Nat → Nat → Bool
  | 0, _ => true
  | d + 1, i => stepOk n ps i && stepsFrom n ps d (i + 1)
theorem steps_at (n : Nat) (ps : List S36) : ∀ (d i : Nat), stepsFrom n ps d i = true → ∀ j, i ≤ j → j < i + d → stepOk n ps j = true := by
  intro d
  induction d with
  | zero => intro i _ j h1 h2; omega
  | succ d ih =>
    intro i h j h1 h2
    simp only [stepsFrom, Bool.and_eq_true] at h
    by_cases e : j = i
    · rw [e]; exact h.1
    · exact ih (i + 1) h.2 j (by omega) (by omega)
def nodesOk (ns : List Int) : Bool := ns.all fun x => decide (-100000 ≤ x ∧ x ≤ 100000)
def tailOk (n : Nat) (ps : List S36) : Bool := decide (1 ≤ n) && (decide (n ≤ 16) && (decide (ps.length ≤ 20) && stepsFrom n ps ps.length 0))
/-- When a network is valid. -/
def netOk (ns : List Int) (ps : List S36) : Bool := nodesOk ns && tailOk ns.length ps
theorem netOk_parts {ns : List Int} {ps : List S36} (h : netOk ns ps = true) : (1 ≤ ns.length ∧ ns.length ≤ 16) ∧ ps.length ≤ 20 ∧ (∀ j, j < ps.length → stepOk ns.length ps j = true) ∧ nodesOk ns = true := by
  unfold netOk tailOk at h
  simp only [Bool.and_eq_true, decide_eq_true_eq] at h
  exact ⟨⟨h.2.1, h.2.2.1⟩, h.2.2.2.1, fun j hj => steps_at _ ps _ 0 h.2.2.2.2 j (by omega) (by omega), h.1⟩
theorem netOk_pipe {ns : List Int} {ps : List S36} (h : netOk ns ps = true) (j : Nat) (hj : j < ps.length) : pipeOk (ps.getD j z36).f0 (ps.getD j z36).f1 (ps.getD j z36).f2 (ps.getD j z36).f3 (ps.getD j z36).f4 (ps.getD j z36).f5 = true ∧ (0 ≤ (ps.getD j z36).f1 ∧ (ps.getD j z36).f1 < ns.length) ∧ (0 ≤ (ps.getD j z36).f2 ∧ (ps.getD j z36).f2 < ns.length) ∧ (ps.getD j z36).f1 ≠ (ps.getD j z36).f2 := by
  have hs := (netOk_parts h).2.2.1 j hj
  unfold stepOk fitsOk at hs
  simp only [Bool.and_eq_true, decide_eq_true_eq] at hs
  have hr := pipeOk_range hs.1.1
  exact ⟨hs.1.1, ⟨hr.1.1, hs.1.2.1⟩, ⟨hr.2.1.1, hs.1.2.2⟩, hr.2.2.1⟩
theorem rdP_ok (c : List S36) (i : Nat) : rd_T36 c (i : Int) = c.getD i z36 := by unfold rd_T36; rw [Int.toNat_natCast]
theorem fits_f (ns : List Int) (ps : List S36) (p : S36) (h : p.f0.size ≤ 9000000000000000000) : spec_l04Fits.f ns ps p.f0 p.f1 p.f2 p.f3 p.f4 p.f5 = some (fitsOk ns.length p) := by
  unfold spec_l04Fits.f; rw [if_pos h]
def spec_l04Ok_.f (l0_0 : List Int) (l0_1 : List S36) : Option Bool := if l0_0.length ≤ 4611686018427387904 ∧ (∀ p ∈ l0_1, p.f0.size ≤ 9000000000000000000) then some (netOk l0_0 l0_1) else none
theorem okP_loop (ns : List Int) (ps : List S36) (hp : ps.length ≤ 20) (hs : ∀ p ∈ ps, p.f0.size ≤ 9000000000000000000) : ∀ (d k i : Nat), i ≤ ps.length → ps.length - i = d → d < k → spec_l04Ok.l1 k (i : Int) ns ps = some (stepsFrom ns.length ps d i) := by
  intro d
  induction d with
  | zero =>
    intro k i h1 hd hk
    obtain ⟨k, rfl⟩ : ∃ m, k = m + 1 := ⟨k - 1, by omega⟩
    simp only [spec_l04Ok.l1]; rw [if_neg (by omega)]; rfl
  | succ d ih =>
    intro k i h1 hd hk
    obtain ⟨k, rfl⟩ : ∃ m, k = m + 1 := ⟨k - 1, by omega⟩
    simp only [spec_l04Ok.l1]
    have hm := hs _ (getD_mem z36 (show i < ps.length by omega))
    have e : stepsFrom ns.length ps (d + 1) i = (stepOk ns.length ps i && stepsFrom ns.length ps d (i + 1)) := rfl
    rw [if_pos (by omega), if_pos (by omega), rdP_ok, fits_f ns ps _ hm, e, w64 (x := (i : Int) + 1) (by omega) (by omega), show (i : Int) + 1 = ((i + 1 : Nat) : Int) by omega, ih k (i + 1) (by omega) (by omega) (by omega)]
    simp only [Option.bind_some]
    unfold stepOk
    cases hf : fitsOk ns.length (ps.getD i z36)
    · simp
    · by_cases h0 : i = 0
      · subst h0; simp
      · have e1 : wrap64 ((i : Int) - 1) = ((i - 1 : Nat) : Int) := by rw [w64 (by omega) (by omega)]; omega
        rw [if_pos rfl, if_pos (by omega), e1, if_pos (by omega), if_pos (by omega), rdP_ok, decide_eq_false h0]
        cases Op.bytesLess (ps.getD (i - 1) z36).f0.toList (ps.getD i z36).f0.toList <;> simp
theorem okN_loop (ns : List Int) (ps : List S36) (hn : ns.length ≤ 4611686018427387904) (hs : ∀ p ∈ ps, p.f0.size ≤ 9000000000000000000) : ∀ (d k i : Nat), i ≤ ns.length → ns.length - i = d → d + 25 ≤ k → spec_l04Ok.l0 k (i : Int) ns ps = some ((ns.drop i).all (fun x => decide (-100000 ≤ x ∧ x ≤ 100000)) && tailOk ns.length ps) := by
  intro d
  induction d with
  | zero =>
    intro k i h1 hd hk
    obtain ⟨k, rfl⟩ : ∃ m, k = m + 1 + 1 := ⟨k - 2, by omega⟩
    simp only [spec_l04Ok.l0]
    rw [if_neg (by omega), List.drop_of_length_le (by omega)]
    unfold tailOk
    simp only [spec_l04Ok.j1, List.all_nil, Bool.true_and]
    by_cases c1 : (ns.length : Int) < 1
    · rw [if_pos c1, decide_eq_false (show ¬ 1 ≤ ns.length by omega)]; simp
    · rw [if_neg c1, decide_eq_true (show 1 ≤ ns.length by omega)]
      by_cases c2 : (ns.length : Int) > 16
      · rw [if_pos c2, decide_eq_false (show ¬ ns.length ≤ 16 by omega)]; simp
      · rw [if_neg c2, decide_eq_true (show ns.length ≤ 16 by omega)]
        by_cases c3 : (ps.length : Int) > 20
        · rw [decide_eq_true c3, decide_eq_false (show ¬ ps.length ≤ 20 by omega)]; simp
        · rw [decide_eq_false c3, decide_eq_true (show ps.length ≤ 20 by omega)]
          have := okP_loop ns ps (by omega) hs ps.length k 0 (by omega) (by omega) (by omega)
          simpa using this
  | succ d ih =>
    intro k i h1 hd hk
    obtain ⟨k, rfl⟩ : ∃ m, k = m + 1 := ⟨k - 1, by omega⟩
    simp only [spec_l04Ok.l0]
    have hi : i < ns.length := by omega
    have e1 : rd ns (i : Int) = ns[i]'(by omega) := by unfold rd; rw [Int.toNat_natCast, List.getD_eq_getElem?_getD, List.getElem?_eq_getElem (by omega)]; rfl
    rw [if_pos (by omega), if_pos (by omega), e1, w64 (x := (i : Int) + 1) (by omega) (by omega), show (i : Int) + 1 = ((i + 1 : Nat) : Int) by omega, ih k (i + 1) (by omega) (by omega) (by omega), List.drop_eq_getElem_cons hi]
    unfold spec_l00In_.f
    simp only [Option.bind_some, List.all_cons]
    cases decide (-100000 ≤ ns[i] ∧ ns[i] ≤ 100000) <;> simp
theorem spec_l04Ok_.same (ns : List Int) (ps : List S36) (h : ns.length ≤ 4611686018427387904 ∧ ∀ p ∈ ps, p.f0.size ≤ 9000000000000000000) : spec_l04Ok.f (ns.length + 25) ns ps = some (netOk ns ps) := by
  unfold spec_l04Ok.f netOk nodesOk
  have := okN_loop ns ps h.1 h.2 ns.length (ns.length + 25) 0 (by omega) (by omega) (by omega)
  simpa using this
theorem spec_l04Ok_.calls (gr0 : Nat) (A0_0 : Option Addr) (c0_0 : Nat) (l0_0 : List Int) (A0_1 : Option Addr) (c0_1 : Nat) (l0_1 : List (S36)) (r : Bool) (w : World) (hb0 : w.heap[gr0]? = some (.cells #[.slice A0_0 l0_0.length c0_0, .slice A0_1 l0_1.length c0_1] 32 (0, 0))) (hr0_0 : Kd.C (Kd.int .i64) w A0_0 l0_0.length l0_0) (hc0_0 : l0_0.length ≤ c0_0) (hr0_1 : Kd.C k36 w A0_1 l0_1.length l0_1) (hc0_1 : l0_1.length ≤ c0_1) (h : spec_l04Ok_.f l0_0 l0_1 = some r) :
    Calls Try.prog 15 #[.pointer (some ⟨gr0, 0, none⟩)] w fun e w' => e = .returned (.bool r) ∧ Drawn0 w w' := by
  unfold spec_l04Ok_.f at h
  split at h
  · rename_i hs
    exact spec_l04Ok.calls (l0_0.length + 25) gr0 A0_0 c0_0 l0_0 A0_1 c0_1 l0_1 r w hb0 hr0_0 hc0_0 hr0_1 hc0_1 (by rw [← h]; exact spec_l04Ok_.same l0_0 l0_1 hs)
  · exact absurd h (by simp)


/-! ### spec_l00Own: function 17 -/
def spec_l00Own.f (l0 : List Int) : Option (List Int) := (some (([] : List Int) : List Int)).bind fun y116 => (if y116.length + l0.length < 17592186044416 then (some (y116 ++ l0)) else (none))
set_option maxHeartbeats 8000000 in
set_option maxRecDepth 100000 in
theorem spec_l00Own.calls (A0 : Option Addr) (c0 : Nat) (l0 : List Int) (r : List Int) (w : World) (hr0 : Kd.C (Kd.int .i64) w A0 l0.length l0) (hc0 : l0.length ≤ c0) (h : spec_l00Own.f l0 = some r) :
  Calls Try.prog 17 #[.slice A0 l0.length c0] w fun e w' => ∃ v0_ : Value, e = .returned (v0_) ∧ Kd.R (Kd.int .i64) 2 w' w.heap.size (fun _ => True) v0_ r ∧ Below w.heap.size w w' := by
 have HR0 := Aside0.mk hr0
 have HC0 := Aside0.mk hc0
 clear hr0 hc0
 have HB := Aside0.mk (Below.refl w.heap.size w)
 have H : ((some (([] : List Int) : List Int)).bind fun y116 => (if y116.length + l0.length < 17592186044416 then (some (y116 ++ l0)) else (none))) = some r := h
 clear h
 obtain ⟨y116, hy116⟩ : ∃ y_ : List Int, y_ = (([] : List Int)) := ⟨_, rfl⟩
 replace H : (if y116.length + l0.length < 17592186044416 then (some (y116 ++ l0)) else (none)) = some r := by first | (rw [hy116]; with_reducible exact H) | (have H2_ := (Option.bind_some _ _).symm.trans H; rw [hy116]; with_reducible exact H2_) | (have H2_ := (Option.bind_some _ _).symm.trans H; with_reducible exact H2_) | with_reducible exact H | (rw [hy116]; exact H) | exact H
 have Ny116 := Aside0.mk hy116
 clear hy116
 by_cases c2 : y116.length + l0.length < 17592186044416
 ·(rw [if_pos c2] at H);have LMc2 := Aside0.mk c2;clear c2;obtain ⟨y119, hy119⟩ : ∃ y_ : List Int, y_ = (y116 ++ l0) := ⟨_, rfl⟩;(replace H : (some y119) = some r := by first | (rw [hy119]; with_reducible exact H) | (have H2_ := (Option.bind_some _ _).symm.trans H; rw [hy119]; with_reducible exact H2_) | (have H2_ := (Option.bind_some _ _).symm.trans H; with_reducible exact H2_) | with_reducible exact H | (rw [hy119]; exact H) | exact H);have Ny119 := Aside0.mk hy119;clear hy119;obtain rfl := Option.some.inj H;go_enter Try.func17, Try.ntmps17
  go_wp2_with (first | ((with_reducible refine gate_dst (N := 3) rfl ?_); refine Kd.R_lit (Kd.int .i64) _ 2 ?hg (N := 3) ?hd (xs := ([] : List Int)) (inner := []) (ok := fun _ => True) (okp := fun _ => True) ?hr ?hp (fun _ hk => hk) trivial (Below.refl _ _) (Nat.le_refl _) (by simp) ?_; (case hd => rfl); (case hg => rfl); (case hr => first | (go_simp; done) | (go_simp; rfl)); (case hp => exact (Reps.none _ _)); intro v117 w3 ho4 hb hg_ hnew_; clear hg_ hnew_; (first | rw [← Ny116.out] at ho4 | (simp only [Int.reduceToNat] at ho4; rw [← Ny116.out] at ho4)); have HO118 := Aside0.mk (Kd.R_lower ho4 (below_size (z1_))); replace HB := Aside0.mk (below_step (z1_) hb); clear hb ho4) | ((with_reducible refine gate_builtin (b := .append) (xs := #[.tmp 3, .tmp 4]) rfl ?_); at_builtin; refine Kd.R_append_rows (Kd.int .i64) (w0 := w) w.heap.size rfl (.tmp 3) (.tmp 4) 22 2 (.int .i64 0) 8 rfl Try.underlying22 info2 rfl (by decide) (by omega) v117 y116 l0 _ _ _ (fun _ => True) (fun _ => False) rfl rfl ?aO ?aR (fun _ _ h => h) (fun _ h => h.elim) ?aF ?aB ?aS ?aL ?_; (case aR => repeat (first | exact (Kd.C_below HR0.out HB.out) | (with_reducible first|refine Kd.C_alloc ?_ _|refine Kd.C_drewN ?_ _|refine Kd.C_drew ?_))); (case aB => exact (z1_)); (case aF => exact (fun _ _ => trivial)); (case aO => exact (by (with_reducible repeat (first | apply rA|apply rN|apply rW)); exact HO118.out)); (case aS => exact (below_size (z1_))); (case aL => have := LMc2.out; omega); intro v120 w5 ho hb hg hat; rw [← Ny119.out] at ho; have n0_ := Aside0.mk (hb); have n1_ := Aside0.mk (ho); clear HB; clear HO118; have HB := n0_; have HO121 := n1_; clear n0_ n1_; clear ho hb hg hat))
  go_ret;exact ⟨_, z13_, by (with_reducible repeat (first | apply rA|apply rN|apply rW)); exact HO121.out, z1_⟩
 ·(rw [if_neg c2] at H);exact absurd H (by simp)

end Go.Proofs.Ytcnbceiiimmgaaa.PFnExactAddPipe
