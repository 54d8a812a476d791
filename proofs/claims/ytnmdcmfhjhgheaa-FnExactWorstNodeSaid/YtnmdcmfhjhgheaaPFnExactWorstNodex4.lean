-- Printed by a program of this session (wip/hprint.sh: the kit's print with hand-proved contracts put in); not by print.sh itself.
import Derived.Test.YtnmdcmfhjhgheaaPFnExactWorstNodex0
import Derived.Test.YtnmdcmfhjhgheaaPFnExactWorstNodex2
import Derived.Test.YtnmdcmfhjhgheaaPFnExactWorstNodex3
namespace Go.Proofs.Ytnmdcmfhjhgheaa.PFnExactWorstNode
open Go.RowKit Go.Proofs.YtnmdcmfhjhgheaaW.PrintWords Go.Proofs.YtnmdcmfhjhgheaaW.PrintLast Go.Proofs.YtnmdcmfhjhgheaaW.PrintMore Go.Proofs.YtnmdcmfhjhgheaaM
attribute [local go_sem] max2_int min2_int max_two min_two max_three min_three max_four min_four   -- for this text's walks alone
set_option linter.unusedVariables false
set_option linter.unusedSimpArgs false

mutual
def X17.l0 : Nat → Int → List Int → List (S73) → Option (Bool)
 | 0, _, _, _ => none
 | k + 1, x3, x1000, x1001 => if x3 < (x1000.length : Int) then (if 0 ≤ x3 then ((X46.f (rd x1000 x3) (-100000) 100000).bind fun t148 => (if t148 = true then (X17.l0 k (wrap64 (x3 + 1)) x1000 x1001) else (some false))) else (none)) else (if (x1000.length : Int) < 1 then (X17.j1 k true x1000 x1001) else (if (x1000.length : Int) > 16 then (X17.j1 k true x1000 x1001) else (X17.j1 k (decide ((x1001.length : Int) > 20)) x1000 x1001)))
def X17.j1 : Nat → Bool → List Int → List (S73) → Option (Bool)
 | 0, _, _, _ => none
 | k + 1, x44, x1000, x1001 => if x44 = true then (some false) else (X17.l1 k 0 x1000 x1001)
def X17.l1 : Nat → Int → List Int → List (S73) → Option (Bool)
 | 0, _, _, _ => none
 | k + 1, x4, x1000, x1001 => if x4 < (x1001.length : Int) then (if 0 ≤ x4 then ((X48.f x1000 x1001 (X1 x1001 x4).f0 (X1 x1001 x4).f1 (X1 x1001 x4).f2 (X1 x1001 x4).f3 (X1 x1001 x4).f4 (X1 x1001 x4).f5).bind fun t150 => (if t150 = true then (if x4 > 0 then (if 0 ≤ (wrap64 (x4 - 1)) then (if (wrap64 (x4 - 1)) < (x1001.length : Int) then (if ((Op.bytesLess (((X1 x1001 (wrap64 (x4 - 1))).f0).toList) ((X1 x1001 x4).f0.toList)) = true) then (X17.l1 k (wrap64 (x4 + 1)) x1000 x1001) else (some false)) else (none)) else (none)) else (X17.l1 k (wrap64 (x4 + 1)) x1000 x1001)) else (some false))) else (none)) else (some true)
end
def X17.f (k : Nat) (l0_0 : List Int) (l0_1 : List (S73)) : Option (Bool) := X17.l0 k 0 l0_0 l0_1
theorem X17.mono_l : ∀ k, (∀ y0 y1 y2, LeO (X17.l0 k y0 y1 y2) (X17.l0 (k + 1) y0 y1 y2)) ∧ (∀ y0 y1 y2, LeO (X17.j1 k y0 y1 y2) (X17.j1 (k + 1) y0 y1 y2)) ∧ (∀ y0 y1 y2, LeO (X17.l1 k y0 y1 y2) (X17.l1 (k + 1) y0 y1 y2))
 | 0 => ⟨fun _ _ _ r h => by simp [X17.l0] at h, fun _ _ _ r h => by simp [X17.j1] at h, fun _ _ _ r h => by simp [X17.l1] at h⟩
 | k + 1 => by
  obtain ⟨ih0, ih1, ih2⟩ := X17.mono_l k
  refine ⟨?_, ?_, ?_⟩
  ·intro y0 y1 y2
   unfold X17.l0
   exact z246_
  ·intro y0 y1 y2
   unfold X17.j1
   exact z246_
  ·intro y0 y1 y2
   unfold X17.l1
   exact z246_
theorem X17.mono : ∀ a0 a1 k, LeO (X17.f k a0 a1) (X17.f (k + 1) a0 a1) := by
 intro a0 a1 k
 obtain ⟨ih0, ih1, ih2⟩ := X17.mono_l k
 unfold X17.f
 exact z246_
set_option maxHeartbeats 8000000 in
set_option maxRecDepth 100000 in
theorem X17.calls (k : Nat) (gr0 : Nat) (A0_0 : Option Addr) (c0_0 : Nat) (l0_0 : List Int) (A0_1 : Option Addr) (c0_1 : Nat) (l0_1 : List (S73)) (r : Bool) (w : World) (hb0 : w.heap[gr0]? = some (.cells #[.slice A0_0 l0_0.length c0_0, .slice A0_1 l0_1.length c0_1] 31 (0, 0))) (hr0_0 : Kd.C (Kd.int .i64) w A0_0 l0_0.length l0_0) (hc0_0 : l0_0.length ≤ c0_0) (hr0_1 : Kd.C k73 w A0_1 l0_1.length l0_1) (hc0_1 : l0_1.length ≤ c0_1) (h : X17.f k l0_0 l0_1 = some r) :
  Calls Try.prog 77 #[.pointer (some ⟨gr0, 0, none⟩)] w fun e w' => e = .returned (.bool r) ∧ Drawn0 w w' := by
 have HR0_0 := am_ hr0_0
 have HC0_0 := am_ hc0_0
 clear hr0_0 hc0_0
 have HR0_1 := am_ hr0_1
 have HC0_1 := am_ hc0_1
 clear hr0_1 hc0_1
 have BK0 := am_ hb0
 clear hb0
 unfold X17.f at h;have H := h;clear h
 have H' := am_ H
 clear H
 go_enter Try.func77, Try.ntmps77
 go_wp2
 repeat (go_quiet (fail); try go_wp2)
 go_loopg [3] k (fun kq v3 w' => ∃ (x3_1 : Int), v3 = .int .i64 x3_1 ∧ Aside0 (X17.l0 kq x3_1 l0_0 l0_1 = some r) ∧ Aside0 (kq ≤ k) ∧ Aside0 (w'.heap[gr0]? = some (.cells #[(.slice A0_0 l0_0.length c0_0), (.slice A0_1 l0_1.length c0_1)] 31 (0, 0))) ∧ Drawn0 w w')
 case atStart => exact ⟨(0), (z8_), H', ⟨Nat.le_refl _⟩, ⟨z5_⟩, z10_⟩
 case round =>
  clear H';obtain ⟨x3_1, rfl, HA, HK1, BK0, ⟨m1, rfl⟩⟩ := hrel
  cases gk with
  | zero => exact absurd HA.out (by simp [X17.l0])
  | succ k1 =>
   have H := HA.out;clear HA;(simp only [X17.l0] at H);by_cases c2 : x3_1 < (l0_0.length : Int)
   ·(rw [if_pos c2] at H);have c2b0 := decide_eq_true c2;clear c2;obtain ⟨c3b0,H⟩ := pd_ H;obtain ⟨t148, A40, H⟩ := ob_ H;have A4 := am_ A40;clear A40;by_cases c5 : t148 = true
    ·subst c5;(rw [if_pos rfl] at H);have H' := am_ H;clear H;obtain ⟨hcz6_0,hcz6_1,hfz6_0,hfz6_1⟩ := bz2_ w BK0.out;obtain ⟨p147,q147,ad147,e147,hx147_0⟩ := aq_ (Kd.at_int HR0_0.out x3_1) z0_ z0_;cases e147
     iterate 2 ((try go_quiet (first | (go_at_call 79; (with_reducible refine (X46.calls (rd l0_0 x3_1) (-100000) 100000 true _ A4.out).mono ?_); rintro e w' ⟨rfl, ⟨nd, rfl⟩⟩; (try first | exact ⟨rfl, _, World.drewN_drewN _ _ _⟩ | exact ⟨rfl, _, Eq.trans (World.drewN_drewN _ _ _) (congrArg (World.drewN _) (Nat.add_assoc _ _ _))⟩)))); (try go_wp2_with (first | (go_at_call 79; (with_reducible refine (X46.calls (rd l0_0 x3_1) (-100000) 100000 true _ A4.out).mono ?_); rintro e w' ⟨rfl, ⟨nd, rfl⟩⟩; (try first | exact ⟨rfl, _, World.drewN_drewN _ _ _⟩ | exact ⟨rfl, _, Eq.trans (World.drewN_drewN _ _ _) (congrArg (World.drewN _) (Nat.add_assoc _ _ _))⟩)))))
     go_roundg k1
     case measure => have := HK1.out; omega
     case rel => exact ⟨(wrap64 (x3_1 + 1)), (z8_), H', ⟨z111_⟩, ⟨z5_⟩, z10_⟩
    ·replace c5 := Bool.eq_false_iff.mpr c5;subst c5;(rw [if_neg (show ¬ (false = true) by decide)] at H);obtain rfl := Option.some.inj H;obtain ⟨hcz7_0,hcz7_1,hfz7_0,hfz7_1⟩ := bz2_ w BK0.out;obtain ⟨p147,q147,ad147,e147,hx147_0⟩ := aq_ (Kd.at_int HR0_0.out x3_1) z0_ z0_;cases e147
     iterate 2 ((try go_quiet (first | (go_at_call 79; (with_reducible refine (X46.calls (rd l0_0 x3_1) (-100000) 100000 false _ A4.out).mono ?_); rintro e w' ⟨rfl, ⟨nd, rfl⟩⟩; (try first | exact ⟨rfl, _, World.drewN_drewN _ _ _⟩ | exact ⟨rfl, _, Eq.trans (World.drewN_drewN _ _ _) (congrArg (World.drewN _) (Nat.add_assoc _ _ _))⟩)))); (try go_wp2_with (first | (go_at_call 79; (with_reducible refine (X46.calls (rd l0_0 x3_1) (-100000) 100000 false _ A4.out).mono ?_); rintro e w' ⟨rfl, ⟨nd, rfl⟩⟩; (try first | exact ⟨rfl, _, World.drewN_drewN _ _ _⟩ | exact ⟨rfl, _, Eq.trans (World.drewN_drewN _ _ _) (congrArg (World.drewN _) (Nat.add_assoc _ _ _))⟩)))))
     go_ret;exact ⟨z8_, z10_⟩
   ·(rw [if_neg c2] at H);have c2b0 := decide_eq_false c2;clear c2;have HC8 := am_ H;clear H;obtain ⟨hcz9_0,hcz9_1,hfz9_0,hfz9_1⟩ := bz2_ w BK0.out
    iterate 2 ((try go_quiet (fail)); (try go_upto_region 6 with (fail)))
    go_cut [44] (fun v44 wc => ∃ (kq : Nat) (x44_7 : Bool), v44 = .bool x44_7 ∧ Aside0 (X17.j1 kq x44_7 l0_0 l0_1 = some r) ∧ Aside0 (kq ≤ k1) ∧ Aside0 (wc.heap[gr0]? = some (.cells #[(.slice A0_0 l0_0.length c0_0), (.slice A0_1 l0_1.length c0_1)] 31 (0, 0))) ∧ Drawn0 w wc)
    case first =>
     have H := HC8.out;clear HC8;by_cases c10 : (l0_0.length : Int) < 1
     ·(rw [if_pos c10] at H);have c10b0 := decide_eq_true c10;have c10b1 : decide (l0_0.length < 1) = true := decide_eq_true (by omega);clear c10;(first | rw [c10b0] | (simp only [i64_w, i32_w]; rw [c10b0]) | rw [c10b2] | skip);have H' := am_ H;clear H;obtain ⟨hcz11_0,hcz11_1,hfz11_0,hfz11_1⟩ := bz2_ w BK0.out;go_wp2
      repeat (go_quiet (fail); try go_wp2)
      go_meet
      case rel => exact ⟨_, (true), (z8_), H', ⟨by have := HK1.out; first | omega | exact Nat.le_refl _⟩, ⟨z5_⟩, z10_⟩
     ·(rw [if_neg c10] at H);have c10b0 := decide_eq_false c10;have c10b1 : decide (l0_0.length < 1) = false := decide_eq_false (by omega);clear c10;(first | rw [c10b0] | (simp only [i64_w, i32_w]; rw [c10b0]) | rw [c10b2] | skip);by_cases c12 : (l0_0.length : Int) > 16
      ·(rw [if_pos c12] at H);have c12b0 : decide (16 < (l0_0.length : Int)) = true := decide_eq_true c12;have c12b1 : decide (16 < l0_0.length) = true := decide_eq_true (by omega);clear c12;have H' := am_ H;clear H;obtain ⟨hcz13_0,hcz13_1,hfz13_0,hfz13_1⟩ := bz2_ w BK0.out;go_wp2
       repeat (go_quiet (fail); try go_wp2)
       go_meet
       case rel => exact ⟨_, (true), (z8_), H', ⟨by have := HK1.out; first | omega | exact Nat.le_refl _⟩, ⟨z5_⟩, z10_⟩
      ·(rw [if_neg c12] at H);have c12b0 : decide (16 < (l0_0.length : Int)) = false := decide_eq_false c12;have c12b1 : decide (16 < l0_0.length) = false := decide_eq_false (by omega);clear c12;have H' := am_ H;clear H;obtain ⟨hcz14_0,hcz14_1,hfz14_0,hfz14_1⟩ := bz2_ w BK0.out;go_wp2
       repeat (go_quiet (fail); try go_wp2)
       go_meet
       case rel => exact ⟨_, (decide ((l0_1.length : Int) > 20)), (z8_), H', ⟨by have := HK1.out; first | omega | exact Nat.le_refl _⟩, ⟨z5_⟩, z10_⟩
    case rest =>
     clear HC8;(try clear c2);(try clear c2b0);(try clear c3b0);(try clear c5);(try clear c10);(try clear c10b0);(try clear c10b1);(try clear c10b2);(try clear c12);(try clear c12b0);(try clear c12b1);(try clear hcz11_0);(try clear hcz11_1);(try clear hcz13_0);(try clear hcz13_1);(try clear hcz14_0);(try clear hcz14_1);(try clear hcz6_0);(try clear hcz6_1);(try clear hcz7_0);(try clear hcz7_1);(try clear hcz9_0);(try clear hcz9_1);(try clear hfz11_0);(try clear hfz11_1);(try clear hfz13_0);(try clear hfz13_1);(try clear hfz14_0);(try clear hfz14_1);(try clear hfz6_0);(try clear hfz6_1);(try clear hfz7_0);(try clear hfz7_1);(try clear hfz9_0);(try clear hfz9_1);(try clear hx147_0);(try clear p147);(try clear q147);obtain ⟨kq, x44_7, rfl, HA, HJ7, BK0, ⟨mc7, rfl⟩⟩ := hcut
     cases kq with
     | zero => exact absurd HA.out (by simp [X17.j1])
     | succ kj7 =>
      have H := HA.out;clear HA;(simp only [X17.j1] at H);by_cases c15 : x44_7 = true
      ·subst c15;(rw [if_pos rfl] at H);obtain rfl := Option.some.inj H;go_wp2
       repeat (go_quiet (fail); try go_wp2)
       go_ret;exact ⟨z8_, z10_⟩
      ·replace c15 := Bool.eq_false_iff.mpr c15;subst c15;(rw [if_neg (show ¬ (false = true) by decide)] at H);have H' := am_ H;clear H;go_wp2
       repeat (go_quiet (fail); try go_wp2)
       go_loopg [4] kj7 (fun kq v4 w' => ∃ (x4_3 : Int), v4 = .int .i64 x4_3 ∧ Aside0 (X17.l1 kq x4_3 l0_0 l0_1 = some r) ∧ Aside0 (kq ≤ kj7) ∧ Aside0 (w'.heap[gr0]? = some (.cells #[(.slice A0_0 l0_0.length c0_0), (.slice A0_1 l0_1.length c0_1)] 31 (0, 0))) ∧ Drawn0 w w')
       case atStart => exact ⟨(0), (z8_), H', ⟨Nat.le_refl _⟩, ⟨z5_⟩, z10_⟩
       case round =>
        clear H';(try clear c2);(try clear c2b0);(try clear c3b0);(try clear c5);(try clear c10);(try clear c10b0);(try clear c10b1);(try clear c10b2);(try clear c12);(try clear c12b0);(try clear c12b1);(try clear c15);(try clear hcz11_0);(try clear hcz11_1);(try clear hcz13_0);(try clear hcz13_1);(try clear hcz14_0);(try clear hcz14_1);(try clear hcz6_0);(try clear hcz6_1);(try clear hcz7_0);(try clear hcz7_1);(try clear hcz9_0);(try clear hcz9_1);(try clear hfz11_0);(try clear hfz11_1);(try clear hfz13_0);(try clear hfz13_1);(try clear hfz14_0);(try clear hfz14_1);(try clear hfz6_0);(try clear hfz6_1);(try clear hfz7_0);(try clear hfz7_1);(try clear hfz9_0);(try clear hfz9_1);(try clear hx147_0);(try clear p147);(try clear q147);obtain ⟨x4_3, rfl, HA, HK3, BK0, ⟨m3, rfl⟩⟩ := hrel
        cases gk with
        | zero => exact absurd HA.out (by simp [X17.l1])
        | succ k3 =>
         have H := HA.out;clear HA;(simp only [X17.l1] at H);by_cases c16 : x4_3 < (l0_1.length : Int)
         ·(rw [if_pos c16] at H);have c16b0 := decide_eq_true c16;clear c16;obtain ⟨c17b0,H⟩ := pd_ H;obtain ⟨t150, A180, H⟩ := ob_ H;have A18 := am_ A180;clear A180;by_cases c19 : t150 = true
          ·subst c19;(rw [if_pos rfl] at H);by_cases c20 : x4_3 > 0
           ·(rw [if_pos c20] at H);have c20b0 : decide (0 < x4_3) = true := decide_eq_true c20;clear c20;obtain ⟨ji21, hji21⟩ : ∃ j_ : Int, (wrap64 (x4_3 - 1)) = j_ := ⟨_, rfl⟩;(replace H : (if 0 ≤ (ji21) then (if (ji21) < (l0_1.length : Int) then (if ((Op.bytesLess (((X1 l0_1 (ji21)).f0).toList) ((X1 l0_1 x4_3).f0.toList)) = true) then (X17.l1 k3 (wrap64 (x4_3 + 1)) l0_0 l0_1) else (some false)) else (none)) else (none)) = some r := by first | (rw [hji21] at H; exact H) | (simp only [hji21] at H ⊢; exact H));(try rw [hji21] at A18);have hji21w : (IntKind.i64.wrap (x4_3 - 1)) = ji21 := (i64_w _).trans hji21;obtain ⟨c22b0,H⟩ := pd_ H;obtain ⟨c23b0,H⟩ := pd_ H;by_cases c24 : ((Op.bytesLess (((X1 l0_1 (ji21)).f0).toList) ((X1 l0_1 x4_3).f0.toList)) = true)
            ·(rw [if_pos c24] at H);have c24b0 : (Op.bytesLess (((X1 l0_1 (ji21)).f0).toList) ((X1 l0_1 x4_3).f0.toList)) = true := c24;clear c24;have H' := am_ H;clear H;obtain ⟨hcz25_0,hcz25_1,hfz25_0,hfz25_1⟩ := bz2_ w BK0.out;obtain ⟨p149,q149,ad149,e149,hx149_0,hx149_1,hx149_2,hx149_3,hx149_4,hx149_5⟩ := aq_ (X25 HR0_1.out x4_3) z0_ z0_;cases e149
             iterate 2 ((try (first | (obtain ⟨p151,q151,ad151,e151,hx151_0,hx151_1,hx151_2,hx151_3,hx151_4,hx151_5⟩ := aq_ (X25 HR0_1.out (ji21)) z0_ z0_;obtain rfl : ad149 = ad151 := (by injection e151); obtain ⟨p152,q152,ad152,e152,hx152_0,hx152_1,hx152_2,hx152_3,hx152_4,hx152_5⟩ := aq_ (X25 HR0_1.out x4_3) z0_ z0_;obtain rfl : ad149 = ad152 := (by injection e152); go_big_quiet (first | (go_at_call 92; (with_reducible refine (X48.calls gr0 A0_0 c0_0 l0_0 (some ad149) c0_1 l0_1 _ (X1 l0_1 x4_3).f0 (X1 l0_1 x4_3).f1 (X1 l0_1 x4_3).f2 (X1 l0_1 x4_3).f3 (X1 l0_1 x4_3).f4 (X1 l0_1 x4_3).f5 true _ ?side1 ?side2 ?side3 ?side4 ?side5 ?side6 ?side7 ?side8 ?side9 ?side10 ?side11 A18.out).mono ?_); (case side1 => exact (z5_)); (case side2 => exact z220_); (case side3 => exact HC0_0.out); (case side4 => exact z221_); (case side5 => exact HC0_1.out); (case side6 => exact z218_); (case side7 => exact z218_); (case side8 => exact z218_); (case side9 => exact z218_); (case side10 => exact z218_); (case side11 => exact z218_); rintro e w' ⟨rfl, ⟨nd, rfl⟩⟩; (try first | exact ⟨rfl, _, World.drewN_drewN _ _ _⟩ | exact ⟨rfl, _, Eq.trans (World.drewN_drewN _ _ _) (congrArg (World.drewN _) (Nat.add_assoc _ _ _))⟩)))) | go_big_quiet (first | (go_at_call 92; (with_reducible refine (X48.calls gr0 A0_0 c0_0 l0_0 (some ad149) c0_1 l0_1 _ (X1 l0_1 x4_3).f0 (X1 l0_1 x4_3).f1 (X1 l0_1 x4_3).f2 (X1 l0_1 x4_3).f3 (X1 l0_1 x4_3).f4 (X1 l0_1 x4_3).f5 true _ ?side1 ?side2 ?side3 ?side4 ?side5 ?side6 ?side7 ?side8 ?side9 ?side10 ?side11 A18.out).mono ?_); (case side1 => exact (z5_)); (case side2 => exact z220_); (case side3 => exact HC0_0.out); (case side4 => exact z221_); (case side5 => exact HC0_1.out); (case side6 => exact z218_); (case side7 => exact z218_); (case side8 => exact z218_); (case side9 => exact z218_); (case side10 => exact z218_); (case side11 => exact z218_); rintro e w' ⟨rfl, ⟨nd, rfl⟩⟩; (try first | exact ⟨rfl, _, World.drewN_drewN _ _ _⟩ | exact ⟨rfl, _, Eq.trans (World.drewN_drewN _ _ _) (congrArg (World.drewN _) (Nat.add_assoc _ _ _))⟩))))); (try go_wp2_with (first | (go_at_call 92; (with_reducible refine (X48.calls gr0 A0_0 c0_0 l0_0 (some ad149) c0_1 l0_1 _ (X1 l0_1 x4_3).f0 (X1 l0_1 x4_3).f1 (X1 l0_1 x4_3).f2 (X1 l0_1 x4_3).f3 (X1 l0_1 x4_3).f4 (X1 l0_1 x4_3).f5 true _ ?side1 ?side2 ?side3 ?side4 ?side5 ?side6 ?side7 ?side8 ?side9 ?side10 ?side11 A18.out).mono ?_); (case side1 => exact (z5_)); (case side2 => exact z220_); (case side3 => exact HC0_0.out); (case side4 => exact z221_); (case side5 => exact HC0_1.out); (case side6 => exact z218_); (case side7 => exact z218_); (case side8 => exact z218_); (case side9 => exact z218_); (case side10 => exact z218_); (case side11 => exact z218_); rintro e w' ⟨rfl, ⟨nd, rfl⟩⟩; (try first | exact ⟨rfl, _, World.drewN_drewN _ _ _⟩ | exact ⟨rfl, _, Eq.trans (World.drewN_drewN _ _ _) (congrArg (World.drewN _) (Nat.add_assoc _ _ _))⟩); obtain ⟨p151,q151,ad151,e151,hx151_0,hx151_1,hx151_2,hx151_3,hx151_4,hx151_5⟩ := aq_ (X25 HR0_1.out (ji21)) z0_ z0_;obtain rfl : ad149 = ad151 := (by injection e151); obtain ⟨p152,q152,ad152,e152,hx152_0,hx152_1,hx152_2,hx152_3,hx152_4,hx152_5⟩ := aq_ (X25 HR0_1.out x4_3) z0_ z0_;obtain rfl : ad149 = ad152 := (by injection e152)))))
             go_roundg k3
             case measure => have := HK1.out; have := HJ7.out; have := HK3.out; omega
             case rel => exact ⟨(wrap64 (x4_3 + 1)), (z8_), H', ⟨by have := HK1.out; have := HJ7.out; have := HK3.out; omega⟩, ⟨z5_⟩, z10_⟩
            ·(rw [if_neg c24] at H);(have c24b0 : (Op.bytesLess (((X1 l0_1 (ji21)).f0).toList) ((X1 l0_1 x4_3).f0.toList)) = false := by simpa using c24);clear c24;obtain rfl := Option.some.inj H;obtain ⟨hcz26_0,hcz26_1,hfz26_0,hfz26_1⟩ := bz2_ w BK0.out;obtain ⟨p149,q149,ad149,e149,hx149_0,hx149_1,hx149_2,hx149_3,hx149_4,hx149_5⟩ := aq_ (X25 HR0_1.out x4_3) z0_ z0_;cases e149
             iterate 2 ((try (first | (obtain ⟨p151,q151,ad151,e151,hx151_0,hx151_1,hx151_2,hx151_3,hx151_4,hx151_5⟩ := aq_ (X25 HR0_1.out (ji21)) z0_ z0_;obtain rfl : ad149 = ad151 := (by injection e151); obtain ⟨p152,q152,ad152,e152,hx152_0,hx152_1,hx152_2,hx152_3,hx152_4,hx152_5⟩ := aq_ (X25 HR0_1.out x4_3) z0_ z0_;obtain rfl : ad149 = ad152 := (by injection e152); go_big_quiet (first | (go_at_call 92; (with_reducible refine (X48.calls gr0 A0_0 c0_0 l0_0 (some ad149) c0_1 l0_1 _ (X1 l0_1 x4_3).f0 (X1 l0_1 x4_3).f1 (X1 l0_1 x4_3).f2 (X1 l0_1 x4_3).f3 (X1 l0_1 x4_3).f4 (X1 l0_1 x4_3).f5 true _ ?side1 ?side2 ?side3 ?side4 ?side5 ?side6 ?side7 ?side8 ?side9 ?side10 ?side11 A18.out).mono ?_); (case side1 => exact (z5_)); (case side2 => exact z220_); (case side3 => exact HC0_0.out); (case side4 => exact z221_); (case side5 => exact HC0_1.out); (case side6 => exact z218_); (case side7 => exact z218_); (case side8 => exact z218_); (case side9 => exact z218_); (case side10 => exact z218_); (case side11 => exact z218_); rintro e w' ⟨rfl, ⟨nd, rfl⟩⟩; (try first | exact ⟨rfl, _, World.drewN_drewN _ _ _⟩ | exact ⟨rfl, _, Eq.trans (World.drewN_drewN _ _ _) (congrArg (World.drewN _) (Nat.add_assoc _ _ _))⟩)))) | go_big_quiet (first | (go_at_call 92; (with_reducible refine (X48.calls gr0 A0_0 c0_0 l0_0 (some ad149) c0_1 l0_1 _ (X1 l0_1 x4_3).f0 (X1 l0_1 x4_3).f1 (X1 l0_1 x4_3).f2 (X1 l0_1 x4_3).f3 (X1 l0_1 x4_3).f4 (X1 l0_1 x4_3).f5 true _ ?side1 ?side2 ?side3 ?side4 ?side5 ?side6 ?side7 ?side8 ?side9 ?side10 ?side11 A18.out).mono ?_); (case side1 => exact (z5_)); (case side2 => exact z220_); (case side3 => exact HC0_0.out); (case side4 => exact z221_); (case side5 => exact HC0_1.out); (case side6 => exact z218_); (case side7 => exact z218_); (case side8 => exact z218_); (case side9 => exact z218_); (case side10 => exact z218_); (case side11 => exact z218_); rintro e w' ⟨rfl, ⟨nd, rfl⟩⟩; (try first | exact ⟨rfl, _, World.drewN_drewN _ _ _⟩ | exact ⟨rfl, _, Eq.trans (World.drewN_drewN _ _ _) (congrArg (World.drewN _) (Nat.add_assoc _ _ _))⟩))))); (try go_wp2_with (first | (go_at_call 92; (with_reducible refine (X48.calls gr0 A0_0 c0_0 l0_0 (some ad149) c0_1 l0_1 _ (X1 l0_1 x4_3).f0 (X1 l0_1 x4_3).f1 (X1 l0_1 x4_3).f2 (X1 l0_1 x4_3).f3 (X1 l0_1 x4_3).f4 (X1 l0_1 x4_3).f5 true _ ?side1 ?side2 ?side3 ?side4 ?side5 ?side6 ?side7 ?side8 ?side9 ?side10 ?side11 A18.out).mono ?_); (case side1 => exact (z5_)); (case side2 => exact z220_); (case side3 => exact HC0_0.out); (case side4 => exact z221_); (case side5 => exact HC0_1.out); (case side6 => exact z218_); (case side7 => exact z218_); (case side8 => exact z218_); (case side9 => exact z218_); (case side10 => exact z218_); (case side11 => exact z218_); rintro e w' ⟨rfl, ⟨nd, rfl⟩⟩; (try first | exact ⟨rfl, _, World.drewN_drewN _ _ _⟩ | exact ⟨rfl, _, Eq.trans (World.drewN_drewN _ _ _) (congrArg (World.drewN _) (Nat.add_assoc _ _ _))⟩); obtain ⟨p151,q151,ad151,e151,hx151_0,hx151_1,hx151_2,hx151_3,hx151_4,hx151_5⟩ := aq_ (X25 HR0_1.out (ji21)) z0_ z0_;obtain rfl : ad149 = ad151 := (by injection e151); obtain ⟨p152,q152,ad152,e152,hx152_0,hx152_1,hx152_2,hx152_3,hx152_4,hx152_5⟩ := aq_ (X25 HR0_1.out x4_3) z0_ z0_;obtain rfl : ad149 = ad152 := (by injection e152)))))
             go_ret;exact ⟨by first | rfl | (simp; done) | (simp only [← hji21] <;> (first | rfl | simp)) | (simp [*]; done), z10_⟩
           ·(rw [if_neg c20] at H);have c20b0 : decide (0 < x4_3) = false := decide_eq_false c20;clear c20;have H' := am_ H;clear H;obtain ⟨hcz27_0,hcz27_1,hfz27_0,hfz27_1⟩ := bz2_ w BK0.out;obtain ⟨p149,q149,ad149,e149,hx149_0,hx149_1,hx149_2,hx149_3,hx149_4,hx149_5⟩ := aq_ (X25 HR0_1.out x4_3) z0_ z0_;cases e149
            iterate 2 ((try go_quiet (first | (go_at_call 92; (with_reducible refine (X48.calls gr0 A0_0 c0_0 l0_0 (some ad149) c0_1 l0_1 _ (X1 l0_1 x4_3).f0 (X1 l0_1 x4_3).f1 (X1 l0_1 x4_3).f2 (X1 l0_1 x4_3).f3 (X1 l0_1 x4_3).f4 (X1 l0_1 x4_3).f5 true _ ?side1 ?side2 ?side3 ?side4 ?side5 ?side6 ?side7 ?side8 ?side9 ?side10 ?side11 A18.out).mono ?_); (case side1 => exact (z5_)); (case side2 => exact z220_); (case side3 => exact HC0_0.out); (case side4 => exact z221_); (case side5 => exact HC0_1.out); (case side6 => exact z218_); (case side7 => exact z218_); (case side8 => exact z218_); (case side9 => exact z218_); (case side10 => exact z218_); (case side11 => exact z218_); rintro e w' ⟨rfl, ⟨nd, rfl⟩⟩; (try first | exact ⟨rfl, _, World.drewN_drewN _ _ _⟩ | exact ⟨rfl, _, Eq.trans (World.drewN_drewN _ _ _) (congrArg (World.drewN _) (Nat.add_assoc _ _ _))⟩)))); (try go_wp2_with (first | (go_at_call 92; (with_reducible refine (X48.calls gr0 A0_0 c0_0 l0_0 (some ad149) c0_1 l0_1 _ (X1 l0_1 x4_3).f0 (X1 l0_1 x4_3).f1 (X1 l0_1 x4_3).f2 (X1 l0_1 x4_3).f3 (X1 l0_1 x4_3).f4 (X1 l0_1 x4_3).f5 true _ ?side1 ?side2 ?side3 ?side4 ?side5 ?side6 ?side7 ?side8 ?side9 ?side10 ?side11 A18.out).mono ?_); (case side1 => exact (z5_)); (case side2 => exact z220_); (case side3 => exact HC0_0.out); (case side4 => exact z221_); (case side5 => exact HC0_1.out); (case side6 => exact z218_); (case side7 => exact z218_); (case side8 => exact z218_); (case side9 => exact z218_); (case side10 => exact z218_); (case side11 => exact z218_); rintro e w' ⟨rfl, ⟨nd, rfl⟩⟩; (try first | exact ⟨rfl, _, World.drewN_drewN _ _ _⟩ | exact ⟨rfl, _, Eq.trans (World.drewN_drewN _ _ _) (congrArg (World.drewN _) (Nat.add_assoc _ _ _))⟩)))))
            go_roundg k3
            case measure => have := HK1.out; have := HJ7.out; have := HK3.out; omega
            case rel => exact ⟨(wrap64 (x4_3 + 1)), (z8_), H', ⟨by have := HK1.out; have := HJ7.out; have := HK3.out; omega⟩, ⟨z5_⟩, z10_⟩
          ·replace c19 := Bool.eq_false_iff.mpr c19;subst c19;(rw [if_neg (show ¬ (false = true) by decide)] at H);obtain rfl := Option.some.inj H;obtain ⟨hcz28_0,hcz28_1,hfz28_0,hfz28_1⟩ := bz2_ w BK0.out;obtain ⟨p149,q149,ad149,e149,hx149_0,hx149_1,hx149_2,hx149_3,hx149_4,hx149_5⟩ := aq_ (X25 HR0_1.out x4_3) z0_ z0_;cases e149
           iterate 2 ((try go_quiet (first | (go_at_call 92; (with_reducible refine (X48.calls gr0 A0_0 c0_0 l0_0 (some ad149) c0_1 l0_1 _ (X1 l0_1 x4_3).f0 (X1 l0_1 x4_3).f1 (X1 l0_1 x4_3).f2 (X1 l0_1 x4_3).f3 (X1 l0_1 x4_3).f4 (X1 l0_1 x4_3).f5 false _ ?side1 ?side2 ?side3 ?side4 ?side5 ?side6 ?side7 ?side8 ?side9 ?side10 ?side11 A18.out).mono ?_); (case side1 => exact (z5_)); (case side2 => exact z220_); (case side3 => exact HC0_0.out); (case side4 => exact z221_); (case side5 => exact HC0_1.out); (case side6 => exact z218_); (case side7 => exact z218_); (case side8 => exact z218_); (case side9 => exact z218_); (case side10 => exact z218_); (case side11 => exact z218_); rintro e w' ⟨rfl, ⟨nd, rfl⟩⟩; (try first | exact ⟨rfl, _, World.drewN_drewN _ _ _⟩ | exact ⟨rfl, _, Eq.trans (World.drewN_drewN _ _ _) (congrArg (World.drewN _) (Nat.add_assoc _ _ _))⟩)))); (try go_wp2_with (first | (go_at_call 92; (with_reducible refine (X48.calls gr0 A0_0 c0_0 l0_0 (some ad149) c0_1 l0_1 _ (X1 l0_1 x4_3).f0 (X1 l0_1 x4_3).f1 (X1 l0_1 x4_3).f2 (X1 l0_1 x4_3).f3 (X1 l0_1 x4_3).f4 (X1 l0_1 x4_3).f5 false _ ?side1 ?side2 ?side3 ?side4 ?side5 ?side6 ?side7 ?side8 ?side9 ?side10 ?side11 A18.out).mono ?_); (case side1 => exact (z5_)); (case side2 => exact z220_); (case side3 => exact HC0_0.out); (case side4 => exact z221_); (case side5 => exact HC0_1.out); (case side6 => exact z218_); (case side7 => exact z218_); (case side8 => exact z218_); (case side9 => exact z218_); (case side10 => exact z218_); (case side11 => exact z218_); rintro e w' ⟨rfl, ⟨nd, rfl⟩⟩; (try first | exact ⟨rfl, _, World.drewN_drewN _ _ _⟩ | exact ⟨rfl, _, Eq.trans (World.drewN_drewN _ _ _) (congrArg (World.drewN _) (Nat.add_assoc _ _ _))⟩)))))
           go_ret;exact ⟨z8_, z10_⟩
         ·(rw [if_neg c16] at H);have c16b0 := decide_eq_false c16;clear c16;obtain rfl := Option.some.inj H;obtain ⟨hcz29_0,hcz29_1,hfz29_0,hfz29_1⟩ := bz2_ w BK0.out;go_wp2
          repeat (go_quiet (fail); try go_wp2)
          go_ret;exact ⟨z8_, z10_⟩

open Go.Proofs.YtnmdcmfhjhgheaaM
/-- What is asked of the i-th pipe. -/
def stepOk (n : Nat) (ps : List S73) (i : Nat) : Bool := fitsOk n (ps.getD i z73) && (decide (i = 0) || Op.bytesLess (ps.getD (i - 1) z73).f0.toList (ps.getD i z73).f0.toList)
def stepsFrom (n : Nat) (ps : List S73) : Nat → Nat → Bool
  | 0, _ => true
  | d + 1, i => stepOk n ps i && stepsFrom n ps d (i + 1)
theorem steps_at (n : Nat) (ps : List S73) : ∀ (d i : Nat), stepsFrom n ps d i = true → ∀ j, i ≤ j → j < i + d → stepOk n ps j = true := by
  intro d
  induction d with
  | zero => intro i _ j h1 h2; omega
  | succ d ih =>
    intro i h j h1 h2
    simp only [stepsFrom, Bool.and_eq_true] at h
    by_cases e : j = i
    · rw [e]; exact h.1
    · exact ih (i + 1) h.2 j (by omega) (by omega)
def nodesOk (ns : List Int) : Bool := ns.all fun x => decide (-100000 ≤ x ∧ x ≤ 100000)
def tailOk (n : Nat) (ps : List S73) : Bool := decide (1 ≤ n) && (decide (n ≤ 16) && (decide (ps.length ≤ 20) && stepsFrom n ps ps.length 0))
/-- When a network is valid. -/
def netOk (ns : List Int) (ps : List S73) : Bool := nodesOk ns && tailOk ns.length ps
theorem netOk_parts {ns : List Int} {ps : List S73} (h : netOk ns ps = true) : (1 ≤ ns.length ∧ ns.length ≤ 16) ∧ ps.length ≤ 20 ∧ (∀ j, j < ps.length → stepOk ns.length ps j = true) ∧ nodesOk ns = true := by
  unfold netOk tailOk at h
  simp only [Bool.and_eq_true, decide_eq_true_eq] at h
  exact ⟨⟨h.2.1, h.2.2.1⟩, h.2.2.2.1, fun j hj => steps_at _ ps _ 0 h.2.2.2.2 j (by omega) (by omega), h.1⟩
theorem netOk_pipe {ns : List Int} {ps : List S73} (h : netOk ns ps = true) (j : Nat) (hj : j < ps.length) : pipeOk (ps.getD j z73).f0 (ps.getD j z73).f1 (ps.getD j z73).f2 (ps.getD j z73).f3 (ps.getD j z73).f4 (ps.getD j z73).f5 = true ∧ (0 ≤ (ps.getD j z73).f1 ∧ (ps.getD j z73).f1 < ns.length) ∧ (0 ≤ (ps.getD j z73).f2 ∧ (ps.getD j z73).f2 < ns.length) ∧ (ps.getD j z73).f1 ≠ (ps.getD j z73).f2 := by
  have hs := (netOk_parts h).2.2.1 j hj
  unfold stepOk fitsOk at hs
  simp only [Bool.and_eq_true, decide_eq_true_eq] at hs
  have hr := pipeOk_range hs.1.1
  exact ⟨hs.1.1, ⟨hr.1.1, hs.1.2.1⟩, ⟨hr.2.1.1, hs.1.2.2⟩, hr.2.2.1⟩
theorem rdP_ok (c : List S73) (i : Nat) : X1 c (i : Int) = c.getD i z73 := by unfold X1; rw [Int.toNat_natCast]
theorem fits_f (ns : List Int) (ps : List S73) (p : S73) (h : p.f0.size ≤ 9000000000000000000) : X48.f ns ps p.f0 p.f1 p.f2 p.f3 p.f4 p.f5 = some (fitsOk ns.length p) := by
  unfold X48.f; rw [if_pos h]
def X70.f (l0_0 : List Int) (l0_1 : List S73) : Option Bool := if l0_0.length ≤ 4611686018427387904 ∧ (∀ p ∈ l0_1, p.f0.size ≤ 9000000000000000000) then some (netOk l0_0 l0_1) else none
theorem okP_loop (ns : List Int) (ps : List S73) (hp : ps.length ≤ 20) (hs : ∀ p ∈ ps, p.f0.size ≤ 9000000000000000000) : ∀ (d k i : Nat), i ≤ ps.length → ps.length - i = d → d < k → X17.l1 k (i : Int) ns ps = some (stepsFrom ns.length ps d i) := by
  intro d
  induction d with
  | zero =>
    intro k i h1 hd hk
    obtain ⟨k, rfl⟩ : ∃ m, k = m + 1 := ⟨k - 1, by omega⟩
    simp only [X17.l1]; rw [if_neg (by omega)]; rfl
  | succ d ih =>
    intro k i h1 hd hk
    obtain ⟨k, rfl⟩ : ∃ m, k = m + 1 := ⟨k - 1, by omega⟩
    simp only [X17.l1]
    have hm := hs _ (getD_mem z73 (show i < ps.length by omega))
    have e : stepsFrom ns.length ps (d + 1) i = (stepOk ns.length ps i && stepsFrom ns.length ps d (i + 1)) := rfl
    rw [if_pos (by omega), if_pos (by omega), rdP_ok, fits_f ns ps _ hm, e, w64 (x := (i : Int) + 1) (by omega) (by omega), show (i : Int) + 1 = ((i + 1 : Nat) : Int) by omega, ih k (i + 1) (by omega) (by omega) (by omega)]
    simp only [Option.bind_some]
    unfold stepOk
    cases hf : fitsOk ns.length (ps.getD i z73)
    · simp
    · by_cases h0 : i = 0
      · subst h0; simp
      · have e1 : wrap64 ((i : Int) - 1) = ((i - 1 : Nat) : Int) := by rw [w64 (by omega) (by omega)]; omega
        rw [if_pos rfl, if_pos (by omega), e1, if_pos (by omega), if_pos (by omega), rdP_ok, decide_eq_false h0]
        cases Op.bytesLess (ps.getD (i - 1) z73).f0.toList (ps.getD i z73).f0.toList <;> simp
theorem okN_loop (ns : List Int) (ps : List S73) (hn : ns.length ≤ 4611686018427387904) (hs : ∀ p ∈ ps, p.f0.size ≤ 9000000000000000000) : ∀ (d k i : Nat), i ≤ ns.length → ns.length - i = d → d + 25 ≤ k → X17.l0 k (i : Int) ns ps = some ((ns.drop i).all (fun x => decide (-100000 ≤ x ∧ x ≤ 100000)) && tailOk ns.length ps) := by
  intro d
  induction d with
  | zero =>
    intro k i h1 hd hk
    obtain ⟨k, rfl⟩ : ∃ m, k = m + 1 + 1 := ⟨k - 2, by omega⟩
    simp only [X17.l0]
    rw [if_neg (by omega), List.drop_of_length_le (by omega)]
    unfold tailOk
    simp only [X17.j1, List.all_nil, Bool.true_and]
    by_cases c1 : (ns.length : Int) < 1
    · rw [if_pos c1, decide_eq_false (show ¬ 1 ≤ ns.length by omega)]; simp
    · rw [if_neg c1, decide_eq_true (show 1 ≤ ns.length by omega)]
      by_cases c2 : (ns.length : Int) > 16
      · rw [if_pos c2, decide_eq_false (show ¬ ns.length ≤ 16 by omega)]; simp
      · rw [if_neg c2, decide_eq_true (show ns.length ≤ 16 by omega)]
        by_cases c3 : (ps.length : Int) > 20
        · rw [decide_eq_true c3, decide_eq_false (show ¬ ps.length ≤ 20 by omega)]; simp
        · rw [decide_eq_false c3, decide_eq_true (show ps.length ≤ 20 by omega)]
          have := okP_loop ns ps (by omega) hs ps.length k 0 (by omega) (by omega) (by omega)
          simpa using this
  | succ d ih =>
    intro k i h1 hd hk
    obtain ⟨k, rfl⟩ : ∃ m, k = m + 1 := ⟨k - 1, by omega⟩
    simp only [X17.l0]
    have hi : i < ns.length := by omega
    have e1 : rd ns (i : Int) = ns[i]'(by omega) := by unfold rd; rw [Int.toNat_natCast, List.getD_eq_getElem?_getD, List.getElem?_eq_getElem (by omega)]; rfl
    rw [if_pos (by omega), if_pos (by omega), e1, w64 (x := (i : Int) + 1) (by omega) (by omega), show (i : Int) + 1 = ((i + 1 : Nat) : Int) by omega, ih k (i + 1) (by omega) (by omega) (by omega), List.drop_eq_getElem_cons hi]
    unfold X46.f
    simp only [Option.bind_some, List.all_cons]
    cases decide (-100000 ≤ ns[i] ∧ ns[i] ≤ 100000) <;> simp
theorem X70.same (ns : List Int) (ps : List S73) (h : ns.length ≤ 4611686018427387904 ∧ ∀ p ∈ ps, p.f0.size ≤ 9000000000000000000) : X17.f (ns.length + 25) ns ps = some (netOk ns ps) := by
  unfold X17.f netOk nodesOk
  have := okN_loop ns ps h.1 h.2 ns.length (ns.length + 25) 0 (by omega) (by omega) (by omega)
  simpa using this
theorem X70.calls (gr0 : Nat) (A0_0 : Option Addr) (c0_0 : Nat) (l0_0 : List Int) (A0_1 : Option Addr) (c0_1 : Nat) (l0_1 : List (S73)) (r : Bool) (w : World) (hb0 : w.heap[gr0]? = some (.cells #[.slice A0_0 l0_0.length c0_0, .slice A0_1 l0_1.length c0_1] 31 (0, 0))) (hr0_0 : Kd.C (Kd.int .i64) w A0_0 l0_0.length l0_0) (hc0_0 : l0_0.length ≤ c0_0) (hr0_1 : Kd.C k73 w A0_1 l0_1.length l0_1) (hc0_1 : l0_1.length ≤ c0_1) (h : X70.f l0_0 l0_1 = some r) :
    Calls Try.prog 77 #[.pointer (some ⟨gr0, 0, none⟩)] w fun e w' => e = .returned (.bool r) ∧ Drawn0 w w' := by
  unfold X70.f at h
  split at h
  · rename_i hs
    exact X17.calls (l0_0.length + 25) gr0 A0_0 c0_0 l0_0 A0_1 c0_1 l0_1 r w hb0 hr0_0 hc0_0 hr0_1 hc0_1 (by rw [← h]; exact X70.same l0_0 l0_1 hs)
  · exact absurd h (by simp)


def X82.f (l0_0 : List Int) (l0_1 : List (S73)) (a1 : Int) : Option (Bool) := (X46.f a1 0 (wrap64 ((l0_0.length : Int) - 1))).bind fun t153 => (some t153)
set_option maxHeartbeats 8000000 in
set_option maxRecDepth 100000 in
theorem X82.calls (gr0 : Nat) (A0_0 : Option Addr) (c0_0 : Nat) (l0_0 : List Int) (A0_1 : Option Addr) (c0_1 : Nat) (l0_1 : List (S73)) (a1 : Int) (r : Bool) (w : World) (hb0 : w.heap[gr0]? = some (.cells #[.slice A0_0 l0_0.length c0_0, .slice A0_1 l0_1.length c0_1] 31 (0, 0))) (hr0_0 : Kd.C (Kd.int .i64) w A0_0 l0_0.length l0_0) (hc0_0 : l0_0.length ≤ c0_0) (hr0_1 : Kd.C k73 w A0_1 l0_1.length l0_1) (hc0_1 : l0_1.length ≤ c0_1) (h : X82.f l0_0 l0_1 a1 = some r) :
  Calls Try.prog 78 #[.pointer (some ⟨gr0, 0, none⟩), .int .i64 a1] w fun e w' => e = .returned (.bool r) ∧ Drawn0 w w' := by
 have HR0_0 := am_ hr0_0
 have HC0_0 := am_ hc0_0
 clear hr0_0 hc0_0
 have HR0_1 := am_ hr0_1
 have HC0_1 := am_ hc0_1
 clear hr0_1 hc0_1
 have BK0 := am_ hb0
 clear hb0
 unfold X82.f at h;have H := h;clear h
 obtain ⟨t153, A30, H⟩ := ob_ H
 have A3 := am_ A30
 clear A30
 obtain rfl := Option.some.inj H
 have hcz4_0 := bc0_ w BK0.out
 have hcz4_1 := bc1_ w BK0.out
 have hfz4_0 := blk_frozen BK0.out 0
 have hfz4_1 := blk_frozen BK0.out 1
 go_enter Try.func78, Try.ntmps78
 go_wp2_with (first | ((with_reducible refine gate_callee (f := 79) rfl ?_); refine goesL_ (some 12) rfl rfl Try.func79 (z13_) rfl #[.int .i64 a1, .int .i64 0, .int .i64 (wrap64 ((l0_0.length : Int) - 1))] rfl (z1_) ?_; (with_reducible refine (X46.calls a1 0 (wrap64 ((l0_0.length : Int) - 1)) t153 _ A3.out).mono ?_); rintro e w' ⟨rfl, ⟨nd, rfl⟩⟩; refine ⟨_, rfl, ?_⟩))
 go_ret
 exact ⟨z8_, z10_⟩

open Go.Proofs.YtnmdcmfhjhgheaaM
def X66.f (l0_0 : List Int) (l0_1 : List S73) (a1 : Int) : Option Bool := if l0_0.length ≤ 4611686018427387904 then some (decide (0 ≤ a1 ∧ a1 ≤ (l0_0.length : Int) - 1)) else none
theorem X66.same (ns : List Int) (ps : List S73) (x : Int) (h : ns.length ≤ 4611686018427387904) : X82.f ns ps x = some (decide (0 ≤ x ∧ x ≤ (ns.length : Int) - 1)) := by
  unfold X82.f X46.f
  rw [w64 (x := (ns.length : Int) - 1) (by omega) (by omega)]; rfl
theorem X66.calls (gr0 : Nat) (A0_0 : Option Addr) (c0_0 : Nat) (l0_0 : List Int) (A0_1 : Option Addr) (c0_1 : Nat) (l0_1 : List (S73)) (a1 : Int) (r : Bool) (w : World) (hb0 : w.heap[gr0]? = some (.cells #[.slice A0_0 l0_0.length c0_0, .slice A0_1 l0_1.length c0_1] 31 (0, 0))) (hr0_0 : Kd.C (Kd.int .i64) w A0_0 l0_0.length l0_0) (hc0_0 : l0_0.length ≤ c0_0) (hr0_1 : Kd.C k73 w A0_1 l0_1.length l0_1) (hc0_1 : l0_1.length ≤ c0_1) (h : X66.f l0_0 l0_1 a1 = some r) :
    Calls Try.prog 78 #[.pointer (some ⟨gr0, 0, none⟩), .int .i64 a1] w fun e w' => e = .returned (.bool r) ∧ Drawn0 w w' := by
  unfold X66.f at h
  split at h
  · rename_i hs
    exact X82.calls gr0 A0_0 c0_0 l0_0 A0_1 c0_1 l0_1 a1 r w hb0 hr0_0 hc0_0 hr0_1 hc0_1 (by rw [← h]; exact X66.same l0_0 l0_1 a1 hs)
  · exact absurd h (by simp)


def X85.f (l0_0 : List Int) (l0_1 : List (S73)) (a1 : Int) : Option (Int) := (X70.f l0_0 l0_1).bind fun t154 => (if t154 = true then ((X66.f l0_0 l0_1 a1).bind fun t155 => (if t155 = true then (some 0) else (some 2))) else (some 1))
set_option maxHeartbeats 8000000 in
set_option maxRecDepth 100000 in
theorem X85.calls (gr0 : Nat) (A0_0 : Option Addr) (c0_0 : Nat) (l0_0 : List Int) (A0_1 : Option Addr) (c0_1 : Nat) (l0_1 : List (S73)) (a1 : Int) (r : Int) (w : World) (hb0 : w.heap[gr0]? = some (.cells #[.slice A0_0 l0_0.length c0_0, .slice A0_1 l0_1.length c0_1] 31 (0, 0))) (hr0_0 : Kd.C (Kd.int .i64) w A0_0 l0_0.length l0_0) (hc0_0 : l0_0.length ≤ c0_0) (hr0_1 : Kd.C k73 w A0_1 l0_1.length l0_1) (hc0_1 : l0_1.length ≤ c0_1) (h : X85.f l0_0 l0_1 a1 = some r) :
  Calls Try.prog 43 #[.pointer (some ⟨gr0, 0, none⟩), .int .i64 a1] w fun e w' => e = .returned (.int .i64 r) ∧ Drawn0 w w' := by
 have HR0_0 := am_ hr0_0
 have HC0_0 := am_ hc0_0
 clear hr0_0 hc0_0
 have HR0_1 := am_ hr0_1
 have HC0_1 := am_ hc0_1
 clear hr0_1 hc0_1
 have BK0 := am_ hb0
 clear hb0
 unfold X85.f at h;have H := h;clear h
 obtain ⟨t154, A30, H⟩ := ob_ H
 have A3 := am_ A30
 clear A30
 by_cases c4 : t154 = true
 ·subst c4;(rw [if_pos rfl] at H);obtain ⟨t155, A50, H⟩ := ob_ H;have A5 := am_ A50;clear A50;by_cases c6 : t155 = true
  ·subst c6;(rw [if_pos rfl] at H);obtain rfl := Option.some.inj H;go_enter Try.func43, Try.ntmps43
   go_wp2_with (first | ((with_reducible refine gate_callee (f := 77) rfl ?_); refine goesL_ (some 6) rfl rfl Try.func77 (z13_) rfl #[.pointer (some ⟨gr0, 0, none⟩)] rfl (z1_) ?_; (with_reducible refine (X70.calls gr0 A0_0 c0_0 l0_0 A0_1 c0_1 l0_1 true _ ?side1 ?side2 ?side3 ?side4 ?side5 A3.out).mono ?_); (case side1 => exact (z5_)); (case side2 => exact z220_); (case side3 => exact HC0_0.out); (case side4 => exact z221_); (case side5 => exact HC0_1.out); rintro e w' ⟨rfl, ⟨nd, rfl⟩⟩; refine ⟨_, rfl, ?_⟩) | ((with_reducible refine gate_callee (f := 78) rfl ?_); refine goesL_ (some 10) rfl rfl Try.func78 (z13_) rfl #[.pointer (some ⟨gr0, 0, none⟩), .int .i64 a1] rfl (z1_) ?_; (with_reducible refine (X66.calls gr0 A0_0 c0_0 l0_0 A0_1 c0_1 l0_1 a1 true _ ?side1 ?side2 ?side3 ?side4 ?side5 A5.out).mono ?_); (case side1 => exact (z5_)); (case side2 => exact z220_); (case side3 => exact HC0_0.out); (case side4 => exact z221_); (case side5 => exact HC0_1.out); rintro e w' ⟨rfl, ⟨nd, rfl⟩⟩; refine ⟨_, rfl, ?_⟩))
   go_ret;exact ⟨z8_, z10_⟩
  ·replace c6 := Bool.eq_false_iff.mpr c6;subst c6;(rw [if_neg (show ¬ (false = true) by decide)] at H);obtain rfl := Option.some.inj H;go_enter Try.func43, Try.ntmps43
   go_wp2_with (first | ((with_reducible refine gate_callee (f := 77) rfl ?_); refine goesL_ (some 6) rfl rfl Try.func77 (z13_) rfl #[.pointer (some ⟨gr0, 0, none⟩)] rfl (z1_) ?_; (with_reducible refine (X70.calls gr0 A0_0 c0_0 l0_0 A0_1 c0_1 l0_1 true _ ?side1 ?side2 ?side3 ?side4 ?side5 A3.out).mono ?_); (case side1 => exact (z5_)); (case side2 => exact z220_); (case side3 => exact HC0_0.out); (case side4 => exact z221_); (case side5 => exact HC0_1.out); rintro e w' ⟨rfl, ⟨nd, rfl⟩⟩; refine ⟨_, rfl, ?_⟩) | ((with_reducible refine gate_callee (f := 78) rfl ?_); refine goesL_ (some 10) rfl rfl Try.func78 (z13_) rfl #[.pointer (some ⟨gr0, 0, none⟩), .int .i64 a1] rfl (z1_) ?_; (with_reducible refine (X66.calls gr0 A0_0 c0_0 l0_0 A0_1 c0_1 l0_1 a1 false _ ?side1 ?side2 ?side3 ?side4 ?side5 A5.out).mono ?_); (case side1 => exact (z5_)); (case side2 => exact z220_); (case side3 => exact HC0_0.out); (case side4 => exact z221_); (case side5 => exact HC0_1.out); rintro e w' ⟨rfl, ⟨nd, rfl⟩⟩; refine ⟨_, rfl, ?_⟩))
   go_ret;exact ⟨z8_, z10_⟩
 ·replace c4 := Bool.eq_false_iff.mpr c4;subst c4;(rw [if_neg (show ¬ (false = true) by decide)] at H);obtain rfl := Option.some.inj H;go_enter Try.func43, Try.ntmps43
  go_wp2_with (first | ((with_reducible refine gate_callee (f := 77) rfl ?_); refine goesL_ (some 6) rfl rfl Try.func77 (z13_) rfl #[.pointer (some ⟨gr0, 0, none⟩)] rfl (z1_) ?_; (with_reducible refine (X70.calls gr0 A0_0 c0_0 l0_0 A0_1 c0_1 l0_1 false _ ?side1 ?side2 ?side3 ?side4 ?side5 A3.out).mono ?_); (case side1 => exact (z5_)); (case side2 => exact z220_); (case side3 => exact HC0_0.out); (case side4 => exact z221_); (case side5 => exact HC0_1.out); rintro e w' ⟨rfl, ⟨nd, rfl⟩⟩; refine ⟨_, rfl, ?_⟩))
  go_ret;exact ⟨z8_, z10_⟩

open Go.Proofs.YtnmdcmfhjhgheaaM
def askN (ns : List Int) (ps : List S73) (x : Int) : Int := if netOk ns ps = true then (if 0 ≤ x ∧ x ≤ (ns.length : Int) - 1 then 0 else 2) else 1
def X34.f (l0_0 : List Int) (l0_1 : List S73) (a1 : Int) : Option Int := if l0_0.length ≤ 4611686018427387904 ∧ (∀ p ∈ l0_1, p.f0.size ≤ 9000000000000000000) then some (askN l0_0 l0_1 a1) else none
theorem X34.same (ns : List Int) (ps : List S73) (x : Int) (h : ns.length ≤ 4611686018427387904 ∧ ∀ p ∈ ps, p.f0.size ≤ 9000000000000000000) : X85.f ns ps x = some (askN ns ps x) := by
  have ha : X70.f ns ps = some (netOk ns ps) := by unfold X70.f; rw [if_pos h]
  have hn : X66.f ns ps x = some (decide (0 ≤ x ∧ x ≤ (ns.length : Int) - 1)) := by unfold X66.f; rw [if_pos h.1]
  unfold X85.f askN
  rw [ha, hn]
  simp only [Option.bind_some]
  by_cases c : netOk ns ps = true
  · rw [if_pos c, if_pos c]
    by_cases c2 : 0 ≤ x ∧ x ≤ (ns.length : Int) - 1
    · rw [if_pos (decide_eq_true c2), if_pos c2]
    · rw [if_neg (by rw [decide_eq_false c2]; simp), if_neg c2]
  · rw [if_neg c, if_neg c]
theorem X34.calls (gr0 : Nat) (A0_0 : Option Addr) (c0_0 : Nat) (l0_0 : List Int) (A0_1 : Option Addr) (c0_1 : Nat) (l0_1 : List (S73)) (a1 : Int) (r : Int) (w : World) (hb0 : w.heap[gr0]? = some (.cells #[.slice A0_0 l0_0.length c0_0, .slice A0_1 l0_1.length c0_1] 31 (0, 0))) (hr0_0 : Kd.C (Kd.int .i64) w A0_0 l0_0.length l0_0) (hc0_0 : l0_0.length ≤ c0_0) (hr0_1 : Kd.C k73 w A0_1 l0_1.length l0_1) (hc0_1 : l0_1.length ≤ c0_1) (h : X34.f l0_0 l0_1 a1 = some r) :
    Calls Try.prog 43 #[.pointer (some ⟨gr0, 0, none⟩), .int .i64 a1] w fun e w' => e = .returned (.int .i64 r) ∧ Drawn0 w w' := by
  unfold X34.f at h
  split at h
  · rename_i hs
    exact X85.calls gr0 A0_0 c0_0 l0_0 A0_1 c0_1 l0_1 a1 r w hb0 hr0_0 hc0_0 hr0_1 hc0_1 (by rw [← h]; exact X34.same l0_0 l0_1 a1 hs)
  · exact absurd h (by simp)


def X23.l0 : Nat → List Int → Int → List Int → List (S73) → Option (Bool)
 | 0, _, _, _, _ => none
 | k + 1, x1, x5, x1000, x1001 => if x5 < (x1.length : Int) then (if 0 ≤ x5 then ((X46.f (rd x1 x5) 0 100000).bind fun t157 => (if t157 = true then (X23.l0 k x1 (wrap64 (x5 + 1)) x1000 x1001) else (some false))) else (none)) else (some ((x1.length : Int) == (x1000.length : Int)))
def X23.f (k : Nat) (l0_0 : List Int) (l0_1 : List (S73)) (l1 : List Int) : Option (Bool) := X23.l0 k l1 0 l0_0 l0_1
theorem X23.mono_l : ∀ k, (∀ y0 y1 y2 y3, LeO (X23.l0 k y0 y1 y2 y3) (X23.l0 (k + 1) y0 y1 y2 y3))
 | 0 => fun _ _ _ _ r h => by simp [X23.l0] at h
 | k + 1 => by
  have ih0 := X23.mono_l k
  ·intro y0 y1 y2 y3
   unfold X23.l0
   exact z247_
theorem X23.mono : ∀ a0 a1 a2 k, LeO (X23.f k a0 a1 a2) (X23.f (k + 1) a0 a1 a2) := by
 intro a0 a1 a2 k
 have ih0 := X23.mono_l k
 unfold X23.f
 exact z247_
set_option maxHeartbeats 8000000 in
set_option maxRecDepth 100000 in
theorem X23.calls (k : Nat) (gr0 : Nat) (A0_0 : Option Addr) (c0_0 : Nat) (l0_0 : List Int) (A0_1 : Option Addr) (c0_1 : Nat) (l0_1 : List (S73)) (A1 : Option Addr) (c1 : Nat) (l1 : List Int) (r : Bool) (w : World) (hb0 : w.heap[gr0]? = some (.cells #[.slice A0_0 l0_0.length c0_0, .slice A0_1 l0_1.length c0_1] 31 (0, 0))) (hr0_0 : Kd.C (Kd.int .i64) w A0_0 l0_0.length l0_0) (hc0_0 : l0_0.length ≤ c0_0) (hr0_1 : Kd.C k73 w A0_1 l0_1.length l0_1) (hc0_1 : l0_1.length ≤ c0_1) (hr1 : Kd.C (Kd.int .i64) w A1 l1.length l1) (hc1 : l1.length ≤ c1) (h : X23.f k l0_0 l0_1 l1 = some r) :
  Calls Try.prog 49 #[.pointer (some ⟨gr0, 0, none⟩), .slice A1 l1.length c1] w fun e w' => e = .returned (.bool r) ∧ Drawn0 w w' := by
 have HR0_0 := am_ hr0_0
 have HC0_0 := am_ hc0_0
 clear hr0_0 hc0_0
 have HR0_1 := am_ hr0_1
 have HC0_1 := am_ hc0_1
 clear hr0_1 hc0_1
 have HR1 := am_ hr1
 have HC1 := am_ hc1
 clear hr1 hc1
 have BK0 := am_ hb0
 clear hb0
 unfold X23.f at h;have H := h;clear h
 have H' := am_ H
 clear H
 go_enter Try.func49, Try.ntmps49
 go_wp2
 go_loopg [5] k (fun kq v5 w' => ∃ (x5_1 : Int), v5 = .int .i64 x5_1 ∧ Aside0 (X23.l0 kq l1 x5_1 l0_0 l0_1 = some r) ∧ Aside0 (kq ≤ k) ∧ Aside0 (w'.heap[gr0]? = some (.cells #[(.slice A0_0 l0_0.length c0_0), (.slice A0_1 l0_1.length c0_1)] 31 (0, 0))) ∧ Drawn0 w w')
 case atStart => exact ⟨(0), (z8_), H', ⟨Nat.le_refl _⟩, ⟨z5_⟩, z10_⟩
 case round =>
  clear H';(try clear c1);obtain ⟨x5_1, rfl, HA, HK1, BK0, ⟨m1, rfl⟩⟩ := hrel
  cases gk with
  | zero => exact absurd HA.out (by simp [X23.l0])
  | succ k1 =>
   have H := HA.out;clear HA;(simp only [X23.l0] at H);by_cases c3 : x5_1 < (l1.length : Int)
   ·(rw [if_pos c3] at H);have c3b0 := decide_eq_true c3;clear c3;obtain ⟨c4b0,H⟩ := pd_ H;obtain ⟨t157, A50, H⟩ := ob_ H;have A5 := am_ A50;clear A50;by_cases c6 : t157 = true
    ·subst c6;(rw [if_pos rfl] at H);have H' := am_ H;clear H;obtain ⟨p156,q156,ad156,e156,hx156_0⟩ := aq_ (Kd.at_int HR1.out x5_1) z0_ z0_;cases e156
     go_wp2_with (first | ((with_reducible refine gate_callee (f := 79) rfl ?_); refine goesL_ (some 16) rfl rfl Try.func79 (z13_) rfl #[.int .i64 (rd l1 x5_1), .int .i64 0, .int .i64 100000] rfl (z1_) ?_; (with_reducible refine (X46.calls (rd l1 x5_1) 0 100000 true _ A5.out).mono ?_); rintro e w' ⟨rfl, ⟨nd, rfl⟩⟩; refine ⟨_, rfl, ?_⟩))
     go_roundg k1
     case measure => have := HK1.out; omega
     case rel => exact ⟨(wrap64 (x5_1 + 1)), (z8_), H', ⟨z111_⟩, ⟨z5_⟩, z10_⟩
    ·replace c6 := Bool.eq_false_iff.mpr c6;subst c6;(rw [if_neg (show ¬ (false = true) by decide)] at H);obtain rfl := Option.some.inj H;obtain ⟨p156,q156,ad156,e156,hx156_0⟩ := aq_ (Kd.at_int HR1.out x5_1) z0_ z0_;cases e156
     go_wp2_with (first | ((with_reducible refine gate_callee (f := 79) rfl ?_); refine goesL_ (some 16) rfl rfl Try.func79 (z13_) rfl #[.int .i64 (rd l1 x5_1), .int .i64 0, .int .i64 100000] rfl (z1_) ?_; (with_reducible refine (X46.calls (rd l1 x5_1) 0 100000 false _ A5.out).mono ?_); rintro e w' ⟨rfl, ⟨nd, rfl⟩⟩; refine ⟨_, rfl, ?_⟩))
     go_ret;exact ⟨z8_, z10_⟩
   ·(rw [if_neg c3] at H);have c3b0 := decide_eq_false c3;clear c3;obtain rfl := Option.some.inj H;obtain ⟨hcz7_0,hcz7_1,hfz7_0,hfz7_1⟩ := bz2_ w BK0.out;go_wp2;go_ret;exact ⟨z8_, z10_⟩

end Go.Proofs.Ytnmdcmfhjhgheaa.PFnExactWorstNode
