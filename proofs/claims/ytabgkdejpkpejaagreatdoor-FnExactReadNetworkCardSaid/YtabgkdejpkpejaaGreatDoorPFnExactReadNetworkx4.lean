-- Printed by a program of this session (wip/hprint.sh: the kit's print with hand-proved contracts put in); not by print.sh itself.
import Derived.Test.YtabgkdejpkpejaaGreatDoorPFnExactReadNetworkx0
import Derived.Test.YtabgkdejpkpejaaGreatDoorPFnExactReadNetworkx1
import Derived.Test.YtabgkdejpkpejaaGreatDoorPFnExactReadNetworkx2
import Derived.Test.YtabgkdejpkpejaaGreatDoorPFnExactReadNetworkx3
namespace Go.Proofs.YtabgkdejpkpejaaGreatDoor.PFnExactReadNetwork
open Go.RowKit Go.Proofs.YtabgkdejpkpejaaGreatDoorW.PrintWords Go.Proofs.YtabgkdejpkpejaaGreatDoorW.PrintLast Go.Proofs.YtabgkdejpkpejaaGreatDoorW.PrintMore Go.Proofs.YtabgkdejpkpejaaGreatDoorM
attribute [local go_sem] max2_int min2_int max_two min_two max_three min_three max_four min_four   -- for this text's walks alone
set_option linter.unusedVariables false
set_option linter.unusedSimpArgs false

/-! ### spec_l04Ok: function 23 -/
mutual
def spec_l04Ok.l0 : Nat → Int → List Int → List (S36) → Option (Bool)
 | 0, _, _, _ => none
 | k + 1, x3, x1000, x1001 => if x3 < (x1000.length : Int) then (if 0 ≤ x3 then ((spec_l00In_.f (rd x1000 x3) (-100000) 100000).bind fun t148 => (if t148 = true then (spec_l04Ok.l0 k (wrap64 (x3 + 1)) x1000 x1001) else (some false))) else (none)) else (if (x1000.length : Int) < 1 then (spec_l04Ok.j1 k true x1000 x1001) else (if (x1000.length : Int) > 16 then (spec_l04Ok.j1 k true x1000 x1001) else (spec_l04Ok.j1 k (decide ((x1001.length : Int) > 20)) x1000 x1001)))
def spec_l04Ok.j1 : Nat → Bool → List Int → List (S36) → Option (Bool)
 | 0, _, _, _ => none
 | k + 1, x44, x1000, x1001 => if x44 = true then (some false) else (spec_l04Ok.l1 k 0 x1000 x1001)
def spec_l04Ok.l1 : Nat → Int → List Int → List (S36) → Option (Bool)
 | 0, _, _, _ => none
 | k + 1, x4, x1000, x1001 => if x4 < (x1001.length : Int) then (if 0 ≤ x4 then ((spec_l04Fits.f x1000 x1001 ((rd_T36 x1001 x4).f0) ((rd_T36 x1001 x4).f1) ((rd_T36 x1001 x4).f2) ((rd_T36 x1001 x4).f3) ((rd_T36 x1001 x4).f4) ((rd_T36 x1001 x4).f5)).bind fun t150 => (if t150 = true then (if x4 > 0 then (if 0 ≤ (wrap64 (x4 - 1)) then (if (wrap64 (x4 - 1)) < (x1001.length : Int) then (if ((Op.bytesLess (((rd_T36 x1001 (wrap64 (x4 - 1))).f0).toList) (((rd_T36 x1001 x4).f0).toList)) = true) then (spec_l04Ok.l1 k (wrap64 (x4 + 1)) x1000 x1001) else (some false)) else (none)) else (none)) else (spec_l04Ok.l1 k (wrap64 (x4 + 1)) x1000 x1001)) else (some false))) else (none)) else (some true)
end
def spec_l04Ok.f (k : Nat) (l0_0 : List Int) (l0_1 : List (S36)) : Option (Bool) := spec_l04Ok.l0 k 0 l0_0 l0_1
theorem spec_l04Ok.mono_l : ∀ k, (∀ y0 y1 y2, LeO (spec_l04Ok.l0 k y0 y1 y2) (spec_l04Ok.l0 (k + 1) y0 y1 y2)) ∧ (∀ y0 y1 y2, LeO (spec_l04Ok.j1 k y0 y1 y2) (spec_l04Ok.j1 (k + 1) y0 y1 y2)) ∧ (∀ y0 y1 y2, LeO (spec_l04Ok.l1 k y0 y1 y2) (spec_l04Ok.l1 (k + 1) y0 y1 y2))
 | 0 => ⟨fun _ _ _ r h => by simp [spec_l04Ok.l0] at h, fun _ _ _ r h => by simp [spec_l04Ok.j1] at h, fun _ _ _ r h => by simp [spec_l04Ok.l1] at h⟩
 | k + 1 => by
  obtain ⟨ih0, ih1, ih2⟩ := spec_l04Ok.mono_l k
  refine ⟨?_, ?_, ?_⟩
  ·intro y0 y1 y2
   unfold spec_l04Ok.l0
   repeat' first|(with_reducible first|exact ih0 _ _ _|exact ih1 _ _ _|exact ih2 _ _ _|exact LeO.refl _|exact LeO.none _|refine LeO.ite ?_ ?_|refine LeO.bind ?_ (fun _ => ?_))|exact ih0 _ _ _|exact ih1 _ _ _|exact ih2 _ _ _|exact LeO.none _|refine LeO.ite ?_ ?_|refine LeO.bind ?_ (fun _ => ?_)
  ·intro y0 y1 y2
   unfold spec_l04Ok.j1
   repeat' first|(with_reducible first|exact ih0 _ _ _|exact ih1 _ _ _|exact ih2 _ _ _|exact LeO.refl _|exact LeO.none _|refine LeO.ite ?_ ?_|refine LeO.bind ?_ (fun _ => ?_))|exact ih0 _ _ _|exact ih1 _ _ _|exact ih2 _ _ _|exact LeO.none _|refine LeO.ite ?_ ?_|refine LeO.bind ?_ (fun _ => ?_)
  ·intro y0 y1 y2
   unfold spec_l04Ok.l1
   repeat' first|(with_reducible first|exact ih0 _ _ _|exact ih1 _ _ _|exact ih2 _ _ _|exact LeO.refl _|exact LeO.none _|refine LeO.ite ?_ ?_|refine LeO.bind ?_ (fun _ => ?_))|exact ih0 _ _ _|exact ih1 _ _ _|exact ih2 _ _ _|exact LeO.none _|refine LeO.ite ?_ ?_|refine LeO.bind ?_ (fun _ => ?_)
theorem spec_l04Ok.mono : ∀ a0 a1 k, LeO (spec_l04Ok.f k a0 a1) (spec_l04Ok.f (k + 1) a0 a1) := by
 intro a0 a1 k
 obtain ⟨ih0, ih1, ih2⟩ := spec_l04Ok.mono_l k
 unfold spec_l04Ok.f
 repeat' first|(with_reducible first|exact ih0 _ _ _|exact ih1 _ _ _|exact ih2 _ _ _|exact LeO.refl _|exact LeO.none _|refine LeO.ite ?_ ?_|refine LeO.bind ?_ (fun _ => ?_))|exact ih0 _ _ _|exact ih1 _ _ _|exact ih2 _ _ _|exact LeO.none _|refine LeO.ite ?_ ?_|refine LeO.bind ?_ (fun _ => ?_)
set_option maxHeartbeats 8000000 in
set_option maxRecDepth 100000 in
theorem spec_l04Ok.calls (k : Nat) (gr0 : Nat) (A0_0 : Option Addr) (c0_0 : Nat) (l0_0 : List Int) (A0_1 : Option Addr) (c0_1 : Nat) (l0_1 : List (S36)) (r : Bool) (w : World) (hb0 : w.heap[gr0]? = some (.cells #[.slice A0_0 l0_0.length c0_0, .slice A0_1 l0_1.length c0_1] 25 (0, 0))) (hr0_0 : Kd.C (Kd.int .i64) w A0_0 l0_0.length l0_0) (hc0_0 : l0_0.length ≤ c0_0) (hr0_1 : Kd.C k36 w A0_1 l0_1.length l0_1) (hc0_1 : l0_1.length ≤ c0_1) (h : spec_l04Ok.f k l0_0 l0_1 = some r) :
  Calls Tryz.prog 23 #[.pointer (some ⟨gr0, 0, none⟩)] w fun e w' => e = .returned (.bool r) ∧ Drawn0 w w' := by
 have HR0_0 := Aside0.mk hr0_0
 have HC0_0 := Aside0.mk hc0_0
 clear hr0_0 hc0_0
 have HR0_1 := Aside0.mk hr0_1
 have HC0_1 := Aside0.mk hc0_1
 clear hr0_1 hc0_1
 have BK0 := Aside0.mk hb0
 clear hb0
 have H : (spec_l04Ok.l0 k 0 l0_0 l0_1) = some r := h
 clear h
 have H' := Aside0.mk H
 clear H
 go_enter Tryz.func23, Tryz.ntmps23
 go_wp2
 repeat (go_quiet (fail); try go_wp2)
 go_loopg [3] k (fun kq v3 w' => ∃ (x3_1 : Int), v3 = .int .i64 x3_1 ∧ Aside0 (spec_l04Ok.l0 kq x3_1 l0_0 l0_1 = some r) ∧ Aside0 (kq ≤ k) ∧ Aside0 (w'.heap[gr0]? = some (.cells #[(.slice A0_0 l0_0.length c0_0), (.slice A0_1 l0_1.length c0_1)] 25 (0, 0))) ∧ Drawn0 w w')
 case atStart => exact ⟨(0), (z7_), H', ⟨Nat.le_refl _⟩, ⟨z28_⟩, z8_⟩
 case round =>
  clear H'
  obtain ⟨x3_1, rfl, HA, HK1, BK0, ⟨m1, rfl⟩⟩ := hrel
  cases gk with
  | zero => exact absurd HA.out (by simp [spec_l04Ok.l0])
  | succ k1 =>
   have H := HA.out
   clear HA
   simp only [spec_l04Ok.l0] at H
   by_cases c2 : x3_1 < (l0_0.length : Int)
   ·rw [if_pos c2] at H
    have c2b0 := decide_eq_true c2
    clear c2
    by_cases c3 : 0 ≤ x3_1
    ·rw [if_pos c3] at H
     have c3b0 := decide_eq_true c3
     clear c3
     replace H := Option.bind_eq_some_iff.mp H
     obtain ⟨t148, A40, H⟩ := H
     have A4 := Aside0.mk A40
     clear A40
     by_cases c5 : t148 = true
     ·subst c5
      rw [if_pos rfl] at H
      have H' := Aside0.mk H
      clear H
      have hcz6_0 := bc0_ w BK0.out
      have hcz6_1 := bc1_ w BK0.out
      have hfz6_0 := blk_frozen BK0.out 0
      have hfz6_1 := blk_frozen BK0.out 1
      have p147 : 0 ≤ (x3_1 : Int) := of_decide_eq_true (z2_)
      have q147 : x3_1 < (l0_0.length : Int) := of_decide_eq_true (z2_)
      obtain ⟨ad147, e147, hx147_0⟩ := Kd.at_int HR0_0.out x3_1 p147 q147
      cases e147
      replace p147 := eq_true p147
      replace q147 := eq_true q147
      iterate 2 ((try go_quiet (first | (go_at_call 34; (with_reducible refine (spec_l00In_.calls (rd l0_0 x3_1) (-100000) 100000 true _ A4.out).mono ?_); rintro e w' ⟨rfl, ⟨nd, rfl⟩⟩; (try first | exact ⟨rfl, _, World.drewN_drewN _ _ _⟩ | exact ⟨rfl, _, Eq.trans (World.drewN_drewN _ _ _) (congrArg (World.drewN _) (Nat.add_assoc _ _ _))⟩)))); (try go_wp2_with (first | (go_at_call 34; (with_reducible refine (spec_l00In_.calls (rd l0_0 x3_1) (-100000) 100000 true _ A4.out).mono ?_); rintro e w' ⟨rfl, ⟨nd, rfl⟩⟩; (try first | exact ⟨rfl, _, World.drewN_drewN _ _ _⟩ | exact ⟨rfl, _, Eq.trans (World.drewN_drewN _ _ _) (congrArg (World.drewN _) (Nat.add_assoc _ _ _))⟩)))))
      go_roundg k1
      case measure => have := HK1.out; omega
      case rel => exact ⟨(wrap64 (x3_1 + 1)), (z7_), H', ⟨z117_⟩, ⟨z28_⟩, z8_⟩
     ·replace c5 := Bool.eq_false_iff.mpr c5
      subst c5
      rw [if_neg (show ¬ (false = true) by decide)] at H
      obtain rfl := Option.some.inj H
      have hcz7_0 := bc0_ w BK0.out
      have hcz7_1 := bc1_ w BK0.out
      have hfz7_0 := blk_frozen BK0.out 0
      have hfz7_1 := blk_frozen BK0.out 1
      have p147 : 0 ≤ (x3_1 : Int) := of_decide_eq_true (z2_)
      have q147 : x3_1 < (l0_0.length : Int) := of_decide_eq_true (z2_)
      obtain ⟨ad147, e147, hx147_0⟩ := Kd.at_int HR0_0.out x3_1 p147 q147
      cases e147
      replace p147 := eq_true p147
      replace q147 := eq_true q147
      iterate 2 ((try go_quiet (first | (go_at_call 34; (with_reducible refine (spec_l00In_.calls (rd l0_0 x3_1) (-100000) 100000 false _ A4.out).mono ?_); rintro e w' ⟨rfl, ⟨nd, rfl⟩⟩; (try first | exact ⟨rfl, _, World.drewN_drewN _ _ _⟩ | exact ⟨rfl, _, Eq.trans (World.drewN_drewN _ _ _) (congrArg (World.drewN _) (Nat.add_assoc _ _ _))⟩)))); (try go_wp2_with (first | (go_at_call 34; (with_reducible refine (spec_l00In_.calls (rd l0_0 x3_1) (-100000) 100000 false _ A4.out).mono ?_); rintro e w' ⟨rfl, ⟨nd, rfl⟩⟩; (try first | exact ⟨rfl, _, World.drewN_drewN _ _ _⟩ | exact ⟨rfl, _, Eq.trans (World.drewN_drewN _ _ _) (congrArg (World.drewN _) (Nat.add_assoc _ _ _))⟩)))))
      go_ret
      exact ⟨z7_, z8_⟩
    ·rw [if_neg c3] at H
     exact absurd H (by simp)
   ·rw [if_neg c2] at H
    have c2b0 := decide_eq_false c2
    clear c2
    have HC8 := Aside0.mk H
    clear H
    have hcz9_0 := bc0_ w BK0.out
    have hcz9_1 := bc1_ w BK0.out
    have hfz9_0 := blk_frozen BK0.out 0
    have hfz9_1 := blk_frozen BK0.out 1
    iterate 2 ((try go_quiet (fail)); (try go_upto_region 6 with (fail)))
    go_cut [44] (fun v44 wc => ∃ (kq : Nat) (x44_7 : Bool), v44 = .bool x44_7 ∧ Aside0 (spec_l04Ok.j1 kq x44_7 l0_0 l0_1 = some r) ∧ Aside0 (kq ≤ k1) ∧ Aside0 (wc.heap[gr0]? = some (.cells #[(.slice A0_0 l0_0.length c0_0), (.slice A0_1 l0_1.length c0_1)] 25 (0, 0))) ∧ Drawn0 w wc)
    case first =>
     have H := HC8.out
     clear HC8
     by_cases c10 : (l0_0.length : Int) < 1
     ·rw [if_pos c10] at H
      have c10b0 := decide_eq_true c10
      have c10b1 : decide (l0_0.length < 1) = true := decide_eq_true (by omega)
      clear c10
      (first | rw [c10b0] | (simp only [i64_w, i32_w]; rw [c10b0]) | rw [c10b2] | skip)
      have H' := Aside0.mk H
      clear H
      have hcz11_0 := bc0_ w BK0.out
      have hcz11_1 := bc1_ w BK0.out
      have hfz11_0 := blk_frozen BK0.out 0
      have hfz11_1 := blk_frozen BK0.out 1
      go_wp2
      repeat (go_quiet (fail); try go_wp2)
      go_meet
      case rel => exact ⟨_, (true), (z7_), H', ⟨by have := HK1.out; first | omega | exact Nat.le_refl _⟩, ⟨z28_⟩, z8_⟩
     ·rw [if_neg c10] at H
      have c10b0 := decide_eq_false c10
      have c10b1 : decide (l0_0.length < 1) = false := decide_eq_false (by omega)
      clear c10
      (first | rw [c10b0] | (simp only [i64_w, i32_w]; rw [c10b0]) | rw [c10b2] | skip)
      by_cases c12 : (l0_0.length : Int) > 16
      ·rw [if_pos c12] at H
       have c12b0 : decide (16 < (l0_0.length : Int)) = true := decide_eq_true c12
       have c12b1 : decide (16 < l0_0.length) = true := decide_eq_true (by omega)
       clear c12
       have H' := Aside0.mk H
       clear H
       have hcz13_0 := bc0_ w BK0.out
       have hcz13_1 := bc1_ w BK0.out
       have hfz13_0 := blk_frozen BK0.out 0
       have hfz13_1 := blk_frozen BK0.out 1
       go_wp2
       repeat (go_quiet (fail); try go_wp2)
       go_meet
       case rel => exact ⟨_, (true), (z7_), H', ⟨by have := HK1.out; first | omega | exact Nat.le_refl _⟩, ⟨z28_⟩, z8_⟩
      ·rw [if_neg c12] at H
       have c12b0 : decide (16 < (l0_0.length : Int)) = false := decide_eq_false c12
       have c12b1 : decide (16 < l0_0.length) = false := decide_eq_false (by omega)
       clear c12
       have H' := Aside0.mk H
       clear H
       have hcz14_0 := bc0_ w BK0.out
       have hcz14_1 := bc1_ w BK0.out
       have hfz14_0 := blk_frozen BK0.out 0
       have hfz14_1 := blk_frozen BK0.out 1
       go_wp2
       repeat (go_quiet (fail); try go_wp2)
       go_meet
       case rel => exact ⟨_, (decide ((l0_1.length : Int) > 20)), (z7_), H', ⟨by have := HK1.out; first | omega | exact Nat.le_refl _⟩, ⟨z28_⟩, z8_⟩
    case rest =>
     clear HC8
     try clear c1
     try clear p1
     try clear q1
     try clear hx1
     try clear c2
     try clear c2b0
     try clear p2
     try clear c3
     try clear c3b0
     try clear c5
     try clear p6
     try clear c10
     try clear c10b0
     try clear c10b1
     try clear c10b2
     try clear c12
     try clear c12b0
     try clear c12b1
     try clear p14
     try clear q14
     try clear hx14
     try clear hcz11_0
     try clear hcz11_1
     try clear hcz13_0
     try clear hcz13_1
     try clear hcz14_0
     try clear hcz14_1
     try clear hcz6_0
     try clear hcz6_1
     try clear hcz7_0
     try clear hcz7_1
     try clear hcz9_0
     try clear hcz9_1
     try clear hfz11_0
     try clear hfz11_1
     try clear hfz13_0
     try clear hfz13_1
     try clear hfz14_0
     try clear hfz14_1
     try clear hfz6_0
     try clear hfz6_1
     try clear hfz7_0
     try clear hfz7_1
     try clear hfz9_0
     try clear hfz9_1
     try clear hx147_0
     try clear p147
     try clear q147
     obtain ⟨kq, x44_7, rfl, HA, HJ7, BK0, ⟨mc7, rfl⟩⟩ := hcut
     cases kq with
     | zero => exact absurd HA.out (by simp [spec_l04Ok.j1])
     | succ kj7 =>
      have H := HA.out
      clear HA
      simp only [spec_l04Ok.j1] at H
      by_cases c15 : x44_7 = true
      ·subst c15
       rw [if_pos rfl] at H
       obtain rfl := Option.some.inj H
       go_wp2
       repeat (go_quiet (fail); try go_wp2)
       go_ret
       exact ⟨z7_, z8_⟩
      ·replace c15 := Bool.eq_false_iff.mpr c15
       subst c15
       rw [if_neg (show ¬ (false = true) by decide)] at H
       have H' := Aside0.mk H
       clear H
       go_wp2
       repeat (go_quiet (fail); try go_wp2)
       go_loopg [4] kj7 (fun kq v4 w' => ∃ (x4_3 : Int), v4 = .int .i64 x4_3 ∧ Aside0 (spec_l04Ok.l1 kq x4_3 l0_0 l0_1 = some r) ∧ Aside0 (kq ≤ kj7) ∧ Aside0 (w'.heap[gr0]? = some (.cells #[(.slice A0_0 l0_0.length c0_0), (.slice A0_1 l0_1.length c0_1)] 25 (0, 0))) ∧ Drawn0 w w')
       case atStart => exact ⟨(0), (z7_), H', ⟨Nat.le_refl _⟩, ⟨z28_⟩, z8_⟩
       case round =>
        clear H'
        try clear c1
        try clear p1
        try clear q1
        try clear hx1
        try clear c2
        try clear c2b0
        try clear p2
        try clear c3
        try clear c3b0
        try clear c5
        try clear p6
        try clear c7
        try clear c10
        try clear c10b0
        try clear c10b1
        try clear c10b2
        try clear c12
        try clear c12b0
        try clear c12b1
        try clear p14
        try clear q14
        try clear hx14
        try clear c15
        try clear hcz11_0
        try clear hcz11_1
        try clear hcz13_0
        try clear hcz13_1
        try clear hcz14_0
        try clear hcz14_1
        try clear hcz6_0
        try clear hcz6_1
        try clear hcz7_0
        try clear hcz7_1
        try clear hcz9_0
        try clear hcz9_1
        try clear hfz11_0
        try clear hfz11_1
        try clear hfz13_0
        try clear hfz13_1
        try clear hfz14_0
        try clear hfz14_1
        try clear hfz6_0
        try clear hfz6_1
        try clear hfz7_0
        try clear hfz7_1
        try clear hfz9_0
        try clear hfz9_1
        try clear hx147_0
        try clear p1
        try clear p14
        try clear p147
        try clear p2
        try clear p6
        try clear q1
        try clear q14
        try clear q147
        obtain ⟨x4_3, rfl, HA, HK3, BK0, ⟨m3, rfl⟩⟩ := hrel
        cases gk with
        | zero => exact absurd HA.out (by simp [spec_l04Ok.l1])
        | succ k3 =>
         have H := HA.out
         clear HA
         simp only [spec_l04Ok.l1] at H
         by_cases c16 : x4_3 < (l0_1.length : Int)
         ·rw [if_pos c16] at H
          have c16b0 := decide_eq_true c16
          clear c16
          by_cases c17 : 0 ≤ x4_3
          ·rw [if_pos c17] at H
           have c17b0 := decide_eq_true c17
           clear c17
           replace H := Option.bind_eq_some_iff.mp H
           obtain ⟨t150, A180, H⟩ := H
           have A18 := Aside0.mk A180
           clear A180
           by_cases c19 : t150 = true
           ·subst c19
            rw [if_pos rfl] at H
            by_cases c20 : x4_3 > 0
            ·rw [if_pos c20] at H
             have c20b0 : decide (0 < x4_3) = true := decide_eq_true c20
             clear c20
             obtain ⟨ji21, hji21⟩ : ∃ j_ : Int, (wrap64 (x4_3 - 1)) = j_ := ⟨_, rfl⟩
             replace H : (if 0 ≤ (ji21) then (if (ji21) < (l0_1.length : Int) then (if ((Op.bytesLess (((rd_T36 l0_1 (ji21)).f0).toList) (((rd_T36 l0_1 x4_3).f0).toList)) = true) then (spec_l04Ok.l1 k3 (wrap64 (x4_3 + 1)) l0_0 l0_1) else (some false)) else (none)) else (none)) = some r := by first | (rw [hji21] at H; exact H) | (simp only [hji21] at H ⊢; exact H)
             (try rw [hji21] at A18)
             have hji21w : (IntKind.i64.wrap (x4_3 - 1)) = ji21 := (i64_w _).trans hji21
             by_cases c22 : 0 ≤ (ji21)
             ·rw [if_pos c22] at H
              have c22b0 := decide_eq_true c22
              clear c22
              by_cases c23 : (ji21) < (l0_1.length : Int)
              ·rw [if_pos c23] at H
               have c23b0 := decide_eq_true c23
               clear c23
               by_cases c24 : ((Op.bytesLess (((rd_T36 l0_1 (ji21)).f0).toList) (((rd_T36 l0_1 x4_3).f0).toList)) = true)
               ·rw [if_pos c24] at H
                have c24b0 : (Op.bytesLess (((rd_T36 l0_1 (ji21)).f0).toList) (((rd_T36 l0_1 x4_3).f0).toList)) = true := c24
                clear c24
                have H' := Aside0.mk H
                clear H
                have hcz25_0 := bc0_ w BK0.out
                have hcz25_1 := bc1_ w BK0.out
                have hfz25_0 := blk_frozen BK0.out 0
                have hfz25_1 := blk_frozen BK0.out 1
                have p149 : 0 ≤ (x4_3 : Int) := of_decide_eq_true (z2_)
                have q149 : x4_3 < (l0_1.length : Int) := of_decide_eq_true (z2_)
                obtain ⟨ad149, e149, hx149_0, hx149_1, hx149_2, hx149_3, hx149_4, hx149_5⟩ := at_T36 HR0_1.out x4_3 p149 q149
                cases e149
                replace p149 := eq_true p149
                replace q149 := eq_true q149
                iterate 2 ((try (first | (have p151 : 0 ≤ ((ji21) : Int) := of_decide_eq_true (z2_); have q151 : (ji21) < (l0_1.length : Int) := of_decide_eq_true (z2_); obtain ⟨ad151, e151, hx151_0, hx151_1, hx151_2, hx151_3, hx151_4, hx151_5⟩ := at_T36 HR0_1.out (ji21) p151 q151; obtain rfl : ad149 = ad151 := (by injection e151); replace p151 := eq_true p151; replace q151 := eq_true q151; have p152 : 0 ≤ (x4_3 : Int) := of_decide_eq_true (z2_); have q152 : x4_3 < (l0_1.length : Int) := of_decide_eq_true (z2_); obtain ⟨ad152, e152, hx152_0, hx152_1, hx152_2, hx152_3, hx152_4, hx152_5⟩ := at_T36 HR0_1.out x4_3 p152 q152; obtain rfl : ad149 = ad152 := (by injection e152); replace p152 := eq_true p152; replace q152 := eq_true q152; go_big_quiet (first | (go_at_call 36; (with_reducible refine (spec_l04Fits.calls gr0 A0_0 c0_0 l0_0 (some ad149) c0_1 l0_1 _ ((rd_T36 l0_1 x4_3).f0) ((rd_T36 l0_1 x4_3).f1) ((rd_T36 l0_1 x4_3).f2) ((rd_T36 l0_1 x4_3).f3) ((rd_T36 l0_1 x4_3).f4) ((rd_T36 l0_1 x4_3).f5) true _ ?side1 ?side2 ?side3 ?side4 ?side5 ?side6 ?side7 ?side8 ?side9 ?side10 ?side11 A18.out).mono ?_); (case side1 => exact (z28_)); (case side2 => repeat (first | exact HR0_0.out | (with_reducible first|refine Kd.C_alloc ?_ _|refine Kd.C_drewN ?_ _|refine Kd.C_drew ?_))); (case side3 => exact HC0_0.out); (case side4 => repeat (first | exact HR0_1.out | (with_reducible first|refine Kd.C_alloc ?_ _|refine Kd.C_drewN ?_ _|refine Kd.C_drew ?_))); (case side5 => exact HC0_1.out); (case side6 => first | assumption | (simp only [World.cell?_drewN, World.cell?_drew]; assumption) | (go_simp; done)); (case side7 => first | assumption | (simp only [World.cell?_drewN, World.cell?_drew]; assumption) | (go_simp; done)); (case side8 => first | assumption | (simp only [World.cell?_drewN, World.cell?_drew]; assumption) | (go_simp; done)); (case side9 => first | assumption | (simp only [World.cell?_drewN, World.cell?_drew]; assumption) | (go_simp; done)); (case side10 => first | assumption | (simp only [World.cell?_drewN, World.cell?_drew]; assumption) | (go_simp; done)); (case side11 => first | assumption | (simp only [World.cell?_drewN, World.cell?_drew]; assumption) | (go_simp; done)); rintro e w' ⟨rfl, ⟨nd, rfl⟩⟩; (try first | exact ⟨rfl, _, World.drewN_drewN _ _ _⟩ | exact ⟨rfl, _, Eq.trans (World.drewN_drewN _ _ _) (congrArg (World.drewN _) (Nat.add_assoc _ _ _))⟩)))) | go_big_quiet (first | (go_at_call 36; (with_reducible refine (spec_l04Fits.calls gr0 A0_0 c0_0 l0_0 (some ad149) c0_1 l0_1 _ ((rd_T36 l0_1 x4_3).f0) ((rd_T36 l0_1 x4_3).f1) ((rd_T36 l0_1 x4_3).f2) ((rd_T36 l0_1 x4_3).f3) ((rd_T36 l0_1 x4_3).f4) ((rd_T36 l0_1 x4_3).f5) true _ ?side1 ?side2 ?side3 ?side4 ?side5 ?side6 ?side7 ?side8 ?side9 ?side10 ?side11 A18.out).mono ?_); (case side1 => exact (z28_)); (case side2 => repeat (first | exact HR0_0.out | (with_reducible first|refine Kd.C_alloc ?_ _|refine Kd.C_drewN ?_ _|refine Kd.C_drew ?_))); (case side3 => exact HC0_0.out); (case side4 => repeat (first | exact HR0_1.out | (with_reducible first|refine Kd.C_alloc ?_ _|refine Kd.C_drewN ?_ _|refine Kd.C_drew ?_))); (case side5 => exact HC0_1.out); (case side6 => first | assumption | (simp only [World.cell?_drewN, World.cell?_drew]; assumption) | (go_simp; done)); (case side7 => first | assumption | (simp only [World.cell?_drewN, World.cell?_drew]; assumption) | (go_simp; done)); (case side8 => first | assumption | (simp only [World.cell?_drewN, World.cell?_drew]; assumption) | (go_simp; done)); (case side9 => first | assumption | (simp only [World.cell?_drewN, World.cell?_drew]; assumption) | (go_simp; done)); (case side10 => first | assumption | (simp only [World.cell?_drewN, World.cell?_drew]; assumption) | (go_simp; done)); (case side11 => first | assumption | (simp only [World.cell?_drewN, World.cell?_drew]; assumption) | (go_simp; done)); rintro e w' ⟨rfl, ⟨nd, rfl⟩⟩; (try first | exact ⟨rfl, _, World.drewN_drewN _ _ _⟩ | exact ⟨rfl, _, Eq.trans (World.drewN_drewN _ _ _) (congrArg (World.drewN _) (Nat.add_assoc _ _ _))⟩))))); (try go_wp2_with (first | (go_at_call 36; (with_reducible refine (spec_l04Fits.calls gr0 A0_0 c0_0 l0_0 (some ad149) c0_1 l0_1 _ ((rd_T36 l0_1 x4_3).f0) ((rd_T36 l0_1 x4_3).f1) ((rd_T36 l0_1 x4_3).f2) ((rd_T36 l0_1 x4_3).f3) ((rd_T36 l0_1 x4_3).f4) ((rd_T36 l0_1 x4_3).f5) true _ ?side1 ?side2 ?side3 ?side4 ?side5 ?side6 ?side7 ?side8 ?side9 ?side10 ?side11 A18.out).mono ?_); (case side1 => exact (z28_)); (case side2 => repeat (first | exact HR0_0.out | (with_reducible first|refine Kd.C_alloc ?_ _|refine Kd.C_drewN ?_ _|refine Kd.C_drew ?_))); (case side3 => exact HC0_0.out); (case side4 => repeat (first | exact HR0_1.out | (with_reducible first|refine Kd.C_alloc ?_ _|refine Kd.C_drewN ?_ _|refine Kd.C_drew ?_))); (case side5 => exact HC0_1.out); (case side6 => first | assumption | (simp only [World.cell?_drewN, World.cell?_drew]; assumption) | (go_simp; done)); (case side7 => first | assumption | (simp only [World.cell?_drewN, World.cell?_drew]; assumption) | (go_simp; done)); (case side8 => first | assumption | (simp only [World.cell?_drewN, World.cell?_drew]; assumption) | (go_simp; done)); (case side9 => first | assumption | (simp only [World.cell?_drewN, World.cell?_drew]; assumption) | (go_simp; done)); (case side10 => first | assumption | (simp only [World.cell?_drewN, World.cell?_drew]; assumption) | (go_simp; done)); (case side11 => first | assumption | (simp only [World.cell?_drewN, World.cell?_drew]; assumption) | (go_simp; done)); rintro e w' ⟨rfl, ⟨nd, rfl⟩⟩; (try first | exact ⟨rfl, _, World.drewN_drewN _ _ _⟩ | exact ⟨rfl, _, Eq.trans (World.drewN_drewN _ _ _) (congrArg (World.drewN _) (Nat.add_assoc _ _ _))⟩); have p151 : 0 ≤ ((ji21) : Int) := of_decide_eq_true (z2_); have q151 : (ji21) < (l0_1.length : Int) := of_decide_eq_true (z2_); obtain ⟨ad151, e151, hx151_0, hx151_1, hx151_2, hx151_3, hx151_4, hx151_5⟩ := at_T36 HR0_1.out (ji21) p151 q151; obtain rfl : ad149 = ad151 := (by injection e151); replace p151 := eq_true p151; replace q151 := eq_true q151; have p152 : 0 ≤ (x4_3 : Int) := of_decide_eq_true (z2_); have q152 : x4_3 < (l0_1.length : Int) := of_decide_eq_true (z2_); obtain ⟨ad152, e152, hx152_0, hx152_1, hx152_2, hx152_3, hx152_4, hx152_5⟩ := at_T36 HR0_1.out x4_3 p152 q152; obtain rfl : ad149 = ad152 := (by injection e152); replace p152 := eq_true p152; replace q152 := eq_true q152))))
                go_roundg k3
                case measure => have := HK1.out; have := HJ7.out; have := HK3.out; omega
                case rel => exact ⟨(wrap64 (x4_3 + 1)), (z7_), H', ⟨by have := HK1.out; have := HJ7.out; have := HK3.out; omega⟩, ⟨z28_⟩, z8_⟩
               ·rw [if_neg c24] at H
                have c24b0 : (Op.bytesLess (((rd_T36 l0_1 (ji21)).f0).toList) (((rd_T36 l0_1 x4_3).f0).toList)) = false := by simpa using c24
                clear c24
                obtain rfl := Option.some.inj H
                have hcz26_0 := bc0_ w BK0.out
                have hcz26_1 := bc1_ w BK0.out
                have hfz26_0 := blk_frozen BK0.out 0
                have hfz26_1 := blk_frozen BK0.out 1
                have p149 : 0 ≤ (x4_3 : Int) := of_decide_eq_true (z2_)
                have q149 : x4_3 < (l0_1.length : Int) := of_decide_eq_true (z2_)
                obtain ⟨ad149, e149, hx149_0, hx149_1, hx149_2, hx149_3, hx149_4, hx149_5⟩ := at_T36 HR0_1.out x4_3 p149 q149
                cases e149
                replace p149 := eq_true p149
                replace q149 := eq_true q149
                iterate 2 ((try (first | (have p151 : 0 ≤ ((ji21) : Int) := of_decide_eq_true (z2_); have q151 : (ji21) < (l0_1.length : Int) := of_decide_eq_true (z2_); obtain ⟨ad151, e151, hx151_0, hx151_1, hx151_2, hx151_3, hx151_4, hx151_5⟩ := at_T36 HR0_1.out (ji21) p151 q151; obtain rfl : ad149 = ad151 := (by injection e151); replace p151 := eq_true p151; replace q151 := eq_true q151; have p152 : 0 ≤ (x4_3 : Int) := of_decide_eq_true (z2_); have q152 : x4_3 < (l0_1.length : Int) := of_decide_eq_true (z2_); obtain ⟨ad152, e152, hx152_0, hx152_1, hx152_2, hx152_3, hx152_4, hx152_5⟩ := at_T36 HR0_1.out x4_3 p152 q152; obtain rfl : ad149 = ad152 := (by injection e152); replace p152 := eq_true p152; replace q152 := eq_true q152; go_big_quiet (first | (go_at_call 36; (with_reducible refine (spec_l04Fits.calls gr0 A0_0 c0_0 l0_0 (some ad149) c0_1 l0_1 _ ((rd_T36 l0_1 x4_3).f0) ((rd_T36 l0_1 x4_3).f1) ((rd_T36 l0_1 x4_3).f2) ((rd_T36 l0_1 x4_3).f3) ((rd_T36 l0_1 x4_3).f4) ((rd_T36 l0_1 x4_3).f5) true _ ?side1 ?side2 ?side3 ?side4 ?side5 ?side6 ?side7 ?side8 ?side9 ?side10 ?side11 A18.out).mono ?_); (case side1 => exact (z28_)); (case side2 => repeat (first | exact HR0_0.out | (with_reducible first|refine Kd.C_alloc ?_ _|refine Kd.C_drewN ?_ _|refine Kd.C_drew ?_))); (case side3 => exact HC0_0.out); (case side4 => repeat (first | exact HR0_1.out | (with_reducible first|refine Kd.C_alloc ?_ _|refine Kd.C_drewN ?_ _|refine Kd.C_drew ?_))); (case side5 => exact HC0_1.out); (case side6 => first | assumption | (simp only [World.cell?_drewN, World.cell?_drew]; assumption) | (go_simp; done)); (case side7 => first | assumption | (simp only [World.cell?_drewN, World.cell?_drew]; assumption) | (go_simp; done)); (case side8 => first | assumption | (simp only [World.cell?_drewN, World.cell?_drew]; assumption) | (go_simp; done)); (case side9 => first | assumption | (simp only [World.cell?_drewN, World.cell?_drew]; assumption) | (go_simp; done)); (case side10 => first | assumption | (simp only [World.cell?_drewN, World.cell?_drew]; assumption) | (go_simp; done)); (case side11 => first | assumption | (simp only [World.cell?_drewN, World.cell?_drew]; assumption) | (go_simp; done)); rintro e w' ⟨rfl, ⟨nd, rfl⟩⟩; (try first | exact ⟨rfl, _, World.drewN_drewN _ _ _⟩ | exact ⟨rfl, _, Eq.trans (World.drewN_drewN _ _ _) (congrArg (World.drewN _) (Nat.add_assoc _ _ _))⟩)))) | go_big_quiet (first | (go_at_call 36; (with_reducible refine (spec_l04Fits.calls gr0 A0_0 c0_0 l0_0 (some ad149) c0_1 l0_1 _ ((rd_T36 l0_1 x4_3).f0) ((rd_T36 l0_1 x4_3).f1) ((rd_T36 l0_1 x4_3).f2) ((rd_T36 l0_1 x4_3).f3) ((rd_T36 l0_1 x4_3).f4) ((rd_T36 l0_1 x4_3).f5) true _ ?side1 ?side2 ?side3 ?side4 ?side5 ?side6 ?side7 ?side8 ?side9 ?side10 ?side11 A18.out).mono ?_); (case side1 => exact (z28_)); (case side2 => repeat (first | exact HR0_0.out | (with_reducible first|refine Kd.C_alloc ?_ _|refine Kd.C_drewN ?_ _|refine Kd.C_drew ?_))); (case side3 => exact HC0_0.out); (case side4 => repeat (first | exact HR0_1.out | (with_reducible first|refine Kd.C_alloc ?_ _|refine Kd.C_drewN ?_ _|refine Kd.C_drew ?_))); (case side5 => exact HC0_1.out); (case side6 => first | assumption | (simp only [World.cell?_drewN, World.cell?_drew]; assumption) | (go_simp; done)); (case side7 => first | assumption | (simp only [World.cell?_drewN, World.cell?_drew]; assumption) | (go_simp; done)); (case side8 => first | assumption | (simp only [World.cell?_drewN, World.cell?_drew]; assumption) | (go_simp; done)); (case side9 => first | assumption | (simp only [World.cell?_drewN, World.cell?_drew]; assumption) | (go_simp; done)); (case side10 => first | assumption | (simp only [World.cell?_drewN, World.cell?_drew]; assumption) | (go_simp; done)); (case side11 => first | assumption | (simp only [World.cell?_drewN, World.cell?_drew]; assumption) | (go_simp; done)); rintro e w' ⟨rfl, ⟨nd, rfl⟩⟩; (try first | exact ⟨rfl, _, World.drewN_drewN _ _ _⟩ | exact ⟨rfl, _, Eq.trans (World.drewN_drewN _ _ _) (congrArg (World.drewN _) (Nat.add_assoc _ _ _))⟩))))); (try go_wp2_with (first | (go_at_call 36; (with_reducible refine (spec_l04Fits.calls gr0 A0_0 c0_0 l0_0 (some ad149) c0_1 l0_1 _ ((rd_T36 l0_1 x4_3).f0) ((rd_T36 l0_1 x4_3).f1) ((rd_T36 l0_1 x4_3).f2) ((rd_T36 l0_1 x4_3).f3) ((rd_T36 l0_1 x4_3).f4) ((rd_T36 l0_1 x4_3).f5) true _ ?side1 ?side2 ?side3 ?side4 ?side5 ?side6 ?side7 ?side8 ?side9 ?side10 ?side11 A18.out).mono ?_); (case side1 => exact (z28_)); (case side2 => repeat (first | exact HR0_0.out | (with_reducible first|refine Kd.C_alloc ?_ _|refine Kd.C_drewN ?_ _|refine Kd.C_drew ?_))); (case side3 => exact HC0_0.out); (case side4 => repeat (first | exact HR0_1.out | (with_reducible first|refine Kd.C_alloc ?_ _|refine Kd.C_drewN ?_ _|refine Kd.C_drew ?_))); (case side5 => exact HC0_1.out); (case side6 => first | assumption | (simp only [World.cell?_drewN, World.cell?_drew]; assumption) | (go_simp; done)); (case side7 => first | assumption | (simp only [World.cell?_drewN, World.cell?_drew]; assumption) | (go_simp; done)); (case side8 => first | assumption | (simp only [World.cell?_drewN, World.cell?_drew]; assumption) | (go_simp; done)); (case side9 => first | assumption | (simp only [World.cell?_drewN, World.cell?_drew]; assumption) | (go_simp; done)); (case side10 => first | assumption | (simp only [World.cell?_drewN, World.cell?_drew]; assumption) | (go_simp; done)); (case side11 => first | assumption | (simp only [World.cell?_drewN, World.cell?_drew]; assumption) | (go_simp; done)); rintro e w' ⟨rfl, ⟨nd, rfl⟩⟩; (try first | exact ⟨rfl, _, World.drewN_drewN _ _ _⟩ | exact ⟨rfl, _, Eq.trans (World.drewN_drewN _ _ _) (congrArg (World.drewN _) (Nat.add_assoc _ _ _))⟩); have p151 : 0 ≤ ((ji21) : Int) := of_decide_eq_true (z2_); have q151 : (ji21) < (l0_1.length : Int) := of_decide_eq_true (z2_); obtain ⟨ad151, e151, hx151_0, hx151_1, hx151_2, hx151_3, hx151_4, hx151_5⟩ := at_T36 HR0_1.out (ji21) p151 q151; obtain rfl : ad149 = ad151 := (by injection e151); replace p151 := eq_true p151; replace q151 := eq_true q151; have p152 : 0 ≤ (x4_3 : Int) := of_decide_eq_true (z2_); have q152 : x4_3 < (l0_1.length : Int) := of_decide_eq_true (z2_); obtain ⟨ad152, e152, hx152_0, hx152_1, hx152_2, hx152_3, hx152_4, hx152_5⟩ := at_T36 HR0_1.out x4_3 p152 q152; obtain rfl : ad149 = ad152 := (by injection e152); replace p152 := eq_true p152; replace q152 := eq_true q152))))
                go_ret
                exact ⟨by first | rfl | (simp; done) | (simp only [← hji21] <;> (first | rfl | simp)) | (simp [*]; done), z8_⟩
              ·rw [if_neg c23] at H
               exact absurd H (by simp)
             ·rw [if_neg c22] at H
              exact absurd H (by simp)
            ·rw [if_neg c20] at H
             have c20b0 : decide (0 < x4_3) = false := decide_eq_false c20
             clear c20
             have H' := Aside0.mk H
             clear H
             have hcz27_0 := bc0_ w BK0.out
             have hcz27_1 := bc1_ w BK0.out
             have hfz27_0 := blk_frozen BK0.out 0
             have hfz27_1 := blk_frozen BK0.out 1
             have p149 : 0 ≤ (x4_3 : Int) := of_decide_eq_true (z2_)
             have q149 : x4_3 < (l0_1.length : Int) := of_decide_eq_true (z2_)
             obtain ⟨ad149, e149, hx149_0, hx149_1, hx149_2, hx149_3, hx149_4, hx149_5⟩ := at_T36 HR0_1.out x4_3 p149 q149
             cases e149
             replace p149 := eq_true p149
             replace q149 := eq_true q149
             iterate 2 ((try go_quiet (first | (go_at_call 36; (with_reducible refine (spec_l04Fits.calls gr0 A0_0 c0_0 l0_0 (some ad149) c0_1 l0_1 _ ((rd_T36 l0_1 x4_3).f0) ((rd_T36 l0_1 x4_3).f1) ((rd_T36 l0_1 x4_3).f2) ((rd_T36 l0_1 x4_3).f3) ((rd_T36 l0_1 x4_3).f4) ((rd_T36 l0_1 x4_3).f5) true _ ?side1 ?side2 ?side3 ?side4 ?side5 ?side6 ?side7 ?side8 ?side9 ?side10 ?side11 A18.out).mono ?_); (case side1 => exact (z28_)); (case side2 => repeat (first | exact HR0_0.out | (with_reducible first|refine Kd.C_alloc ?_ _|refine Kd.C_drewN ?_ _|refine Kd.C_drew ?_))); (case side3 => exact HC0_0.out); (case side4 => repeat (first | exact HR0_1.out | (with_reducible first|refine Kd.C_alloc ?_ _|refine Kd.C_drewN ?_ _|refine Kd.C_drew ?_))); (case side5 => exact HC0_1.out); (case side6 => first | assumption | (simp only [World.cell?_drewN, World.cell?_drew]; assumption) | (go_simp; done)); (case side7 => first | assumption | (simp only [World.cell?_drewN, World.cell?_drew]; assumption) | (go_simp; done)); (case side8 => first | assumption | (simp only [World.cell?_drewN, World.cell?_drew]; assumption) | (go_simp; done)); (case side9 => first | assumption | (simp only [World.cell?_drewN, World.cell?_drew]; assumption) | (go_simp; done)); (case side10 => first | assumption | (simp only [World.cell?_drewN, World.cell?_drew]; assumption) | (go_simp; done)); (case side11 => first | assumption | (simp only [World.cell?_drewN, World.cell?_drew]; assumption) | (go_simp; done)); rintro e w' ⟨rfl, ⟨nd, rfl⟩⟩; (try first | exact ⟨rfl, _, World.drewN_drewN _ _ _⟩ | exact ⟨rfl, _, Eq.trans (World.drewN_drewN _ _ _) (congrArg (World.drewN _) (Nat.add_assoc _ _ _))⟩)))); (try go_wp2_with (first | (go_at_call 36; (with_reducible refine (spec_l04Fits.calls gr0 A0_0 c0_0 l0_0 (some ad149) c0_1 l0_1 _ ((rd_T36 l0_1 x4_3).f0) ((rd_T36 l0_1 x4_3).f1) ((rd_T36 l0_1 x4_3).f2) ((rd_T36 l0_1 x4_3).f3) ((rd_T36 l0_1 x4_3).f4) ((rd_T36 l0_1 x4_3).f5) true _ ?side1 ?side2 ?side3 ?side4 ?side5 ?side6 ?side7 ?side8 ?side9 ?side10 ?side11 A18.out).mono ?_); (case side1 => exact (z28_)); (case side2 => repeat (first | exact HR0_0.out | (with_reducible first|refine Kd.C_alloc ?_ _|refine Kd.C_drewN ?_ _|refine Kd.C_drew ?_))); (case side3 => exact HC0_0.out); (case side4 => repeat (first | exact HR0_1.out | (with_reducible first|refine Kd.C_alloc ?_ _|refine Kd.C_drewN ?_ _|refine Kd.C_drew ?_))); (case side5 => exact HC0_1.out); (case side6 => first | assumption | (simp only [World.cell?_drewN, World.cell?_drew]; assumption) | (go_simp; done)); (case side7 => first | assumption | (simp only [World.cell?_drewN, World.cell?_drew]; assumption) | (go_simp; done)); (case side8 => first | assumption | (simp only [World.cell?_drewN, World.cell?_drew]; assumption) | (go_simp; done)); (case side9 => first | assumption | (simp only [World.cell?_drewN, World.cell?_drew]; assumption) | (go_simp; done)); (case side10 => first | assumption | (simp only [World.cell?_drewN, World.cell?_drew]; assumption) | (go_simp; done)); (case side11 => first | assumption | (simp only [World.cell?_drewN, World.cell?_drew]; assumption) | (go_simp; done)); rintro e w' ⟨rfl, ⟨nd, rfl⟩⟩; (try first | exact ⟨rfl, _, World.drewN_drewN _ _ _⟩ | exact ⟨rfl, _, Eq.trans (World.drewN_drewN _ _ _) (congrArg (World.drewN _) (Nat.add_assoc _ _ _))⟩)))))
             go_roundg k3
             case measure => have := HK1.out; have := HJ7.out; have := HK3.out; omega
             case rel => exact ⟨(wrap64 (x4_3 + 1)), (z7_), H', ⟨by have := HK1.out; have := HJ7.out; have := HK3.out; omega⟩, ⟨z28_⟩, z8_⟩
           ·replace c19 := Bool.eq_false_iff.mpr c19
            subst c19
            rw [if_neg (show ¬ (false = true) by decide)] at H
            obtain rfl := Option.some.inj H
            have hcz28_0 := bc0_ w BK0.out
            have hcz28_1 := bc1_ w BK0.out
            have hfz28_0 := blk_frozen BK0.out 0
            have hfz28_1 := blk_frozen BK0.out 1
            have p149 : 0 ≤ (x4_3 : Int) := of_decide_eq_true (z2_)
            have q149 : x4_3 < (l0_1.length : Int) := of_decide_eq_true (z2_)
            obtain ⟨ad149, e149, hx149_0, hx149_1, hx149_2, hx149_3, hx149_4, hx149_5⟩ := at_T36 HR0_1.out x4_3 p149 q149
            cases e149
            replace p149 := eq_true p149
            replace q149 := eq_true q149
            iterate 2 ((try go_quiet (first | (go_at_call 36; (with_reducible refine (spec_l04Fits.calls gr0 A0_0 c0_0 l0_0 (some ad149) c0_1 l0_1 _ ((rd_T36 l0_1 x4_3).f0) ((rd_T36 l0_1 x4_3).f1) ((rd_T36 l0_1 x4_3).f2) ((rd_T36 l0_1 x4_3).f3) ((rd_T36 l0_1 x4_3).f4) ((rd_T36 l0_1 x4_3).f5) false _ ?side1 ?side2 ?side3 ?side4 ?side5 ?side6 ?side7 ?side8 ?side9 ?side10 ?side11 A18.out).mono ?_); (case side1 => exact (z28_)); (case side2 => repeat (first | exact HR0_0.out | (with_reducible first|refine Kd.C_alloc ?_ _|refine Kd.C_drewN ?_ _|refine Kd.C_drew ?_))); (case side3 => exact HC0_0.out); (case side4 => repeat (first | exact HR0_1.out | (with_reducible first|refine Kd.C_alloc ?_ _|refine Kd.C_drewN ?_ _|refine Kd.C_drew ?_))); (case side5 => exact HC0_1.out); (case side6 => first | assumption | (simp only [World.cell?_drewN, World.cell?_drew]; assumption) | (go_simp; done)); (case side7 => first | assumption | (simp only [World.cell?_drewN, World.cell?_drew]; assumption) | (go_simp; done)); (case side8 => first | assumption | (simp only [World.cell?_drewN, World.cell?_drew]; assumption) | (go_simp; done)); (case side9 => first | assumption | (simp only [World.cell?_drewN, World.cell?_drew]; assumption) | (go_simp; done)); (case side10 => first | assumption | (simp only [World.cell?_drewN, World.cell?_drew]; assumption) | (go_simp; done)); (case side11 => first | assumption | (simp only [World.cell?_drewN, World.cell?_drew]; assumption) | (go_simp; done)); rintro e w' ⟨rfl, ⟨nd, rfl⟩⟩; (try first | exact ⟨rfl, _, World.drewN_drewN _ _ _⟩ | exact ⟨rfl, _, Eq.trans (World.drewN_drewN _ _ _) (congrArg (World.drewN _) (Nat.add_assoc _ _ _))⟩)))); (try go_wp2_with (first | (go_at_call 36; (with_reducible refine (spec_l04Fits.calls gr0 A0_0 c0_0 l0_0 (some ad149) c0_1 l0_1 _ ((rd_T36 l0_1 x4_3).f0) ((rd_T36 l0_1 x4_3).f1) ((rd_T36 l0_1 x4_3).f2) ((rd_T36 l0_1 x4_3).f3) ((rd_T36 l0_1 x4_3).f4) ((rd_T36 l0_1 x4_3).f5) false _ ?side1 ?side2 ?side3 ?side4 ?side5 ?side6 ?side7 ?side8 ?side9 ?side10 ?side11 A18.out).mono ?_); (case side1 => exact (z28_)); (case side2 => repeat (first | exact HR0_0.out | (with_reducible first|refine Kd.C_alloc ?_ _|refine Kd.C_drewN ?_ _|refine Kd.C_drew ?_))); (case side3 => exact HC0_0.out); (case side4 => repeat (first | exact HR0_1.out | (with_reducible first|refine Kd.C_alloc ?_ _|refine Kd.C_drewN ?_ _|refine Kd.C_drew ?_))); (case side5 => exact HC0_1.out); (case side6 => first | assumption | (simp only [World.cell?_drewN, World.cell?_drew]; assumption) | (go_simp; done)); (case side7 => first | assumption | (simp only [World.cell?_drewN, World.cell?_drew]; assumption) | (go_simp; done)); (case side8 => first | assumption | (simp only [World.cell?_drewN, World.cell?_drew]; assumption) | (go_simp; done)); (case side9 => first | assumption | (simp only [World.cell?_drewN, World.cell?_drew]; assumption) | (go_simp; done)); (case side10 => first | assumption | (simp only [World.cell?_drewN, World.cell?_drew]; assumption) | (go_simp; done)); (case side11 => first | assumption | (simp only [World.cell?_drewN, World.cell?_drew]; assumption) | (go_simp; done)); rintro e w' ⟨rfl, ⟨nd, rfl⟩⟩; (try first | exact ⟨rfl, _, World.drewN_drewN _ _ _⟩ | exact ⟨rfl, _, Eq.trans (World.drewN_drewN _ _ _) (congrArg (World.drewN _) (Nat.add_assoc _ _ _))⟩)))))
            go_ret
            exact ⟨z7_, z8_⟩
          ·rw [if_neg c17] at H
           exact absurd H (by simp)
         ·rw [if_neg c16] at H
          have c16b0 := decide_eq_false c16
          clear c16
          obtain rfl := Option.some.inj H
          have hcz29_0 := bc0_ w BK0.out
          have hcz29_1 := bc1_ w BK0.out
          have hfz29_0 := blk_frozen BK0.out 0
          have hfz29_1 := blk_frozen BK0.out 1
          go_wp2
          repeat (go_quiet (fail); try go_wp2)
          go_ret
          exact ⟨z7_, z8_⟩

open Go.Proofs.YtabgkdejpkpejaaGreatDoorM
/-- What is asked of the i-th pipe. -/
def stepOk (n : Nat) (ps : List S36) (i : Nat) : Bool := fitsOk n (ps.getD i z36) && (decide (i = 0) || Op.bytesLess (ps.getD (i - 1) z36).f0.toList (ps.getD i z36).f0.toList)
def stepsFrom (n : Nat) (ps : List S36) : Nat → Nat → Bool
  | 0, _ => true
  | d + 1, i => stepOk n ps i && stepsFrom n ps d (i + 1)
theorem steps_at (n : Nat) (ps : List S36) : ∀ (d i : Nat), stepsFrom n ps d i = true → ∀ j, i ≤ j → j < i + d → stepOk n ps j = true := by
  intro d
  induction d with
  | zero => intro i _ j h1 h2; omega
  | succ d ih =>
    intro i h j h1 h2
    simp only [stepsFrom, Bool.and_eq_true] at h
    by_cases e : j = i
    · rw [e]; exact h.1
    · exact ih (i + 1) h.2 j (by omega) (by omega)
def nodesOk (ns : List Int) : Bool := ns.all fun x => decide (-100000 ≤ x ∧ x ≤ 100000)
def tailOk (n : Nat) (ps : List S36) : Bool := decide (1 ≤ n) && (decide (n ≤ 16) && (decide (ps.length ≤ 20) && stepsFrom n ps ps.length 0))
/-- When a network is valid. -/
def netOk (ns : List Int) (ps : List S36) : Bool := nodesOk ns && tailOk ns.length ps
theorem netOk_parts {ns : List Int} {ps : List S36} (h : netOk ns ps = true) : (1 ≤ ns.length ∧ ns.length ≤ 16) ∧ ps.length ≤ 20 ∧ (∀ j, j < ps.length → stepOk ns.length ps j = true) ∧ nodesOk ns = true := by
  unfold netOk tailOk at h
  simp only [Bool.and_eq_true, decide_eq_true_eq] at h
  exact ⟨⟨h.2.1, h.2.2.1⟩, h.2.2.2.1, fun j hj => steps_at _ ps _ 0 h.2.2.2.2 j (by omega) (by omega), h.1⟩
theorem netOk_pipe {ns : List Int} {ps : List S36} (h : netOk ns ps = true) (j : Nat) (hj : j < ps.length) : pipeOk (ps.getD j z36).f0 (ps.getD j z36).f1 (ps.getD j z36).f2 (ps.getD j z36).f3 (ps.getD j z36).f4 (ps.getD j z36).f5 = true ∧ (0 ≤ (ps.getD j z36).f1 ∧ (ps.getD j z36).f1 < ns.length) ∧ (0 ≤ (ps.getD j z36).f2 ∧ (ps.getD j z36).f2 < ns.length) ∧ (ps.getD j z36).f1 ≠ (ps.getD j z36).f2 := by
  have hs := (netOk_parts h).2.2.1 j hj
  unfold stepOk fitsOk at hs
  simp only [Bool.and_eq_true, decide_eq_true_eq] at hs
  have hr := pipeOk_range hs.1.1
  exact ⟨hs.1.1, ⟨hr.1.1, hs.1.2.1⟩, ⟨hr.2.1.1, hs.1.2.2⟩, hr.2.2.1⟩
theorem rdP_ok (c : List S36) (i : Nat) : rd_T36 c (i : Int) = c.getD i z36 := by unfold rd_T36; rw [Int.toNat_natCast]
theorem fits_f (ns : List Int) (ps : List S36) (p : S36) (h : p.f0.size ≤ 9000000000000000000) : spec_l04Fits.f ns ps p.f0 p.f1 p.f2 p.f3 p.f4 p.f5 = some (fitsOk ns.length p) := by
  unfold spec_l04Fits.f; rw [if_pos h]
def spec_l04Ok_.f (l0_0 : List Int) (l0_1 : List S36) : Option Bool := if l0_0.length ≤ 4611686018427387904 ∧ (∀ p ∈ l0_1, p.f0.size ≤ 9000000000000000000) then some (netOk l0_0 l0_1) else none
theorem okP_loop (ns : List Int) (ps : List S36) (hp : ps.length ≤ 20) (hs : ∀ p ∈ ps, p.f0.size ≤ 9000000000000000000) : ∀ (d k i : Nat), i ≤ ps.length → ps.length - i = d → d < k → spec_l04Ok.l1 k (i : Int) ns ps = some (stepsFrom ns.length ps d i) := by
  intro d
  induction d with
  | zero =>
    intro k i h1 hd hk
    obtain ⟨k, rfl⟩ : ∃ m, k = m + 1 := ⟨k - 1, by omega⟩
    simp only [spec_l04Ok.l1]; rw [if_neg (by omega)]; rfl
  | succ d ih =>
    intro k i h1 hd hk
    obtain ⟨k, rfl⟩ : ∃ m, k = m + 1 := ⟨k - 1, by omega⟩
    simp only [spec_l04Ok.l1]
    have hm := hs _ (getD_mem z36 (show i < ps.length by omega))
    have e : stepsFrom ns.length ps (d + 1) i = (stepOk ns.length ps i && stepsFrom ns.length ps d (i + 1)) := rfl
    rw [if_pos (by omega), if_pos (by omega), rdP_ok, fits_f ns ps _ hm, e, w64 (x := (i : Int) + 1) (by omega) (by omega), show (i : Int) + 1 = ((i + 1 : Nat) : Int) by omega, ih k (i + 1) (by omega) (by omega) (by omega)]
    simp only [Option.bind_some]
    unfold stepOk
    cases hf : fitsOk ns.length (ps.getD i z36)
    · simp
    · by_cases h0 : i = 0
      · subst h0; simp
      · have e1 : wrap64 ((i : Int) - 1) = ((i - 1 : Nat) : Int) := by rw [w64 (by omega) (by omega)]; omega
        rw [if_pos rfl, if_pos (by omega), e1, if_pos (by omega), if_pos (by omega), rdP_ok, decide_eq_false h0]
        cases Op.bytesLess (ps.getD (i - 1) z36).f0.toList (ps.getD i z36).f0.toList <;> simp
theorem okN_loop (ns : List Int) (ps : List S36) (hn : ns.length ≤ 4611686018427387904) (hs : ∀ p ∈ ps, p.f0.size ≤ 9000000000000000000) : ∀ (d k i : Nat), i ≤ ns.length → ns.length - i = d → d + 25 ≤ k → spec_l04Ok.l0 k (i : Int) ns ps = some ((ns.drop i).all (fun x => decide (-100000 ≤ x ∧ x ≤ 100000)) && tailOk ns.length ps) := by
  intro d
  induction d with
  | zero =>
    intro k i h1 hd hk
    obtain ⟨k, rfl⟩ : ∃ m, k = m + 1 + 1 := ⟨k - 2, by omega⟩
    simp only [spec_l04Ok.l0]
    rw [if_neg (by omega), List.drop_of_length_le (by omega)]
    unfold tailOk
    simp only [spec_l04Ok.j1, List.all_nil, Bool.true_and]
    by_cases c1 : (ns.length : Int) < 1
    · rw [if_pos c1, decide_eq_false (show ¬ 1 ≤ ns.length by omega)]; simp
    · rw [if_neg c1, decide_eq_true (show 1 ≤ ns.length by omega)]
      by_cases c2 : (ns.length : Int) > 16
      · rw [if_pos c2, decide_eq_false (show ¬ ns.length ≤ 16 by omega)]; simp
      · rw [if_neg c2, decide_eq_true (show ns.length ≤ 16 by omega)]
        by_cases c3 : (ps.length : Int) > 20
        · rw [decide_eq_true c3, decide_eq_false (show ¬ ps.length ≤ 20 by omega)]; simp
        · rw [decide_eq_false c3, decide_eq_true (show ps.length ≤ 20 by omega)]
          have := okP_loop ns ps (by omega) hs ps.length k 0 (by omega) (by omega) (by omega)
          simpa using this
  | succ d ih =>
    intro k i h1 hd hk
    obtain ⟨k, rfl⟩ : ∃ m, k = m + 1 := ⟨k - 1, by omega⟩
    simp only [spec_l04Ok.l0]
    have hi : i < ns.length := by omega
    have e1 : rd ns (i : Int) = ns[i]'(by omega) := by unfold rd; rw [Int.toNat_natCast, List.getD_eq_getElem?_getD, List.getElem?_eq_getElem (by omega)]; rfl
    rw [if_pos (by omega), if_pos (by omega), e1, w64 (x := (i : Int) + 1) (by omega) (by omega), show (i : Int) + 1 = ((i + 1 : Nat) : Int) by omega, ih k (i + 1) (by omega) (by omega) (by omega), List.drop_eq_getElem_cons hi]
    unfold spec_l00In_.f
    simp only [Option.bind_some, List.all_cons]
    cases decide (-100000 ≤ ns[i] ∧ ns[i] ≤ 100000) <;> simp
theorem spec_l04Ok_.same (ns : List Int) (ps : List S36) (h : ns.length ≤ 4611686018427387904 ∧ ∀ p ∈ ps, p.f0.size ≤ 9000000000000000000) : spec_l04Ok.f (ns.length + 25) ns ps = some (netOk ns ps) := by
  unfold spec_l04Ok.f netOk nodesOk
  have := okN_loop ns ps h.1 h.2 ns.length (ns.length + 25) 0 (by omega) (by omega) (by omega)
  simpa using this
theorem spec_l04Ok_.calls (gr0 : Nat) (A0_0 : Option Addr) (c0_0 : Nat) (l0_0 : List Int) (A0_1 : Option Addr) (c0_1 : Nat) (l0_1 : List (S36)) (r : Bool) (w : World) (hb0 : w.heap[gr0]? = some (.cells #[.slice A0_0 l0_0.length c0_0, .slice A0_1 l0_1.length c0_1] 25 (0, 0))) (hr0_0 : Kd.C (Kd.int .i64) w A0_0 l0_0.length l0_0) (hc0_0 : l0_0.length ≤ c0_0) (hr0_1 : Kd.C k36 w A0_1 l0_1.length l0_1) (hc0_1 : l0_1.length ≤ c0_1) (h : spec_l04Ok_.f l0_0 l0_1 = some r) :
    Calls Tryz.prog 23 #[.pointer (some ⟨gr0, 0, none⟩)] w fun e w' => e = .returned (.bool r) ∧ Drawn0 w w' := by
  unfold spec_l04Ok_.f at h
  split at h
  · rename_i hs
    exact spec_l04Ok.calls (l0_0.length + 25) gr0 A0_0 c0_0 l0_0 A0_1 c0_1 l0_1 r w hb0 hr0_0 hc0_0 hr0_1 hc0_1 (by rw [← h]; exact spec_l04Ok_.same l0_0 l0_1 hs)
  · exact absurd h (by simp)


/-! ### spec_l04Read: function 9 -/
def spec_l04Read.l0 : Nat → List ByteArray → Int → List Int → List (S36) → Option (List Int × (List (S36)) × Bool)
 | 0, _, _, _, _ => none
 | k + 1, x4, x8, x166000, x166001 => if x8 < (x4.length : Int) then (if 0 ≤ x8 then ((spec_l03Read.f k (rdOf ByteArray.empty x4 x8)).bind fun bt167 => (if bt167.2.2.2.2.2.2 = true then (if x166001.length < 2513169434916 then (spec_l04Read.l0 k x4 (wrap64 (x8 + 1)) x166000 (x166001 ++ [(⟨bt167.1, bt167.2.1, bt167.2.2.1, bt167.2.2.2.1, bt167.2.2.2.2.1, bt167.2.2.2.2.2.1⟩ : S36)])) else (none)) else (some (([] : List Int), ([] : List (S36)), false)))) else (none)) else ((spec_l04Ok_.f x166000 x166001).bind fun t178 => (if t178 = true then (some (x166000, x166001, true)) else (some (([] : List Int), ([] : List (S36)), false))))
def spec_l04Read.f (k : Nat) (a0 : ByteArray) : Option (List Int × (List (S36)) × Bool) := (spec_l01Split.f k a0 47).bind fun t154 => (if 0 < (t154.length : Int) then ((spec_ReadList.f k (rdOf ByteArray.empty t154 0)).bind fun bt158 => (if bt158.2 = true then (spec_l04Read.l0 k t154 1 bt158.1 (([] : List (S36)))) else (some (([] : List Int), ([] : List (S36)), false)))) else (none))
theorem spec_l04Read.mono_l : ∀ k, (∀ y0 y1 y2 y3, LeO (spec_l04Read.l0 k y0 y1 y2 y3) (spec_l04Read.l0 (k + 1) y0 y1 y2 y3))
 | 0 => fun _ _ _ _ r h => by simp [spec_l04Read.l0] at h
 | k + 1 => by
  have ih0 := spec_l04Read.mono_l k
  ·intro y0 y1 y2 y3
   unfold spec_l04Read.l0
   repeat' first|(with_reducible first|exact ih0 _ _ _ _|exact spec_ReadList.mono _ _|exact spec_l01Split.mono _ _ _|exact spec_l03Read.mono _ _|exact LeO.refl _|exact LeO.none _|refine LeO.ite ?_ ?_|refine LeO.bind ?_ (fun _ => ?_))|exact ih0 _ _ _ _|exact spec_ReadList.mono _ _|exact spec_l01Split.mono _ _ _|exact spec_l03Read.mono _ _|exact LeO.none _|refine LeO.ite ?_ ?_|refine LeO.bind ?_ (fun _ => ?_)
theorem spec_l04Read.mono : ∀ a0 k, LeO (spec_l04Read.f k a0) (spec_l04Read.f (k + 1) a0) := by
 intro a0 k
 have ih0 := spec_l04Read.mono_l k
 unfold spec_l04Read.f
 repeat' first|(with_reducible first|exact ih0 _ _ _ _|exact spec_ReadList.mono _ _|exact spec_l01Split.mono _ _ _|exact spec_l03Read.mono _ _|exact LeO.refl _|exact LeO.none _|refine LeO.ite ?_ ?_|refine LeO.bind ?_ (fun _ => ?_))|exact ih0 _ _ _ _|exact spec_ReadList.mono _ _|exact spec_l01Split.mono _ _ _|exact spec_l03Read.mono _ _|exact LeO.none _|refine LeO.ite ?_ ?_|refine LeO.bind ?_ (fun _ => ?_)
set_option maxHeartbeats 8000000 in
set_option maxRecDepth 100000 in
theorem spec_l04Read.calls (k : Nat) (a0 : ByteArray) (r1 : List Int) (r2 : List (S36)) (r3 : Bool) (w : World) (h : spec_l04Read.f k a0 = some (r1, r2, r3)) :
  Calls Tryz.prog 9 #[.string a0] w fun e w' => ∃ v0_ v1_ : Value, e = .returned (.tuple #[.agg #[v0_, v1_], .bool r3]) ∧ Kd.R (Kd.int .i64) 2 w' w.heap.size (fun _ => True) v0_ r1 ∧ Kd.R k36 36 w' w.heap.size (fun _ => True) v1_ r2 ∧ Below w.heap.size w w' := by
 have hu25 := Tryz.underlying25
 have hu36 := Tryz.underlying36
 have HB := Aside0.mk (Below.refl w.heap.size w)
 have H : ((spec_l01Split.f k a0 47).bind fun t154 => (if 0 < (t154.length : Int) then ((spec_ReadList.f k (rdOf ByteArray.empty t154 0)).bind fun bt158 => (if bt158.2 = true then (spec_l04Read.l0 k t154 1 bt158.1 (([] : List (S36)))) else (some (([] : List Int), ([] : List (S36)), false)))) else (none))) = some (r1, r2, r3) := h
 clear h
 replace H := Option.bind_eq_some_iff.mp H
 obtain ⟨t154, A20, H⟩ := H
 have A2 := Aside0.mk A20
 clear A20
 by_cases c3 : 0 < (t154.length : Int)
 ·rw [if_pos c3] at H
  have c3b0 := decide_eq_true c3
  have c3b1 : decide (0 < t154.length) = true := decide_eq_true (by omega)
  clear c3
  replace H := Option.bind_eq_some_iff.mp H
  obtain ⟨⟨t158, t159⟩, A40, H⟩ := H
  replace H : (if t159 = true then (spec_l04Read.l0 k t154 1 t158 (([] : List (S36)))) else (some (([] : List Int), ([] : List (S36)), false))) = some (r1, r2, r3) := H
  have A4 := Aside0.mk A40
  clear A40
  by_cases c5 : t159 = true
  ·subst c5
   rw [if_pos rfl] at H
   obtain ⟨y162, hy162⟩ : ∃ y_ : List (S36), y_ = (([] : List (S36))) := ⟨_, rfl⟩
   replace H : (spec_l04Read.l0 k t154 1 t158 y162) = some (r1, r2, r3) := by first | (rw [hy162]; with_reducible exact H) | (have H2_ := (Option.bind_some _ _).symm.trans H; rw [hy162]; with_reducible exact H2_) | (have H2_ := (Option.bind_some _ _).symm.trans H; with_reducible exact H2_) | with_reducible exact H | (rw [hy162]; exact H) | exact H
   have Ny162 := Aside0.mk hy162
   clear hy162
   have H' := Aside0.mk H
   clear H
   go_enter Tryz.func9, Tryz.ntmps9
   go_wp2_with (first | ((with_reducible refine gate_dst (N := 2) rfl ?_); refine box_event ?hg (N := 2) ?hd (cs := #[.slice none 0 0, .slice none 0 0]) (t := 25) ?hr ?_; (case hd => rfl); (case hg => rfl); (case hr => first | (go_simp; done) | (go_simp; rfl)); intro gb153 hg w6 hbox hb; have n0_ := Aside0.mk (below_step (z0_) hb); have n1_ := Aside0.mk (hbox); have n2_ := Aside0.mk ((z4_ : w.heap.size ≤ gb153)); have n3_ := Aside0.mk ((z4_ : w.heap.size ≤ gb153)); clear HB; have HB := n0_; have BK153 := n1_; have GW153 := n2_; have GE153 := n3_; clear n0_ n1_ n2_ n3_; clear hb hbox hg) | ((with_reducible refine gate_callee (f := 20) rfl ?_); refine goesL_ (some 12) rfl rfl Tryz.func20 (z11_) rfl #[.string a0, .int .u8 47] rfl (z1_) ?_; (with_reducible refine (spec_l01Split.calls k a0 47 t154 _ A2.out).mono ?_); rintro e w7 ⟨v155, rfl, ho0, hb⟩; refine ⟨_, rfl, ?_⟩; have n0_ := Aside0.mk (Kd.R_lower ho0 (below_size (z27_))); have n1_ := Aside0.mk (blk_below (g := gb153) (o := .cells #[.slice none 0 0, .slice none 0 0] 25 (0, 0)) (z26_) hb); have n2_ := Aside0.mk (below_step (z27_) hb); clear BK153; clear HB; have HO156 := n0_; have BK153 := n1_; have HB := n2_; clear n0_ n1_ n2_; (try clear hb); (try clear hb2); (try clear hk); (try clear hi); (try clear ho0); obtain ⟨Ao8, co8, eo8⟩ := Kd.R_slice HO156.out; subst eo8; have p157 : 0 ≤ (0 : Int) := (by omega); have q157 : 0 < (t154.length : Int) := of_decide_eq_true (z2_); obtain ⟨ad157, e157, hx157_0⟩ := Kd.at_string (Kd.R_reads' HO156.out).2.2 0 p157 q157; cases e157; have qi157 : (0 < t154.length) = True := eq_true (by omega); (try rw [show ((0 : Int)).toNat = 0 from rfl] at hx157_0); (try rw [Addr.add_zero'] at hx157_0); replace p157 := eq_true p157; replace q157 := eq_true q157) | ((with_reducible refine gate_callee (f := 21) rfl ?_); refine goesL_ (some 17) rfl rfl Tryz.func21 (z11_) rfl #[.string (rdOf ByteArray.empty t154 0)] rfl (z1_) ?_; (with_reducible refine (spec_ReadList.calls k (rdOf ByteArray.empty t154 0) t158 true _ A4.out).mono ?_); rintro e w9 ⟨v160, rfl, ho0, hb⟩; refine ⟨_, rfl, ?_⟩; have n0_ := Aside0.mk (Kd.R_below (z141_) hb); have n1_ := Aside0.mk (Kd.R_lower ho0 (below_size (z27_))); have n2_ := Aside0.mk (blk_below (g := gb153) (o := .cells #[.slice none 0 0, .slice none 0 0] 25 (0, 0)) (z26_) hb); have n3_ := Aside0.mk (below_step (z27_) hb); clear HO156; clear BK153; clear HB; have HO156 := n0_; have HO161 := n1_; have BK153 := n2_; have HB := n3_; clear n0_ n1_ n2_ n3_; (try clear hb); (try clear hb2); (try clear hk); (try clear hi); (try clear ho0)) | ((with_reducible refine gate_dst (N := 24) rfl ?_); refine Kd.R_lit k36 _ 36 ?hg (N := 24) ?hd (xs := ([] : List (S36))) (inner := []) (ok := fun _ => True) (okp := fun _ => True) ?hr ?hp (fun _ hk => hk) trivial (Below.refl _ _) (Nat.le_refl _) (by simp) ?_; (case hd => rfl); (case hg => rfl); (case hr => first | (go_simp; done) | (go_simp; rfl)); (case hp => exact (Reps.none _ _)); intro v163 w10 ho11 hb hg_ hnew_; clear hg_ hnew_; (first | rw [← Ny162.out] at ho11 | (simp only [Int.reduceToNat] at ho11; rw [← Ny162.out] at ho11)); have n0_ := Aside0.mk (Kd.R_below (z141_) hb); have n1_ := Aside0.mk (Kd.R_below (by (with_reducible repeat (first | apply rA|apply rN|apply rW)); exact HO161.out) hb); have n2_ := Aside0.mk (Kd.R_lower ho11 (below_size (z27_))); have n3_ := Aside0.mk (blk_below (g := gb153) (o := .cells #[.slice none 0 0, .slice none 0 0] 25 (0, 0)) (z26_) hb); have n4_ := Aside0.mk (below_step (z27_) hb); clear HO156; clear HO161; clear BK153; clear HB; have HO156 := n0_; have HO161 := n1_; have HO164 := n2_; have BK153 := n3_; have HB := n4_; clear n0_ n1_ n2_ n3_ n4_; clear hb ho11; obtain ⟨Ao12, co12, eo12⟩ := Kd.R_slice HO164.out; subst eo12; obtain ⟨Ao13, co13, eo13⟩ := Kd.R_slice HO161.out; subst eo13) | ((with_reducible refine gate_dst (N := 7) rfl ?_); refine box_event ?hg (N := 7) ?hd (cs := #[.slice none 0 0, .slice none 0 0]) (t := 25) ?hr ?_; (case hd => rfl); (case hg => rfl); (case hr => first | (go_simp; done) | (go_simp; rfl)); intro gb165 hg w14 hbox hb; have n0_ := Aside0.mk (Kd.R_below (z141_) hb); have n1_ := Aside0.mk (Kd.R_below (by (with_reducible repeat (first | apply rA|apply rN|apply rW)); exact HO161.out) hb); have n2_ := Aside0.mk (Kd.R_below (by (with_reducible repeat (first | apply rA|apply rN|apply rW)); exact HO164.out) hb); have n3_ := Aside0.mk (blk_below (g := gb153) (o := .cells #[.slice none 0 0, .slice none 0 0] 25 (0, 0)) (z26_) hb); have n4_ := Aside0.mk (below_step (z27_) hb); have n5_ := Aside0.mk (hbox); have n6_ := Aside0.mk ((z144_ : w.heap.size ≤ gb165)); have n7_ := Aside0.mk ((z144_ : w.heap.size ≤ gb165)); have n8_ := Aside0.mk ((z93_ : gb153 ≠ gb165)); have n9_ := Aside0.mk ((z94_ : gb165 ≠ gb153)); clear HO156; clear HO161; clear HO164; clear BK153; clear HB; have HO156 := n0_; have HO161 := n1_; have HO164 := n2_; have BK153 := n3_; have HB := n4_; have BK165 := n5_; have GW165 := n6_; have GE165 := n7_; have NB153_165 := n8_; have NB165_153 := n9_; clear n0_ n1_ n2_ n3_ n4_ n5_ n6_ n7_ n8_ n9_; clear hb hbox hg; have hnb15 := NB165_153.out; have hnc15 := NB153_165.out; have hcz16_0 := bc0_ w14 BK165.out; have hcz16_1 := bc1_ w14 BK165.out; have hfz16_0 := blk_frozen BK165.out 0; have hfz16_1 := blk_frozen BK165.out 1))
   go_loopg [8] k (fun kq v8 w' => ∃ (x8_1 : Int) (x166001_1 : List (S36)) (u166001 : Value), v8 = .int .i64 x8_1 ∧ Aside0 (spec_l04Read.l0 kq t154 x8_1 t158 x166001_1 = some (r1, r2, r3)) ∧ Aside0 (kq ≤ k) ∧ Aside0 (Kd.R Kd.string 9 w' w.heap.size (fun _ => True) (.slice (some ad157) t154.length co8) t154) ∧ Aside0 (Kd.R (Kd.int .i64) 2 w' w.heap.size (fun _ => True) (.slice Ao13 t158.length co13) t158) ∧ Aside0 (Kd.R k36 36 w' w.heap.size (fun _ => True) u166001 x166001_1) ∧ Aside0 (w'.heap[gb153]? = some (.cells #[(.slice none 0 0), (.slice none 0 0)] 25 (0, 0))) ∧ Aside0 (w'.heap[gb165]? = some (.cells #[(.slice Ao13 t158.length co13), u166001] 25 (0, 0))) ∧ Aside0 (Below w.heap.size w w'))
   case atStart => exact ⟨(1), (y162), (.slice Ao12 y162.length co12), (z7_), H', ⟨Nat.le_refl _⟩, ⟨by (with_reducible repeat (first | apply rA|apply rN|apply rW)); exact Kd.R_mono (Kd.R_far (p := ⟨gb165, 1, none⟩) (Kd.R_far (p := ⟨gb165, 0, none⟩) (Kd.R_types HO156.out BK165.out (by decide)) (fun _ hk => hk.2) (.slice Ao13 t158.length co13)) (fun _ hk => hk.2) (.slice Ao12 y162.length co12)) (fun _ hk => trivial)⟩, ⟨by (with_reducible repeat (first | apply rA|apply rN|apply rW)); exact Kd.R_mono (Kd.R_far (p := ⟨gb165, 1, none⟩) (Kd.R_far (p := ⟨gb165, 0, none⟩) (Kd.R_types HO161.out BK165.out (by decide)) (fun _ hk => hk.2) (.slice Ao13 t158.length co13)) (fun _ hk => hk.2) (.slice Ao12 y162.length co12)) (fun _ hk => trivial)⟩, ⟨by (with_reducible repeat (first | apply rA|apply rN|apply rW)); exact Kd.R_mono (Kd.R_far (p := ⟨gb165, 1, none⟩) (Kd.R_far (p := ⟨gb165, 0, none⟩) (Kd.R_types HO164.out BK165.out (by decide)) (fun _ hk => hk.2) (.slice Ao13 t158.length co13)) (fun _ hk => hk.2) (.slice Ao12 y162.length co12)) (fun _ hk => trivial)⟩, ⟨by (with_reducible repeat (first | refine bN ?_ _|refine bW ?_|refine bA ?_ _)); refine blk_far ?_ NB153_165.out _; (with_reducible repeat (first | refine bN ?_ _|refine bW ?_|refine bA ?_ _)); refine blk_far ?_ NB153_165.out _; (with_reducible repeat (first | refine bN ?_ _|refine bW ?_|refine bA ?_ _)); exact BK153.out⟩, ⟨by (with_reducible repeat (first | refine bN ?_ _|refine bW ?_|refine bA ?_ _)); refine blk_put (cs := #[.slice Ao13 t158.length co13, .slice none 0 0]) ?_ 1 _ rfl; (with_reducible repeat (first | refine bN ?_ _|refine bW ?_|refine bA ?_ _)); refine blk_put (cs := #[.slice none 0 0, .slice none 0 0]) ?_ 0 _ rfl; (with_reducible repeat (first | refine bN ?_ _|refine bW ?_|refine bA ?_ _)); exact BK165.out⟩, ⟨z24_⟩⟩
   case round =>
    clear H'
    try clear c1
    try clear p1
    try clear q1
    try clear hx1
    try clear qi1
    try clear c2
    try clear p2
    try clear c3
    try clear c3b0
    try clear c3b1
    try clear c5
    try clear c9
    try clear c15
    try clear p15
    try clear q15
    try clear hx15
    try clear qi15
    try clear hcz16_0
    try clear hcz16_1
    try clear hfz16_0
    try clear hfz16_1
    try clear hx157_0
    try clear p157
    try clear q157
    obtain ⟨x8_1, x166001_1, u166001, rfl, HA, HK1, HO_4, HO_166000, HO_166001, BK153, BK165, HB⟩ := hrel
    cases gk with
    | zero => exact absurd HA.out (by simp [spec_l04Read.l0])
    | succ k1 =>
     have H := HA.out
     clear HA
     simp only [spec_l04Read.l0] at H
     by_cases c17 : x8_1 < (t154.length : Int)
     ·rw [if_pos c17] at H
      have c17b0 := decide_eq_true c17
      clear c17
      by_cases c18 : 0 ≤ x8_1
      ·rw [if_pos c18] at H
       have c18b0 := decide_eq_true c18
       clear c18
       replace H := Option.bind_eq_some_iff.mp H
       obtain ⟨⟨t167, t168, t169, t170, t171, t172, t173⟩, A190, H⟩ := H
       replace H : (if t173 = true then (if x166001_1.length < 2513169434916 then (spec_l04Read.l0 k1 t154 (wrap64 (x8_1 + 1)) t158 (x166001_1 ++ [(⟨t167, t168, t169, t170, t171, t172⟩ : S36)])) else (none)) else (some (([] : List Int), ([] : List (S36)), false))) = some (r1, r2, r3) := H
       have A19 := Aside0.mk A190
       clear A190
       by_cases c20 : t173 = true
       ·subst c20
        rw [if_pos rfl] at H
        by_cases c21 : x166001_1.length < 2513169434916
        ·rw [if_pos c21] at H
         have LMc21 := Aside0.mk c21
         clear c21
         obtain ⟨y175, hy175⟩ : ∃ y_ : List (S36), y_ = (x166001_1 ++ [(⟨t167, t168, t169, t170, t171, t172⟩ : S36)]) := ⟨_, rfl⟩
         replace H : (spec_l04Read.l0 k1 t154 (wrap64 (x8_1 + 1)) t158 y175) = some (r1, r2, r3) := by first | (rw [hy175]; with_reducible exact H) | (have H2_ := (Option.bind_some _ _).symm.trans H; rw [hy175]; with_reducible exact H2_) | (have H2_ := (Option.bind_some _ _).symm.trans H; with_reducible exact H2_) | with_reducible exact H | (rw [hy175]; exact H) | exact H
         have Ny175 := Aside0.mk hy175
         clear hy175
         have H' := Aside0.mk H
         clear H
         have p166 : 0 ≤ (x8_1 : Int) := of_decide_eq_true (z2_)
         have q166 : x8_1 < (t154.length : Int) := of_decide_eq_true (z2_)
         obtain ⟨ad166, e166, hx166_0⟩ := Kd.at_string (Kd.R_reads' HO_4.out).2.2 x8_1 p166 q166
         obtain rfl : ad157 = ad166 := (by injection e166)
         replace p166 := eq_true p166
         replace q166 := eq_true q166
         go_wp2_with (first | ((with_reducible refine gate_callee (f := 22) rfl ?_); refine goesL_ (some 37) rfl rfl Tryz.func22 (z11_) rfl #[.string (rdOf ByteArray.empty t154 x8_1)] rfl (z1_) ?_; (with_reducible refine (spec_l03Read.calls k1 (rdOf ByteArray.empty t154 x8_1) t167 t168 t169 t170 t171 t172 true _ A19.out).mono ?_); rintro e w22 ⟨rfl, hb⟩; refine ⟨_, rfl, ?_⟩; have n0_ := Aside0.mk (Kd.R_below (z35_) hb); have n1_ := Aside0.mk (Kd.R_below (z111_) hb); have n2_ := Aside0.mk (Kd.R_below (z112_) hb); have n3_ := Aside0.mk (blk_below (g := gb153) (o := .cells #[.slice none 0 0, .slice none 0 0] 25 (0, 0)) (z26_) hb); have n4_ := Aside0.mk (blk_below (g := gb165) (o := .cells #[.slice Ao13 t158.length co13, u166001] 25 (0, 0)) (z51_) hb); have n5_ := Aside0.mk (below_step (z24_) hb); clear HO_4; clear HO_166000; clear HO_166001; clear BK153; clear BK165; clear HB; have HO_4 := n0_; have HO_166000 := n1_; have HO_166001 := n2_; have BK153 := n3_; have BK165 := n4_; have HB := n5_; clear n0_ n1_ n2_ n3_ n4_ n5_; (try clear hb); (try clear hb2); (try clear hk); (try clear hi)) | ((with_reducible refine gate_dst (N := 9) rfl ?_); refine box_event ?hg (N := 9) ?hd (cs := #[.string (⟨#[]⟩ : ByteArray), .int .i64 0, .int .i64 0, .int .i64 0, .int .i64 0, .int .i64 0]) (t := 36) ?hr ?_; (case hd => rfl); (case hg => rfl); (case hr => first | (go_simp; done) | (go_simp; rfl)); intro gb174 hg w23 hbox hb; have n0_ := Aside0.mk (Kd.R_below (z35_) hb); have n1_ := Aside0.mk (Kd.R_below (z111_) hb); have n2_ := Aside0.mk (Kd.R_below (Kd.R_elderB (z112_) gb174 (Nat.le_of_eq hg.symm)) hb); have n3_ := Aside0.mk (blk_below (g := gb153) (o := .cells #[.slice none 0 0, .slice none 0 0] 25 (0, 0)) (z26_) hb); have n4_ := Aside0.mk (blk_below (g := gb165) (o := .cells #[.slice Ao13 t158.length co13, u166001] 25 (0, 0)) (z51_) hb); have n5_ := Aside0.mk (below_step (z24_) hb); have n6_ := Aside0.mk (hbox); have n7_ := Aside0.mk ((z82_ : w.heap.size ≤ gb174)); have n8_ := Aside0.mk ((z82_ : w.heap.size ≤ gb174)); have n9_ := Aside0.mk ((z93_ : gb153 ≠ gb174)); have n10_ := Aside0.mk ((z94_ : gb174 ≠ gb153)); have n11_ := Aside0.mk ((z127_ : gb165 ≠ gb174)); have n12_ := Aside0.mk ((z128_ : gb174 ≠ gb165)); clear HO_4; clear HO_166000; clear HO_166001; clear BK153; clear BK165; clear HB; have HO_4 := n0_; have HO_166000 := n1_; have HO_166001 := n2_; have BK153 := n3_; have BK165 := n4_; have HB := n5_; have BK174 := n6_; have GW174 := n7_; have GE174 := n8_; have NB153_174 := n9_; have NB174_153 := n10_; have NB165_174 := n11_; have NB174_165 := n12_; clear n0_ n1_ n2_ n3_ n4_ n5_ n6_ n7_ n8_ n9_ n10_ n11_ n12_; clear hb hbox hg; have hnb24 := NB174_153.out; have hnc24 := NB153_174.out; have hnb25 := NB174_165.out; have hnc25 := NB165_174.out; have hcz26_0 := bc0_ w23 BK174.out; have hcz26_1 := bc1_ w23 BK174.out; have hcz26_2 := bc2_ w23 BK174.out; have hcz26_3 := bc3_ w23 BK174.out; have hcz26_4 := bc4_ w23 BK174.out; have hcz26_5 := bc5_ w23 BK174.out; have hfz26_0 := blk_frozen BK174.out 0; have hfz26_1 := blk_frozen BK174.out 1; have hfz26_2 := blk_frozen BK174.out 2; have hfz26_3 := blk_frozen BK174.out 3; have hfz26_4 := blk_frozen BK174.out 4; have hfz26_5 := blk_frozen BK174.out 5; have hnb27 := NB165_153.out; have hnc27 := NB153_165.out; have hcz28_0 := bc0_ w23 BK165.out; have hcz28_1 := bc1_ w23 BK165.out; have hfz28_0 := blk_frozen BK165.out 0; have hfz28_1 := blk_frozen BK165.out 1) | ((with_reducible refine gate_builtin (b := .append) (xs := #[.tmp 44, .tmp 46]) rfl ?_); at_builtin; refine Kd.R_append k36 (w0 := w) w.heap.size rfl (.tmp 44) (.tmp 46) 23 36 (.agg #[(.string ⟨#[]⟩), (.int .i64 0), (.int .i64 0), (.int .i64 0), (.int .i64 0), (.int .i64 0)]) 56 rfl Tryz.underlying23 info36 rfl (by decide) (by omega) u166001 x166001_1 (⟨t167, t168, t169, t170, t171, t172⟩ : S36) [.string t167, .int .i64 t168, .int .i64 t169, .int .i64 t170, .int .i64 t171, .int .i64 t172] (fun k_ => k_ ≠ gb174) (fun _ => False) rfl (by first | (go_simp; done) | (go_simp; rfl)) ?aP (fun _ hk => hk.elim) ?aF ?aO ?aB ?aS ?aL ?_; (case aP => exact k36_mkM _ _ _ (⟨t167, t168, t169, t170, t171, t172⟩ : S36)); (case aB => exact (z86_)); (case aF => exact (fun k_ hk => Kd.freshB (g := gb174) (o := .cells #[.string t167, .int .i64 t168, .int .i64 t169, .int .i64 t170, .int .i64 t171, .int .i64 t172] 36 (0, 0)) (z17_) k_ hk)); (case aO => exact (by (with_reducible repeat (first | apply rA|apply rN|apply rW)); exact Kd.R_mono (Kd.R_far (p := ⟨gb174, 5, none⟩) (Kd.R_far (p := ⟨gb174, 4, none⟩) (Kd.R_far (p := ⟨gb174, 3, none⟩) (Kd.R_far (p := ⟨gb174, 2, none⟩) (Kd.R_far (p := ⟨gb174, 1, none⟩) (Kd.R_far (p := ⟨gb174, 0, none⟩) (Kd.R_mono HO_166001.out (fun k_ hk => (⟨hk, hk.2⟩ : _ ∧ k_ ≠ gb174))) (fun _ hk => hk.2) (.string t167)) (fun _ hk => hk.2) (.int .i64 t168)) (fun _ hk => hk.2) (.int .i64 t169)) (fun _ hk => hk.2) (.int .i64 t170)) (fun _ hk => hk.2) (.int .i64 t171)) (fun _ hk => hk.2) (.int .i64 t172)) (fun _ hk => hk.1.2))); (case aS => exact (below_size (z86_))); (case aL => have := LMc21.out; omega); intro v176 w29 ho hb hg hat; rw [← Ny175.out] at ho; have n0_ := Aside0.mk (Kd.R_over' (by (with_reducible repeat (first | apply rA|apply rN|apply rW)); exact (Kd.R_mono (Kd.R_far (p := ⟨gb174, 5, none⟩) (Kd.R_far (p := ⟨gb174, 4, none⟩) (Kd.R_far (p := ⟨gb174, 3, none⟩) (Kd.R_far (p := ⟨gb174, 2, none⟩) (Kd.R_far (p := ⟨gb174, 1, none⟩) (Kd.R_far (p := ⟨gb174, 0, none⟩) (Kd.R_types HO_4.out BK174.out (by decide)) (fun _ hk => hk.2) (.string t167)) (fun _ hk => hk.2) (.int .i64 t168)) (fun _ hk => hk.2) (.int .i64 t169)) (fun _ hk => hk.2) (.int .i64 t170)) (fun _ hk => hk.2) (.int .i64 t171)) (fun _ hk => hk.2) (.int .i64 t172)) (fun _ h_ => h_.1))) (Kd.R_typed (z49_)) (by decide) hg); have n1_ := Aside0.mk (Kd.R_over' (by (with_reducible repeat (first | apply rA|apply rN|apply rW)); exact (Kd.R_mono (Kd.R_far (p := ⟨gb174, 5, none⟩) (Kd.R_far (p := ⟨gb174, 4, none⟩) (Kd.R_far (p := ⟨gb174, 3, none⟩) (Kd.R_far (p := ⟨gb174, 2, none⟩) (Kd.R_far (p := ⟨gb174, 1, none⟩) (Kd.R_far (p := ⟨gb174, 0, none⟩) (Kd.R_types HO_166000.out BK174.out (by decide)) (fun _ hk => hk.2) (.string t167)) (fun _ hk => hk.2) (.int .i64 t168)) (fun _ hk => hk.2) (.int .i64 t169)) (fun _ hk => hk.2) (.int .i64 t170)) (fun _ hk => hk.2) (.int .i64 t171)) (fun _ hk => hk.2) (.int .i64 t172)) (fun _ h_ => h_.1))) (Kd.R_typed (z49_)) (by decide) hg); have n2_ := Aside0.mk (blk_grown (g := gb153) (o := .cells #[.slice none 0 0, .slice none 0 0] 25 (0, 0)) (by (with_reducible repeat (first | refine bN ?_ _|refine bW ?_|refine bA ?_ _)); refine blk_far ?_ NB153_174.out _; (with_reducible repeat (first | refine bN ?_ _|refine bW ?_|refine bA ?_ _)); refine blk_far ?_ NB153_174.out _; (with_reducible repeat (first | refine bN ?_ _|refine bW ?_|refine bA ?_ _)); refine blk_far ?_ NB153_174.out _; (with_reducible repeat (first | refine bN ?_ _|refine bW ?_|refine bA ?_ _)); refine blk_far ?_ NB153_174.out _; (with_reducible repeat (first | refine bN ?_ _|refine bW ?_|refine bA ?_ _)); refine blk_far ?_ NB153_174.out _; (with_reducible repeat (first | refine bN ?_ _|refine bW ?_|refine bA ?_ _)); refine blk_far ?_ NB153_174.out _; (with_reducible repeat (first | refine bN ?_ _|refine bW ?_|refine bA ?_ _)); exact BK153.out) hg (Kd.R_ne HO_166001.out BK153.out (by decide))); have n3_ := Aside0.mk (blk_grown (g := gb165) (o := .cells #[.slice Ao13 t158.length co13, u166001] 25 (0, 0)) (by (with_reducible repeat (first | refine bN ?_ _|refine bW ?_|refine bA ?_ _)); refine blk_far ?_ NB165_174.out _; (with_reducible repeat (first | refine bN ?_ _|refine bW ?_|refine bA ?_ _)); refine blk_far ?_ NB165_174.out _; (with_reducible repeat (first | refine bN ?_ _|refine bW ?_|refine bA ?_ _)); refine blk_far ?_ NB165_174.out _; (with_reducible repeat (first | refine bN ?_ _|refine bW ?_|refine bA ?_ _)); refine blk_far ?_ NB165_174.out _; (with_reducible repeat (first | refine bN ?_ _|refine bW ?_|refine bA ?_ _)); refine blk_far ?_ NB165_174.out _; (with_reducible repeat (first | refine bN ?_ _|refine bW ?_|refine bA ?_ _)); refine blk_far ?_ NB165_174.out _; (with_reducible repeat (first | refine bN ?_ _|refine bW ?_|refine bA ?_ _)); exact BK165.out) hg (Kd.R_ne HO_166001.out BK165.out (by decide))); have n4_ := Aside0.mk (blk_grown (g := gb174) (o := .cells #[.string t167, .int .i64 t168, .int .i64 t169, .int .i64 t170, .int .i64 t171, .int .i64 t172] 36 (0, 0)) (z17_) hg (Kd.R_away HO_166001.out (fun _ hk => hk.2))); have n5_ := Aside0.mk (hb); have n6_ := Aside0.mk (ho); clear HO_4; clear HO_166000; clear BK153; clear BK165; clear BK174; clear HB; clear HO_166001; have HO_4 := n0_; have HO_166000 := n1_; have BK153 := n2_; have BK165 := n3_; have BK174 := n4_; have HB := n5_; have HO177 := n6_; clear n0_ n1_ n2_ n3_ n4_ n5_ n6_; clear ho hb hg hat; obtain ⟨Ao30, co30, eo30⟩ := Kd.R_slice HO177.out; subst eo30; have hcz31_0 := bc0_ w29 BK165.out; have hcz31_1 := bc1_ w29 BK165.out; have hfz31_0 := blk_frozen BK165.out 0; have hfz31_1 := blk_frozen BK165.out 1))
         go_roundg k1
         case measure => have := HK1.out; omega
         case rel => exact ⟨(wrap64 (x8_1 + 1)), (y175), (.slice Ao30 y175.length co30), (z7_), H', ⟨z117_⟩, ⟨by (with_reducible repeat (first | apply rA|apply rN|apply rW)); exact Kd.R_mono (Kd.R_far (p := ⟨gb165, 1, none⟩) (Kd.R_types HO_4.out BK165.out (by decide)) (fun _ hk => hk.2) (.slice Ao30 y175.length co30)) (fun _ hk => trivial)⟩, ⟨by (with_reducible repeat (first | apply rA|apply rN|apply rW)); exact Kd.R_mono (Kd.R_far (p := ⟨gb165, 1, none⟩) (Kd.R_types HO_166000.out BK165.out (by decide)) (fun _ hk => hk.2) (.slice Ao30 y175.length co30)) (fun _ hk => trivial)⟩, ⟨by (with_reducible repeat (first | apply rA|apply rN|apply rW)); exact Kd.R_mono (Kd.R_far (p := ⟨gb165, 1, none⟩) (Kd.R_types HO177.out BK165.out (by decide)) (fun _ hk => hk.2) (.slice Ao30 y175.length co30)) (fun _ hk => trivial)⟩, ⟨by (with_reducible repeat (first | refine bN ?_ _|refine bW ?_|refine bA ?_ _)); refine blk_far ?_ NB153_165.out _; (with_reducible repeat (first | refine bN ?_ _|refine bW ?_|refine bA ?_ _)); exact BK153.out⟩, ⟨by (with_reducible repeat (first | refine bN ?_ _|refine bW ?_|refine bA ?_ _)); refine blk_put (cs := #[.slice Ao13 t158.length co13, u166001]) ?_ 1 _ rfl; (with_reducible repeat (first | refine bN ?_ _|refine bW ?_|refine bA ?_ _)); exact BK165.out⟩, ⟨z86_⟩⟩
        ·rw [if_neg c21] at H
         exact absurd H (by simp)
       ·replace c20 := Bool.eq_false_iff.mpr c20
        subst c20
        rw [if_neg (show ¬ (false = true) by decide)] at H
        simp only [Option.some.injEq, Prod.mk.injEq] at H
        obtain ⟨rfl, rfl, rfl⟩ := H
        have p166 : 0 ≤ (x8_1 : Int) := of_decide_eq_true (z2_)
        have q166 : x8_1 < (t154.length : Int) := of_decide_eq_true (z2_)
        obtain ⟨ad166, e166, hx166_0⟩ := Kd.at_string (Kd.R_reads' HO_4.out).2.2 x8_1 p166 q166
        obtain rfl : ad157 = ad166 := (by injection e166)
        replace p166 := eq_true p166
        replace q166 := eq_true q166
        go_wp2_with (first | ((with_reducible refine gate_callee (f := 22) rfl ?_); refine goesL_ (some 37) rfl rfl Tryz.func22 (z11_) rfl #[.string (rdOf ByteArray.empty t154 x8_1)] rfl (z1_) ?_; (with_reducible refine (spec_l03Read.calls k1 (rdOf ByteArray.empty t154 x8_1) t167 t168 t169 t170 t171 t172 false _ A19.out).mono ?_); rintro e w32 ⟨rfl, hb⟩; refine ⟨_, rfl, ?_⟩; have n0_ := Aside0.mk (Kd.R_below (z35_) hb); have n1_ := Aside0.mk (Kd.R_below (z111_) hb); have n2_ := Aside0.mk (Kd.R_below (z112_) hb); have n3_ := Aside0.mk (blk_below (g := gb153) (o := .cells #[.slice none 0 0, .slice none 0 0] 25 (0, 0)) (z26_) hb); have n4_ := Aside0.mk (blk_below (g := gb165) (o := .cells #[.slice Ao13 t158.length co13, u166001] 25 (0, 0)) (z51_) hb); have n5_ := Aside0.mk (below_step (z24_) hb); clear HO_4; clear HO_166000; clear HO_166001; clear BK153; clear BK165; clear HB; have HO_4 := n0_; have HO_166000 := n1_; have HO_166001 := n2_; have BK153 := n3_; have BK165 := n4_; have HB := n5_; clear n0_ n1_ n2_ n3_ n4_ n5_; (try clear hb); (try clear hb2); (try clear hk); (try clear hi)) | ((with_reducible refine gate_dst (N := 9) rfl ?_); refine box_event ?hg (N := 9) ?hd (cs := #[.string (⟨#[]⟩ : ByteArray), .int .i64 0, .int .i64 0, .int .i64 0, .int .i64 0, .int .i64 0]) (t := 36) ?hr ?_; (case hd => rfl); (case hg => rfl); (case hr => first | (go_simp; done) | (go_simp; rfl)); intro gb174 hg w33 hbox hb; have n0_ := Aside0.mk (Kd.R_below (z35_) hb); have n1_ := Aside0.mk (Kd.R_below (z111_) hb); have n2_ := Aside0.mk (Kd.R_below (Kd.R_elderB (z112_) gb174 (Nat.le_of_eq hg.symm)) hb); have n3_ := Aside0.mk (blk_below (g := gb153) (o := .cells #[.slice none 0 0, .slice none 0 0] 25 (0, 0)) (z26_) hb); have n4_ := Aside0.mk (blk_below (g := gb165) (o := .cells #[.slice Ao13 t158.length co13, u166001] 25 (0, 0)) (z51_) hb); have n5_ := Aside0.mk (below_step (z24_) hb); have n6_ := Aside0.mk (hbox); have n7_ := Aside0.mk ((z82_ : w.heap.size ≤ gb174)); have n8_ := Aside0.mk ((z82_ : w.heap.size ≤ gb174)); have n9_ := Aside0.mk ((z93_ : gb153 ≠ gb174)); have n10_ := Aside0.mk ((z94_ : gb174 ≠ gb153)); have n11_ := Aside0.mk ((z127_ : gb165 ≠ gb174)); have n12_ := Aside0.mk ((z128_ : gb174 ≠ gb165)); clear HO_4; clear HO_166000; clear HO_166001; clear BK153; clear BK165; clear HB; have HO_4 := n0_; have HO_166000 := n1_; have HO_166001 := n2_; have BK153 := n3_; have BK165 := n4_; have HB := n5_; have BK174 := n6_; have GW174 := n7_; have GE174 := n8_; have NB153_174 := n9_; have NB174_153 := n10_; have NB165_174 := n11_; have NB174_165 := n12_; clear n0_ n1_ n2_ n3_ n4_ n5_ n6_ n7_ n8_ n9_ n10_ n11_ n12_; clear hb hbox hg; have hnb34 := NB174_153.out; have hnc34 := NB153_174.out; have hnb35 := NB174_165.out; have hnc35 := NB165_174.out; have hcz36_0 := bc0_ w33 BK174.out; have hcz36_1 := bc1_ w33 BK174.out; have hcz36_2 := bc2_ w33 BK174.out; have hcz36_3 := bc3_ w33 BK174.out; have hcz36_4 := bc4_ w33 BK174.out; have hcz36_5 := bc5_ w33 BK174.out; have hfz36_0 := blk_frozen BK174.out 0; have hfz36_1 := blk_frozen BK174.out 1; have hfz36_2 := blk_frozen BK174.out 2; have hfz36_3 := blk_frozen BK174.out 3; have hfz36_4 := blk_frozen BK174.out 4; have hfz36_5 := blk_frozen BK174.out 5; have hnb37 := NB153_165.out; have hnc37 := NB165_153.out; have hcz38_0 := bc0_ w33 BK153.out; have hcz38_1 := bc1_ w33 BK153.out; have hfz38_0 := blk_frozen BK153.out 0; have hfz38_1 := blk_frozen BK153.out 1))
        refine bodyPost_ret (results_ct rfl _ _ gb153 25 #[.slice none 0 0, .slice none 0 0] (0, 0) _ rfl (by (with_reducible repeat (first | refine bN ?_ _|refine bW ?_|refine bA ?_ _)); refine blk_put (cs := #[.slice none 0 0, .slice none 0 0]) ?_ 1 _ rfl; (with_reducible repeat (first | refine bN ?_ _|refine bW ?_|refine bA ?_ _)); refine blk_put (cs := #[.slice none 0 0, .slice none 0 0]) ?_ 0 _ rfl; (with_reducible repeat (first | refine bN ?_ _|refine bW ?_|refine bA ?_ _)); refine blk_far ?_ NB153_174.out _; (with_reducible repeat (first | refine bN ?_ _|refine bW ?_|refine bA ?_ _)); refine blk_far ?_ NB153_174.out _; (with_reducible repeat (first | refine bN ?_ _|refine bW ?_|refine bA ?_ _)); refine blk_far ?_ NB153_174.out _; (with_reducible repeat (first | refine bN ?_ _|refine bW ?_|refine bA ?_ _)); refine blk_far ?_ NB153_174.out _; (with_reducible repeat (first | refine bN ?_ _|refine bW ?_|refine bA ?_ _)); refine blk_far ?_ NB153_174.out _; (with_reducible repeat (first | refine bN ?_ _|refine bW ?_|refine bA ?_ _)); refine blk_far ?_ NB153_174.out _; (with_reducible repeat (first | refine bN ?_ _|refine bW ?_|refine bA ?_ _)); exact BK153.out) Tryz.underlying25 rfl (z11_)) rfl ?_
        exact ⟨_, _, z6_, z14_, z14_, z86_⟩
      ·rw [if_neg c18] at H
       exact absurd H (by simp)
     ·rw [if_neg c17] at H
      have c17b0 := decide_eq_false c17
      clear c17
      replace H := Option.bind_eq_some_iff.mp H
      obtain ⟨t178, A390, H⟩ := H
      have A39 := Aside0.mk A390
      clear A390
      by_cases c40 : t178 = true
      ·subst c40
       rw [if_pos rfl] at H
       simp only [Option.some.injEq, Prod.mk.injEq] at H
       obtain ⟨rfl, rfl, rfl⟩ := H
       obtain ⟨Ao41, co41, eo41⟩ := Kd.R_slice HO_166001.out
       subst eo41
       go_wp2_with (first | ((with_reducible refine gate_callee (f := 23) rfl ?_); refine goesL_ (some 49) rfl rfl Tryz.func23 (z11_) rfl #[.pointer (some ⟨gb165, 0, none⟩)] rfl (z1_) ?_; (with_reducible refine (spec_l04Ok_.calls gb165 Ao13 co13 t158 Ao41 co41 x166001_1 true _ ?side1 ?side2 ?side3 ?side4 ?side5 A39.out).mono ?_); (case side1 => exact (z51_)); (case side2 => repeat (first | exact (Kd.R_reads' HO_166000.out).2.2 | (with_reducible first|refine Kd.C_alloc ?_ _|refine Kd.C_drewN ?_ _|refine Kd.C_drew ?_))); (case side3 => exact (Kd.R_reads' HO_166000.out).2.1); (case side4 => repeat (first | exact (Kd.R_reads' HO_166001.out).2.2 | (with_reducible first|refine Kd.C_alloc ?_ _|refine Kd.C_drewN ?_ _|refine Kd.C_drew ?_))); (case side5 => exact (Kd.R_reads' HO_166001.out).2.1); rintro e w' ⟨rfl, ⟨nd, rfl⟩⟩; refine ⟨_, rfl, ?_⟩; (try (rw [drewN_self wr]; generalize hq_ : World.drewN wr _ = wr; have n0_ : Aside0 (Kd.R (Kd.int .i64) 2 wr w.heap.size (fun _ => True) (.slice Ao13 t158.length co13) t158) := ⟨z166_⟩; have n1_ : Aside0 (Kd.R k36 36 wr w.heap.size (fun _ => True) (.slice Ao41 x166001_1.length co41) x166001_1) := ⟨z167_⟩; have n2_ : Aside0 (Kd.R Kd.string 9 wr w.heap.size (fun _ => True) (.slice (some ad157) t154.length co8) t154) := ⟨by rw [← hq_]; exact (z35_)⟩; have n3_ : Aside0 (wr.heap[gb153]? = some (.cells #[.slice none 0 0, .slice none 0 0] 25 (0, 0))) := ⟨z157_⟩; have n4_ : Aside0 (wr.heap[gb165]? = some (.cells #[.slice Ao13 t158.length co13, .slice Ao41 x166001_1.length co41] 25 (0, 0))) := ⟨z158_⟩; have n5_ : Aside0 (Below w.heap.size w wr) := ⟨z139_⟩; clear HO_166000 HO_166001 HO_4 BK153 BK165 HB hq_; have HO_166000 := n0_; have HO_166001 := n1_; have HO_4 := n2_; have BK153 := n3_; have BK165 := n4_; have HB := n5_; clear n0_ n1_ n2_ n3_ n4_ n5_)); have hnb42 := NB165_153.out; have hnc42 := NB153_165.out; have hcz43_0 := bc0_ wr BK165.out; have hcz43_1 := bc1_ wr BK165.out; have hfz43_0 := blk_frozen BK165.out 0; have hfz43_1 := blk_frozen BK165.out 1; have hcz44_0 := bc0_ wr BK153.out; have hcz44_1 := bc1_ wr BK153.out; have hfz44_0 := blk_frozen BK153.out 0; have hfz44_1 := blk_frozen BK153.out 1))
       refine bodyPost_ret (results_ct rfl _ _ gb153 25 #[.slice Ao13 t158.length co13, .slice Ao41 x166001_1.length co41] (0, 0) _ rfl (by (with_reducible repeat (first | refine bN ?_ _|refine bW ?_|refine bA ?_ _)); refine blk_put (cs := #[.slice Ao13 t158.length co13, .slice none 0 0]) ?_ 1 _ rfl; (with_reducible repeat (first | refine bN ?_ _|refine bW ?_|refine bA ?_ _)); refine blk_put (cs := #[.slice none 0 0, .slice none 0 0]) ?_ 0 _ rfl; (with_reducible repeat (first | refine bN ?_ _|refine bW ?_|refine bA ?_ _)); exact BK153.out) Tryz.underlying25 rfl (z11_)) rfl ?_
       exact ⟨_, _, z6_, by (with_reducible repeat (first | apply rA|apply rN|apply rW)); exact Kd.R_mono (Kd.R_far (p := ⟨gb153, 1, none⟩) (Kd.R_far (p := ⟨gb153, 0, none⟩) (Kd.R_types HO_166000.out BK153.out (by decide)) (fun _ hk => hk.2) (.slice Ao13 t158.length co13)) (fun _ hk => hk.2) (.slice Ao41 x166001_1.length co41)) (fun _ hk => trivial), by (with_reducible repeat (first | apply rA|apply rN|apply rW)); exact Kd.R_mono (Kd.R_far (p := ⟨gb153, 1, none⟩) (Kd.R_far (p := ⟨gb153, 0, none⟩) (Kd.R_types HO_166001.out BK153.out (by decide)) (fun _ hk => hk.2) (.slice Ao13 t158.length co13)) (fun _ hk => hk.2) (.slice Ao41 x166001_1.length co41)) (fun _ hk => trivial), z24_⟩
      ·replace c40 := Bool.eq_false_iff.mpr c40
       subst c40
       rw [if_neg (show ¬ (false = true) by decide)] at H
       simp only [Option.some.injEq, Prod.mk.injEq] at H
       obtain ⟨rfl, rfl, rfl⟩ := H
       obtain ⟨Ao45, co45, eo45⟩ := Kd.R_slice HO_166001.out
       subst eo45
       go_wp2_with (first | ((with_reducible refine gate_callee (f := 23) rfl ?_); refine goesL_ (some 49) rfl rfl Tryz.func23 (z11_) rfl #[.pointer (some ⟨gb165, 0, none⟩)] rfl (z1_) ?_; (with_reducible refine (spec_l04Ok_.calls gb165 Ao13 co13 t158 Ao45 co45 x166001_1 false _ ?side1 ?side2 ?side3 ?side4 ?side5 A39.out).mono ?_); (case side1 => exact (z51_)); (case side2 => repeat (first | exact (Kd.R_reads' HO_166000.out).2.2 | (with_reducible first|refine Kd.C_alloc ?_ _|refine Kd.C_drewN ?_ _|refine Kd.C_drew ?_))); (case side3 => exact (Kd.R_reads' HO_166000.out).2.1); (case side4 => repeat (first | exact (Kd.R_reads' HO_166001.out).2.2 | (with_reducible first|refine Kd.C_alloc ?_ _|refine Kd.C_drewN ?_ _|refine Kd.C_drew ?_))); (case side5 => exact (Kd.R_reads' HO_166001.out).2.1); rintro e w' ⟨rfl, ⟨nd, rfl⟩⟩; refine ⟨_, rfl, ?_⟩; (try (rw [drewN_self wr]; generalize hq_ : World.drewN wr _ = wr; have n0_ : Aside0 (Kd.R (Kd.int .i64) 2 wr w.heap.size (fun _ => True) (.slice Ao13 t158.length co13) t158) := ⟨z166_⟩; have n1_ : Aside0 (Kd.R k36 36 wr w.heap.size (fun _ => True) (.slice Ao45 x166001_1.length co45) x166001_1) := ⟨z167_⟩; have n2_ : Aside0 (Kd.R Kd.string 9 wr w.heap.size (fun _ => True) (.slice (some ad157) t154.length co8) t154) := ⟨by rw [← hq_]; exact (z35_)⟩; have n3_ : Aside0 (wr.heap[gb153]? = some (.cells #[.slice none 0 0, .slice none 0 0] 25 (0, 0))) := ⟨z157_⟩; have n4_ : Aside0 (wr.heap[gb165]? = some (.cells #[.slice Ao13 t158.length co13, .slice Ao45 x166001_1.length co45] 25 (0, 0))) := ⟨z158_⟩; have n5_ : Aside0 (Below w.heap.size w wr) := ⟨z139_⟩; clear HO_166000 HO_166001 HO_4 BK153 BK165 HB hq_; have HO_166000 := n0_; have HO_166001 := n1_; have HO_4 := n2_; have BK153 := n3_; have BK165 := n4_; have HB := n5_; clear n0_ n1_ n2_ n3_ n4_ n5_)); have hnb46 := NB153_165.out; have hnc46 := NB165_153.out; have hcz47_0 := bc0_ wr BK153.out; have hcz47_1 := bc1_ wr BK153.out; have hfz47_0 := blk_frozen BK153.out 0; have hfz47_1 := blk_frozen BK153.out 1))
       refine bodyPost_ret (results_ct rfl _ _ gb153 25 #[.slice none 0 0, .slice none 0 0] (0, 0) _ rfl (z73_) Tryz.underlying25 rfl (z11_)) rfl ?_
       exact ⟨_, _, z6_, z14_, z14_, z24_⟩
  ·replace c5 := Bool.eq_false_iff.mpr c5
   subst c5
   rw [if_neg (show ¬ (false = true) by decide)] at H
   simp only [Option.some.injEq, Prod.mk.injEq] at H
   obtain ⟨rfl, rfl, rfl⟩ := H
   go_enter Tryz.func9, Tryz.ntmps9
   go_wp2_with (first | ((with_reducible refine gate_dst (N := 2) rfl ?_); refine box_event ?hg (N := 2) ?hd (cs := #[.slice none 0 0, .slice none 0 0]) (t := 25) ?hr ?_; (case hd => rfl); (case hg => rfl); (case hr => first | (go_simp; done) | (go_simp; rfl)); intro gb153 hg w48 hbox hb; have n0_ := Aside0.mk (below_step (z0_) hb); have n1_ := Aside0.mk (hbox); have n2_ := Aside0.mk ((z4_ : w.heap.size ≤ gb153)); have n3_ := Aside0.mk ((z4_ : w.heap.size ≤ gb153)); clear HB; have HB := n0_; have BK153 := n1_; have GW153 := n2_; have GE153 := n3_; clear n0_ n1_ n2_ n3_; clear hb hbox hg) | ((with_reducible refine gate_callee (f := 20) rfl ?_); refine goesL_ (some 12) rfl rfl Tryz.func20 (z11_) rfl #[.string a0, .int .u8 47] rfl (z1_) ?_; (with_reducible refine (spec_l01Split.calls k a0 47 t154 _ A2.out).mono ?_); rintro e w49 ⟨v155, rfl, ho0, hb⟩; refine ⟨_, rfl, ?_⟩; have n0_ := Aside0.mk (Kd.R_lower ho0 (below_size (z27_))); have n1_ := Aside0.mk (blk_below (g := gb153) (o := .cells #[.slice none 0 0, .slice none 0 0] 25 (0, 0)) (z26_) hb); have n2_ := Aside0.mk (below_step (z27_) hb); clear BK153; clear HB; have HO156 := n0_; have BK153 := n1_; have HB := n2_; clear n0_ n1_ n2_; (try clear hb); (try clear hb2); (try clear hk); (try clear hi); (try clear ho0); obtain ⟨Ao50, co50, eo50⟩ := Kd.R_slice HO156.out; subst eo50; have p157 : 0 ≤ (0 : Int) := (by omega); have q157 : 0 < (t154.length : Int) := of_decide_eq_true (z2_); obtain ⟨ad157, e157, hx157_0⟩ := Kd.at_string (Kd.R_reads' HO156.out).2.2 0 p157 q157; cases e157; have qi157 : (0 < t154.length) = True := eq_true (by omega); (try rw [show ((0 : Int)).toNat = 0 from rfl] at hx157_0); (try rw [Addr.add_zero'] at hx157_0); replace p157 := eq_true p157; replace q157 := eq_true q157) | ((with_reducible refine gate_callee (f := 21) rfl ?_); refine goesL_ (some 17) rfl rfl Tryz.func21 (z11_) rfl #[.string (rdOf ByteArray.empty t154 0)] rfl (z1_) ?_; (with_reducible refine (spec_ReadList.calls k (rdOf ByteArray.empty t154 0) t158 false _ A4.out).mono ?_); rintro e w51 ⟨v160, rfl, ho0, hb⟩; refine ⟨_, rfl, ?_⟩; have n0_ := Aside0.mk (Kd.R_below (z141_) hb); have n1_ := Aside0.mk (Kd.R_lower ho0 (below_size (z27_))); have n2_ := Aside0.mk (blk_below (g := gb153) (o := .cells #[.slice none 0 0, .slice none 0 0] 25 (0, 0)) (z26_) hb); have n3_ := Aside0.mk (below_step (z27_) hb); clear HO156; clear BK153; clear HB; have HO156 := n0_; have HO161 := n1_; have BK153 := n2_; have HB := n3_; clear n0_ n1_ n2_ n3_; (try clear hb); (try clear hb2); (try clear hk); (try clear hi); (try clear ho0); have hcz52_0 := bc0_ w51 BK153.out; have hcz52_1 := bc1_ w51 BK153.out; have hfz52_0 := blk_frozen BK153.out 0; have hfz52_1 := blk_frozen BK153.out 1))
   refine bodyPost_ret (results_ct rfl _ _ gb153 25 #[.slice none 0 0, .slice none 0 0] (0, 0) _ rfl (z73_) Tryz.underlying25 rfl (z11_)) rfl ?_
   exact ⟨_, _, z6_, z14_, z14_, z27_⟩
 ·rw [if_neg c3] at H
  exact absurd H (by simp)

/-! ### spec_ReadNetwork: function 4 -/
def spec_ReadNetwork.f (k : Nat) (a0 : ByteArray) : Option (List Int × (List (S36)) × Bool) := (spec_l04Read.f k a0).bind fun bt180 => (some (bt180.1, bt180.2.1, bt180.2.2))
theorem spec_ReadNetwork.mono : ∀ a0 k, LeO (spec_ReadNetwork.f k a0) (spec_ReadNetwork.f (k + 1) a0) := by
 intro a0 k
 unfold spec_ReadNetwork.f
 repeat' first|(with_reducible first|exact spec_l04Read.mono _ _|exact LeO.refl _|exact LeO.none _|refine LeO.ite ?_ ?_|refine LeO.bind ?_ (fun _ => ?_))|exact spec_l04Read.mono _ _|exact LeO.none _|refine LeO.ite ?_ ?_|refine LeO.bind ?_ (fun _ => ?_)
set_option maxHeartbeats 8000000 in
set_option maxRecDepth 100000 in
theorem spec_ReadNetwork.calls (k : Nat) (a0 : ByteArray) (r1 : List Int) (r2 : List (S36)) (r3 : Bool) (w : World) (h : spec_ReadNetwork.f k a0 = some (r1, r2, r3)) :
  Calls Tryz.prog 4 #[.string a0] w fun e w' => ∃ v0_ v1_ : Value, e = .returned (.tuple #[.agg #[v0_, v1_], .bool r3]) ∧ Kd.R (Kd.int .i64) 2 w' w.heap.size (fun _ => True) v0_ r1 ∧ Kd.R k36 36 w' w.heap.size (fun _ => True) v1_ r2 ∧ Below w.heap.size w w' := by
 have hu25 := Tryz.underlying25
 have HB := Aside0.mk (Below.refl w.heap.size w)
 have H : ((spec_l04Read.f k a0).bind fun bt180 => (some (bt180.1, bt180.2.1, bt180.2.2))) = some (r1, r2, r3) := h
 clear h
 replace H := Option.bind_eq_some_iff.mp H
 obtain ⟨⟨t180, t183, t186⟩, A20, H⟩ := H
 replace H : (some (t180, t183, t186)) = some (r1, r2, r3) := H
 have A2 := Aside0.mk A20
 clear A20
 simp only [Option.some.injEq, Prod.mk.injEq] at H
 obtain ⟨rfl, rfl, rfl⟩ := H
 go_enter Tryz.func4, Tryz.ntmps4
 go_wp2_with (first | ((with_reducible refine gate_dst (N := 2) rfl ?_); refine box_event ?hg (N := 2) ?hd (cs := #[.slice none 0 0, .slice none 0 0]) (t := 25) ?hr ?_; (case hd => rfl); (case hg => rfl); (case hr => first | (go_simp; done) | (go_simp; rfl)); intro gb179 hg w3 hbox hb; have n0_ := Aside0.mk (below_step (z0_) hb); have n1_ := Aside0.mk (hbox); have n2_ := Aside0.mk ((z4_ : w.heap.size ≤ gb179)); have n3_ := Aside0.mk ((z4_ : w.heap.size ≤ gb179)); clear HB; have HB := n0_; have BK179 := n1_; have GW179 := n2_; have GE179 := n3_; clear n0_ n1_ n2_ n3_; clear hb hbox hg) | ((with_reducible refine gate_callee (f := 9) rfl ?_); refine goesL_ (some 5) rfl rfl Tryz.func9 (z11_) rfl #[.string a0] rfl (z1_) ?_; (with_reducible refine (spec_l04Read.calls k a0 t180 t183 t186 _ A2.out).mono ?_); rintro e w4 ⟨v181, v184, rfl, ho0, ho1, hb⟩; refine ⟨_, rfl, ?_⟩; have n0_ := Aside0.mk (Kd.R_lower ho0 (below_size (z115_))); have n1_ := Aside0.mk (Kd.R_lower ho1 (below_size (z115_))); have n2_ := Aside0.mk (blk_below (g := gb179) (o := .cells #[.slice none 0 0, .slice none 0 0] 25 (0, 0)) (by (with_reducible repeat (first | refine bN ?_ _|refine bW ?_|refine bA ?_ _)); exact BK179.out) hb); have n3_ := Aside0.mk (below_step (z115_) hb); clear BK179; clear HB; have HO182 := n0_; have HO185 := n1_; have BK179 := n2_; have HB := n3_; clear n0_ n1_ n2_ n3_; (try clear hb); (try clear hb2); (try clear hk); (try clear hi); (try clear ho0); (try clear ho1); obtain ⟨Ao5, co5, eo5⟩ := Kd.R_slice HO182.out; subst eo5; have hcz6_0 := bc0_ w4 BK179.out; have hcz6_1 := bc1_ w4 BK179.out; have hfz6_0 := blk_frozen BK179.out 0; have hfz6_1 := blk_frozen BK179.out 1; obtain ⟨Ao7, co7, eo7⟩ := Kd.R_slice HO185.out; subst eo7))
 refine bodyPost_ret (results_ct rfl _ _ gb179 25 #[.slice Ao5 t180.length co5, .slice Ao7 t183.length co7] (0, 0) _ rfl (by (with_reducible repeat (first | refine bN ?_ _|refine bW ?_|refine bA ?_ _)); refine blk_put (cs := #[.slice Ao5 t180.length co5, .slice none 0 0]) ?_ 1 _ rfl; (with_reducible repeat (first | refine bN ?_ _|refine bW ?_|refine bA ?_ _)); refine blk_put (cs := #[.slice none 0 0, .slice none 0 0]) ?_ 0 _ rfl; (with_reducible repeat (first | refine bN ?_ _|refine bW ?_|refine bA ?_ _)); exact BK179.out) Tryz.underlying25 rfl (z11_)) rfl ?_
 exact ⟨_, _, z6_, by (with_reducible repeat (first | apply rA|apply rN|apply rW)); exact Kd.R_mono (Kd.R_far (p := ⟨gb179, 1, none⟩) (Kd.R_far (p := ⟨gb179, 0, none⟩) (Kd.R_types HO182.out BK179.out (by decide)) (fun _ hk => hk.2) (.slice Ao5 t180.length co5)) (fun _ hk => hk.2) (.slice Ao7 t183.length co7)) (fun _ hk => trivial), by (with_reducible repeat (first | apply rA|apply rN|apply rW)); exact Kd.R_mono (Kd.R_far (p := ⟨gb179, 1, none⟩) (Kd.R_far (p := ⟨gb179, 0, none⟩) (Kd.R_types HO185.out BK179.out (by decide)) (fun _ hk => hk.2) (.slice Ao5 t180.length co5)) (fun _ hk => hk.2) (.slice Ao7 t183.length co7)) (fun _ hk => trivial), z115_⟩

end Go.Proofs.YtabgkdejpkpejaaGreatDoor.PFnExactReadNetwork
