-- Printed by a program of this session (wip/hprint.sh: the kit's print with hand-proved contracts put in); not by print.sh itself.
import Derived.Test.YtcggfmmjjkdgnaaPFnExactSlowPumpx0
import Derived.Test.YtcggfmmjjkdgnaaPFnExactSlowPumpx1
namespace Go.Proofs.Ytcggfmmjjkdgnaa.PFnExactSlowPump
open Go.RowKit Go.Proofs.YtcggfmmjjkdgnaaW.PrintWords Go.Proofs.YtcggfmmjjkdgnaaW.PrintLast Go.Proofs.YtcggfmmjjkdgnaaW.PrintMore Go.Proofs.YtcggfmmjjkdgnaaM
attribute [local go_sem] max2_int min2_int max_two min_two max_three min_three max_four min_four   -- for this text's walks alone
set_option linter.unusedVariables false
set_option linter.unusedSimpArgs false

/-! ### spec_l08Ok: function 12 -/
mutual
def spec_l08Ok.j0 : Nat → Bool → ByteArray → List (List Int) → Option (Bool)
 | 0, _, _, _ => none
 | k + 1, x26, x1000, x1001 => if x26 = true then (some false) else (spec_l08Ok.l0 k 0 x1000 x1001)
def spec_l08Ok.l0 : Nat → Int → ByteArray → List (List Int) → Option (Bool)
 | 0, _, _, _ => none
 | k + 1, x3, x1000, x1001 => if x3 < (x1001.length : Int) then (if 0 ≤ x3 then (if ((rd_L1 x1001 x3).length : Int) = 2 then (if 0 < ((rd_L1 x1001 x3).length : Int) then ((spec_l02Flow.f (rd (rd_L1 x1001 x3) 0)).bind fun t112 => (if t112 = true then (if 1 < ((rd_L1 x1001 x3).length : Int) then ((spec_l00In_.f (rd (rd_L1 x1001 x3) 1) 0 2000000).bind fun t114 => (spec_l08Ok.j2 k x3 (rd_L1 x1001 x3) (!t114) x1000 x1001)) else (none)) else (spec_l08Ok.j2 k x3 (rd_L1 x1001 x3) true x1000 x1001))) else (none)) else (spec_l08Ok.j2 k x3 (rd_L1 x1001 x3) true x1000 x1001)) else (none)) else (some true)
def spec_l08Ok.j2 : Nat → Int → List Int → Bool → ByteArray → List (List Int) → Option (Bool)
 | 0, _, _, _, _, _ => none
 | k + 1, x3, x4, x59, x1000, x1001 => if x59 = true then (some false) else (if x3 = 0 then (if 0 < (x4.length : Int) then (if (rd x4 0) = 0 then (if x3 > 0 then (none) else (spec_l08Ok.l0 k (wrap64 (x3 + 1)) x1000 x1001)) else (some false)) else (none)) else (if x3 > 0 then (if 0 ≤ (wrap64 (x3 - 1)) then (if (wrap64 (x3 - 1)) < (x1001.length : Int) then (if 0 < ((rd_L1 x1001 (wrap64 (x3 - 1))).length : Int) then (if 0 < (x4.length : Int) then (if (rd (rd_L1 x1001 (wrap64 (x3 - 1))) 0) ≥ (rd x4 0) then (some false) else (if 1 < ((rd_L1 x1001 (wrap64 (x3 - 1))).length : Int) then (if 1 < (x4.length : Int) then (if (rd (rd_L1 x1001 (wrap64 (x3 - 1))) 1) < (rd x4 1) then (some false) else (spec_l08Ok.l0 k (wrap64 (x3 + 1)) x1000 x1001)) else (none)) else (none))) else (none)) else (none)) else (none)) else (none)) else (spec_l08Ok.l0 k (wrap64 (x3 + 1)) x1000 x1001)))
end
def spec_l08Ok.f (k : Nat) (a0_0 : ByteArray) (l0_1 : List (List Int)) : Option (Bool) := (spec_l01Name_.f a0_0).bind fun t109 => (if t109 = true then (if (l0_1.length : Int) < 2 then (spec_l08Ok.j0 k true a0_0 l0_1) else (spec_l08Ok.j0 k (decide ((l0_1.length : Int) > 8)) a0_0 l0_1)) else (spec_l08Ok.j0 k true a0_0 l0_1))
theorem spec_l08Ok.mono_l : ∀ k, (∀ y0 y1 y2, LeO (spec_l08Ok.j0 k y0 y1 y2) (spec_l08Ok.j0 (k + 1) y0 y1 y2)) ∧ (∀ y0 y1 y2, LeO (spec_l08Ok.l0 k y0 y1 y2) (spec_l08Ok.l0 (k + 1) y0 y1 y2)) ∧ (∀ y0 y1 y2 y3 y4, LeO (spec_l08Ok.j2 k y0 y1 y2 y3 y4) (spec_l08Ok.j2 (k + 1) y0 y1 y2 y3 y4))
 | 0 => ⟨fun _ _ _ r h => by simp [spec_l08Ok.j0] at h, fun _ _ _ r h => by simp [spec_l08Ok.l0] at h, fun _ _ _ _ _ r h => by simp [spec_l08Ok.j2] at h⟩
 | k + 1 => by
  obtain ⟨ih0, ih1, ih2⟩ := spec_l08Ok.mono_l k
  refine ⟨?_, ?_, ?_⟩
  ·intro y0 y1 y2
   unfold spec_l08Ok.j0
   repeat' first
   | (with_reducible exact ih0 _ _ _)
   | (with_reducible exact ih1 _ _ _)
   | (with_reducible exact ih2 _ _ _ _ _)
   | (with_reducible exact LeO.refl _)
   | (with_reducible exact LeO.none _)
   | (with_reducible refine LeO.ite ?_ ?_)
   | (with_reducible refine LeO.bind ?_ (fun _ => ?_))
   | exact ih0 _ _ _
   | exact ih1 _ _ _
   | exact ih2 _ _ _ _ _
   | exact LeO.none _
   | refine LeO.ite ?_ ?_
   | refine LeO.bind ?_ (fun _ => ?_)
  ·intro y0 y1 y2
   unfold spec_l08Ok.l0
   repeat' first
   | (with_reducible exact ih0 _ _ _)
   | (with_reducible exact ih1 _ _ _)
   | (with_reducible exact ih2 _ _ _ _ _)
   | (with_reducible exact LeO.refl _)
   | (with_reducible exact LeO.none _)
   | (with_reducible refine LeO.ite ?_ ?_)
   | (with_reducible refine LeO.bind ?_ (fun _ => ?_))
   | exact ih0 _ _ _
   | exact ih1 _ _ _
   | exact ih2 _ _ _ _ _
   | exact LeO.none _
   | refine LeO.ite ?_ ?_
   | refine LeO.bind ?_ (fun _ => ?_)
  ·intro y0 y1 y2 y3 y4
   unfold spec_l08Ok.j2
   repeat' first
   | (with_reducible exact ih0 _ _ _)
   | (with_reducible exact ih1 _ _ _)
   | (with_reducible exact ih2 _ _ _ _ _)
   | (with_reducible exact LeO.refl _)
   | (with_reducible exact LeO.none _)
   | (with_reducible refine LeO.ite ?_ ?_)
   | (with_reducible refine LeO.bind ?_ (fun _ => ?_))
   | exact ih0 _ _ _
   | exact ih1 _ _ _
   | exact ih2 _ _ _ _ _
   | exact LeO.none _
   | refine LeO.ite ?_ ?_
   | refine LeO.bind ?_ (fun _ => ?_)
theorem spec_l08Ok.mono : ∀ a0 a1 k, LeO (spec_l08Ok.f k a0 a1) (spec_l08Ok.f (k + 1) a0 a1) := by
 intro a0 a1 k
 obtain ⟨ih0, ih1, ih2⟩ := spec_l08Ok.mono_l k
 unfold spec_l08Ok.f
 repeat' first
   | (with_reducible exact ih0 _ _ _)
   | (with_reducible exact ih1 _ _ _)
   | (with_reducible exact ih2 _ _ _ _ _)
   | (with_reducible exact LeO.refl _)
   | (with_reducible exact LeO.none _)
   | (with_reducible refine LeO.ite ?_ ?_)
   | (with_reducible refine LeO.bind ?_ (fun _ => ?_))
   | exact ih0 _ _ _
   | exact ih1 _ _ _
   | exact ih2 _ _ _ _ _
   | exact LeO.none _
   | refine LeO.ite ?_ ?_
   | refine LeO.bind ?_ (fun _ => ?_)
set_option maxHeartbeats 8000000 in
set_option maxRecDepth 100000 in
theorem spec_l08Ok.calls (k : Nat) (gr0 : Nat) (a0_0 : ByteArray) (A0_1 : Option Addr) (c0_1 : Nat) (l0_1 : List (List Int)) (r : Bool) (w : World) (hb0 : w.heap[gr0]? = some (.cells #[.string a0_0, .slice A0_1 l0_1.length c0_1] 26 (0, 0))) (hr0_1 : Kd.C (Kd.slice 2 (Kd.int .i64)) w A0_1 l0_1.length l0_1) (hc0_1 : l0_1.length ≤ c0_1) (h : spec_l08Ok.f k a0_0 l0_1 = some r) :
  Calls Try.prog 12 #[.pointer (some ⟨gr0, 0, none⟩)] w fun e w' => e = .returned (.bool r) ∧ Drawn0 w w' := by
 have HR0_1 := Aside0.mk hr0_1
 have HC0_1 := Aside0.mk hc0_1
 clear hr0_1 hc0_1
 have BK0 := Aside0.mk hb0
 clear hb0
 have H : ((spec_l01Name_.f a0_0).bind fun t109 => (if t109 = true then (if (l0_1.length : Int) < 2 then (spec_l08Ok.j0 k true a0_0 l0_1) else (spec_l08Ok.j0 k (decide ((l0_1.length : Int) > 8)) a0_0 l0_1)) else (spec_l08Ok.j0 k true a0_0 l0_1))) = some r := h
 clear h
 have HC2 := Aside0.mk H
 clear H
 go_enter Try.func12, Try.ntmps12
 iterate 2 ((try go_quiet (fail)); (try go_upto_region 1 with (fail)))
 go_cut [26] (fun v26 wc => ∃ (kq : Nat) (x26_1 : Bool), v26 = .bool x26_1 ∧ Aside0 (spec_l08Ok.j0 kq x26_1 a0_0 l0_1 = some r) ∧ Aside0 (kq ≤ k) ∧ Aside0 (wc.heap[gr0]? = some (.cells #[.string a0_0, (.slice A0_1 l0_1.length c0_1)] 26 (0, 0))) ∧ Drawn0 w wc)
 case first =>
  have H := HC2.out
  clear HC2
  replace H := Option.bind_eq_some_iff.mp H
  obtain ⟨t109, A30, H⟩ := H
  replace H : (if t109 = true then (if (l0_1.length : Int) < 2 then (spec_l08Ok.j0 k true a0_0 l0_1) else (spec_l08Ok.j0 k (decide ((l0_1.length : Int) > 8)) a0_0 l0_1)) else (spec_l08Ok.j0 k true a0_0 l0_1)) = some r := H
  have A3 := Aside0.mk A30
  clear A30
  by_cases c4 : t109 = true
  ·subst c4
   have H1 : (if (l0_1.length : Int) < 2 then (spec_l08Ok.j0 k true a0_0 l0_1) else (spec_l08Ok.j0 k (decide ((l0_1.length : Int) > 8)) a0_0 l0_1)) = some r := by rw [if_pos rfl] at H; exact H
   clear H
   have H := H1
   clear H1
   by_cases c5 : (l0_1.length : Int) < 2
   ·rw [if_pos c5] at H
    have c5b0 : decide ((l0_1.length : Int) < 2) = true := decide_eq_true c5
    have c5b1 : decide (l0_1.length < 2) = true := decide_eq_true (by omega)
    clear c5
    (first | rw [c5b0] | (simp only [i64_w, i32_w]; rw [c5b0]) | rw [c5b2] | skip)
    have H' := Aside0.mk H
    clear H
    have hcz6_0 : w.cell? ⟨gr0, 0, none⟩ = some (.string a0_0) := (blk_cell BK0.out 0).trans rfl
    have hcz6_1 : w.cell? ⟨gr0, 1, none⟩ = some (.slice A0_1 l0_1.length c0_1) := (blk_cell BK0.out 1).trans rfl
    have hfz6_0 := blk_frozen BK0.out 0
    have hfz6_1 := blk_frozen BK0.out 1
    iterate 2 ((try go_quiet (first | (go_at_call 23; (with_reducible refine (spec_l01Name_.calls a0_0 true _ A3.out).mono ?_); rintro e w' ⟨rfl, ⟨nd, rfl⟩⟩; (try first | exact ⟨rfl, _, World.drewN_drewN _ _ _⟩ | exact ⟨rfl, _, Eq.trans (World.drewN_drewN _ _ _) (congrArg (World.drewN _) (Nat.add_assoc _ _ _))⟩)))); (try go_wp2_with (first | (go_at_call 23; (with_reducible refine (spec_l01Name_.calls a0_0 true _ A3.out).mono ?_); rintro e w' ⟨rfl, ⟨nd, rfl⟩⟩; (try first | exact ⟨rfl, _, World.drewN_drewN _ _ _⟩ | exact ⟨rfl, _, Eq.trans (World.drewN_drewN _ _ _) (congrArg (World.drewN _) (Nat.add_assoc _ _ _))⟩)))))
    go_meet
    case rel => exact ⟨_, (true), (by first | rfl | (simp; done) | (simp [*]; done)), H', ⟨by first | omega | exact Nat.le_refl _⟩, ⟨by (with_reducible repeat (first | refine bN ?_ _|refine bW ?_|refine bA ?_ _)); exact BK0.out⟩, by repeat (first | exact Drawn0.refl _ | apply Drawn0.step)⟩
   ·rw [if_neg c5] at H
    have c5b0 : decide ((l0_1.length : Int) < 2) = false := decide_eq_false c5
    have c5b1 : decide (l0_1.length < 2) = false := decide_eq_false (by omega)
    clear c5
    (first | rw [c5b0] | (simp only [i64_w, i32_w]; rw [c5b0]) | rw [c5b2] | skip)
    have H' := Aside0.mk H
    clear H
    have hcz7_0 : w.cell? ⟨gr0, 0, none⟩ = some (.string a0_0) := (blk_cell BK0.out 0).trans rfl
    have hcz7_1 : w.cell? ⟨gr0, 1, none⟩ = some (.slice A0_1 l0_1.length c0_1) := (blk_cell BK0.out 1).trans rfl
    have hfz7_0 := blk_frozen BK0.out 0
    have hfz7_1 := blk_frozen BK0.out 1
    iterate 2 ((try go_quiet (first | (go_at_call 23; (with_reducible refine (spec_l01Name_.calls a0_0 true _ A3.out).mono ?_); rintro e w' ⟨rfl, ⟨nd, rfl⟩⟩; (try first | exact ⟨rfl, _, World.drewN_drewN _ _ _⟩ | exact ⟨rfl, _, Eq.trans (World.drewN_drewN _ _ _) (congrArg (World.drewN _) (Nat.add_assoc _ _ _))⟩)))); (try go_wp2_with (first | (go_at_call 23; (with_reducible refine (spec_l01Name_.calls a0_0 true _ A3.out).mono ?_); rintro e w' ⟨rfl, ⟨nd, rfl⟩⟩; (try first | exact ⟨rfl, _, World.drewN_drewN _ _ _⟩ | exact ⟨rfl, _, Eq.trans (World.drewN_drewN _ _ _) (congrArg (World.drewN _) (Nat.add_assoc _ _ _))⟩)))))
    go_meet
    case rel => exact ⟨_, (decide ((l0_1.length : Int) > 8)), (by first | rfl | (simp; done) | (simp [*]; done)), H', ⟨by first | omega | exact Nat.le_refl _⟩, ⟨by (with_reducible repeat (first | refine bN ?_ _|refine bW ?_|refine bA ?_ _)); exact BK0.out⟩, by repeat (first | exact Drawn0.refl _ | apply Drawn0.step)⟩
  ·replace c4 := Bool.eq_false_iff.mpr c4
   subst c4
   have H1 : (spec_l08Ok.j0 k true a0_0 l0_1) = some r := by rw [if_neg (show ¬ (false = true) by decide)] at H; exact H
   clear H
   have H := H1
   clear H1
   have H' := Aside0.mk H
   clear H
   have hcz8_0 : w.cell? ⟨gr0, 0, none⟩ = some (.string a0_0) := (blk_cell BK0.out 0).trans rfl
   have hcz8_1 : w.cell? ⟨gr0, 1, none⟩ = some (.slice A0_1 l0_1.length c0_1) := (blk_cell BK0.out 1).trans rfl
   have hfz8_0 := blk_frozen BK0.out 0
   have hfz8_1 := blk_frozen BK0.out 1
   iterate 2 ((try go_quiet (first | (go_at_call 23; (with_reducible refine (spec_l01Name_.calls a0_0 false _ A3.out).mono ?_); rintro e w' ⟨rfl, ⟨nd, rfl⟩⟩; (try first | exact ⟨rfl, _, World.drewN_drewN _ _ _⟩ | exact ⟨rfl, _, Eq.trans (World.drewN_drewN _ _ _) (congrArg (World.drewN _) (Nat.add_assoc _ _ _))⟩)))); (try go_wp2_with (first | (go_at_call 23; (with_reducible refine (spec_l01Name_.calls a0_0 false _ A3.out).mono ?_); rintro e w' ⟨rfl, ⟨nd, rfl⟩⟩; (try first | exact ⟨rfl, _, World.drewN_drewN _ _ _⟩ | exact ⟨rfl, _, Eq.trans (World.drewN_drewN _ _ _) (congrArg (World.drewN _) (Nat.add_assoc _ _ _))⟩)))))
   go_meet
   case rel => exact ⟨_, (true), (by first | rfl | (simp; done) | (simp [*]; done)), H', ⟨by first | omega | exact Nat.le_refl _⟩, ⟨by (with_reducible repeat (first | refine bN ?_ _|refine bW ?_|refine bA ?_ _)); exact BK0.out⟩, by repeat (first | exact Drawn0.refl _ | apply Drawn0.step)⟩
 case rest =>
  clear HC2
  try clear c1
  try clear p2
  try clear c4
  try clear c5
  try clear c5b0
  try clear c5b1
  try clear c5b2
  try clear hcz6_0
  try clear hcz6_1
  try clear hcz7_0
  try clear hcz7_1
  try clear hcz8_0
  try clear hcz8_1
  try clear hfz6_0
  try clear hfz6_1
  try clear hfz7_0
  try clear hfz7_1
  try clear hfz8_0
  try clear hfz8_1
  obtain ⟨kq, x26_1, rfl, HA, HJ1, BK0, ⟨mc1, rfl⟩⟩ := hcut
  cases kq with
  | zero => exact absurd HA.out (by simp [spec_l08Ok.j0])
  | succ kj1 =>
   have H := HA.out
   clear HA
   simp only [spec_l08Ok.j0] at H
   by_cases c9 : x26_1 = true
   ·subst c9
    have H1 : (some false) = some r := by rw [if_pos rfl] at H; exact H
    clear H
    have H := H1
    clear H1
    obtain rfl := Option.some.inj H
    go_wp2
    repeat (go_quiet (fail); try go_wp2)
    go_ret
    exact ⟨by first | rfl | (simp; done) | (simp [*]; done), by repeat (first | exact Drawn0.refl _ | apply Drawn0.step)⟩
   ·replace c9 := Bool.eq_false_iff.mpr c9
    subst c9
    have H1 : (spec_l08Ok.l0 kj1 0 a0_0 l0_1) = some r := by rw [if_neg (show ¬ (false = true) by decide)] at H; exact H
    clear H
    have H := H1
    clear H1
    have H' := Aside0.mk H
    clear H
    go_wp2
    repeat (go_quiet (fail); try go_wp2)
    go_loopg [3] kj1 (fun kq v3 w' => ∃ (x3_2 : Int), v3 = .int .i64 x3_2 ∧ Aside0 (spec_l08Ok.l0 kq x3_2 a0_0 l0_1 = some r) ∧ Aside0 (kq ≤ kj1) ∧ Aside0 (w'.heap[gr0]? = some (.cells #[.string a0_0, (.slice A0_1 l0_1.length c0_1)] 26 (0, 0))) ∧ Drawn0 w w')
    case atStart => exact ⟨(0), (by first | rfl | (simp; done) | (simp [*]; done)), H', ⟨Nat.le_refl _⟩, ⟨by (with_reducible repeat (first | refine bN ?_ _|refine bW ?_|refine bA ?_ _)); exact BK0.out⟩, by repeat (first | exact Drawn0.refl _ | apply Drawn0.step)⟩
    case round =>
     clear H'
     try clear c1
     try clear p2
     try clear c4
     try clear c5
     try clear c5b0
     try clear c5b1
     try clear c5b2
     try clear c9
     try clear hcz6_0
     try clear hcz6_1
     try clear hcz7_0
     try clear hcz7_1
     try clear hcz8_0
     try clear hcz8_1
     try clear hfz6_0
     try clear hfz6_1
     try clear hfz7_0
     try clear hfz7_1
     try clear hfz8_0
     try clear hfz8_1
     try clear p2
     obtain ⟨x3_2, rfl, HA, HK2, BK0, ⟨m2, rfl⟩⟩ := hrel
     cases gk with
     | zero => exact absurd HA.out (by simp [spec_l08Ok.l0])
     | succ k2 =>
      have H := HA.out
      clear HA
      simp only [spec_l08Ok.l0] at H
      by_cases c10 : x3_2 < (l0_1.length : Int)
      ·rw [if_pos c10] at H
       have c10b0 : decide (x3_2 < (l0_1.length : Int)) = true := decide_eq_true c10
       clear c10
       by_cases c11 : 0 ≤ x3_2
       ·rw [if_pos c11] at H
        have c11b0 : decide (0 ≤ x3_2) = true := decide_eq_true c11
        clear c11
        have HC12 := Aside0.mk H
        clear H
        have hcz13_0 : w.cell? ⟨gr0, 0, none⟩ = some (.string a0_0) := (blk_cell BK0.out 0).trans rfl
        have hcz13_1 : w.cell? ⟨gr0, 1, none⟩ = some (.slice A0_1 l0_1.length c0_1) := (blk_cell BK0.out 1).trans rfl
        have hfz13_0 := blk_frozen BK0.out 0
        have hfz13_1 := blk_frozen BK0.out 1
        have p110 : 0 ≤ (x3_2 : Int) := of_decide_eq_true (by first | (with_reducible assumption) | assumption)
        have q110 : x3_2 < (l0_1.length : Int) := of_decide_eq_true (by first | (with_reducible assumption) | assumption)
        obtain ⟨ad110, A110_0, c110_0, e110, hx110_0, hl110_0, hi110_0⟩ := at_L1 HR0_1.out x3_2 p110 q110
        cases e110
        have HR110_0 := Aside0.mk hi110_0
        have HC110_0 := Aside0.mk hl110_0
        clear hi110_0 hl110_0
        replace p110 := eq_true p110
        replace q110 := eq_true q110
        iterate 2 ((try go_quiet (fail)); (try go_upto_region 7 with (fail)))
        go_cut [59] (fun v59 wc => ∃ (kq : Nat) (x59_11 : Bool), v59 = .bool x59_11 ∧ Aside0 (spec_l08Ok.j2 kq x3_2 (rd_L1 l0_1 x3_2) x59_11 a0_0 l0_1 = some r) ∧ Aside0 (kq ≤ k2) ∧ Aside0 (wc.heap[gr0]? = some (.cells #[.string a0_0, (.slice (some ad110) l0_1.length c0_1)] 26 (0, 0))) ∧ Drawn0 w wc)
        case first =>
         have H := HC12.out
         clear HC12
         by_cases c14 : ((rd_L1 l0_1 x3_2).length : Int) = 2
         ·rw [if_pos c14] at H
          have c14b0 : (((rd_L1 l0_1 x3_2).length : Int) == 2) = true := beq_iff_eq.mpr c14
          have c14b1 : (((rd_L1 l0_1 x3_2).length : Int) != 2) = false := bne_eq_false_iff_eq.mpr c14
          clear c14
          (first | rw [c14b0] | (simp only [i64_w, i32_w]; rw [c14b0]) | rw [c14b2] | skip)
          by_cases c15 : 0 < ((rd_L1 l0_1 x3_2).length : Int)
          ·rw [if_pos c15] at H
           have c15b0 : decide (0 < ((rd_L1 l0_1 x3_2).length : Int)) = true := decide_eq_true c15
           have c15b1 : decide (0 < (rd_L1 l0_1 x3_2).length) = true := decide_eq_true (by omega)
           clear c15
           replace H := Option.bind_eq_some_iff.mp H
           obtain ⟨t112, A160, H⟩ := H
           replace H : (if t112 = true then (if 1 < ((rd_L1 l0_1 x3_2).length : Int) then ((spec_l00In_.f (rd (rd_L1 l0_1 x3_2) 1) 0 2000000).bind fun t114 => (spec_l08Ok.j2 k2 x3_2 (rd_L1 l0_1 x3_2) (!t114) a0_0 l0_1)) else (none)) else (spec_l08Ok.j2 k2 x3_2 (rd_L1 l0_1 x3_2) true a0_0 l0_1)) = some r := H
           have A16 := Aside0.mk A160
           clear A160
           by_cases c17 : t112 = true
           ·subst c17
            have H1 : (if 1 < ((rd_L1 l0_1 x3_2).length : Int) then ((spec_l00In_.f (rd (rd_L1 l0_1 x3_2) 1) 0 2000000).bind fun t114 => (spec_l08Ok.j2 k2 x3_2 (rd_L1 l0_1 x3_2) (!t114) a0_0 l0_1)) else (none)) = some r := by rw [if_pos rfl] at H; exact H
            clear H
            have H := H1
            clear H1
            by_cases c18 : 1 < ((rd_L1 l0_1 x3_2).length : Int)
            ·rw [if_pos c18] at H
             have c18b0 : decide (1 < ((rd_L1 l0_1 x3_2).length : Int)) = true := decide_eq_true c18
             have c18b1 : decide (1 < (rd_L1 l0_1 x3_2).length) = true := decide_eq_true (by omega)
             clear c18
             replace H := Option.bind_eq_some_iff.mp H
             obtain ⟨t114, A190, H⟩ := H
             replace H : (spec_l08Ok.j2 k2 x3_2 (rd_L1 l0_1 x3_2) (!t114) a0_0 l0_1) = some r := H
             have A19 := Aside0.mk A190
             clear A190
             have H' := Aside0.mk H
             clear H
             have p111 : 0 ≤ (0 : Int) := (by omega)
             have q111 : 0 < ((rd_L1 l0_1 x3_2).length : Int) := of_decide_eq_true (by first | (with_reducible assumption) | assumption)
             obtain ⟨ad111, e111, hx111_0⟩ := Kd.at_int HR110_0.out 0 p111 q111
             cases e111
             have qi111 : (0 < (rd_L1 l0_1 x3_2).length) = True := eq_true (by omega)
             (try rw [show ((0 : Int)).toNat = 0 from rfl] at hx111_0)
             (try rw [Addr.add_zero'] at hx111_0)
             replace p111 := eq_true p111
             replace q111 := eq_true q111
             iterate 2 ((try (first | (have p113 : 0 ≤ (1 : Int) := (by omega); have q113 : 1 < ((rd_L1 l0_1 x3_2).length : Int) := of_decide_eq_true (by first | (with_reducible assumption) | assumption); obtain ⟨ad113, e113, hx113_0⟩ := Kd.at_int HR110_0.out 1 p113 q113; obtain rfl : ad111 = ad113 := (by injection e113); (try simp only [show (1 : Int).toNat = 1 from rfl, Nat.reduceMul, Nat.reduceEqDiff, Go.Addr.add, ↓reduceIte] at hx113_0); have qi113 : (1 < (rd_L1 l0_1 x3_2).length) = True := eq_true (by omega); (try rw [show ((1 : Int)).toNat = 1 from rfl] at hx113_0); replace p113 := eq_true p113; replace q113 := eq_true q113; go_big_quiet (first | (go_at_call 24; (with_reducible refine (spec_l02Flow.calls (rd (rd_L1 l0_1 x3_2) 0) true _ A16.out).mono ?_); rintro e w' ⟨rfl, ⟨nd, rfl⟩⟩; (try first | exact ⟨rfl, _, World.drewN_drewN _ _ _⟩ | exact ⟨rfl, _, Eq.trans (World.drewN_drewN _ _ _) (congrArg (World.drewN _) (Nat.add_assoc _ _ _))⟩)) | (go_at_call 25; (with_reducible refine (spec_l00In_.calls (rd (rd_L1 l0_1 x3_2) 1) 0 2000000 t114 _ A19.out).mono ?_); rintro e w' ⟨rfl, ⟨nd, rfl⟩⟩; (try first | exact ⟨rfl, _, World.drewN_drewN _ _ _⟩ | exact ⟨rfl, _, Eq.trans (World.drewN_drewN _ _ _) (congrArg (World.drewN _) (Nat.add_assoc _ _ _))⟩)))) | go_big_quiet (first | (go_at_call 24; (with_reducible refine (spec_l02Flow.calls (rd (rd_L1 l0_1 x3_2) 0) true _ A16.out).mono ?_); rintro e w' ⟨rfl, ⟨nd, rfl⟩⟩; (try first | exact ⟨rfl, _, World.drewN_drewN _ _ _⟩ | exact ⟨rfl, _, Eq.trans (World.drewN_drewN _ _ _) (congrArg (World.drewN _) (Nat.add_assoc _ _ _))⟩)) | (go_at_call 25; (with_reducible refine (spec_l00In_.calls (rd (rd_L1 l0_1 x3_2) 1) 0 2000000 t114 _ A19.out).mono ?_); rintro e w' ⟨rfl, ⟨nd, rfl⟩⟩; (try first | exact ⟨rfl, _, World.drewN_drewN _ _ _⟩ | exact ⟨rfl, _, Eq.trans (World.drewN_drewN _ _ _) (congrArg (World.drewN _) (Nat.add_assoc _ _ _))⟩))))); (try go_wp2_with (first | (go_at_call 24; (with_reducible refine (spec_l02Flow.calls (rd (rd_L1 l0_1 x3_2) 0) true _ A16.out).mono ?_); rintro e w' ⟨rfl, ⟨nd, rfl⟩⟩; (try first | exact ⟨rfl, _, World.drewN_drewN _ _ _⟩ | exact ⟨rfl, _, Eq.trans (World.drewN_drewN _ _ _) (congrArg (World.drewN _) (Nat.add_assoc _ _ _))⟩); have p113 : 0 ≤ (1 : Int) := (by omega); have q113 : 1 < ((rd_L1 l0_1 x3_2).length : Int) := of_decide_eq_true (by first | (with_reducible assumption) | assumption); obtain ⟨ad113, e113, hx113_0⟩ := Kd.at_int HR110_0.out 1 p113 q113; obtain rfl : ad111 = ad113 := (by injection e113); (try simp only [show (1 : Int).toNat = 1 from rfl, Nat.reduceMul, Nat.reduceEqDiff, Go.Addr.add, ↓reduceIte] at hx113_0); have qi113 : (1 < (rd_L1 l0_1 x3_2).length) = True := eq_true (by omega); (try rw [show ((1 : Int)).toNat = 1 from rfl] at hx113_0); replace p113 := eq_true p113; replace q113 := eq_true q113) | (go_at_call 25; (with_reducible refine (spec_l00In_.calls (rd (rd_L1 l0_1 x3_2) 1) 0 2000000 t114 _ A19.out).mono ?_); rintro e w' ⟨rfl, ⟨nd, rfl⟩⟩; (try first | exact ⟨rfl, _, World.drewN_drewN _ _ _⟩ | exact ⟨rfl, _, Eq.trans (World.drewN_drewN _ _ _) (congrArg (World.drewN _) (Nat.add_assoc _ _ _))⟩)))))
             go_meet
             case rel => exact ⟨_, (!t114), (by first | rfl | (simp; done) | (simp [*]; done)), H', ⟨by have := HJ1.out; have := HK2.out; first | omega | exact Nat.le_refl _⟩, ⟨by (with_reducible repeat (first | refine bN ?_ _|refine bW ?_|refine bA ?_ _)); exact BK0.out⟩, by repeat (first | exact Drawn0.refl _ | apply Drawn0.step)⟩
            ·rw [if_neg c18] at H
             exact absurd H (by simp)
           ·replace c17 := Bool.eq_false_iff.mpr c17
            subst c17
            have H1 : (spec_l08Ok.j2 k2 x3_2 (rd_L1 l0_1 x3_2) true a0_0 l0_1) = some r := by rw [if_neg (show ¬ (false = true) by decide)] at H; exact H
            clear H
            have H := H1
            clear H1
            have H' := Aside0.mk H
            clear H
            have p111 : 0 ≤ (0 : Int) := (by omega)
            have q111 : 0 < ((rd_L1 l0_1 x3_2).length : Int) := of_decide_eq_true (by first | (with_reducible assumption) | assumption)
            obtain ⟨ad111, e111, hx111_0⟩ := Kd.at_int HR110_0.out 0 p111 q111
            cases e111
            have qi111 : (0 < (rd_L1 l0_1 x3_2).length) = True := eq_true (by omega)
            (try rw [show ((0 : Int)).toNat = 0 from rfl] at hx111_0)
            (try rw [Addr.add_zero'] at hx111_0)
            replace p111 := eq_true p111
            replace q111 := eq_true q111
            iterate 2 ((try go_quiet (first | (go_at_call 24; (with_reducible refine (spec_l02Flow.calls (rd (rd_L1 l0_1 x3_2) 0) false _ A16.out).mono ?_); rintro e w' ⟨rfl, ⟨nd, rfl⟩⟩; (try first | exact ⟨rfl, _, World.drewN_drewN _ _ _⟩ | exact ⟨rfl, _, Eq.trans (World.drewN_drewN _ _ _) (congrArg (World.drewN _) (Nat.add_assoc _ _ _))⟩)))); (try go_wp2_with (first | (go_at_call 24; (with_reducible refine (spec_l02Flow.calls (rd (rd_L1 l0_1 x3_2) 0) false _ A16.out).mono ?_); rintro e w' ⟨rfl, ⟨nd, rfl⟩⟩; (try first | exact ⟨rfl, _, World.drewN_drewN _ _ _⟩ | exact ⟨rfl, _, Eq.trans (World.drewN_drewN _ _ _) (congrArg (World.drewN _) (Nat.add_assoc _ _ _))⟩)))))
            go_meet
            case rel => exact ⟨_, (true), (by first | rfl | (simp; done) | (simp [*]; done)), H', ⟨by have := HJ1.out; have := HK2.out; first | omega | exact Nat.le_refl _⟩, ⟨by (with_reducible repeat (first | refine bN ?_ _|refine bW ?_|refine bA ?_ _)); exact BK0.out⟩, by repeat (first | exact Drawn0.refl _ | apply Drawn0.step)⟩
          ·rw [if_neg c15] at H
           exact absurd H (by simp)
         ·rw [if_neg c14] at H
          have c14b0 : (((rd_L1 l0_1 x3_2).length : Int) == 2) = false := beq_eq_false_iff_ne.mpr c14
          have c14b1 : (((rd_L1 l0_1 x3_2).length : Int) != 2) = true := bne_iff_ne.mpr c14
          (first | rw [c14b0] | (simp only [i64_w, i32_w]; rw [c14b0]) | rw [c14b2] | skip)
          have H' := Aside0.mk H
          clear H
          go_wp2
          repeat (go_quiet (fail); try go_wp2)
          go_meet
          case rel => exact ⟨_, (true), (by first | rfl | (simp; done) | (simp [*]; done)), H', ⟨by have := HJ1.out; have := HK2.out; first | omega | exact Nat.le_refl _⟩, ⟨by (with_reducible repeat (first | refine bN ?_ _|refine bW ?_|refine bA ?_ _)); exact BK0.out⟩, by repeat (first | exact Drawn0.refl _ | apply Drawn0.step)⟩
        case rest =>
         clear HC12
         try clear c1
         try clear p1
         try clear q1
         try clear hx1
         try clear qi1
         try clear p2
         try clear c4
         try clear c5
         try clear c5b0
         try clear c5b1
         try clear c5b2
         try clear c9
         try clear c10
         try clear c10b0
         try clear c11
         try clear c11b0
         try clear p11
         try clear q11
         try clear hx11
         try clear qi11
         try clear c12
         try clear c14
         try clear c14b0
         try clear c14b1
         try clear c14b2
         try clear c15
         try clear c15b0
         try clear c15b1
         try clear c17
         try clear c18
         try clear c18b0
         try clear c18b1
         try clear hcz13_0
         try clear hcz13_1
         try clear hcz6_0
         try clear hcz6_1
         try clear hcz7_0
         try clear hcz7_1
         try clear hcz8_0
         try clear hcz8_1
         try clear hfz13_0
         try clear hfz13_1
         try clear hfz6_0
         try clear hfz6_1
         try clear hfz7_0
         try clear hfz7_1
         try clear hfz8_0
         try clear hfz8_1
         try clear hx110_0
         try clear hx111_0
         try clear hx113_0
         try clear p110
         try clear p111
         try clear p113
         try clear p2
         try clear q110
         try clear q111
         try clear q113
         obtain ⟨kq, x59_11, rfl, HA, HJ11, BK0, ⟨mc11, rfl⟩⟩ := hcut
         cases kq with
         | zero => exact absurd HA.out (by simp [spec_l08Ok.j2])
         | succ kj11 =>
          have H := HA.out
          clear HA
          simp only [spec_l08Ok.j2] at H
          by_cases c20 : x59_11 = true
          ·subst c20
           have H1 : (some false) = some r := by rw [if_pos rfl] at H; exact H
           clear H
           have H := H1
           clear H1
           obtain rfl := Option.some.inj H
           go_wp2
           repeat (go_quiet (fail); try go_wp2)
           go_ret
           exact ⟨by first | rfl | (simp; done) | (simp [*]; done), by repeat (first | exact Drawn0.refl _ | apply Drawn0.step)⟩
          ·replace c20 := Bool.eq_false_iff.mpr c20
           subst c20
           have H1 : (if x3_2 = 0 then (if 0 < ((rd_L1 l0_1 x3_2).length : Int) then (if (rd (rd_L1 l0_1 x3_2) 0) = 0 then (if x3_2 > 0 then (none) else (spec_l08Ok.l0 kj11 (wrap64 (x3_2 + 1)) a0_0 l0_1)) else (some false)) else (none)) else (if x3_2 > 0 then (if 0 ≤ (wrap64 (x3_2 - 1)) then (if (wrap64 (x3_2 - 1)) < (l0_1.length : Int) then (if 0 < ((rd_L1 l0_1 (wrap64 (x3_2 - 1))).length : Int) then (if 0 < ((rd_L1 l0_1 x3_2).length : Int) then (if (rd (rd_L1 l0_1 (wrap64 (x3_2 - 1))) 0) ≥ (rd (rd_L1 l0_1 x3_2) 0) then (some false) else (if 1 < ((rd_L1 l0_1 (wrap64 (x3_2 - 1))).length : Int) then (if 1 < ((rd_L1 l0_1 x3_2).length : Int) then (if (rd (rd_L1 l0_1 (wrap64 (x3_2 - 1))) 1) < (rd (rd_L1 l0_1 x3_2) 1) then (some false) else (spec_l08Ok.l0 kj11 (wrap64 (x3_2 + 1)) a0_0 l0_1)) else (none)) else (none))) else (none)) else (none)) else (none)) else (none)) else (spec_l08Ok.l0 kj11 (wrap64 (x3_2 + 1)) a0_0 l0_1))) = some r := by rw [if_neg (show ¬ (false = true) by decide)] at H; exact H
           clear H
           have H := H1
           clear H1
           by_cases c21 : x3_2 = 0
           ·rw [if_pos c21] at H
            have c21b0 : (x3_2 == 0) = true := beq_iff_eq.mpr c21
            have c21b1 : (x3_2 != 0) = false := bne_eq_false_iff_eq.mpr c21
            clear c21
            by_cases c22 : 0 < ((rd_L1 l0_1 x3_2).length : Int)
            ·rw [if_pos c22] at H
             have c22b0 : decide (0 < ((rd_L1 l0_1 x3_2).length : Int)) = true := decide_eq_true c22
             have c22b1 : decide (0 < (rd_L1 l0_1 x3_2).length) = true := decide_eq_true (by omega)
             clear c22
             by_cases c23 : (rd (rd_L1 l0_1 x3_2) 0) = 0
             ·rw [if_pos c23] at H
              have c23b0 : ((rd (rd_L1 l0_1 x3_2) 0) == 0) = true := beq_iff_eq.mpr c23
              have c23b1 : ((rd (rd_L1 l0_1 x3_2) 0) != 0) = false := bne_eq_false_iff_eq.mpr c23
              clear c23
              by_cases c24 : x3_2 > 0
              ·rw [if_pos c24] at H
               exact absurd H (by simp)
              ·rw [if_neg c24] at H
               have c24b0 : decide (0 < x3_2) = false := decide_eq_false c24
               clear c24
               have H' := Aside0.mk H
               clear H
               have p115 : 0 ≤ (0 : Int) := (by omega)
               have q115 : 0 < ((rd_L1 l0_1 x3_2).length : Int) := of_decide_eq_true (by first | (with_reducible assumption) | assumption)
               obtain ⟨ad115, e115, hx115_0⟩ := Kd.at_int HR110_0.out 0 p115 q115
               cases e115
               have qi115 : (0 < (rd_L1 l0_1 x3_2).length) = True := eq_true (by omega)
               (try rw [show ((0 : Int)).toNat = 0 from rfl] at hx115_0)
               (try rw [Addr.add_zero'] at hx115_0)
               replace p115 := eq_true p115
               replace q115 := eq_true q115
               go_wp2
               repeat (go_quiet (fail); try go_wp2)
               go_roundg kj11
               case measure => have := HJ1.out; have := HK2.out; have := HJ11.out; omega
               case rel => exact ⟨(wrap64 (x3_2 + 1)), (by first | rfl | (simp; done) | (simp [*]; done)), H', ⟨by have := HJ1.out; have := HK2.out; have := HJ11.out; omega⟩, ⟨by (with_reducible repeat (first | refine bN ?_ _|refine bW ?_|refine bA ?_ _)); exact BK0.out⟩, by repeat (first | exact Drawn0.refl _ | apply Drawn0.step)⟩
             ·rw [if_neg c23] at H
              have c23b0 : ((rd (rd_L1 l0_1 x3_2) 0) == 0) = false := beq_eq_false_iff_ne.mpr c23
              have c23b1 : ((rd (rd_L1 l0_1 x3_2) 0) != 0) = true := bne_iff_ne.mpr c23
              obtain rfl := Option.some.inj H
              have p115 : 0 ≤ (0 : Int) := (by omega)
              have q115 : 0 < ((rd_L1 l0_1 x3_2).length : Int) := of_decide_eq_true (by first | (with_reducible assumption) | assumption)
              obtain ⟨ad115, e115, hx115_0⟩ := Kd.at_int HR110_0.out 0 p115 q115
              cases e115
              have qi115 : (0 < (rd_L1 l0_1 x3_2).length) = True := eq_true (by omega)
              (try rw [show ((0 : Int)).toNat = 0 from rfl] at hx115_0)
              (try rw [Addr.add_zero'] at hx115_0)
              replace p115 := eq_true p115
              replace q115 := eq_true q115
              go_wp2
              repeat (go_quiet (fail); try go_wp2)
              go_ret
              exact ⟨by first | rfl | (simp; done) | (simp [*]; done), by repeat (first | exact Drawn0.refl _ | apply Drawn0.step)⟩
            ·rw [if_neg c22] at H
             exact absurd H (by simp)
           ·rw [if_neg c21] at H
            have c21b0 : (x3_2 == 0) = false := beq_eq_false_iff_ne.mpr c21
            have c21b1 : (x3_2 != 0) = true := bne_iff_ne.mpr c21
            by_cases c25 : x3_2 > 0
            ·rw [if_pos c25] at H
             have c25b0 : decide (0 < x3_2) = true := decide_eq_true c25
             clear c25
             obtain ⟨ji26, hji26⟩ : ∃ j_ : Int, (wrap64 (x3_2 - 1)) = j_ := ⟨_, rfl⟩
             replace H : (if 0 ≤ (ji26) then (if (ji26) < (l0_1.length : Int) then (if 0 < ((rd_L1 l0_1 (ji26)).length : Int) then (if 0 < ((rd_L1 l0_1 x3_2).length : Int) then (if (rd (rd_L1 l0_1 (ji26)) 0) ≥ (rd (rd_L1 l0_1 x3_2) 0) then (some false) else (if 1 < ((rd_L1 l0_1 (ji26)).length : Int) then (if 1 < ((rd_L1 l0_1 x3_2).length : Int) then (if (rd (rd_L1 l0_1 (ji26)) 1) < (rd (rd_L1 l0_1 x3_2) 1) then (some false) else (spec_l08Ok.l0 kj11 (wrap64 (x3_2 + 1)) a0_0 l0_1)) else (none)) else (none))) else (none)) else (none)) else (none)) else (none)) = some r := by first | (rw [hji26] at H; exact H) | (simp only [hji26] at H ⊢; exact H)
             have hji26w : (IntKind.i64.wrap (x3_2 - 1)) = ji26 := (i64_w _).trans hji26
             by_cases c27 : 0 ≤ (ji26)
             ·rw [if_pos c27] at H
              have c27b0 : decide (0 ≤ (ji26)) = true := decide_eq_true c27
              clear c27
              by_cases c28 : (ji26) < (l0_1.length : Int)
              ·rw [if_pos c28] at H
               have c28b0 : decide ((ji26) < (l0_1.length : Int)) = true := decide_eq_true c28
               clear c28
               by_cases c29 : 0 < ((rd_L1 l0_1 (ji26)).length : Int)
               ·rw [if_pos c29] at H
                have c29b0 : decide (0 < ((rd_L1 l0_1 (ji26)).length : Int)) = true := decide_eq_true c29
                have c29b1 : decide (0 < (rd_L1 l0_1 (ji26)).length) = true := decide_eq_true (by omega)
                clear c29
                by_cases c30 : 0 < ((rd_L1 l0_1 x3_2).length : Int)
                ·rw [if_pos c30] at H
                 have c30b0 : decide (0 < ((rd_L1 l0_1 x3_2).length : Int)) = true := decide_eq_true c30
                 have c30b1 : decide (0 < (rd_L1 l0_1 x3_2).length) = true := decide_eq_true (by omega)
                 clear c30
                 by_cases c31 : (rd (rd_L1 l0_1 (ji26)) 0) ≥ (rd (rd_L1 l0_1 x3_2) 0)
                 ·rw [if_pos c31] at H
                  have c31b0 : decide ((rd (rd_L1 l0_1 x3_2) 0) ≤ (rd (rd_L1 l0_1 (ji26)) 0)) = true := decide_eq_true c31
                  clear c31
                  obtain rfl := Option.some.inj H
                  have hcz32_0 : w.cell? ⟨gr0, 0, none⟩ = some (.string a0_0) := (blk_cell BK0.out 0).trans rfl
                  have hcz32_1 : w.cell? ⟨gr0, 1, none⟩ = some (.slice (some ad110) l0_1.length c0_1) := (blk_cell BK0.out 1).trans rfl
                  have hfz32_0 := blk_frozen BK0.out 0
                  have hfz32_1 := blk_frozen BK0.out 1
                  have p116 : 0 ≤ ((ji26) : Int) := of_decide_eq_true (by first | (with_reducible assumption) | assumption)
                  have q116 : (ji26) < (l0_1.length : Int) := of_decide_eq_true (by first | (with_reducible assumption) | assumption)
                  obtain ⟨ad116, A116_0, c116_0, e116, hx116_0, hl116_0, hi116_0⟩ := at_L1 HR0_1.out (ji26) p116 q116
                  obtain rfl : ad110 = ad116 := (by injection e116)
                  have HR116_0 := Aside0.mk hi116_0
                  have HC116_0 := Aside0.mk hl116_0
                  clear hi116_0 hl116_0
                  replace p116 := eq_true p116
                  replace q116 := eq_true q116
                  have p117 : 0 ≤ (0 : Int) := (by omega)
                  have q117 : 0 < ((rd_L1 l0_1 (ji26)).length : Int) := of_decide_eq_true (by first | (with_reducible assumption) | assumption)
                  obtain ⟨ad117, e117, hx117_0⟩ := Kd.at_int HR116_0.out 0 p117 q117
                  cases e117
                  have qi117 : (0 < (rd_L1 l0_1 (ji26)).length) = True := eq_true (by omega)
                  (try rw [show ((0 : Int)).toNat = 0 from rfl] at hx117_0)
                  (try rw [Addr.add_zero'] at hx117_0)
                  replace p117 := eq_true p117
                  replace q117 := eq_true q117
                  have p118 : 0 ≤ (0 : Int) := (by omega)
                  have q118 : 0 < ((rd_L1 l0_1 x3_2).length : Int) := of_decide_eq_true (by first | (with_reducible assumption) | assumption)
                  obtain ⟨ad118, e118, hx118_0⟩ := Kd.at_int HR110_0.out 0 p118 q118
                  cases e118
                  have qi118 : (0 < (rd_L1 l0_1 x3_2).length) = True := eq_true (by omega)
                  (try rw [show ((0 : Int)).toNat = 0 from rfl] at hx118_0)
                  (try rw [Addr.add_zero'] at hx118_0)
                  replace p118 := eq_true p118
                  replace q118 := eq_true q118
                  go_wp2
                  repeat (go_quiet (fail); try go_wp2)
                  go_ret
                  exact ⟨by first | rfl | (simp; done) | (simp only [← hji26] <;> (first | rfl | simp)) | (simp [*]; done), by repeat (first | exact Drawn0.refl _ | apply Drawn0.step)⟩
                 ·rw [if_neg c31] at H
                  have c31b0 : decide ((rd (rd_L1 l0_1 x3_2) 0) ≤ (rd (rd_L1 l0_1 (ji26)) 0)) = false := decide_eq_false c31
                  clear c31
                  by_cases c33 : 1 < ((rd_L1 l0_1 (ji26)).length : Int)
                  ·rw [if_pos c33] at H
                   have c33b0 : decide (1 < ((rd_L1 l0_1 (ji26)).length : Int)) = true := decide_eq_true c33
                   have c33b1 : decide (1 < (rd_L1 l0_1 (ji26)).length) = true := decide_eq_true (by omega)
                   clear c33
                   by_cases c34 : 1 < ((rd_L1 l0_1 x3_2).length : Int)
                   ·rw [if_pos c34] at H
                    have c34b0 : decide (1 < ((rd_L1 l0_1 x3_2).length : Int)) = true := decide_eq_true c34
                    have c34b1 : decide (1 < (rd_L1 l0_1 x3_2).length) = true := decide_eq_true (by omega)
                    clear c34
                    by_cases c35 : (rd (rd_L1 l0_1 (ji26)) 1) < (rd (rd_L1 l0_1 x3_2) 1)
                    ·rw [if_pos c35] at H
                     have c35b0 : decide ((rd (rd_L1 l0_1 (ji26)) 1) < (rd (rd_L1 l0_1 x3_2) 1)) = true := decide_eq_true c35
                     clear c35
                     obtain rfl := Option.some.inj H
                     have hcz36_0 : w.cell? ⟨gr0, 0, none⟩ = some (.string a0_0) := (blk_cell BK0.out 0).trans rfl
                     have hcz36_1 : w.cell? ⟨gr0, 1, none⟩ = some (.slice (some ad110) l0_1.length c0_1) := (blk_cell BK0.out 1).trans rfl
                     have hfz36_0 := blk_frozen BK0.out 0
                     have hfz36_1 := blk_frozen BK0.out 1
                     have p116 : 0 ≤ ((ji26) : Int) := of_decide_eq_true (by first | (with_reducible assumption) | assumption)
                     have q116 : (ji26) < (l0_1.length : Int) := of_decide_eq_true (by first | (with_reducible assumption) | assumption)
                     obtain ⟨ad116, A116_0, c116_0, e116, hx116_0, hl116_0, hi116_0⟩ := at_L1 HR0_1.out (ji26) p116 q116
                     obtain rfl : ad110 = ad116 := (by injection e116)
                     have HR116_0 := Aside0.mk hi116_0
                     have HC116_0 := Aside0.mk hl116_0
                     clear hi116_0 hl116_0
                     replace p116 := eq_true p116
                     replace q116 := eq_true q116
                     have p117 : 0 ≤ (0 : Int) := (by omega)
                     have q117 : 0 < ((rd_L1 l0_1 (ji26)).length : Int) := of_decide_eq_true (by first | (with_reducible assumption) | assumption)
                     obtain ⟨ad117, e117, hx117_0⟩ := Kd.at_int HR116_0.out 0 p117 q117
                     cases e117
                     have qi117 : (0 < (rd_L1 l0_1 (ji26)).length) = True := eq_true (by omega)
                     (try rw [show ((0 : Int)).toNat = 0 from rfl] at hx117_0)
                     (try rw [Addr.add_zero'] at hx117_0)
                     replace p117 := eq_true p117
                     replace q117 := eq_true q117
                     have p118 : 0 ≤ (0 : Int) := (by omega)
                     have q118 : 0 < ((rd_L1 l0_1 x3_2).length : Int) := of_decide_eq_true (by first | (with_reducible assumption) | assumption)
                     obtain ⟨ad118, e118, hx118_0⟩ := Kd.at_int HR110_0.out 0 p118 q118
                     cases e118
                     have qi118 : (0 < (rd_L1 l0_1 x3_2).length) = True := eq_true (by omega)
                     (try rw [show ((0 : Int)).toNat = 0 from rfl] at hx118_0)
                     (try rw [Addr.add_zero'] at hx118_0)
                     replace p118 := eq_true p118
                     replace q118 := eq_true q118
                     have p119 : 0 ≤ ((ji26) : Int) := of_decide_eq_true (by first | (with_reducible assumption) | assumption)
                     have q119 : (ji26) < (l0_1.length : Int) := of_decide_eq_true (by first | (with_reducible assumption) | assumption)
                     obtain ⟨ad119, A119_0, c119_0, e119, hx119_0, hl119_0, hi119_0⟩ := at_L1 HR0_1.out (ji26) p119 q119
                     obtain rfl : ad110 = ad119 := (by injection e119)
                     have HR119_0 := Aside0.mk hi119_0
                     have HC119_0 := Aside0.mk hl119_0
                     clear hi119_0 hl119_0
                     replace p119 := eq_true p119
                     replace q119 := eq_true q119
                     have ea_ := Option.some.inj (hx116_0.symm.trans hx119_0)
                     injection ea_ with ea_ en_ ec_
                     subst ea_
                     subst ec_
                     clear en_
                     have p120 : 0 ≤ (1 : Int) := (by omega)
                     have q120 : 1 < ((rd_L1 l0_1 (ji26)).length : Int) := of_decide_eq_true (by first | (with_reducible assumption) | assumption)
                     obtain ⟨ad120, e120, hx120_0⟩ := Kd.at_int HR119_0.out 1 p120 q120
                     cases e120
                     (try simp only [show (1 : Int).toNat = 1 from rfl, Nat.reduceMul, Nat.reduceEqDiff, Go.Addr.add, ↓reduceIte] at hx120_0)
                     have qi120 : (1 < (rd_L1 l0_1 (ji26)).length) = True := eq_true (by omega)
                     (try rw [show ((1 : Int)).toNat = 1 from rfl] at hx120_0)
                     replace p120 := eq_true p120
                     replace q120 := eq_true q120
                     have p121 : 0 ≤ (1 : Int) := (by omega)
                     have q121 : 1 < ((rd_L1 l0_1 x3_2).length : Int) := of_decide_eq_true (by first | (with_reducible assumption) | assumption)
                     obtain ⟨ad121, e121, hx121_0⟩ := Kd.at_int HR110_0.out 1 p121 q121
                     obtain rfl : ad118 = ad121 := (by injection e121)
                     (try simp only [show (1 : Int).toNat = 1 from rfl, Nat.reduceMul, Nat.reduceEqDiff, Go.Addr.add, ↓reduceIte] at hx121_0)
                     have qi121 : (1 < (rd_L1 l0_1 x3_2).length) = True := eq_true (by omega)
                     (try rw [show ((1 : Int)).toNat = 1 from rfl] at hx121_0)
                     replace p121 := eq_true p121
                     replace q121 := eq_true q121
                     go_wp2
                     repeat (go_quiet (fail); try go_wp2)
                     go_ret
                     exact ⟨by first | rfl | (simp; done) | (simp only [← hji26] <;> (first | rfl | simp)) | (simp [*]; done), by repeat (first | exact Drawn0.refl _ | apply Drawn0.step)⟩
                    ·rw [if_neg c35] at H
                     have c35b0 : decide ((rd (rd_L1 l0_1 (ji26)) 1) < (rd (rd_L1 l0_1 x3_2) 1)) = false := decide_eq_false c35
                     clear c35
                     have H' := Aside0.mk H
                     clear H
                     have hcz37_0 : w.cell? ⟨gr0, 0, none⟩ = some (.string a0_0) := (blk_cell BK0.out 0).trans rfl
                     have hcz37_1 : w.cell? ⟨gr0, 1, none⟩ = some (.slice (some ad110) l0_1.length c0_1) := (blk_cell BK0.out 1).trans rfl
                     have hfz37_0 := blk_frozen BK0.out 0
                     have hfz37_1 := blk_frozen BK0.out 1
                     have p116 : 0 ≤ ((ji26) : Int) := of_decide_eq_true (by first | (with_reducible assumption) | assumption)
                     have q116 : (ji26) < (l0_1.length : Int) := of_decide_eq_true (by first | (with_reducible assumption) | assumption)
                     obtain ⟨ad116, A116_0, c116_0, e116, hx116_0, hl116_0, hi116_0⟩ := at_L1 HR0_1.out (ji26) p116 q116
                     obtain rfl : ad110 = ad116 := (by injection e116)
                     have HR116_0 := Aside0.mk hi116_0
                     have HC116_0 := Aside0.mk hl116_0
                     clear hi116_0 hl116_0
                     replace p116 := eq_true p116
                     replace q116 := eq_true q116
                     have p117 : 0 ≤ (0 : Int) := (by omega)
                     have q117 : 0 < ((rd_L1 l0_1 (ji26)).length : Int) := of_decide_eq_true (by first | (with_reducible assumption) | assumption)
                     obtain ⟨ad117, e117, hx117_0⟩ := Kd.at_int HR116_0.out 0 p117 q117
                     cases e117
                     have qi117 : (0 < (rd_L1 l0_1 (ji26)).length) = True := eq_true (by omega)
                     (try rw [show ((0 : Int)).toNat = 0 from rfl] at hx117_0)
                     (try rw [Addr.add_zero'] at hx117_0)
                     replace p117 := eq_true p117
                     replace q117 := eq_true q117
                     have p118 : 0 ≤ (0 : Int) := (by omega)
                     have q118 : 0 < ((rd_L1 l0_1 x3_2).length : Int) := of_decide_eq_true (by first | (with_reducible assumption) | assumption)
                     obtain ⟨ad118, e118, hx118_0⟩ := Kd.at_int HR110_0.out 0 p118 q118
                     cases e118
                     have qi118 : (0 < (rd_L1 l0_1 x3_2).length) = True := eq_true (by omega)
                     (try rw [show ((0 : Int)).toNat = 0 from rfl] at hx118_0)
                     (try rw [Addr.add_zero'] at hx118_0)
                     replace p118 := eq_true p118
                     replace q118 := eq_true q118
                     have p119 : 0 ≤ ((ji26) : Int) := of_decide_eq_true (by first | (with_reducible assumption) | assumption)
                     have q119 : (ji26) < (l0_1.length : Int) := of_decide_eq_true (by first | (with_reducible assumption) | assumption)
                     obtain ⟨ad119, A119_0, c119_0, e119, hx119_0, hl119_0, hi119_0⟩ := at_L1 HR0_1.out (ji26) p119 q119
                     obtain rfl : ad110 = ad119 := (by injection e119)
                     have HR119_0 := Aside0.mk hi119_0
                     have HC119_0 := Aside0.mk hl119_0
                     clear hi119_0 hl119_0
                     replace p119 := eq_true p119
                     replace q119 := eq_true q119
                     have ea_ := Option.some.inj (hx116_0.symm.trans hx119_0)
                     injection ea_ with ea_ en_ ec_
                     subst ea_
                     subst ec_
                     clear en_
                     have p120 : 0 ≤ (1 : Int) := (by omega)
                     have q120 : 1 < ((rd_L1 l0_1 (ji26)).length : Int) := of_decide_eq_true (by first | (with_reducible assumption) | assumption)
                     obtain ⟨ad120, e120, hx120_0⟩ := Kd.at_int HR119_0.out 1 p120 q120
                     cases e120
                     (try simp only [show (1 : Int).toNat = 1 from rfl, Nat.reduceMul, Nat.reduceEqDiff, Go.Addr.add, ↓reduceIte] at hx120_0)
                     have qi120 : (1 < (rd_L1 l0_1 (ji26)).length) = True := eq_true (by omega)
                     (try rw [show ((1 : Int)).toNat = 1 from rfl] at hx120_0)
                     replace p120 := eq_true p120
                     replace q120 := eq_true q120
                     have p121 : 0 ≤ (1 : Int) := (by omega)
                     have q121 : 1 < ((rd_L1 l0_1 x3_2).length : Int) := of_decide_eq_true (by first | (with_reducible assumption) | assumption)
                     obtain ⟨ad121, e121, hx121_0⟩ := Kd.at_int HR110_0.out 1 p121 q121
                     obtain rfl : ad118 = ad121 := (by injection e121)
                     (try simp only [show (1 : Int).toNat = 1 from rfl, Nat.reduceMul, Nat.reduceEqDiff, Go.Addr.add, ↓reduceIte] at hx121_0)
                     have qi121 : (1 < (rd_L1 l0_1 x3_2).length) = True := eq_true (by omega)
                     (try rw [show ((1 : Int)).toNat = 1 from rfl] at hx121_0)
                     replace p121 := eq_true p121
                     replace q121 := eq_true q121
                     go_wp2
                     repeat (go_quiet (fail); try go_wp2)
                     go_roundg kj11
                     case measure => have := HJ1.out; have := HK2.out; have := HJ11.out; omega
                     case rel => exact ⟨(wrap64 (x3_2 + 1)), (by first | rfl | (simp; done) | (simp [*]; done)), H', ⟨by have := HJ1.out; have := HK2.out; have := HJ11.out; omega⟩, ⟨by (with_reducible repeat (first | refine bN ?_ _|refine bW ?_|refine bA ?_ _)); exact BK0.out⟩, by repeat (first | exact Drawn0.refl _ | apply Drawn0.step)⟩
                   ·rw [if_neg c34] at H
                    exact absurd H (by simp)
                  ·rw [if_neg c33] at H
                   exact absurd H (by simp)
                ·rw [if_neg c30] at H
                 exact absurd H (by simp)
               ·rw [if_neg c29] at H
                exact absurd H (by simp)
              ·rw [if_neg c28] at H
               exact absurd H (by simp)
             ·rw [if_neg c27] at H
              exact absurd H (by simp)
            ·rw [if_neg c25] at H
             have c25b0 : decide (0 < x3_2) = false := decide_eq_false c25
             clear c25
             have H' := Aside0.mk H
             clear H
             go_wp2
             repeat (go_quiet (fail); try go_wp2)
             go_roundg kj11
             case measure => have := HJ1.out; have := HK2.out; have := HJ11.out; omega
             case rel => exact ⟨(wrap64 (x3_2 + 1)), (by first | rfl | (simp; done) | (simp [*]; done)), H', ⟨by have := HJ1.out; have := HK2.out; have := HJ11.out; omega⟩, ⟨by (with_reducible repeat (first | refine bN ?_ _|refine bW ?_|refine bA ?_ _)); exact BK0.out⟩, by repeat (first | exact Drawn0.refl _ | apply Drawn0.step)⟩
       ·rw [if_neg c11] at H
        exact absurd H (by simp)
      ·rw [if_neg c10] at H
       have c10b0 : decide (x3_2 < (l0_1.length : Int)) = false := decide_eq_false c10
       clear c10
       obtain rfl := Option.some.inj H
       have hcz38_0 : w.cell? ⟨gr0, 0, none⟩ = some (.string a0_0) := (blk_cell BK0.out 0).trans rfl
       have hcz38_1 : w.cell? ⟨gr0, 1, none⟩ = some (.slice A0_1 l0_1.length c0_1) := (blk_cell BK0.out 1).trans rfl
       have hfz38_0 := blk_frozen BK0.out 0
       have hfz38_1 := blk_frozen BK0.out 1
       go_wp2
       repeat (go_quiet (fail); try go_wp2)
       go_ret
       exact ⟨by first | rfl | (simp; done) | (simp [*]; done), by repeat (first | exact Drawn0.refl _ | apply Drawn0.step)⟩

open Go.Proofs.YtcggfmmjjkdgnaaM
def spec_l08Ok_.f (a0_0 : ByteArray) (l0_1 : List (List Int)) : Option Bool := if a0_0.size ≤ 9000000000000000000 then some (pumpOk a0_0 l0_1) else none
theorem flow_b (x : Int) : spec_l02Flow.f x = some (decide (0 ≤ x ∧ x ≤ 100000)) := rfl
theorem in_b (x lo hi : Int) : spec_l00In_.f x lo hi = some (decide (lo ≤ x ∧ x ≤ hi)) := rfl
theorem rdL_at (c : List (List Int)) (i : Nat) : rd_L1 c (i : Int) = c.getD i [] := by unfold rd_L1; rw [Int.toNat_natCast]
theorem ok_loop (s : ByteArray) (c : List (List Int)) (hc : c.length ≤ 8) : ∀ (d k i : Nat), i ≤ c.length → c.length - i = d → 2 * d < k → (∀ j, j < i → pointOk c j = true) → spec_l08Ok.l0 k (i : Int) s c = some (pointsFrom c d i) := by
  intro d
  induction d with
  | zero =>
    intro k i h1 hd hk hp
    obtain ⟨k, rfl⟩ : ∃ m, k = m + 1 := ⟨k - 1, by omega⟩
    simp only [spec_l08Ok.l0]; rw [if_neg (by omega)]; rfl
  | succ d ih =>
    intro k i h1 hd hk hp
    obtain ⟨k, rfl⟩ : ∃ m, k = m + 1 + 1 := ⟨k - 2, by omega⟩
    have hs : pointsFrom c (d + 1) i = (pointOk c i && pointsFrom c d (i + 1)) := rfl
    rw [hs]
    simp only [spec_l08Ok.l0]
    rw [if_pos (by omega), if_pos (by omega), rdL_at]
    have hP : pointOk c i = (decide ((c.getD i []).length = 2) && (decide (0 ≤ (c.getD i []).getD 0 0 ∧ (c.getD i []).getD 0 0 ≤ 100000) && (decide (0 ≤ (c.getD i []).getD 1 0 ∧ (c.getD i []).getD 1 0 ≤ 2000000) && (if i = 0 then decide ((c.getD i []).getD 0 0 = 0) else (decide ((c.getD (i - 1) []).getD 0 0 < (c.getD i []).getD 0 0) && decide ((c.getD i []).getD 1 0 ≤ (c.getD (i - 1) []).getD 1 0)))))) := rfl
    by_cases h2 : (c.getD i []).length = 2
    · rw [if_pos (by omega), if_pos (by omega), flow_b, rd_0]
      simp only [Option.bind_some]
      by_cases h3 : 0 ≤ (c.getD i []).getD 0 0 ∧ (c.getD i []).getD 0 0 ≤ 100000
      · rw [if_pos (decide_eq_true h3), if_pos (by omega), in_b, rd_1]
        simp only [Option.bind_some]
        by_cases h4 : 0 ≤ (c.getD i []).getD 1 0 ∧ (c.getD i []).getD 1 0 ≤ 2000000
        · rw [decide_eq_true h4]
          rw [decide_eq_true h2, decide_eq_true h3, decide_eq_true h4, Bool.true_and, Bool.true_and, Bool.true_and] at hP
          simp only [spec_l08Ok.j2]
          rw [if_neg (by simp), rd_0, rd_1]
          by_cases h0 : i = 0
          · subst h0
            rw [if_pos rfl] at hP
            rw [if_pos (by omega), if_pos (by omega)]
            by_cases h5 : (c.getD 0 []).getD 0 0 = 0
            · rw [decide_eq_true h5] at hP
              rw [if_pos h5, if_neg (by omega), hP, Bool.true_and, w64 (x := ((0 : Nat) : Int) + 1) (by omega) (by omega), show ((0 : Nat) : Int) + 1 = ((1 : Nat) : Int) by omega]
              exact ih k 1 (by omega) (by omega) (by omega) (fun j hj => by obtain rfl : j = 0 := by omega
                                                                            exact hP)
            · rw [decide_eq_false h5] at hP
              rw [if_neg h5, hP, Bool.false_and]
          · rw [if_neg h0] at hP
            have hl := point_len (hp (i - 1) (by omega))
            have e1 : wrap64 ((i : Int) - 1) = ((i - 1 : Nat) : Int) := by rw [w64 (by omega) (by omega)]; omega
            rw [if_neg (by omega), if_pos (by omega), e1, rdL_at, if_pos (by omega), if_pos (by omega), if_pos (by omega), if_pos (by omega), rd_0, rd_1]
            by_cases h5 : (c.getD (i - 1) []).getD 0 0 < (c.getD i []).getD 0 0
            · rw [if_neg (by omega), if_pos (by omega), if_pos (by omega)]
              by_cases h6 : (c.getD i []).getD 1 0 ≤ (c.getD (i - 1) []).getD 1 0
              · rw [decide_eq_true h5, decide_eq_true h6] at hP
                rw [if_neg (by omega), hP, w64 (x := (i : Int) + 1) (by omega) (by omega), show (i : Int) + 1 = ((i + 1 : Nat) : Int) by omega, Bool.true_and]
                exact ih k (i + 1) (by omega) (by omega) (by omega) (fun j hj => by
                  by_cases e : j = i
                  · subst e; exact hP
                  · exact hp j (by omega))
              · rw [decide_eq_true h5, decide_eq_false h6] at hP
                rw [if_pos (by omega), hP]; rfl
            · rw [decide_eq_false h5] at hP
              rw [if_pos (by omega), hP]; rfl
        · rw [decide_eq_false h4]
          rw [decide_eq_true h2, decide_eq_true h3, decide_eq_false h4] at hP
          simp only [spec_l08Ok.j2]
          rw [hP]; simp
      · rw [if_neg (by rw [decide_eq_false h3]; simp)]
        rw [decide_eq_true h2, decide_eq_false h3] at hP
        simp only [spec_l08Ok.j2]
        rw [hP]; simp
    · rw [if_neg (by omega)]
      rw [decide_eq_false h2] at hP
      simp only [spec_l08Ok.j2]
      rw [hP]; simp
theorem spec_l08Ok_.same (s : ByteArray) (c : List (List Int)) (hs : s.size ≤ 9000000000000000000) : spec_l08Ok.f 20 s c = some (pumpOk s c) := by
  unfold spec_l08Ok.f spec_l01Name_.f pumpOk
  rw [if_pos hs]
  simp only [Option.bind_some, spec_l08Ok.j0]
  cases hn : nameOk s
  · simp
  · by_cases h2 : (c.length : Int) < 2
    · have : ¬ 2 ≤ c.length := by omega
      simp [h2, this]
    · by_cases h8 : (c.length : Int) > 8
      · have : ¬ c.length ≤ 8 := by omega
        have h8' : (8 : Int) < c.length := h8
        simp [h2, h8', this]
      · have e1 : 2 ≤ c.length := by omega
        have e2 : c.length ≤ 8 := by omega
        have := ok_loop s c e2 c.length 19 0 (by omega) (by omega) (by omega) (fun j hj => by omega)
        rw [if_pos rfl, if_neg h2, if_neg (by rw [decide_eq_false h8]; simp), decide_eq_true e1, decide_eq_true e2, Bool.true_and, Bool.true_and, Bool.true_and]
        exact this
theorem spec_l08Ok_.calls (gr0 : Nat) (a0_0 : ByteArray) (A0_1 : Option Addr) (c0_1 : Nat) (l0_1 : List (List Int)) (r : Bool) (w : World) (hb0 : w.heap[gr0]? = some (.cells #[.string a0_0, .slice A0_1 l0_1.length c0_1] 26 (0, 0))) (hr0_1 : Kd.C (Kd.slice 2 (Kd.int .i64)) w A0_1 l0_1.length l0_1) (hc0_1 : l0_1.length ≤ c0_1) (h : spec_l08Ok_.f a0_0 l0_1 = some r) :
    Calls Try.prog 12 #[.pointer (some ⟨gr0, 0, none⟩)] w fun e w' => e = .returned (.bool r) ∧ Drawn0 w w' := by
  unfold spec_l08Ok_.f at h
  split at h
  · rename_i hs
    exact spec_l08Ok.calls 20 gr0 a0_0 A0_1 c0_1 l0_1 r w hb0 hr0_1 hc0_1 (by rw [← h]; exact spec_l08Ok_.same a0_0 l0_1 hs)
  · exact absurd h (by simp)

/-! ### spec_l08Speed: function 13 -/
def spec_l08Speed.f (a0 : Int) : Option (Bool) := (spec_l00In_.f a0 100 1200).bind fun t122 => (some t122)
set_option maxHeartbeats 8000000 in
set_option maxRecDepth 100000 in
theorem spec_l08Speed.calls (a0 : Int) (r : Bool) (w : World) (h : spec_l08Speed.f a0 = some r) :
  Calls Try.prog 13 #[.int .i64 a0] w fun e w' => e = .returned (.bool r) ∧ Drawn0 w w' := by
 have H : ((spec_l00In_.f a0 100 1200).bind fun t122 => (some t122)) = some r := h
 clear h
 replace H := Option.bind_eq_some_iff.mp H
 obtain ⟨t122, A20, H⟩ := H
 replace H : (some t122) = some r := H
 have A2 := Aside0.mk A20
 clear A20
 obtain rfl := Option.some.inj H
 go_enter Try.func13, Try.ntmps13
 go_wp2_with (first | ((with_reducible refine gate_callee (f := 25) rfl ?_); refine goesL_ (some 4) rfl rfl Try.func25 (by kernel_rfl) rfl #[.int .i64 a0, .int .i64 100, .int .i64 1200] rfl (by (try simp only [List.map_toArray, List.map_cons, List.map_nil]); first | done | rfl | (simp only [List.length_drop, List.length_take]; rfl)) ?_; (with_reducible refine (spec_l00In_.calls a0 100 1200 t122 _ A2.out).mono ?_); rintro e w' ⟨rfl, ⟨nd, rfl⟩⟩; refine ⟨_, rfl, ?_⟩))
 go_ret
 exact ⟨by first | rfl | (simp; done) | (simp [*]; done), by repeat (first | exact Drawn0.refl _ | apply Drawn0.step)⟩

end Go.Proofs.Ytcggfmmjjkdgnaa.PFnExactSlowPump
