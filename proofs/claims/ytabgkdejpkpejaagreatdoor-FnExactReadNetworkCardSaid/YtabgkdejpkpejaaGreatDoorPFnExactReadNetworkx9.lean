-- Printed by a program of this session (wip/hprint.sh: the kit's print with hand-proved contracts put in); not by print.sh itself.
import Derived.Test.YtabgkdejpkpejaaGreatDoorPFnExactReadNetworkx0
import Derived.Test.YtabgkdejpkpejaaGreatDoorPFnExactReadNetworkx6
import Derived.Test.YtabgkdejpkpejaaGreatDoorPFnExactReadNetworkx7
import Derived.Test.YtabgkdejpkpejaaGreatDoorPFnExactReadNetworkx8
namespace Go.Proofs.YtabgkdejpkpejaaGreatDoor.PFnExactReadNetwork
open Go.RowKit Go.Proofs.YtabgkdejpkpejaaGreatDoorW.PrintWords Go.Proofs.YtabgkdejpkpejaaGreatDoorW.PrintLast Go.Proofs.YtabgkdejpkpejaaGreatDoorW.PrintMore Go.Proofs.YtabgkdejpkpejaaGreatDoorM
attribute [local go_sem] max2_int min2_int max_two min_two max_three min_three max_four min_four   -- for this text's walks alone
set_option linter.unusedVariables false
set_option linter.unusedSimpArgs false

/-! ### impl_ValidNetwork: function 29 -/
mutual
def impl_ValidNetwork.j0 : Nat → Bool → List Int → List (S36) → Option (Bool)
 | 0, _, _, _ => none
 | k + 1, x26, x257000, x257001 => if x26 = true then (some false) else (impl_ValidNetwork.l0 k x257001 (x257001.length : Int) 0 x257000 x257001)
def impl_ValidNetwork.l0 : Nat → List (S36) → Int → Int → List Int → List (S36) → Option (Bool)
 | 0, _, _, _, _, _ => none
 | k + 1, x28, x29, x30, x257000, x257001 => if x30 < x29 then (if 0 ≤ x30 then (if x30 < (x28.length : Int) then ((impl_ValidPipe_.f ((rd_T36 x28 x30).f0) ((rd_T36 x28 x30).f1) ((rd_T36 x28 x30).f2) ((rd_T36 x28 x30).f3) ((rd_T36 x28 x30).f4) ((rd_T36 x28 x30).f5)).bind fun t260 => (if t260 = true then ((impl_Network_hasEnds.f x257000 x257001 ((rd_T36 x28 x30).f0) ((rd_T36 x28 x30).f1) ((rd_T36 x28 x30).f2) ((rd_T36 x28 x30).f3) ((rd_T36 x28 x30).f4) ((rd_T36 x28 x30).f5)).bind fun t261 => (if t261 = true then (if x30 > 0 then (if 0 ≤ (wrap64 (x30 - 1)) then (if (wrap64 (x30 - 1)) < (x257001.length : Int) then (if ((Op.bytesLess (((rd_T36 x28 x30).f0).toList) (((rd_T36 x257001 (wrap64 (x30 - 1))).f0).toList)) || ((((rd_T36 x28 x30).f0).toList) == (((rd_T36 x257001 (wrap64 (x30 - 1))).f0).toList))) = true then (some false) else (impl_ValidNetwork.l0 k x28 x29 (wrap64 (x30 + 1)) x257000 x257001)) else (none)) else (none)) else (impl_ValidNetwork.l0 k x28 x29 (wrap64 (x30 + 1)) x257000 x257001)) else (some false))) else (some false))) else (none)) else (none)) else (some true)
end
def impl_ValidNetwork.f (k : Nat) (l0_0 : List Int) (l0_1 : List (S36)) : Option (Bool) := if (l0_0.length : Int) < 1 then (impl_ValidNetwork.j0 k true l0_0 l0_1) else (if (l0_0.length : Int) > 16 then (impl_ValidNetwork.j0 k true l0_0 l0_1) else ((impl_allWithin.f l0_0 (-100000) 100000).bind fun t257 => (if t257 = true then (impl_ValidNetwork.j0 k (decide ((l0_1.length : Int) > 20)) l0_0 l0_1) else (impl_ValidNetwork.j0 k true l0_0 l0_1))))
theorem impl_ValidNetwork.mono_l : ∀ k, (∀ y0 y1 y2, LeO (impl_ValidNetwork.j0 k y0 y1 y2) (impl_ValidNetwork.j0 (k + 1) y0 y1 y2)) ∧ (∀ y0 y1 y2 y3 y4, LeO (impl_ValidNetwork.l0 k y0 y1 y2 y3 y4) (impl_ValidNetwork.l0 (k + 1) y0 y1 y2 y3 y4))
 | 0 => ⟨fun _ _ _ r h => by simp [impl_ValidNetwork.j0] at h, fun _ _ _ _ _ r h => by simp [impl_ValidNetwork.l0] at h⟩
 | k + 1 => by
  obtain ⟨ih0, ih1⟩ := impl_ValidNetwork.mono_l k
  refine ⟨?_, ?_⟩
  ·intro y0 y1 y2
   unfold impl_ValidNetwork.j0
   repeat' first|(with_reducible first|exact ih0 _ _ _|exact ih1 _ _ _ _ _|exact LeO.refl _|exact LeO.none _|refine LeO.ite ?_ ?_|refine LeO.bind ?_ (fun _ => ?_))|exact ih0 _ _ _|exact ih1 _ _ _ _ _|exact LeO.none _|refine LeO.ite ?_ ?_|refine LeO.bind ?_ (fun _ => ?_)
  ·intro y0 y1 y2 y3 y4
   unfold impl_ValidNetwork.l0
   repeat' first|(with_reducible first|exact ih0 _ _ _|exact ih1 _ _ _ _ _|exact LeO.refl _|exact LeO.none _|refine LeO.ite ?_ ?_|refine LeO.bind ?_ (fun _ => ?_))|exact ih0 _ _ _|exact ih1 _ _ _ _ _|exact LeO.none _|refine LeO.ite ?_ ?_|refine LeO.bind ?_ (fun _ => ?_)
theorem impl_ValidNetwork.mono : ∀ a0 a1 k, LeO (impl_ValidNetwork.f k a0 a1) (impl_ValidNetwork.f (k + 1) a0 a1) := by
 intro a0 a1 k
 obtain ⟨ih0, ih1⟩ := impl_ValidNetwork.mono_l k
 unfold impl_ValidNetwork.f
 repeat' first|(with_reducible first|exact ih0 _ _ _|exact ih1 _ _ _ _ _|exact LeO.refl _|exact LeO.none _|refine LeO.ite ?_ ?_|refine LeO.bind ?_ (fun _ => ?_))|exact ih0 _ _ _|exact ih1 _ _ _ _ _|exact LeO.none _|refine LeO.ite ?_ ?_|refine LeO.bind ?_ (fun _ => ?_)
def impl_ValidNetwork.T6 : Bool × List (List Nat × List Nat) := (true, [([], []), ([0], [0]), ([1], [1]), ([2, 1], [2]), ([3], [3]), ([3], [3]), ([4, 5, 3, 3], [3, 4, 5]), ([6, 3], [3, 6]), ([3, 7], [3, 7]), ([8, 6], [8]), ([9], [9]), ([10, 9], [9, 10]), ([11, 9, 9], [9, 11]), ([12], [12]), ([13, 12], [12, 13]), ([12], [12]), ([15, 12], [12, 15]), ([12], [12]), ([17, 12], [12, 17]), ([16, 18, 12], [12, 16, 18]), ([19, 12], [12, 19]), ([20, 12], [12, 20]), ([14, 21, 12], [12, 14, 21]), ([12, 22, 9], [9, 12, 22]), ([9, 23], [9, 23])])
def impl_ValidNetwork.B6 : List Nat := [0, 1, 3, 7, 15, 15, 63, 127, 255, 511, 1023, 2047, 4095, 8191, 16383, 8191, 40959, 8191, 139263, 499711, 1023999, 2072575, 4194303, 8388607, 16777215]
theorem impl_ValidNetwork.tab6 : rtab .any (opsOf Tryz.f29 6) = impl_ValidNetwork.T6 := by kernel_rfl
theorem impl_ValidNetwork.bits6 : waitsOk impl_ValidNetwork.T6.2 impl_ValidNetwork.B6 = true := by kernel_rfl
set_option maxHeartbeats 8000000 in
set_option maxRecDepth 100000 in
theorem impl_ValidNetwork.calls (k : Nat) (A0_0 : Option Addr) (c0_0 : Nat) (l0_0 : List Int) (A0_1 : Option Addr) (c0_1 : Nat) (l0_1 : List (S36)) (r : Bool) (w : World) (hr0_0 : Kd.C (Kd.int .i64) w A0_0 l0_0.length l0_0) (hc0_0 : l0_0.length ≤ c0_0) (hr0_1 : Kd.C k36 w A0_1 l0_1.length l0_1) (hc0_1 : l0_1.length ≤ c0_1) (h : impl_ValidNetwork.f k l0_0 l0_1 = some r) :
  Calls Tryz.prog 29 #[.agg #[.slice A0_0 l0_0.length c0_0, .slice A0_1 l0_1.length c0_1]] w fun e w' => e = .returned (.bool r) ∧ Below w.heap.size w w' := by
 have hu25 := Tryz.underlying25
 have hu36 := Tryz.underlying36
 have HR0_0 := Aside0.mk hr0_0
 have HC0_0 := Aside0.mk hc0_0
 clear hr0_0 hc0_0
 have HR0_1 := Aside0.mk hr0_1
 have HC0_1 := Aside0.mk hc0_1
 clear hr0_1 hc0_1
 have HB := Aside0.mk (Below.refl w.heap.size w)
 have H : (if (l0_0.length : Int) < 1 then (impl_ValidNetwork.j0 k true l0_0 l0_1) else (if (l0_0.length : Int) > 16 then (impl_ValidNetwork.j0 k true l0_0 l0_1) else ((impl_allWithin.f l0_0 (-100000) 100000).bind fun t257 => (if t257 = true then (impl_ValidNetwork.j0 k (decide ((l0_1.length : Int) > 20)) l0_0 l0_1) else (impl_ValidNetwork.j0 k true l0_0 l0_1))))) = some r := h
 clear h
 have HC2 := Aside0.mk H
 clear H
 go_enter Tryz.func29, Tryz.ntmps29
 go_upto_region 1 with (first | ((with_reducible refine gate_dst (N := 1) rfl ?_); (try (refine gate_guard (by rfl) ?_; dsimp only)); refine box_event ?hg (N := 1) ?hd (cs := #[.slice A0_0 l0_0.length c0_0, .slice A0_1 l0_1.length c0_1]) (t := 25) ?hr ?_; (case hd => rfl); (case hg => rfl); (case hr => first | (go_simp; done) | (go_simp; rfl)); intro gb256 hg w3 hbox hb; have n0_ := Aside0.mk (below_step (z0_) hb); have n1_ := Aside0.mk (hbox); have n2_ := Aside0.mk ((z4_ : w.heap.size ≤ gb256)); have n3_ := Aside0.mk ((z4_ : w.heap.size ≤ gb256)); clear HB; have HB := n0_; have BK256 := n1_; have GW256 := n2_; have GE256 := n3_; clear n0_ n1_ n2_ n3_; clear hb hbox hg))
 (try simp only [Act.put, List.setIfInBounds_toArray, List.set_cons_zero, List.set_cons_succ])
 go_cut [26] (fun v26 wc => ∃ (kq : Nat) (x26_1 : Bool), v26 = .bool x26_1 ∧ Aside0 (impl_ValidNetwork.j0 kq x26_1 l0_0 l0_1 = some r) ∧ Aside0 (kq ≤ k) ∧ Aside0 (wc.heap[gb256]? = some (.cells #[(.slice A0_0 l0_0.length c0_0), (.slice A0_1 l0_1.length c0_1)] 25 (0, 0))) ∧ Aside0 (Below w.heap.size w wc))
 case first =>
  have H := HC2.out
  clear HC2
  by_cases c4 : (l0_0.length : Int) < 1
  ·rw [if_pos c4] at H
   have c4b0 := decide_eq_true c4
   have c4b1 : decide (l0_0.length < 1) = true := decide_eq_true (by omega)
   clear c4
   (first | rw [c4b0] | (simp only [i64_w, i32_w]; rw [c4b0]) | rw [c4b2] | skip)
   have H' := Aside0.mk H
   clear H
   have hcz5_0 := bc0_ w3 BK256.out
   have hcz5_1 := bc1_ w3 BK256.out
   have hfz5_0 := blk_frozen BK256.out 0
   have hfz5_1 := blk_frozen BK256.out 1
   go_wp2
   go_meet
   case rel => exact ⟨_, (true), (z7_), H', ⟨z124_⟩, ⟨z12_⟩, ⟨z13_⟩⟩
  ·rw [if_neg c4] at H
   have c4b0 := decide_eq_false c4
   have c4b1 : decide (l0_0.length < 1) = false := decide_eq_false (by omega)
   clear c4
   (first | rw [c4b0] | (simp only [i64_w, i32_w]; rw [c4b0]) | rw [c4b2] | skip)
   by_cases c6 : (l0_0.length : Int) > 16
   ·rw [if_pos c6] at H
    have c6b0 : decide (16 < (l0_0.length : Int)) = true := decide_eq_true c6
    have c6b1 : decide (16 < l0_0.length) = true := decide_eq_true (by omega)
    clear c6
    have H' := Aside0.mk H
    clear H
    have hcz7_0 := bc0_ w3 BK256.out
    have hcz7_1 := bc1_ w3 BK256.out
    have hfz7_0 := blk_frozen BK256.out 0
    have hfz7_1 := blk_frozen BK256.out 1
    go_wp2
    go_meet
    case rel => exact ⟨_, (true), (z7_), H', ⟨z124_⟩, ⟨z12_⟩, ⟨z13_⟩⟩
   ·rw [if_neg c6] at H
    have c6b0 : decide (16 < (l0_0.length : Int)) = false := decide_eq_false c6
    have c6b1 : decide (16 < l0_0.length) = false := decide_eq_false (by omega)
    clear c6
    replace H := Option.bind_eq_some_iff.mp H
    obtain ⟨t257, A80, H⟩ := H
    have A8 := Aside0.mk A80
    clear A80
    by_cases c9 : t257 = true
    ·subst c9
     rw [if_pos rfl] at H
     have H' := Aside0.mk H
     clear H
     have hcz10_0 := bc0_ w3 BK256.out
     have hcz10_1 := bc1_ w3 BK256.out
     have hfz10_0 := blk_frozen BK256.out 0
     have hfz10_1 := blk_frozen BK256.out 1
     go_wp2_with (first | (go_at_call 47; (with_reducible refine (impl_allWithin.calls _ _ l0_0 (-100000) 100000 true _ ?side1 ?side2 A8.out).mono ?_); (case side1 => repeat (first | exact (Kd.C_below HR0_0.out HB.out) | (with_reducible first|refine Kd.C_alloc ?_ _|refine Kd.C_drewN ?_ _|refine Kd.C_drew ?_))); (case side2 => exact HC0_0.out); rintro e w11 ⟨rfl, hb⟩; have n0_ := Aside0.mk (blk_below (g := gb256) (o := .cells #[.slice A0_0 l0_0.length c0_0, .slice A0_1 l0_1.length c0_1] 25 (0, 0)) (z12_) hb); have n1_ := Aside0.mk (below_step (z13_) hb); clear BK256; clear HB; have BK256 := n0_; have HB := n1_; clear n0_ n1_; (try clear hb); (try clear hb2); (try clear hk); (try clear hi); have hcz12_0 := bc0_ w11 BK256.out; have hcz12_1 := bc1_ w11 BK256.out; have hfz12_0 := blk_frozen BK256.out 0; have hfz12_1 := blk_frozen BK256.out 1))
     go_meet
     case rel => exact ⟨_, (decide ((l0_1.length : Int) > 20)), (z7_), H', ⟨z124_⟩, ⟨z12_⟩, ⟨z13_⟩⟩
    ·replace c9 := Bool.eq_false_iff.mpr c9
     subst c9
     rw [if_neg (show ¬ (false = true) by decide)] at H
     have H' := Aside0.mk H
     clear H
     have hcz13_0 := bc0_ w3 BK256.out
     have hcz13_1 := bc1_ w3 BK256.out
     have hfz13_0 := blk_frozen BK256.out 0
     have hfz13_1 := blk_frozen BK256.out 1
     go_wp2_with (first | (go_at_call 47; (with_reducible refine (impl_allWithin.calls _ _ l0_0 (-100000) 100000 false _ ?side1 ?side2 A8.out).mono ?_); (case side1 => repeat (first | exact (Kd.C_below HR0_0.out HB.out) | (with_reducible first|refine Kd.C_alloc ?_ _|refine Kd.C_drewN ?_ _|refine Kd.C_drew ?_))); (case side2 => exact HC0_0.out); rintro e w14 ⟨rfl, hb⟩; have n0_ := Aside0.mk (blk_below (g := gb256) (o := .cells #[.slice A0_0 l0_0.length c0_0, .slice A0_1 l0_1.length c0_1] 25 (0, 0)) (z12_) hb); have n1_ := Aside0.mk (below_step (z13_) hb); clear BK256; clear HB; have BK256 := n0_; have HB := n1_; clear n0_ n1_; (try clear hb); (try clear hb2); (try clear hk); (try clear hi)))
     go_meet
     case rel => exact ⟨_, (true), (z7_), H', ⟨z124_⟩, ⟨z12_⟩, ⟨z13_⟩⟩
 case rest =>
  clear HC2
  try clear c2
  try clear p2
  try clear c4
  try clear c4b0
  try clear c4b1
  try clear c4b2
  try clear c6
  try clear c6b0
  try clear c6b1
  try clear c9
  try clear hcz10_0
  try clear hcz10_1
  try clear hcz12_0
  try clear hcz12_1
  try clear hcz13_0
  try clear hcz13_1
  try clear hcz5_0
  try clear hcz5_1
  try clear hcz7_0
  try clear hcz7_1
  try clear hfz10_0
  try clear hfz10_1
  try clear hfz12_0
  try clear hfz12_1
  try clear hfz13_0
  try clear hfz13_1
  try clear hfz5_0
  try clear hfz5_1
  try clear hfz7_0
  try clear hfz7_1
  obtain ⟨kq, x26_1, rfl, HA, HJ1, BK256, HB⟩ := hcut
  cases kq with
  | zero => exact absurd HA.out (by simp [impl_ValidNetwork.j0])
  | succ kj1 =>
   have H := HA.out
   clear HA
   simp only [impl_ValidNetwork.j0] at H
   by_cases c15 : x26_1 = true
   ·subst c15
    rw [if_pos rfl] at H
    obtain rfl := Option.some.inj H
    go_wp2
    go_ret
    exact ⟨z6_, z13_⟩
   ·replace c15 := Bool.eq_false_iff.mpr c15
    subst c15
    rw [if_neg (show ¬ (false = true) by decide)] at H
    have H' := Aside0.mk H
    clear H
    have hcz16_0 := bc0_ wc BK256.out
    have hcz16_1 := bc1_ wc BK256.out
    have hfz16_0 := blk_frozen BK256.out 0
    have hfz16_1 := blk_frozen BK256.out 1
    go_wp2
    go_loopg [30] kj1 (fun kq v30 w' => ∃ (x30_2 : Int), v30 = .int .i64 x30_2 ∧ Aside0 (impl_ValidNetwork.l0 kq l0_1 (l0_1.length : Int) x30_2 l0_0 l0_1 = some r) ∧ Aside0 (kq ≤ kj1) ∧ Aside0 (w'.heap[gb256]? = some (.cells #[(.slice A0_0 l0_0.length c0_0), (.slice A0_1 l0_1.length c0_1)] 25 (0, 0))) ∧ Aside0 (Below w.heap.size w w'))
    case atStart => exact ⟨(0), (z7_), H', ⟨Nat.le_refl _⟩, ⟨z12_⟩, ⟨z13_⟩⟩
    case round =>
     clear H'
     try clear c1
     try clear c2
     try clear p2
     try clear c4
     try clear c4b0
     try clear c4b1
     try clear c4b2
     try clear c6
     try clear c6b0
     try clear c6b1
     try clear c9
     try clear c15
     try clear hcz10_0
     try clear hcz10_1
     try clear hcz12_0
     try clear hcz12_1
     try clear hcz13_0
     try clear hcz13_1
     try clear hcz16_0
     try clear hcz16_1
     try clear hcz5_0
     try clear hcz5_1
     try clear hcz7_0
     try clear hcz7_1
     try clear hfz10_0
     try clear hfz10_1
     try clear hfz12_0
     try clear hfz12_1
     try clear hfz13_0
     try clear hfz13_1
     try clear hfz16_0
     try clear hfz16_1
     try clear hfz5_0
     try clear hfz5_1
     try clear hfz7_0
     try clear hfz7_1
     try clear p2
     obtain ⟨x30_2, rfl, HA, HK2, BK256, HB⟩ := hrel
     cases gk with
     | zero => exact absurd HA.out (by simp [impl_ValidNetwork.l0])
     | succ k2 =>
      have H := HA.out
      clear HA
      simp only [impl_ValidNetwork.l0] at H
      by_cases c17 : x30_2 < (l0_1.length : Int)
      ·rw [if_pos c17] at H
       have c17b0 := decide_eq_true c17
       clear c17
       by_cases c18 : 0 ≤ x30_2
       ·rw [if_pos c18] at H
        have c18b0 := decide_eq_true c18
        clear c18
        by_cases c19 : x30_2 < (l0_1.length : Int)
        ·rw [if_pos c19] at H
         have c19b0 := decide_eq_true c19
         clear c19
         replace H := Option.bind_eq_some_iff.mp H
         obtain ⟨t260, A200, H⟩ := H
         have A20 := Aside0.mk A200
         clear A200
         by_cases c21 : t260 = true
         ·subst c21
          rw [if_pos rfl] at H
          replace H := Option.bind_eq_some_iff.mp H
          obtain ⟨t261, A220, H⟩ := H
          have A22 := Aside0.mk A220
          clear A220
          by_cases c23 : t261 = true
          ·subst c23
           rw [if_pos rfl] at H
           by_cases c24 : x30_2 > 0
           ·rw [if_pos c24] at H
            have c24b0 : decide (0 < x30_2) = true := decide_eq_true c24
            clear c24
            obtain ⟨ji25, hji25⟩ : ∃ j_ : Int, (wrap64 (x30_2 - 1)) = j_ := ⟨_, rfl⟩
            replace H : (if 0 ≤ (ji25) then (if (ji25) < (l0_1.length : Int) then (if ((Op.bytesLess (((rd_T36 l0_1 x30_2).f0).toList) (((rd_T36 l0_1 (ji25)).f0).toList)) || ((((rd_T36 l0_1 x30_2).f0).toList) == (((rd_T36 l0_1 (ji25)).f0).toList))) = true then (some false) else (impl_ValidNetwork.l0 k2 l0_1 (l0_1.length : Int) (wrap64 (x30_2 + 1)) l0_0 l0_1)) else (none)) else (none)) = some r := by first | (rw [hji25] at H; exact H) | (simp only [hji25] at H ⊢; exact H)
            (try rw [hji25] at A20)
            (try rw [hji25] at A22)
            have hji25w : (IntKind.i64.wrap (x30_2 - 1)) = ji25 := (i64_w _).trans hji25
            by_cases c26 : 0 ≤ (ji25)
            ·rw [if_pos c26] at H
             have c26b0 := decide_eq_true c26
             clear c26
             by_cases c27 : (ji25) < (l0_1.length : Int)
             ·rw [if_pos c27] at H
              have c27b0 := decide_eq_true c27
              clear c27
              by_cases c28 : ((Op.bytesLess (((rd_T36 l0_1 x30_2).f0).toList) (((rd_T36 l0_1 (ji25)).f0).toList)) || ((((rd_T36 l0_1 x30_2).f0).toList) == (((rd_T36 l0_1 (ji25)).f0).toList))) = true
              ·rw [if_pos c28] at H
               have c28b0 : ((Op.bytesLess (((rd_T36 l0_1 x30_2).f0).toList) (((rd_T36 l0_1 (ji25)).f0).toList)) || ((((rd_T36 l0_1 x30_2).f0).toList) == (((rd_T36 l0_1 (ji25)).f0).toList))) = true := c28
               clear c28
               obtain rfl := Option.some.inj H
               have p258 : 0 ≤ (x30_2 : Int) := of_decide_eq_true (z2_)
               have q258 : x30_2 < (l0_1.length : Int) := of_decide_eq_true (z2_)
               obtain ⟨ad258, e258, hx258_0, hx258_1, hx258_2, hx258_3, hx258_4, hx258_5⟩ := at_T36 HR0_1.out x30_2 p258 q258
               cases e258
               replace hx258_0 := (HB.out.cell (World.block_lt_of_cell? w _ hx258_0)).trans hx258_0
               replace hx258_1 := (HB.out.cell (World.block_lt_of_cell? w _ hx258_1)).trans hx258_1
               replace hx258_2 := (HB.out.cell (World.block_lt_of_cell? w _ hx258_2)).trans hx258_2
               replace hx258_3 := (HB.out.cell (World.block_lt_of_cell? w _ hx258_3)).trans hx258_3
               replace hx258_4 := (HB.out.cell (World.block_lt_of_cell? w _ hx258_4)).trans hx258_4
               replace hx258_5 := (HB.out.cell (World.block_lt_of_cell? w _ hx258_5)).trans hx258_5
               replace p258 := eq_true p258
               replace q258 := eq_true q258
               try go_wp2_with (first | ((with_reducible refine gate_dst (N := 4) rfl ?_); (try (refine gate_guard (by rfl) ?_; dsimp only)); refine box_event ?hg (N := 4) ?hd (cs := #[.string (⟨#[]⟩ : ByteArray), .int .i64 0, .int .i64 0, .int .i64 0, .int .i64 0, .int .i64 0]) (t := 36) ?hr ?_; (case hd => rfl); (case hg => rfl); (case hr => first | (go_simp; done) | (go_simp; rfl)); intro gb259 hg w29 hbox hb; have n0_ := Aside0.mk (blk_below (g := gb256) (o := .cells #[.slice A0_0 l0_0.length c0_0, .slice (some ad258) l0_1.length c0_1] 25 (0, 0)) (z12_) hb); have n1_ := Aside0.mk (below_step (z13_) hb); have n2_ := Aside0.mk (hbox); have n3_ := Aside0.mk ((z31_ : w.heap.size ≤ gb259)); have n4_ := Aside0.mk ((z31_ : w.heap.size ≤ gb259)); have n5_ := Aside0.mk ((z47_ : gb256 ≠ gb259)); have n6_ := Aside0.mk ((z48_ : gb259 ≠ gb256)); clear BK256; clear HB; have BK256 := n0_; have HB := n1_; have BK259 := n2_; have GW259 := n3_; have GE259 := n4_; have NB256_259 := n5_; have NB259_256 := n6_; clear n0_ n1_ n2_ n3_ n4_ n5_ n6_; clear hb hbox hg; have hnb30 := NB259_256.out; have hnc30 := NB256_259.out; have hcz31_0 := bc0_ w29 BK259.out; have hcz31_1 := bc1_ w29 BK259.out; have hcz31_2 := bc2_ w29 BK259.out; have hcz31_3 := bc3_ w29 BK259.out; have hcz31_4 := bc4_ w29 BK259.out; have hcz31_5 := bc5_ w29 BK259.out; have hfz31_0 := blk_frozen BK259.out 0; have hfz31_1 := blk_frozen BK259.out 1; have hfz31_2 := blk_frozen BK259.out 2; have hfz31_3 := blk_frozen BK259.out 3; have hfz31_4 := blk_frozen BK259.out 4; have hfz31_5 := blk_frozen BK259.out 5))
               have n0_ : Aside0 (((((((w29.setCell ⟨gb259, 0, none⟩ (.string ((rd_T36 l0_1 x30_2).f0))).setCell ⟨gb259, 1, none⟩ (.int .i64 ((rd_T36 l0_1 x30_2).f1))).setCell ⟨gb259, 2, none⟩ (.int .i64 ((rd_T36 l0_1 x30_2).f2))).setCell ⟨gb259, 3, none⟩ (.int .i64 ((rd_T36 l0_1 x30_2).f3))).setCell ⟨gb259, 4, none⟩ (.int .i64 ((rd_T36 l0_1 x30_2).f4))).setCell ⟨gb259, 5, none⟩ (.int .i64 ((rd_T36 l0_1 x30_2).f5))).heap[gb256]? = some (.cells #[.slice A0_0 l0_0.length c0_0, .slice (some ad258) l0_1.length c0_1] 25 (0, 0))) := ⟨z10_⟩
               have n1_ : Aside0 (((((((w29.setCell ⟨gb259, 0, none⟩ (.string ((rd_T36 l0_1 x30_2).f0))).setCell ⟨gb259, 1, none⟩ (.int .i64 ((rd_T36 l0_1 x30_2).f1))).setCell ⟨gb259, 2, none⟩ (.int .i64 ((rd_T36 l0_1 x30_2).f2))).setCell ⟨gb259, 3, none⟩ (.int .i64 ((rd_T36 l0_1 x30_2).f3))).setCell ⟨gb259, 4, none⟩ (.int .i64 ((rd_T36 l0_1 x30_2).f4))).setCell ⟨gb259, 5, none⟩ (.int .i64 ((rd_T36 l0_1 x30_2).f5))).heap[gb259]? = some (.cells #[.string ((rd_T36 l0_1 x30_2).f0), .int .i64 ((rd_T36 l0_1 x30_2).f1), .int .i64 ((rd_T36 l0_1 x30_2).f2), .int .i64 ((rd_T36 l0_1 x30_2).f3), .int .i64 ((rd_T36 l0_1 x30_2).f4), .int .i64 ((rd_T36 l0_1 x30_2).f5)] 36 (0, 0))) := ⟨z5_⟩
               have n2_ : Aside0 (Below w.heap.size w ((((((w29.setCell ⟨gb259, 0, none⟩ (.string ((rd_T36 l0_1 x30_2).f0))).setCell ⟨gb259, 1, none⟩ (.int .i64 ((rd_T36 l0_1 x30_2).f1))).setCell ⟨gb259, 2, none⟩ (.int .i64 ((rd_T36 l0_1 x30_2).f2))).setCell ⟨gb259, 3, none⟩ (.int .i64 ((rd_T36 l0_1 x30_2).f3))).setCell ⟨gb259, 4, none⟩ (.int .i64 ((rd_T36 l0_1 x30_2).f4))).setCell ⟨gb259, 5, none⟩ (.int .i64 ((rd_T36 l0_1 x30_2).f5)))) := ⟨z15_⟩
               (try clear BK256)
               (try clear BK259)
               (try clear HB)
               generalize ((((((w29.setCell ⟨gb259, 0, none⟩ (.string ((rd_T36 l0_1 x30_2).f0))).setCell ⟨gb259, 1, none⟩ (.int .i64 ((rd_T36 l0_1 x30_2).f1))).setCell ⟨gb259, 2, none⟩ (.int .i64 ((rd_T36 l0_1 x30_2).f2))).setCell ⟨gb259, 3, none⟩ (.int .i64 ((rd_T36 l0_1 x30_2).f3))).setCell ⟨gb259, 4, none⟩ (.int .i64 ((rd_T36 l0_1 x30_2).f4))).setCell ⟨gb259, 5, none⟩ (.int .i64 ((rd_T36 l0_1 x30_2).f5))) = w32 at n0_ n1_ n2_ ⊢
               have BK256 := n0_
               have BK259 := n1_
               have HB := n2_
               clear n0_ n1_ n2_
               have n0_ := Aside0.mk (blk_drew BK256.out)
               have n1_ := Aside0.mk (blk_drew BK259.out)
               have n2_ := Aside0.mk (below_drew1 HB.out)
               clear BK256
               clear BK259
               clear HB
               have BK256 := n0_
               have BK259 := n1_
               have HB := n2_
               clear n0_ n1_ n2_
               have p262 : 0 ≤ ((ji25) : Int) := of_decide_eq_true (z2_)
               have q262 : (ji25) < (l0_1.length : Int) := of_decide_eq_true (z2_)
               obtain ⟨ad262, e262, hx262_0, hx262_1, hx262_2, hx262_3, hx262_4, hx262_5⟩ := at_T36 HR0_1.out (ji25) p262 q262
               have hw262_5 := hx262_5
               have hw262_4 := hx262_4
               have hw262_3 := hx262_3
               have hw262_2 := hx262_2
               have hw262_1 := hx262_1
               have hw262_0 := hx262_0
               obtain rfl : ad258 = ad262 := (by injection e262)
               replace hx262_0 := (HB.out.cell (World.block_lt_of_cell? w _ hx262_0)).trans hx262_0
               replace hx262_1 := (HB.out.cell (World.block_lt_of_cell? w _ hx262_1)).trans hx262_1
               replace hx262_2 := (HB.out.cell (World.block_lt_of_cell? w _ hx262_2)).trans hx262_2
               replace hx262_3 := (HB.out.cell (World.block_lt_of_cell? w _ hx262_3)).trans hx262_3
               replace hx262_4 := (HB.out.cell (World.block_lt_of_cell? w _ hx262_4)).trans hx262_4
               replace hx262_5 := (HB.out.cell (World.block_lt_of_cell? w _ hx262_5)).trans hx262_5
               replace p262 := eq_true p262
               replace q262 := eq_true q262
               refine start_ (n := 25) (S := fun w' => w'.cell? ⟨gb259, 0, none⟩ = some (.string ((rd_T36 l0_1 x30_2).f0)) ∧ w'.cell? ⟨gb259, 1, none⟩ = some (.int .i64 ((rd_T36 l0_1 x30_2).f1)) ∧ w'.cell? ⟨gb259, 2, none⟩ = some (.int .i64 ((rd_T36 l0_1 x30_2).f2)) ∧ w'.cell? ⟨gb259, 3, none⟩ = some (.int .i64 ((rd_T36 l0_1 x30_2).f3)) ∧ w'.cell? ⟨gb259, 4, none⟩ = some (.int .i64 ((rd_T36 l0_1 x30_2).f4)) ∧ w'.cell? ⟨gb259, 5, none⟩ = some (.int .i64 ((rd_T36 l0_1 x30_2).f5)) ∧ w'.cell? ⟨gb256, 0, none⟩ = some (.slice A0_0 l0_0.length c0_0) ∧ w'.cell? ⟨gb256, 1, none⟩ = some (.slice (some ad258) l0_1.length c0_1) ∧ w'.cell? (ad258.add (((ji25)).toNat * 6)) = some (.string ((rd_T36 l0_1 (ji25)).f0)) ∧ w'.cell? ⟨(ad258.add (((ji25)).toNat * 6)).block, (ad258.add (((ji25)).toNat * 6)).off + 1, none⟩ = some (.int .i64 ((rd_T36 l0_1 (ji25)).f1)) ∧ w'.cell? ⟨(ad258.add (((ji25)).toNat * 6)).block, (ad258.add (((ji25)).toNat * 6)).off + 2, none⟩ = some (.int .i64 ((rd_T36 l0_1 (ji25)).f2)) ∧ w'.cell? ⟨(ad258.add (((ji25)).toNat * 6)).block, (ad258.add (((ji25)).toNat * 6)).off + 3, none⟩ = some (.int .i64 ((rd_T36 l0_1 (ji25)).f3)) ∧ w'.cell? ⟨(ad258.add (((ji25)).toNat * 6)).block, (ad258.add (((ji25)).toNat * 6)).off + 4, none⟩ = some (.int .i64 ((rd_T36 l0_1 (ji25)).f4)) ∧ w'.cell? ⟨(ad258.add (((ji25)).toNat * 6)).block, (ad258.add (((ji25)).toNat * 6)).off + 5, none⟩ = some (.int .i64 ((rd_T36 l0_1 (ji25)).f5))) (ds := []) #[J,J,J,J,J,J,J,J,J,J,J,J,J,J,J,J,J,J,J,J,J,J,J,J,J] (z11_) rfl rfl ⟨(blk_cell BK259.out 0).trans rfl, (blk_cell BK259.out 1).trans rfl, (blk_cell BK259.out 2).trans rfl, (blk_cell BK259.out 3).trans rfl, (blk_cell BK259.out 4).trans rfl, (blk_cell BK259.out 5).trans rfl, (blk_cell BK256.out 0).trans rfl, (blk_cell BK256.out 1).trans rfl, ((HB.out.cell (World.block_lt_of_cell? w _ hw262_0)).trans hw262_0), ((HB.out.cell (World.block_lt_of_cell? w _ hw262_1)).trans hw262_1), ((HB.out.cell (World.block_lt_of_cell? w _ hw262_2)).trans hw262_2), ((HB.out.cell (World.block_lt_of_cell? w _ hw262_3)).trans hw262_3), ((HB.out.cell (World.block_lt_of_cell? w _ hw262_4)).trans hw262_4), ((HB.out.cell (World.block_lt_of_cell? w _ hw262_5)).trans hw262_5)⟩ (fun hHeld => ?_); refine with_tabW impl_ValidNetwork.tab6 impl_ValidNetwork.bits6 (fun HT_ HW_ => ?_)
               generalize w32.drew = w33 at BK256 BK259 HB hx262_0 hx262_1 hx262_2 hx262_3 hx262_4 hx262_5 hHeld ⊢
               refine take_ (i := 0) (N := some 35) (v := ?_) (a' := ?_) #[Y,J,J,J,J,J,J,J,J,J,J,J,J,J,J,J,J,J,J,J,J,J,J,J,J] rfl rfl (take_ofW HT_.out HW_.out (z11_)) (fun _ _ _ h => h) (Or.inl ⟨by rfl, ?_⟩) hHeld ?_ ?_; rotate_left
               ·rintro w' ⟨s0, s1, s2, s3, s4, s5, s6, s7, s8, s9, s10, s11, s12, s13⟩; go_simp; with_reducible rfl
               rotate_left
               ·simp only [pU,pN,sB,sZ,sS,i64_w,i32_w]; rfl
               refine one_ (i := 1) (N := some 36) #[Y,Y,J,J,J,J,J,J,J,J,J,J,J,J,J,J,J,J,J,J,J,J,J,J,J] rfl rfl (one_of HT_.out (z11_)) (by decide) (fun K hK => ?_)
               refine goes_ Tryz.func45 (z11_) rfl #[.agg #[.string ((rd_T36 l0_1 x30_2).f0), .int .i64 ((rd_T36 l0_1 x30_2).f1), .int .i64 ((rd_T36 l0_1 x30_2).f2), .int .i64 ((rd_T36 l0_1 x30_2).f3), .int .i64 ((rd_T36 l0_1 x30_2).f4), .int .i64 ((rd_T36 l0_1 x30_2).f5)]] (by rfl) rfl rfl (z1_) ?_
               with_reducible refine (impl_ValidPipe_.calls ((rd_T36 l0_1 x30_2).f0) ((rd_T36 l0_1 x30_2).f1) ((rd_T36 l0_1 x30_2).f2) ((rd_T36 l0_1 x30_2).f3) ((rd_T36 l0_1 x30_2).f4) ((rd_T36 l0_1 x30_2).f5) true _ A20.out).mono ?_
               rintro e w34 ⟨rfl, hb⟩
               refine ⟨_, rfl, ?_⟩
               have n0_ := Aside0.mk (blk_below (g := gb256) (o := .cells #[.slice A0_0 l0_0.length c0_0, .slice (some ad258) l0_1.length c0_1] 25 (0, 0)) (z12_) hb)
               have n1_ := Aside0.mk (blk_below (g := gb259) (o := .cells #[.string ((rd_T36 l0_1 x30_2).f0), .int .i64 ((rd_T36 l0_1 x30_2).f1), .int .i64 ((rd_T36 l0_1 x30_2).f2), .int .i64 ((rd_T36 l0_1 x30_2).f3), .int .i64 ((rd_T36 l0_1 x30_2).f4), .int .i64 ((rd_T36 l0_1 x30_2).f5)] 36 (0, 0)) (z64_) hb)
               have n2_ := Aside0.mk (below_step (z15_) hb)
               clear BK256
               clear BK259
               clear HB
               have BK256 := n0_
               have BK259 := n1_
               have HB := n2_
               clear n0_ n1_ n2_
               (try clear hb)
               (try clear hb2)
               (try clear hk)
               (try clear hi)
               refine hK.out _ _ ⟨(blk_cell BK259.out 0).trans rfl, (blk_cell BK259.out 1).trans rfl, (blk_cell BK259.out 2).trans rfl, (blk_cell BK259.out 3).trans rfl, (blk_cell BK259.out 4).trans rfl, (blk_cell BK259.out 5).trans rfl, (blk_cell BK256.out 0).trans rfl, (blk_cell BK256.out 1).trans rfl, ((HB.out.cell (World.block_lt_of_cell? w _ hw262_0)).trans hw262_0), ((HB.out.cell (World.block_lt_of_cell? w _ hw262_1)).trans hw262_1), ((HB.out.cell (World.block_lt_of_cell? w _ hw262_2)).trans hw262_2), ((HB.out.cell (World.block_lt_of_cell? w _ hw262_3)).trans hw262_3), ((HB.out.cell (World.block_lt_of_cell? w _ hw262_4)).trans hw262_4), ((HB.out.cell (World.block_lt_of_cell? w _ hw262_5)).trans hw262_5)⟩ (fun hHeld => ?_)
               clear hK K
               refine norm_ (a' := ?_) ?_ ?_
               rotate_left
               ·show Act.put _ (some 36) _ = _
                simp only [pU,pN,sB,sZ,sS,i64_w,i32_w]
                rfl
               refine pz_ 2 37 #[Y,Y,Y,J,J,J,J,J,J,J,J,J,J,J,J,J,J,J,J,J,J,J,J,J,J] HT_ ?_
               refine pz_ 3 38 #[Y,Y,Y,Y,J,J,J,J,J,J,J,J,J,J,J,J,J,J,J,J,J,J,J,J,J] HT_ ?_
               refine take_ (i := 4) (N := some 39) (v := ?_) (a' := ?_) #[Y,Y,Y,Y,Y,J,J,J,J,J,J,J,J,J,J,J,J,J,J,J,J,J,J,J,J] rfl rfl (take_ofW HT_.out HW_.out (z11_)) (fun _ _ _ h => h) (Or.inl ⟨by rfl, ?_⟩) hHeld ?_ ?_; rotate_left
               ·rintro w' ⟨s0, s1, s2, s3, s4, s5, s6, s7, s8, s9, s10, s11, s12, s13⟩; go_simp; with_reducible rfl
               rotate_left
               ·simp only [pU,pN,sB,sZ,sS,i64_w,i32_w]; rfl
               refine take_ (i := 5) (N := some 40) (v := ?_) (a' := ?_) #[Y,Y,Y,Y,Y,Y,J,J,J,J,J,J,J,J,J,J,J,J,J,J,J,J,J,J,J] rfl rfl (take_ofW HT_.out HW_.out (z11_)) (fun _ _ _ h => h) (Or.inl ⟨by rfl, ?_⟩) hHeld ?_ ?_; rotate_left
               ·rintro w' ⟨s0, s1, s2, s3, s4, s5, s6, s7, s8, s9, s10, s11, s12, s13⟩; go_simp; with_reducible rfl
               rotate_left
               ·simp only [pU,pN,sB,sZ,sS,i64_w,i32_w]; rfl
               refine one_ (i := 6) (N := some 41) #[Y,Y,Y,Y,Y,Y,Y,J,J,J,J,J,J,J,J,J,J,J,J,J,J,J,J,J,J] rfl rfl (one_of HT_.out (z11_)) (by decide) (fun K hK => ?_)
               refine goes_ Tryz.func48 (z11_) rfl #[.agg #[.slice A0_0 l0_0.length c0_0, .slice (some ad258) l0_1.length c0_1], .agg #[.string ((rd_T36 l0_1 x30_2).f0), .int .i64 ((rd_T36 l0_1 x30_2).f1), .int .i64 ((rd_T36 l0_1 x30_2).f2), .int .i64 ((rd_T36 l0_1 x30_2).f3), .int .i64 ((rd_T36 l0_1 x30_2).f4), .int .i64 ((rd_T36 l0_1 x30_2).f5)]] (by rfl) rfl rfl (z1_) ?_
               with_reducible refine (impl_Network_hasEnds.calls _ _ l0_0 _ _ l0_1 ((rd_T36 l0_1 x30_2).f0) ((rd_T36 l0_1 x30_2).f1) ((rd_T36 l0_1 x30_2).f2) ((rd_T36 l0_1 x30_2).f3) ((rd_T36 l0_1 x30_2).f4) ((rd_T36 l0_1 x30_2).f5) true _ ?side1 ?side2 ?side3 ?side4 A22.out).mono ?_
               (case side1 => repeat (first | exact (Kd.C_below HR0_0.out HB.out) | (with_reducible first|refine Kd.C_alloc ?_ _|refine Kd.C_drewN ?_ _|refine Kd.C_drew ?_)))
               (case side2 => exact HC0_0.out)
               (case side3 => repeat (first | exact (Kd.C_below HR0_1.out HB.out) | (with_reducible first|refine Kd.C_alloc ?_ _|refine Kd.C_drewN ?_ _|refine Kd.C_drew ?_)))
               (case side4 => exact HC0_1.out)
               rintro e w35 ⟨rfl, hb⟩
               refine ⟨_, rfl, ?_⟩
               have n0_ := Aside0.mk (blk_below (g := gb256) (o := .cells #[.slice A0_0 l0_0.length c0_0, .slice (some ad258) l0_1.length c0_1] 25 (0, 0)) (z12_) hb)
               have n1_ := Aside0.mk (blk_below (g := gb259) (o := .cells #[.string ((rd_T36 l0_1 x30_2).f0), .int .i64 ((rd_T36 l0_1 x30_2).f1), .int .i64 ((rd_T36 l0_1 x30_2).f2), .int .i64 ((rd_T36 l0_1 x30_2).f3), .int .i64 ((rd_T36 l0_1 x30_2).f4), .int .i64 ((rd_T36 l0_1 x30_2).f5)] 36 (0, 0)) (z64_) hb)
               have n2_ := Aside0.mk (below_step (z15_) hb)
               clear BK256
               clear BK259
               clear HB
               have BK256 := n0_
               have BK259 := n1_
               have HB := n2_
               clear n0_ n1_ n2_
               (try clear hb)
               (try clear hb2)
               (try clear hk)
               (try clear hi)
               refine hK.out _ _ ⟨(blk_cell BK259.out 0).trans rfl, (blk_cell BK259.out 1).trans rfl, (blk_cell BK259.out 2).trans rfl, (blk_cell BK259.out 3).trans rfl, (blk_cell BK259.out 4).trans rfl, (blk_cell BK259.out 5).trans rfl, (blk_cell BK256.out 0).trans rfl, (blk_cell BK256.out 1).trans rfl, ((HB.out.cell (World.block_lt_of_cell? w _ hw262_0)).trans hw262_0), ((HB.out.cell (World.block_lt_of_cell? w _ hw262_1)).trans hw262_1), ((HB.out.cell (World.block_lt_of_cell? w _ hw262_2)).trans hw262_2), ((HB.out.cell (World.block_lt_of_cell? w _ hw262_3)).trans hw262_3), ((HB.out.cell (World.block_lt_of_cell? w _ hw262_4)).trans hw262_4), ((HB.out.cell (World.block_lt_of_cell? w _ hw262_5)).trans hw262_5)⟩ (fun hHeld => ?_)
               clear hK K
               refine norm_ (a' := ?_) ?_ ?_
               rotate_left
               ·show Act.put _ (some 41) _ = _
                simp only [pU,pN,sB,sZ,sS,i64_w,i32_w]
                rfl
               refine pz_ 7 42 #[Y,Y,Y,Y,Y,Y,Y,Y,J,J,J,J,J,J,J,J,J,J,J,J,J,J,J,J,J] HT_ ?_
               refine pz_ 8 43 #[Y,Y,Y,Y,Y,Y,Y,Y,Y,J,J,J,J,J,J,J,J,J,J,J,J,J,J,J,J] HT_ ?_
               refine pz_ 9 44 #[Y,Y,Y,Y,Y,Y,Y,Y,Y,Y,J,J,J,J,J,J,J,J,J,J,J,J,J,J,J] HT_ ?_
               refine pz_ 10 45 #[Y,Y,Y,Y,Y,Y,Y,Y,Y,Y,Y,J,J,J,J,J,J,J,J,J,J,J,J,J,J] HT_ ?_
               refine pz_ 11 46 #[Y,Y,Y,Y,Y,Y,Y,Y,Y,Y,Y,Y,J,J,J,J,J,J,J,J,J,J,J,J,J] HT_ ?_
               refine pz_ 12 47 #[Y,Y,Y,Y,Y,Y,Y,Y,Y,Y,Y,Y,Y,J,J,J,J,J,J,J,J,J,J,J,J] HT_ ?_
               refine pz_ 13 48 #[Y,Y,Y,Y,Y,Y,Y,Y,Y,Y,Y,Y,Y,Y,J,J,J,J,J,J,J,J,J,J,J] HT_ ?_
               refine pz_ 15 50 #[Y,Y,Y,Y,Y,Y,Y,Y,Y,Y,Y,Y,Y,Y,J,Y,J,J,J,J,J,J,J,J,J] HT_ ?_
               refine pz_ 17 52 #[Y,Y,Y,Y,Y,Y,Y,Y,Y,Y,Y,Y,Y,Y,J,Y,J,Y,J,J,J,J,J,J,J] HT_ ?_
               refine pz_ 18 53 #[Y,Y,Y,Y,Y,Y,Y,Y,Y,Y,Y,Y,Y,Y,J,Y,J,Y,Y,J,J,J,J,J,J] HT_ ?_
               refine take_ (i := 14) (N := some 49) (v := ?_) (a' := ?_) #[Y,Y,Y,Y,Y,Y,Y,Y,Y,Y,Y,Y,Y,Y,Y,Y,J,Y,Y,J,J,J,J,J,J] rfl rfl (take_ofW HT_.out HW_.out (z11_)) (fun _ _ _ h => h) (Or.inl ⟨by rfl, ?_⟩) hHeld ?_ ?_; rotate_left
               ·rintro w' ⟨s0, s1, s2, s3, s4, s5, s6, s7, s8, s9, s10, s11, s12, s13⟩; go_simp; with_reducible rfl
               rotate_left
               ·simp only [pU,pN,sB,sZ,sS,i64_w,i32_w]; rfl
               refine take_ (i := 16) (N := some 51) (v := ?_) (a' := ?_) #[Y,Y,Y,Y,Y,Y,Y,Y,Y,Y,Y,Y,Y,Y,Y,Y,Y,Y,Y,J,J,J,J,J,J] rfl rfl (take_ofW HT_.out HW_.out (z11_)) (fun _ _ _ h => h) (Or.inl ⟨by rfl, ?_⟩) hHeld ?_ ?_; rotate_left
               ·rintro w' ⟨s0, s1, s2, s3, s4, s5, s6, s7, s8, s9, s10, s11, s12, s13⟩; go_simp; with_reducible rfl
               rotate_left
               ·simp only [pU,pN,sB,sZ,sS,i64_w,i32_w]; rfl
               refine pz_ 19 54 #[Y,Y,Y,Y,Y,Y,Y,Y,Y,Y,Y,Y,Y,Y,Y,Y,Y,Y,Y,Y,J,J,J,J,J] HT_ ?_
               refine pz_ 20 55 #[Y,Y,Y,Y,Y,Y,Y,Y,Y,Y,Y,Y,Y,Y,Y,Y,Y,Y,Y,Y,Y,J,J,J,J] HT_ ?_
               refine take_ (i := 21) (N := some 56) (v := ?_) (a' := ?_) #[Y,Y,Y,Y,Y,Y,Y,Y,Y,Y,Y,Y,Y,Y,Y,Y,Y,Y,Y,Y,Y,Y,J,J,J] rfl rfl (take_ofW HT_.out HW_.out (z11_)) (fun _ _ _ h => h) (Or.inl ⟨by rfl, ?_⟩) hHeld ?_ ?_; rotate_left
               ·rintro w' ⟨s0, s1, s2, s3, s4, s5, s6, s7, s8, s9, s10, s11, s12, s13⟩; go_simp; with_reducible rfl
               rotate_left
               ·simp only [pU,pN,sB,sZ,sS,i64_w,i32_w]; rfl
               refine pz_ 22 57 #[Y,Y,Y,Y,Y,Y,Y,Y,Y,Y,Y,Y,Y,Y,Y,Y,Y,Y,Y,Y,Y,Y,Y,J,J] HT_ ?_
               refine pz_ 23 58 #[Y,Y,Y,Y,Y,Y,Y,Y,Y,Y,Y,Y,Y,Y,Y,Y,Y,Y,Y,Y,Y,Y,Y,Y,J] HT_ ?_
               refine pz_ 24 59 #[Y,Y,Y,Y,Y,Y,Y,Y,Y,Y,Y,Y,Y,Y,Y,Y,Y,Y,Y,Y,Y,Y,Y,Y,Y] HT_ ?_
               refine done_ (done_of HT_.out (z11_)) ?_
               try go_wp2
               go_ret
               exact ⟨by first | rfl | (simp [errW_none, errW_some] <;> rfl) | (simp only [← hji25]; first | rfl | (simp [errW_none, errW_some] <;> rfl)) | (simp [*, errW_none, errW_some] <;> rfl), z15_⟩
              ·rw [if_neg c28] at H
               have c28b0 : ((Op.bytesLess (((rd_T36 l0_1 x30_2).f0).toList) (((rd_T36 l0_1 (ji25)).f0).toList)) || ((((rd_T36 l0_1 x30_2).f0).toList) == (((rd_T36 l0_1 (ji25)).f0).toList))) = false := by simpa using c28
               clear c28
               have H' := Aside0.mk H
               clear H
               have p258 : 0 ≤ (x30_2 : Int) := of_decide_eq_true (z2_)
               have q258 : x30_2 < (l0_1.length : Int) := of_decide_eq_true (z2_)
               obtain ⟨ad258, e258, hx258_0, hx258_1, hx258_2, hx258_3, hx258_4, hx258_5⟩ := at_T36 HR0_1.out x30_2 p258 q258
               cases e258
               replace hx258_0 := (HB.out.cell (World.block_lt_of_cell? w _ hx258_0)).trans hx258_0
               replace hx258_1 := (HB.out.cell (World.block_lt_of_cell? w _ hx258_1)).trans hx258_1
               replace hx258_2 := (HB.out.cell (World.block_lt_of_cell? w _ hx258_2)).trans hx258_2
               replace hx258_3 := (HB.out.cell (World.block_lt_of_cell? w _ hx258_3)).trans hx258_3
               replace hx258_4 := (HB.out.cell (World.block_lt_of_cell? w _ hx258_4)).trans hx258_4
               replace hx258_5 := (HB.out.cell (World.block_lt_of_cell? w _ hx258_5)).trans hx258_5
               replace p258 := eq_true p258
               replace q258 := eq_true q258
               try go_wp2_with (first | ((with_reducible refine gate_dst (N := 4) rfl ?_); (try (refine gate_guard (by rfl) ?_; dsimp only)); refine box_event ?hg (N := 4) ?hd (cs := #[.string (⟨#[]⟩ : ByteArray), .int .i64 0, .int .i64 0, .int .i64 0, .int .i64 0, .int .i64 0]) (t := 36) ?hr ?_; (case hd => rfl); (case hg => rfl); (case hr => first | (go_simp; done) | (go_simp; rfl)); intro gb259 hg w36 hbox hb; have n0_ := Aside0.mk (blk_below (g := gb256) (o := .cells #[.slice A0_0 l0_0.length c0_0, .slice (some ad258) l0_1.length c0_1] 25 (0, 0)) (z12_) hb); have n1_ := Aside0.mk (below_step (z13_) hb); have n2_ := Aside0.mk (hbox); have n3_ := Aside0.mk ((z31_ : w.heap.size ≤ gb259)); have n4_ := Aside0.mk ((z31_ : w.heap.size ≤ gb259)); have n5_ := Aside0.mk ((z47_ : gb256 ≠ gb259)); have n6_ := Aside0.mk ((z48_ : gb259 ≠ gb256)); clear BK256; clear HB; have BK256 := n0_; have HB := n1_; have BK259 := n2_; have GW259 := n3_; have GE259 := n4_; have NB256_259 := n5_; have NB259_256 := n6_; clear n0_ n1_ n2_ n3_ n4_ n5_ n6_; clear hb hbox hg; have hnb37 := NB259_256.out; have hnc37 := NB256_259.out; have hcz38_0 := bc0_ w36 BK259.out; have hcz38_1 := bc1_ w36 BK259.out; have hcz38_2 := bc2_ w36 BK259.out; have hcz38_3 := bc3_ w36 BK259.out; have hcz38_4 := bc4_ w36 BK259.out; have hcz38_5 := bc5_ w36 BK259.out; have hfz38_0 := blk_frozen BK259.out 0; have hfz38_1 := blk_frozen BK259.out 1; have hfz38_2 := blk_frozen BK259.out 2; have hfz38_3 := blk_frozen BK259.out 3; have hfz38_4 := blk_frozen BK259.out 4; have hfz38_5 := blk_frozen BK259.out 5))
               have n0_ : Aside0 (((((((w36.setCell ⟨gb259, 0, none⟩ (.string ((rd_T36 l0_1 x30_2).f0))).setCell ⟨gb259, 1, none⟩ (.int .i64 ((rd_T36 l0_1 x30_2).f1))).setCell ⟨gb259, 2, none⟩ (.int .i64 ((rd_T36 l0_1 x30_2).f2))).setCell ⟨gb259, 3, none⟩ (.int .i64 ((rd_T36 l0_1 x30_2).f3))).setCell ⟨gb259, 4, none⟩ (.int .i64 ((rd_T36 l0_1 x30_2).f4))).setCell ⟨gb259, 5, none⟩ (.int .i64 ((rd_T36 l0_1 x30_2).f5))).heap[gb256]? = some (.cells #[.slice A0_0 l0_0.length c0_0, .slice (some ad258) l0_1.length c0_1] 25 (0, 0))) := ⟨z10_⟩
               have n1_ : Aside0 (((((((w36.setCell ⟨gb259, 0, none⟩ (.string ((rd_T36 l0_1 x30_2).f0))).setCell ⟨gb259, 1, none⟩ (.int .i64 ((rd_T36 l0_1 x30_2).f1))).setCell ⟨gb259, 2, none⟩ (.int .i64 ((rd_T36 l0_1 x30_2).f2))).setCell ⟨gb259, 3, none⟩ (.int .i64 ((rd_T36 l0_1 x30_2).f3))).setCell ⟨gb259, 4, none⟩ (.int .i64 ((rd_T36 l0_1 x30_2).f4))).setCell ⟨gb259, 5, none⟩ (.int .i64 ((rd_T36 l0_1 x30_2).f5))).heap[gb259]? = some (.cells #[.string ((rd_T36 l0_1 x30_2).f0), .int .i64 ((rd_T36 l0_1 x30_2).f1), .int .i64 ((rd_T36 l0_1 x30_2).f2), .int .i64 ((rd_T36 l0_1 x30_2).f3), .int .i64 ((rd_T36 l0_1 x30_2).f4), .int .i64 ((rd_T36 l0_1 x30_2).f5)] 36 (0, 0))) := ⟨z5_⟩
               have n2_ : Aside0 (Below w.heap.size w ((((((w36.setCell ⟨gb259, 0, none⟩ (.string ((rd_T36 l0_1 x30_2).f0))).setCell ⟨gb259, 1, none⟩ (.int .i64 ((rd_T36 l0_1 x30_2).f1))).setCell ⟨gb259, 2, none⟩ (.int .i64 ((rd_T36 l0_1 x30_2).f2))).setCell ⟨gb259, 3, none⟩ (.int .i64 ((rd_T36 l0_1 x30_2).f3))).setCell ⟨gb259, 4, none⟩ (.int .i64 ((rd_T36 l0_1 x30_2).f4))).setCell ⟨gb259, 5, none⟩ (.int .i64 ((rd_T36 l0_1 x30_2).f5)))) := ⟨z15_⟩
               (try clear BK256)
               (try clear BK259)
               (try clear HB)
               generalize ((((((w36.setCell ⟨gb259, 0, none⟩ (.string ((rd_T36 l0_1 x30_2).f0))).setCell ⟨gb259, 1, none⟩ (.int .i64 ((rd_T36 l0_1 x30_2).f1))).setCell ⟨gb259, 2, none⟩ (.int .i64 ((rd_T36 l0_1 x30_2).f2))).setCell ⟨gb259, 3, none⟩ (.int .i64 ((rd_T36 l0_1 x30_2).f3))).setCell ⟨gb259, 4, none⟩ (.int .i64 ((rd_T36 l0_1 x30_2).f4))).setCell ⟨gb259, 5, none⟩ (.int .i64 ((rd_T36 l0_1 x30_2).f5))) = w39 at n0_ n1_ n2_ ⊢
               have BK256 := n0_
               have BK259 := n1_
               have HB := n2_
               clear n0_ n1_ n2_
               have n0_ := Aside0.mk (blk_drew BK256.out)
               have n1_ := Aside0.mk (blk_drew BK259.out)
               have n2_ := Aside0.mk (below_drew1 HB.out)
               clear BK256
               clear BK259
               clear HB
               have BK256 := n0_
               have BK259 := n1_
               have HB := n2_
               clear n0_ n1_ n2_
               have p262 : 0 ≤ ((ji25) : Int) := of_decide_eq_true (z2_)
               have q262 : (ji25) < (l0_1.length : Int) := of_decide_eq_true (z2_)
               obtain ⟨ad262, e262, hx262_0, hx262_1, hx262_2, hx262_3, hx262_4, hx262_5⟩ := at_T36 HR0_1.out (ji25) p262 q262
               have hw262_5 := hx262_5
               have hw262_4 := hx262_4
               have hw262_3 := hx262_3
               have hw262_2 := hx262_2
               have hw262_1 := hx262_1
               have hw262_0 := hx262_0
               obtain rfl : ad258 = ad262 := (by injection e262)
               replace hx262_0 := (HB.out.cell (World.block_lt_of_cell? w _ hx262_0)).trans hx262_0
               replace hx262_1 := (HB.out.cell (World.block_lt_of_cell? w _ hx262_1)).trans hx262_1
               replace hx262_2 := (HB.out.cell (World.block_lt_of_cell? w _ hx262_2)).trans hx262_2
               replace hx262_3 := (HB.out.cell (World.block_lt_of_cell? w _ hx262_3)).trans hx262_3
               replace hx262_4 := (HB.out.cell (World.block_lt_of_cell? w _ hx262_4)).trans hx262_4
               replace hx262_5 := (HB.out.cell (World.block_lt_of_cell? w _ hx262_5)).trans hx262_5
               replace p262 := eq_true p262
               replace q262 := eq_true q262
               refine start_ (n := 25) (S := fun w' => w'.cell? ⟨gb259, 0, none⟩ = some (.string ((rd_T36 l0_1 x30_2).f0)) ∧ w'.cell? ⟨gb259, 1, none⟩ = some (.int .i64 ((rd_T36 l0_1 x30_2).f1)) ∧ w'.cell? ⟨gb259, 2, none⟩ = some (.int .i64 ((rd_T36 l0_1 x30_2).f2)) ∧ w'.cell? ⟨gb259, 3, none⟩ = some (.int .i64 ((rd_T36 l0_1 x30_2).f3)) ∧ w'.cell? ⟨gb259, 4, none⟩ = some (.int .i64 ((rd_T36 l0_1 x30_2).f4)) ∧ w'.cell? ⟨gb259, 5, none⟩ = some (.int .i64 ((rd_T36 l0_1 x30_2).f5)) ∧ w'.cell? ⟨gb256, 0, none⟩ = some (.slice A0_0 l0_0.length c0_0) ∧ w'.cell? ⟨gb256, 1, none⟩ = some (.slice (some ad258) l0_1.length c0_1) ∧ w'.cell? (ad258.add (((ji25)).toNat * 6)) = some (.string ((rd_T36 l0_1 (ji25)).f0)) ∧ w'.cell? ⟨(ad258.add (((ji25)).toNat * 6)).block, (ad258.add (((ji25)).toNat * 6)).off + 1, none⟩ = some (.int .i64 ((rd_T36 l0_1 (ji25)).f1)) ∧ w'.cell? ⟨(ad258.add (((ji25)).toNat * 6)).block, (ad258.add (((ji25)).toNat * 6)).off + 2, none⟩ = some (.int .i64 ((rd_T36 l0_1 (ji25)).f2)) ∧ w'.cell? ⟨(ad258.add (((ji25)).toNat * 6)).block, (ad258.add (((ji25)).toNat * 6)).off + 3, none⟩ = some (.int .i64 ((rd_T36 l0_1 (ji25)).f3)) ∧ w'.cell? ⟨(ad258.add (((ji25)).toNat * 6)).block, (ad258.add (((ji25)).toNat * 6)).off + 4, none⟩ = some (.int .i64 ((rd_T36 l0_1 (ji25)).f4)) ∧ w'.cell? ⟨(ad258.add (((ji25)).toNat * 6)).block, (ad258.add (((ji25)).toNat * 6)).off + 5, none⟩ = some (.int .i64 ((rd_T36 l0_1 (ji25)).f5))) (ds := []) #[J,J,J,J,J,J,J,J,J,J,J,J,J,J,J,J,J,J,J,J,J,J,J,J,J] (z11_) rfl rfl ⟨(blk_cell BK259.out 0).trans rfl, (blk_cell BK259.out 1).trans rfl, (blk_cell BK259.out 2).trans rfl, (blk_cell BK259.out 3).trans rfl, (blk_cell BK259.out 4).trans rfl, (blk_cell BK259.out 5).trans rfl, (blk_cell BK256.out 0).trans rfl, (blk_cell BK256.out 1).trans rfl, ((HB.out.cell (World.block_lt_of_cell? w _ hw262_0)).trans hw262_0), ((HB.out.cell (World.block_lt_of_cell? w _ hw262_1)).trans hw262_1), ((HB.out.cell (World.block_lt_of_cell? w _ hw262_2)).trans hw262_2), ((HB.out.cell (World.block_lt_of_cell? w _ hw262_3)).trans hw262_3), ((HB.out.cell (World.block_lt_of_cell? w _ hw262_4)).trans hw262_4), ((HB.out.cell (World.block_lt_of_cell? w _ hw262_5)).trans hw262_5)⟩ (fun hHeld => ?_); refine with_tabW impl_ValidNetwork.tab6 impl_ValidNetwork.bits6 (fun HT_ HW_ => ?_)
               generalize w39.drew = w40 at BK256 BK259 HB hx262_0 hx262_1 hx262_2 hx262_3 hx262_4 hx262_5 hHeld ⊢
               refine take_ (i := 0) (N := some 35) (v := ?_) (a' := ?_) #[Y,J,J,J,J,J,J,J,J,J,J,J,J,J,J,J,J,J,J,J,J,J,J,J,J] rfl rfl (take_ofW HT_.out HW_.out (z11_)) (fun _ _ _ h => h) (Or.inl ⟨by rfl, ?_⟩) hHeld ?_ ?_; rotate_left
               ·rintro w' ⟨s0, s1, s2, s3, s4, s5, s6, s7, s8, s9, s10, s11, s12, s13⟩; go_simp; with_reducible rfl
               rotate_left
               ·simp only [pU,pN,sB,sZ,sS,i64_w,i32_w]; rfl
               refine one_ (i := 1) (N := some 36) #[Y,Y,J,J,J,J,J,J,J,J,J,J,J,J,J,J,J,J,J,J,J,J,J,J,J] rfl rfl (one_of HT_.out (z11_)) (by decide) (fun K hK => ?_)
               refine goes_ Tryz.func45 (z11_) rfl #[.agg #[.string ((rd_T36 l0_1 x30_2).f0), .int .i64 ((rd_T36 l0_1 x30_2).f1), .int .i64 ((rd_T36 l0_1 x30_2).f2), .int .i64 ((rd_T36 l0_1 x30_2).f3), .int .i64 ((rd_T36 l0_1 x30_2).f4), .int .i64 ((rd_T36 l0_1 x30_2).f5)]] (by rfl) rfl rfl (z1_) ?_
               with_reducible refine (impl_ValidPipe_.calls ((rd_T36 l0_1 x30_2).f0) ((rd_T36 l0_1 x30_2).f1) ((rd_T36 l0_1 x30_2).f2) ((rd_T36 l0_1 x30_2).f3) ((rd_T36 l0_1 x30_2).f4) ((rd_T36 l0_1 x30_2).f5) true _ A20.out).mono ?_
               rintro e w41 ⟨rfl, hb⟩
               refine ⟨_, rfl, ?_⟩
               have n0_ := Aside0.mk (blk_below (g := gb256) (o := .cells #[.slice A0_0 l0_0.length c0_0, .slice (some ad258) l0_1.length c0_1] 25 (0, 0)) (z12_) hb)
               have n1_ := Aside0.mk (blk_below (g := gb259) (o := .cells #[.string ((rd_T36 l0_1 x30_2).f0), .int .i64 ((rd_T36 l0_1 x30_2).f1), .int .i64 ((rd_T36 l0_1 x30_2).f2), .int .i64 ((rd_T36 l0_1 x30_2).f3), .int .i64 ((rd_T36 l0_1 x30_2).f4), .int .i64 ((rd_T36 l0_1 x30_2).f5)] 36 (0, 0)) (z64_) hb)
               have n2_ := Aside0.mk (below_step (z15_) hb)
               clear BK256
               clear BK259
               clear HB
               have BK256 := n0_
               have BK259 := n1_
               have HB := n2_
               clear n0_ n1_ n2_
               (try clear hb)
               (try clear hb2)
               (try clear hk)
               (try clear hi)
               refine hK.out _ _ ⟨(blk_cell BK259.out 0).trans rfl, (blk_cell BK259.out 1).trans rfl, (blk_cell BK259.out 2).trans rfl, (blk_cell BK259.out 3).trans rfl, (blk_cell BK259.out 4).trans rfl, (blk_cell BK259.out 5).trans rfl, (blk_cell BK256.out 0).trans rfl, (blk_cell BK256.out 1).trans rfl, ((HB.out.cell (World.block_lt_of_cell? w _ hw262_0)).trans hw262_0), ((HB.out.cell (World.block_lt_of_cell? w _ hw262_1)).trans hw262_1), ((HB.out.cell (World.block_lt_of_cell? w _ hw262_2)).trans hw262_2), ((HB.out.cell (World.block_lt_of_cell? w _ hw262_3)).trans hw262_3), ((HB.out.cell (World.block_lt_of_cell? w _ hw262_4)).trans hw262_4), ((HB.out.cell (World.block_lt_of_cell? w _ hw262_5)).trans hw262_5)⟩ (fun hHeld => ?_)
               clear hK K
               refine norm_ (a' := ?_) ?_ ?_
               rotate_left
               ·show Act.put _ (some 36) _ = _
                simp only [pU,pN,sB,sZ,sS,i64_w,i32_w]
                rfl
               refine pz_ 2 37 #[Y,Y,Y,J,J,J,J,J,J,J,J,J,J,J,J,J,J,J,J,J,J,J,J,J,J] HT_ ?_
               refine pz_ 3 38 #[Y,Y,Y,Y,J,J,J,J,J,J,J,J,J,J,J,J,J,J,J,J,J,J,J,J,J] HT_ ?_
               refine take_ (i := 4) (N := some 39) (v := ?_) (a' := ?_) #[Y,Y,Y,Y,Y,J,J,J,J,J,J,J,J,J,J,J,J,J,J,J,J,J,J,J,J] rfl rfl (take_ofW HT_.out HW_.out (z11_)) (fun _ _ _ h => h) (Or.inl ⟨by rfl, ?_⟩) hHeld ?_ ?_; rotate_left
               ·rintro w' ⟨s0, s1, s2, s3, s4, s5, s6, s7, s8, s9, s10, s11, s12, s13⟩; go_simp; with_reducible rfl
               rotate_left
               ·simp only [pU,pN,sB,sZ,sS,i64_w,i32_w]; rfl
               refine take_ (i := 5) (N := some 40) (v := ?_) (a' := ?_) #[Y,Y,Y,Y,Y,Y,J,J,J,J,J,J,J,J,J,J,J,J,J,J,J,J,J,J,J] rfl rfl (take_ofW HT_.out HW_.out (z11_)) (fun _ _ _ h => h) (Or.inl ⟨by rfl, ?_⟩) hHeld ?_ ?_; rotate_left
               ·rintro w' ⟨s0, s1, s2, s3, s4, s5, s6, s7, s8, s9, s10, s11, s12, s13⟩; go_simp; with_reducible rfl
               rotate_left
               ·simp only [pU,pN,sB,sZ,sS,i64_w,i32_w]; rfl
               refine one_ (i := 6) (N := some 41) #[Y,Y,Y,Y,Y,Y,Y,J,J,J,J,J,J,J,J,J,J,J,J,J,J,J,J,J,J] rfl rfl (one_of HT_.out (z11_)) (by decide) (fun K hK => ?_)
               refine goes_ Tryz.func48 (z11_) rfl #[.agg #[.slice A0_0 l0_0.length c0_0, .slice (some ad258) l0_1.length c0_1], .agg #[.string ((rd_T36 l0_1 x30_2).f0), .int .i64 ((rd_T36 l0_1 x30_2).f1), .int .i64 ((rd_T36 l0_1 x30_2).f2), .int .i64 ((rd_T36 l0_1 x30_2).f3), .int .i64 ((rd_T36 l0_1 x30_2).f4), .int .i64 ((rd_T36 l0_1 x30_2).f5)]] (by rfl) rfl rfl (z1_) ?_
               with_reducible refine (impl_Network_hasEnds.calls _ _ l0_0 _ _ l0_1 ((rd_T36 l0_1 x30_2).f0) ((rd_T36 l0_1 x30_2).f1) ((rd_T36 l0_1 x30_2).f2) ((rd_T36 l0_1 x30_2).f3) ((rd_T36 l0_1 x30_2).f4) ((rd_T36 l0_1 x30_2).f5) true _ ?side1 ?side2 ?side3 ?side4 A22.out).mono ?_
               (case side1 => repeat (first | exact (Kd.C_below HR0_0.out HB.out) | (with_reducible first|refine Kd.C_alloc ?_ _|refine Kd.C_drewN ?_ _|refine Kd.C_drew ?_)))
               (case side2 => exact HC0_0.out)
               (case side3 => repeat (first | exact (Kd.C_below HR0_1.out HB.out) | (with_reducible first|refine Kd.C_alloc ?_ _|refine Kd.C_drewN ?_ _|refine Kd.C_drew ?_)))
               (case side4 => exact HC0_1.out)
               rintro e w42 ⟨rfl, hb⟩
               refine ⟨_, rfl, ?_⟩
               have n0_ := Aside0.mk (blk_below (g := gb256) (o := .cells #[.slice A0_0 l0_0.length c0_0, .slice (some ad258) l0_1.length c0_1] 25 (0, 0)) (z12_) hb)
               have n1_ := Aside0.mk (blk_below (g := gb259) (o := .cells #[.string ((rd_T36 l0_1 x30_2).f0), .int .i64 ((rd_T36 l0_1 x30_2).f1), .int .i64 ((rd_T36 l0_1 x30_2).f2), .int .i64 ((rd_T36 l0_1 x30_2).f3), .int .i64 ((rd_T36 l0_1 x30_2).f4), .int .i64 ((rd_T36 l0_1 x30_2).f5)] 36 (0, 0)) (z64_) hb)
               have n2_ := Aside0.mk (below_step (z15_) hb)
               clear BK256
               clear BK259
               clear HB
               have BK256 := n0_
               have BK259 := n1_
               have HB := n2_
               clear n0_ n1_ n2_
               (try clear hb)
               (try clear hb2)
               (try clear hk)
               (try clear hi)
               refine hK.out _ _ ⟨(blk_cell BK259.out 0).trans rfl, (blk_cell BK259.out 1).trans rfl, (blk_cell BK259.out 2).trans rfl, (blk_cell BK259.out 3).trans rfl, (blk_cell BK259.out 4).trans rfl, (blk_cell BK259.out 5).trans rfl, (blk_cell BK256.out 0).trans rfl, (blk_cell BK256.out 1).trans rfl, ((HB.out.cell (World.block_lt_of_cell? w _ hw262_0)).trans hw262_0), ((HB.out.cell (World.block_lt_of_cell? w _ hw262_1)).trans hw262_1), ((HB.out.cell (World.block_lt_of_cell? w _ hw262_2)).trans hw262_2), ((HB.out.cell (World.block_lt_of_cell? w _ hw262_3)).trans hw262_3), ((HB.out.cell (World.block_lt_of_cell? w _ hw262_4)).trans hw262_4), ((HB.out.cell (World.block_lt_of_cell? w _ hw262_5)).trans hw262_5)⟩ (fun hHeld => ?_)
               clear hK K
               refine norm_ (a' := ?_) ?_ ?_
               rotate_left
               ·show Act.put _ (some 41) _ = _
                simp only [pU,pN,sB,sZ,sS,i64_w,i32_w]
                rfl
               refine pz_ 7 42 #[Y,Y,Y,Y,Y,Y,Y,Y,J,J,J,J,J,J,J,J,J,J,J,J,J,J,J,J,J] HT_ ?_
               refine pz_ 8 43 #[Y,Y,Y,Y,Y,Y,Y,Y,Y,J,J,J,J,J,J,J,J,J,J,J,J,J,J,J,J] HT_ ?_
               refine pz_ 9 44 #[Y,Y,Y,Y,Y,Y,Y,Y,Y,Y,J,J,J,J,J,J,J,J,J,J,J,J,J,J,J] HT_ ?_
               refine pz_ 10 45 #[Y,Y,Y,Y,Y,Y,Y,Y,Y,Y,Y,J,J,J,J,J,J,J,J,J,J,J,J,J,J] HT_ ?_
               refine pz_ 11 46 #[Y,Y,Y,Y,Y,Y,Y,Y,Y,Y,Y,Y,J,J,J,J,J,J,J,J,J,J,J,J,J] HT_ ?_
               refine pz_ 12 47 #[Y,Y,Y,Y,Y,Y,Y,Y,Y,Y,Y,Y,Y,J,J,J,J,J,J,J,J,J,J,J,J] HT_ ?_
               refine pz_ 13 48 #[Y,Y,Y,Y,Y,Y,Y,Y,Y,Y,Y,Y,Y,Y,J,J,J,J,J,J,J,J,J,J,J] HT_ ?_
               refine pz_ 15 50 #[Y,Y,Y,Y,Y,Y,Y,Y,Y,Y,Y,Y,Y,Y,J,Y,J,J,J,J,J,J,J,J,J] HT_ ?_
               refine pz_ 17 52 #[Y,Y,Y,Y,Y,Y,Y,Y,Y,Y,Y,Y,Y,Y,J,Y,J,Y,J,J,J,J,J,J,J] HT_ ?_
               refine pz_ 18 53 #[Y,Y,Y,Y,Y,Y,Y,Y,Y,Y,Y,Y,Y,Y,J,Y,J,Y,Y,J,J,J,J,J,J] HT_ ?_
               refine take_ (i := 14) (N := some 49) (v := ?_) (a' := ?_) #[Y,Y,Y,Y,Y,Y,Y,Y,Y,Y,Y,Y,Y,Y,Y,Y,J,Y,Y,J,J,J,J,J,J] rfl rfl (take_ofW HT_.out HW_.out (z11_)) (fun _ _ _ h => h) (Or.inl ⟨by rfl, ?_⟩) hHeld ?_ ?_; rotate_left
               ·rintro w' ⟨s0, s1, s2, s3, s4, s5, s6, s7, s8, s9, s10, s11, s12, s13⟩; go_simp; with_reducible rfl
               rotate_left
               ·simp only [pU,pN,sB,sZ,sS,i64_w,i32_w]; rfl
               refine take_ (i := 16) (N := some 51) (v := ?_) (a' := ?_) #[Y,Y,Y,Y,Y,Y,Y,Y,Y,Y,Y,Y,Y,Y,Y,Y,Y,Y,Y,J,J,J,J,J,J] rfl rfl (take_ofW HT_.out HW_.out (z11_)) (fun _ _ _ h => h) (Or.inl ⟨by rfl, ?_⟩) hHeld ?_ ?_; rotate_left
               ·rintro w' ⟨s0, s1, s2, s3, s4, s5, s6, s7, s8, s9, s10, s11, s12, s13⟩; go_simp; with_reducible rfl
               rotate_left
               ·simp only [pU,pN,sB,sZ,sS,i64_w,i32_w]; rfl
               refine pz_ 19 54 #[Y,Y,Y,Y,Y,Y,Y,Y,Y,Y,Y,Y,Y,Y,Y,Y,Y,Y,Y,Y,J,J,J,J,J] HT_ ?_
               refine pz_ 20 55 #[Y,Y,Y,Y,Y,Y,Y,Y,Y,Y,Y,Y,Y,Y,Y,Y,Y,Y,Y,Y,Y,J,J,J,J] HT_ ?_
               refine take_ (i := 21) (N := some 56) (v := ?_) (a' := ?_) #[Y,Y,Y,Y,Y,Y,Y,Y,Y,Y,Y,Y,Y,Y,Y,Y,Y,Y,Y,Y,Y,Y,J,J,J] rfl rfl (take_ofW HT_.out HW_.out (z11_)) (fun _ _ _ h => h) (Or.inl ⟨by rfl, ?_⟩) hHeld ?_ ?_; rotate_left
               ·rintro w' ⟨s0, s1, s2, s3, s4, s5, s6, s7, s8, s9, s10, s11, s12, s13⟩; go_simp; with_reducible rfl
               rotate_left
               ·simp only [pU,pN,sB,sZ,sS,i64_w,i32_w]; rfl
               refine pz_ 22 57 #[Y,Y,Y,Y,Y,Y,Y,Y,Y,Y,Y,Y,Y,Y,Y,Y,Y,Y,Y,Y,Y,Y,Y,J,J] HT_ ?_
               refine pz_ 23 58 #[Y,Y,Y,Y,Y,Y,Y,Y,Y,Y,Y,Y,Y,Y,Y,Y,Y,Y,Y,Y,Y,Y,Y,Y,J] HT_ ?_
               refine pz_ 24 59 #[Y,Y,Y,Y,Y,Y,Y,Y,Y,Y,Y,Y,Y,Y,Y,Y,Y,Y,Y,Y,Y,Y,Y,Y,Y] HT_ ?_
               refine done_ (done_of HT_.out (z11_)) ?_
               try go_wp2
               go_roundg k2
               case measure => have := HJ1.out; have := HK2.out; omega
               case rel => exact ⟨(wrap64 (x30_2 + 1)), (z7_), H', ⟨z169_⟩, ⟨z12_⟩, ⟨z15_⟩⟩
             ·rw [if_neg c27] at H
              exact absurd H (by simp)
            ·rw [if_neg c26] at H
             exact absurd H (by simp)
           ·rw [if_neg c24] at H
            have c24b0 : decide (0 < x30_2) = false := decide_eq_false c24
            clear c24
            have H' := Aside0.mk H
            clear H
            have p258 : 0 ≤ (x30_2 : Int) := of_decide_eq_true (z2_)
            have q258 : x30_2 < (l0_1.length : Int) := of_decide_eq_true (z2_)
            obtain ⟨ad258, e258, hx258_0, hx258_1, hx258_2, hx258_3, hx258_4, hx258_5⟩ := at_T36 HR0_1.out x30_2 p258 q258
            cases e258
            replace hx258_0 := (HB.out.cell (World.block_lt_of_cell? w _ hx258_0)).trans hx258_0
            replace hx258_1 := (HB.out.cell (World.block_lt_of_cell? w _ hx258_1)).trans hx258_1
            replace hx258_2 := (HB.out.cell (World.block_lt_of_cell? w _ hx258_2)).trans hx258_2
            replace hx258_3 := (HB.out.cell (World.block_lt_of_cell? w _ hx258_3)).trans hx258_3
            replace hx258_4 := (HB.out.cell (World.block_lt_of_cell? w _ hx258_4)).trans hx258_4
            replace hx258_5 := (HB.out.cell (World.block_lt_of_cell? w _ hx258_5)).trans hx258_5
            replace p258 := eq_true p258
            replace q258 := eq_true q258
            try go_wp2_with (first | ((with_reducible refine gate_dst (N := 4) rfl ?_); (try (refine gate_guard (by rfl) ?_; dsimp only)); refine box_event ?hg (N := 4) ?hd (cs := #[.string (⟨#[]⟩ : ByteArray), .int .i64 0, .int .i64 0, .int .i64 0, .int .i64 0, .int .i64 0]) (t := 36) ?hr ?_; (case hd => rfl); (case hg => rfl); (case hr => first | (go_simp; done) | (go_simp; rfl)); intro gb259 hg w43 hbox hb; have n0_ := Aside0.mk (blk_below (g := gb256) (o := .cells #[.slice A0_0 l0_0.length c0_0, .slice (some ad258) l0_1.length c0_1] 25 (0, 0)) (z12_) hb); have n1_ := Aside0.mk (below_step (z13_) hb); have n2_ := Aside0.mk (hbox); have n3_ := Aside0.mk ((z31_ : w.heap.size ≤ gb259)); have n4_ := Aside0.mk ((z31_ : w.heap.size ≤ gb259)); have n5_ := Aside0.mk ((z47_ : gb256 ≠ gb259)); have n6_ := Aside0.mk ((z48_ : gb259 ≠ gb256)); clear BK256; clear HB; have BK256 := n0_; have HB := n1_; have BK259 := n2_; have GW259 := n3_; have GE259 := n4_; have NB256_259 := n5_; have NB259_256 := n6_; clear n0_ n1_ n2_ n3_ n4_ n5_ n6_; clear hb hbox hg; have hnb44 := NB259_256.out; have hnc44 := NB256_259.out; have hcz45_0 := bc0_ w43 BK259.out; have hcz45_1 := bc1_ w43 BK259.out; have hcz45_2 := bc2_ w43 BK259.out; have hcz45_3 := bc3_ w43 BK259.out; have hcz45_4 := bc4_ w43 BK259.out; have hcz45_5 := bc5_ w43 BK259.out; have hfz45_0 := blk_frozen BK259.out 0; have hfz45_1 := blk_frozen BK259.out 1; have hfz45_2 := blk_frozen BK259.out 2; have hfz45_3 := blk_frozen BK259.out 3; have hfz45_4 := blk_frozen BK259.out 4; have hfz45_5 := blk_frozen BK259.out 5))
            have n0_ : Aside0 (((((((w43.setCell ⟨gb259, 0, none⟩ (.string ((rd_T36 l0_1 x30_2).f0))).setCell ⟨gb259, 1, none⟩ (.int .i64 ((rd_T36 l0_1 x30_2).f1))).setCell ⟨gb259, 2, none⟩ (.int .i64 ((rd_T36 l0_1 x30_2).f2))).setCell ⟨gb259, 3, none⟩ (.int .i64 ((rd_T36 l0_1 x30_2).f3))).setCell ⟨gb259, 4, none⟩ (.int .i64 ((rd_T36 l0_1 x30_2).f4))).setCell ⟨gb259, 5, none⟩ (.int .i64 ((rd_T36 l0_1 x30_2).f5))).heap[gb256]? = some (.cells #[.slice A0_0 l0_0.length c0_0, .slice (some ad258) l0_1.length c0_1] 25 (0, 0))) := ⟨z10_⟩
            have n1_ : Aside0 (((((((w43.setCell ⟨gb259, 0, none⟩ (.string ((rd_T36 l0_1 x30_2).f0))).setCell ⟨gb259, 1, none⟩ (.int .i64 ((rd_T36 l0_1 x30_2).f1))).setCell ⟨gb259, 2, none⟩ (.int .i64 ((rd_T36 l0_1 x30_2).f2))).setCell ⟨gb259, 3, none⟩ (.int .i64 ((rd_T36 l0_1 x30_2).f3))).setCell ⟨gb259, 4, none⟩ (.int .i64 ((rd_T36 l0_1 x30_2).f4))).setCell ⟨gb259, 5, none⟩ (.int .i64 ((rd_T36 l0_1 x30_2).f5))).heap[gb259]? = some (.cells #[.string ((rd_T36 l0_1 x30_2).f0), .int .i64 ((rd_T36 l0_1 x30_2).f1), .int .i64 ((rd_T36 l0_1 x30_2).f2), .int .i64 ((rd_T36 l0_1 x30_2).f3), .int .i64 ((rd_T36 l0_1 x30_2).f4), .int .i64 ((rd_T36 l0_1 x30_2).f5)] 36 (0, 0))) := ⟨z5_⟩
            have n2_ : Aside0 (Below w.heap.size w ((((((w43.setCell ⟨gb259, 0, none⟩ (.string ((rd_T36 l0_1 x30_2).f0))).setCell ⟨gb259, 1, none⟩ (.int .i64 ((rd_T36 l0_1 x30_2).f1))).setCell ⟨gb259, 2, none⟩ (.int .i64 ((rd_T36 l0_1 x30_2).f2))).setCell ⟨gb259, 3, none⟩ (.int .i64 ((rd_T36 l0_1 x30_2).f3))).setCell ⟨gb259, 4, none⟩ (.int .i64 ((rd_T36 l0_1 x30_2).f4))).setCell ⟨gb259, 5, none⟩ (.int .i64 ((rd_T36 l0_1 x30_2).f5)))) := ⟨z15_⟩
            (try clear BK256)
            (try clear BK259)
            (try clear HB)
            generalize ((((((w43.setCell ⟨gb259, 0, none⟩ (.string ((rd_T36 l0_1 x30_2).f0))).setCell ⟨gb259, 1, none⟩ (.int .i64 ((rd_T36 l0_1 x30_2).f1))).setCell ⟨gb259, 2, none⟩ (.int .i64 ((rd_T36 l0_1 x30_2).f2))).setCell ⟨gb259, 3, none⟩ (.int .i64 ((rd_T36 l0_1 x30_2).f3))).setCell ⟨gb259, 4, none⟩ (.int .i64 ((rd_T36 l0_1 x30_2).f4))).setCell ⟨gb259, 5, none⟩ (.int .i64 ((rd_T36 l0_1 x30_2).f5))) = w46 at n0_ n1_ n2_ ⊢
            have BK256 := n0_
            have BK259 := n1_
            have HB := n2_
            clear n0_ n1_ n2_
            have n0_ := Aside0.mk (blk_drew BK256.out)
            have n1_ := Aside0.mk (blk_drew BK259.out)
            have n2_ := Aside0.mk (below_drew1 HB.out)
            clear BK256
            clear BK259
            clear HB
            have BK256 := n0_
            have BK259 := n1_
            have HB := n2_
            clear n0_ n1_ n2_
            refine start_ (n := 25) (S := fun w' => w'.cell? ⟨gb259, 0, none⟩ = some (.string ((rd_T36 l0_1 x30_2).f0)) ∧ w'.cell? ⟨gb259, 1, none⟩ = some (.int .i64 ((rd_T36 l0_1 x30_2).f1)) ∧ w'.cell? ⟨gb259, 2, none⟩ = some (.int .i64 ((rd_T36 l0_1 x30_2).f2)) ∧ w'.cell? ⟨gb259, 3, none⟩ = some (.int .i64 ((rd_T36 l0_1 x30_2).f3)) ∧ w'.cell? ⟨gb259, 4, none⟩ = some (.int .i64 ((rd_T36 l0_1 x30_2).f4)) ∧ w'.cell? ⟨gb259, 5, none⟩ = some (.int .i64 ((rd_T36 l0_1 x30_2).f5)) ∧ w'.cell? ⟨gb256, 0, none⟩ = some (.slice A0_0 l0_0.length c0_0) ∧ w'.cell? ⟨gb256, 1, none⟩ = some (.slice (some ad258) l0_1.length c0_1)) (ds := []) #[J,J,J,J,J,J,J,J,J,J,J,J,J,J,J,J,J,J,J,J,J,J,J,J,J] (z11_) rfl rfl ⟨(blk_cell BK259.out 0).trans rfl, (blk_cell BK259.out 1).trans rfl, (blk_cell BK259.out 2).trans rfl, (blk_cell BK259.out 3).trans rfl, (blk_cell BK259.out 4).trans rfl, (blk_cell BK259.out 5).trans rfl, (blk_cell BK256.out 0).trans rfl, (blk_cell BK256.out 1).trans rfl⟩ (fun hHeld => ?_); refine with_tabW impl_ValidNetwork.tab6 impl_ValidNetwork.bits6 (fun HT_ HW_ => ?_)
            generalize w46.drew = w47 at BK256 BK259 HB hHeld ⊢
            refine take_ (i := 0) (N := some 35) (v := ?_) (a' := ?_) #[Y,J,J,J,J,J,J,J,J,J,J,J,J,J,J,J,J,J,J,J,J,J,J,J,J] rfl rfl (take_ofW HT_.out HW_.out (z11_)) (fun _ _ _ h => h) (Or.inl ⟨by rfl, ?_⟩) hHeld ?_ ?_; rotate_left
            ·rintro w' ⟨s0, s1, s2, s3, s4, s5, s6, s7⟩; go_simp; with_reducible rfl
            rotate_left
            ·simp only [pU,pN,sB,sZ,sS,i64_w,i32_w]; rfl
            refine one_ (i := 1) (N := some 36) #[Y,Y,J,J,J,J,J,J,J,J,J,J,J,J,J,J,J,J,J,J,J,J,J,J,J] rfl rfl (one_of HT_.out (z11_)) (by decide) (fun K hK => ?_)
            refine goes_ Tryz.func45 (z11_) rfl #[.agg #[.string ((rd_T36 l0_1 x30_2).f0), .int .i64 ((rd_T36 l0_1 x30_2).f1), .int .i64 ((rd_T36 l0_1 x30_2).f2), .int .i64 ((rd_T36 l0_1 x30_2).f3), .int .i64 ((rd_T36 l0_1 x30_2).f4), .int .i64 ((rd_T36 l0_1 x30_2).f5)]] (by rfl) rfl rfl (z1_) ?_
            with_reducible refine (impl_ValidPipe_.calls ((rd_T36 l0_1 x30_2).f0) ((rd_T36 l0_1 x30_2).f1) ((rd_T36 l0_1 x30_2).f2) ((rd_T36 l0_1 x30_2).f3) ((rd_T36 l0_1 x30_2).f4) ((rd_T36 l0_1 x30_2).f5) true _ A20.out).mono ?_
            rintro e w48 ⟨rfl, hb⟩
            refine ⟨_, rfl, ?_⟩
            have n0_ := Aside0.mk (blk_below (g := gb256) (o := .cells #[.slice A0_0 l0_0.length c0_0, .slice (some ad258) l0_1.length c0_1] 25 (0, 0)) (z12_) hb)
            have n1_ := Aside0.mk (blk_below (g := gb259) (o := .cells #[.string ((rd_T36 l0_1 x30_2).f0), .int .i64 ((rd_T36 l0_1 x30_2).f1), .int .i64 ((rd_T36 l0_1 x30_2).f2), .int .i64 ((rd_T36 l0_1 x30_2).f3), .int .i64 ((rd_T36 l0_1 x30_2).f4), .int .i64 ((rd_T36 l0_1 x30_2).f5)] 36 (0, 0)) (z64_) hb)
            have n2_ := Aside0.mk (below_step (z15_) hb)
            clear BK256
            clear BK259
            clear HB
            have BK256 := n0_
            have BK259 := n1_
            have HB := n2_
            clear n0_ n1_ n2_
            (try clear hb)
            (try clear hb2)
            (try clear hk)
            (try clear hi)
            refine hK.out _ _ ⟨(blk_cell BK259.out 0).trans rfl, (blk_cell BK259.out 1).trans rfl, (blk_cell BK259.out 2).trans rfl, (blk_cell BK259.out 3).trans rfl, (blk_cell BK259.out 4).trans rfl, (blk_cell BK259.out 5).trans rfl, (blk_cell BK256.out 0).trans rfl, (blk_cell BK256.out 1).trans rfl⟩ (fun hHeld => ?_)
            clear hK K
            refine norm_ (a' := ?_) ?_ ?_
            rotate_left
            ·show Act.put _ (some 36) _ = _
             simp only [pU,pN,sB,sZ,sS,i64_w,i32_w]
             rfl
            refine pz_ 2 37 #[Y,Y,Y,J,J,J,J,J,J,J,J,J,J,J,J,J,J,J,J,J,J,J,J,J,J] HT_ ?_
            refine pz_ 3 38 #[Y,Y,Y,Y,J,J,J,J,J,J,J,J,J,J,J,J,J,J,J,J,J,J,J,J,J] HT_ ?_
            refine take_ (i := 4) (N := some 39) (v := ?_) (a' := ?_) #[Y,Y,Y,Y,Y,J,J,J,J,J,J,J,J,J,J,J,J,J,J,J,J,J,J,J,J] rfl rfl (take_ofW HT_.out HW_.out (z11_)) (fun _ _ _ h => h) (Or.inl ⟨by rfl, ?_⟩) hHeld ?_ ?_; rotate_left
            ·rintro w' ⟨s0, s1, s2, s3, s4, s5, s6, s7⟩; go_simp; with_reducible rfl
            rotate_left
            ·simp only [pU,pN,sB,sZ,sS,i64_w,i32_w]; rfl
            refine take_ (i := 5) (N := some 40) (v := ?_) (a' := ?_) #[Y,Y,Y,Y,Y,Y,J,J,J,J,J,J,J,J,J,J,J,J,J,J,J,J,J,J,J] rfl rfl (take_ofW HT_.out HW_.out (z11_)) (fun _ _ _ h => h) (Or.inl ⟨by rfl, ?_⟩) hHeld ?_ ?_; rotate_left
            ·rintro w' ⟨s0, s1, s2, s3, s4, s5, s6, s7⟩; go_simp; with_reducible rfl
            rotate_left
            ·simp only [pU,pN,sB,sZ,sS,i64_w,i32_w]; rfl
            refine one_ (i := 6) (N := some 41) #[Y,Y,Y,Y,Y,Y,Y,J,J,J,J,J,J,J,J,J,J,J,J,J,J,J,J,J,J] rfl rfl (one_of HT_.out (z11_)) (by decide) (fun K hK => ?_)
            refine goes_ Tryz.func48 (z11_) rfl #[.agg #[.slice A0_0 l0_0.length c0_0, .slice (some ad258) l0_1.length c0_1], .agg #[.string ((rd_T36 l0_1 x30_2).f0), .int .i64 ((rd_T36 l0_1 x30_2).f1), .int .i64 ((rd_T36 l0_1 x30_2).f2), .int .i64 ((rd_T36 l0_1 x30_2).f3), .int .i64 ((rd_T36 l0_1 x30_2).f4), .int .i64 ((rd_T36 l0_1 x30_2).f5)]] (by rfl) rfl rfl (z1_) ?_
            with_reducible refine (impl_Network_hasEnds.calls _ _ l0_0 _ _ l0_1 ((rd_T36 l0_1 x30_2).f0) ((rd_T36 l0_1 x30_2).f1) ((rd_T36 l0_1 x30_2).f2) ((rd_T36 l0_1 x30_2).f3) ((rd_T36 l0_1 x30_2).f4) ((rd_T36 l0_1 x30_2).f5) true _ ?side1 ?side2 ?side3 ?side4 A22.out).mono ?_
            (case side1 => repeat (first | exact (Kd.C_below HR0_0.out HB.out) | (with_reducible first|refine Kd.C_alloc ?_ _|refine Kd.C_drewN ?_ _|refine Kd.C_drew ?_)))
            (case side2 => exact HC0_0.out)
            (case side3 => repeat (first | exact (Kd.C_below HR0_1.out HB.out) | (with_reducible first|refine Kd.C_alloc ?_ _|refine Kd.C_drewN ?_ _|refine Kd.C_drew ?_)))
            (case side4 => exact HC0_1.out)
            rintro e w49 ⟨rfl, hb⟩
            refine ⟨_, rfl, ?_⟩
            have n0_ := Aside0.mk (blk_below (g := gb256) (o := .cells #[.slice A0_0 l0_0.length c0_0, .slice (some ad258) l0_1.length c0_1] 25 (0, 0)) (z12_) hb)
            have n1_ := Aside0.mk (blk_below (g := gb259) (o := .cells #[.string ((rd_T36 l0_1 x30_2).f0), .int .i64 ((rd_T36 l0_1 x30_2).f1), .int .i64 ((rd_T36 l0_1 x30_2).f2), .int .i64 ((rd_T36 l0_1 x30_2).f3), .int .i64 ((rd_T36 l0_1 x30_2).f4), .int .i64 ((rd_T36 l0_1 x30_2).f5)] 36 (0, 0)) (z64_) hb)
            have n2_ := Aside0.mk (below_step (z15_) hb)
            clear BK256
            clear BK259
            clear HB
            have BK256 := n0_
            have BK259 := n1_
            have HB := n2_
            clear n0_ n1_ n2_
            (try clear hb)
            (try clear hb2)
            (try clear hk)
            (try clear hi)
            refine hK.out _ _ ⟨(blk_cell BK259.out 0).trans rfl, (blk_cell BK259.out 1).trans rfl, (blk_cell BK259.out 2).trans rfl, (blk_cell BK259.out 3).trans rfl, (blk_cell BK259.out 4).trans rfl, (blk_cell BK259.out 5).trans rfl, (blk_cell BK256.out 0).trans rfl, (blk_cell BK256.out 1).trans rfl⟩ (fun hHeld => ?_)
            clear hK K
            refine norm_ (a' := ?_) ?_ ?_
            rotate_left
            ·show Act.put _ (some 41) _ = _
             simp only [pU,pN,sB,sZ,sS,i64_w,i32_w]
             rfl
            refine pz_ 7 42 #[Y,Y,Y,Y,Y,Y,Y,Y,J,J,J,J,J,J,J,J,J,J,J,J,J,J,J,J,J] HT_ ?_
            refine pz_ 8 43 #[Y,Y,Y,Y,Y,Y,Y,Y,Y,J,J,J,J,J,J,J,J,J,J,J,J,J,J,J,J] HT_ ?_
            refine pz_ 9 44 #[Y,Y,Y,Y,Y,Y,Y,Y,Y,Y,J,J,J,J,J,J,J,J,J,J,J,J,J,J,J] HT_ ?_
            refine pz_ 10 45 #[Y,Y,Y,Y,Y,Y,Y,Y,Y,Y,Y,J,J,J,J,J,J,J,J,J,J,J,J,J,J] HT_ ?_
            refine pz_ 11 46 #[Y,Y,Y,Y,Y,Y,Y,Y,Y,Y,Y,Y,J,J,J,J,J,J,J,J,J,J,J,J,J] HT_ ?_
            refine pz_ 12 47 #[Y,Y,Y,Y,Y,Y,Y,Y,Y,Y,Y,Y,Y,J,J,J,J,J,J,J,J,J,J,J,J] HT_ ?_
            refine pu_ 13 48 #[Y,Y,Y,Y,Y,Y,Y,Y,Y,Y,Y,Y,Y,Y,J,J,J,J,J,J,J,J,J,J,J] HT_ ?_
            refine pu_ 14 49 #[Y,Y,Y,Y,Y,Y,Y,Y,Y,Y,Y,Y,Y,Y,Y,J,J,J,J,J,J,J,J,J,J] HT_ ?_
            refine pu_ 15 50 #[Y,Y,Y,Y,Y,Y,Y,Y,Y,Y,Y,Y,Y,Y,Y,Y,J,J,J,J,J,J,J,J,J] HT_ ?_
            refine pu_ 16 51 #[Y,Y,Y,Y,Y,Y,Y,Y,Y,Y,Y,Y,Y,Y,Y,Y,Y,J,J,J,J,J,J,J,J] HT_ ?_
            refine pu_ 17 52 #[Y,Y,Y,Y,Y,Y,Y,Y,Y,Y,Y,Y,Y,Y,Y,Y,Y,Y,J,J,J,J,J,J,J] HT_ ?_
            refine pu_ 18 53 #[Y,Y,Y,Y,Y,Y,Y,Y,Y,Y,Y,Y,Y,Y,Y,Y,Y,Y,Y,J,J,J,J,J,J] HT_ ?_
            refine pu_ 19 54 #[Y,Y,Y,Y,Y,Y,Y,Y,Y,Y,Y,Y,Y,Y,Y,Y,Y,Y,Y,Y,J,J,J,J,J] HT_ ?_
            refine pu_ 20 55 #[Y,Y,Y,Y,Y,Y,Y,Y,Y,Y,Y,Y,Y,Y,Y,Y,Y,Y,Y,Y,Y,J,J,J,J] HT_ ?_
            refine pu_ 21 56 #[Y,Y,Y,Y,Y,Y,Y,Y,Y,Y,Y,Y,Y,Y,Y,Y,Y,Y,Y,Y,Y,Y,J,J,J] HT_ ?_
            refine pu_ 22 57 #[Y,Y,Y,Y,Y,Y,Y,Y,Y,Y,Y,Y,Y,Y,Y,Y,Y,Y,Y,Y,Y,Y,Y,J,J] HT_ ?_
            refine pz_ 23 58 #[Y,Y,Y,Y,Y,Y,Y,Y,Y,Y,Y,Y,Y,Y,Y,Y,Y,Y,Y,Y,Y,Y,Y,Y,J] HT_ ?_
            refine pz_ 24 59 #[Y,Y,Y,Y,Y,Y,Y,Y,Y,Y,Y,Y,Y,Y,Y,Y,Y,Y,Y,Y,Y,Y,Y,Y,Y] HT_ ?_
            refine done_ (done_of HT_.out (z11_)) ?_
            try go_wp2
            go_roundg k2
            case measure => have := HJ1.out; have := HK2.out; omega
            case rel => exact ⟨(wrap64 (x30_2 + 1)), (z7_), H', ⟨z169_⟩, ⟨z12_⟩, ⟨z15_⟩⟩
          ·replace c23 := Bool.eq_false_iff.mpr c23
           subst c23
           rw [if_neg (show ¬ (false = true) by decide)] at H
           obtain rfl := Option.some.inj H
           have p258 : 0 ≤ (x30_2 : Int) := of_decide_eq_true (z2_)
           have q258 : x30_2 < (l0_1.length : Int) := of_decide_eq_true (z2_)
           obtain ⟨ad258, e258, hx258_0, hx258_1, hx258_2, hx258_3, hx258_4, hx258_5⟩ := at_T36 HR0_1.out x30_2 p258 q258
           cases e258
           replace hx258_0 := (HB.out.cell (World.block_lt_of_cell? w _ hx258_0)).trans hx258_0
           replace hx258_1 := (HB.out.cell (World.block_lt_of_cell? w _ hx258_1)).trans hx258_1
           replace hx258_2 := (HB.out.cell (World.block_lt_of_cell? w _ hx258_2)).trans hx258_2
           replace hx258_3 := (HB.out.cell (World.block_lt_of_cell? w _ hx258_3)).trans hx258_3
           replace hx258_4 := (HB.out.cell (World.block_lt_of_cell? w _ hx258_4)).trans hx258_4
           replace hx258_5 := (HB.out.cell (World.block_lt_of_cell? w _ hx258_5)).trans hx258_5
           replace p258 := eq_true p258
           replace q258 := eq_true q258
           try go_wp2_with (first | ((with_reducible refine gate_dst (N := 4) rfl ?_); (try (refine gate_guard (by rfl) ?_; dsimp only)); refine box_event ?hg (N := 4) ?hd (cs := #[.string (⟨#[]⟩ : ByteArray), .int .i64 0, .int .i64 0, .int .i64 0, .int .i64 0, .int .i64 0]) (t := 36) ?hr ?_; (case hd => rfl); (case hg => rfl); (case hr => first | (go_simp; done) | (go_simp; rfl)); intro gb259 hg w50 hbox hb; have n0_ := Aside0.mk (blk_below (g := gb256) (o := .cells #[.slice A0_0 l0_0.length c0_0, .slice (some ad258) l0_1.length c0_1] 25 (0, 0)) (z12_) hb); have n1_ := Aside0.mk (below_step (z13_) hb); have n2_ := Aside0.mk (hbox); have n3_ := Aside0.mk ((z31_ : w.heap.size ≤ gb259)); have n4_ := Aside0.mk ((z31_ : w.heap.size ≤ gb259)); have n5_ := Aside0.mk ((z47_ : gb256 ≠ gb259)); have n6_ := Aside0.mk ((z48_ : gb259 ≠ gb256)); clear BK256; clear HB; have BK256 := n0_; have HB := n1_; have BK259 := n2_; have GW259 := n3_; have GE259 := n4_; have NB256_259 := n5_; have NB259_256 := n6_; clear n0_ n1_ n2_ n3_ n4_ n5_ n6_; clear hb hbox hg; have hnb51 := NB259_256.out; have hnc51 := NB256_259.out; have hcz52_0 := bc0_ w50 BK259.out; have hcz52_1 := bc1_ w50 BK259.out; have hcz52_2 := bc2_ w50 BK259.out; have hcz52_3 := bc3_ w50 BK259.out; have hcz52_4 := bc4_ w50 BK259.out; have hcz52_5 := bc5_ w50 BK259.out; have hfz52_0 := blk_frozen BK259.out 0; have hfz52_1 := blk_frozen BK259.out 1; have hfz52_2 := blk_frozen BK259.out 2; have hfz52_3 := blk_frozen BK259.out 3; have hfz52_4 := blk_frozen BK259.out 4; have hfz52_5 := blk_frozen BK259.out 5))
           have n0_ : Aside0 (((((((w50.setCell ⟨gb259, 0, none⟩ (.string ((rd_T36 l0_1 x30_2).f0))).setCell ⟨gb259, 1, none⟩ (.int .i64 ((rd_T36 l0_1 x30_2).f1))).setCell ⟨gb259, 2, none⟩ (.int .i64 ((rd_T36 l0_1 x30_2).f2))).setCell ⟨gb259, 3, none⟩ (.int .i64 ((rd_T36 l0_1 x30_2).f3))).setCell ⟨gb259, 4, none⟩ (.int .i64 ((rd_T36 l0_1 x30_2).f4))).setCell ⟨gb259, 5, none⟩ (.int .i64 ((rd_T36 l0_1 x30_2).f5))).heap[gb256]? = some (.cells #[.slice A0_0 l0_0.length c0_0, .slice (some ad258) l0_1.length c0_1] 25 (0, 0))) := ⟨z10_⟩
           have n1_ : Aside0 (((((((w50.setCell ⟨gb259, 0, none⟩ (.string ((rd_T36 l0_1 x30_2).f0))).setCell ⟨gb259, 1, none⟩ (.int .i64 ((rd_T36 l0_1 x30_2).f1))).setCell ⟨gb259, 2, none⟩ (.int .i64 ((rd_T36 l0_1 x30_2).f2))).setCell ⟨gb259, 3, none⟩ (.int .i64 ((rd_T36 l0_1 x30_2).f3))).setCell ⟨gb259, 4, none⟩ (.int .i64 ((rd_T36 l0_1 x30_2).f4))).setCell ⟨gb259, 5, none⟩ (.int .i64 ((rd_T36 l0_1 x30_2).f5))).heap[gb259]? = some (.cells #[.string ((rd_T36 l0_1 x30_2).f0), .int .i64 ((rd_T36 l0_1 x30_2).f1), .int .i64 ((rd_T36 l0_1 x30_2).f2), .int .i64 ((rd_T36 l0_1 x30_2).f3), .int .i64 ((rd_T36 l0_1 x30_2).f4), .int .i64 ((rd_T36 l0_1 x30_2).f5)] 36 (0, 0))) := ⟨z5_⟩
           have n2_ : Aside0 (Below w.heap.size w ((((((w50.setCell ⟨gb259, 0, none⟩ (.string ((rd_T36 l0_1 x30_2).f0))).setCell ⟨gb259, 1, none⟩ (.int .i64 ((rd_T36 l0_1 x30_2).f1))).setCell ⟨gb259, 2, none⟩ (.int .i64 ((rd_T36 l0_1 x30_2).f2))).setCell ⟨gb259, 3, none⟩ (.int .i64 ((rd_T36 l0_1 x30_2).f3))).setCell ⟨gb259, 4, none⟩ (.int .i64 ((rd_T36 l0_1 x30_2).f4))).setCell ⟨gb259, 5, none⟩ (.int .i64 ((rd_T36 l0_1 x30_2).f5)))) := ⟨z15_⟩
           (try clear BK256)
           (try clear BK259)
           (try clear HB)
           generalize ((((((w50.setCell ⟨gb259, 0, none⟩ (.string ((rd_T36 l0_1 x30_2).f0))).setCell ⟨gb259, 1, none⟩ (.int .i64 ((rd_T36 l0_1 x30_2).f1))).setCell ⟨gb259, 2, none⟩ (.int .i64 ((rd_T36 l0_1 x30_2).f2))).setCell ⟨gb259, 3, none⟩ (.int .i64 ((rd_T36 l0_1 x30_2).f3))).setCell ⟨gb259, 4, none⟩ (.int .i64 ((rd_T36 l0_1 x30_2).f4))).setCell ⟨gb259, 5, none⟩ (.int .i64 ((rd_T36 l0_1 x30_2).f5))) = w53 at n0_ n1_ n2_ ⊢
           have BK256 := n0_
           have BK259 := n1_
           have HB := n2_
           clear n0_ n1_ n2_
           have n0_ := Aside0.mk (blk_drew BK256.out)
           have n1_ := Aside0.mk (blk_drew BK259.out)
           have n2_ := Aside0.mk (below_drew1 HB.out)
           clear BK256
           clear BK259
           clear HB
           have BK256 := n0_
           have BK259 := n1_
           have HB := n2_
           clear n0_ n1_ n2_
           refine start_ (n := 25) (S := fun w' => w'.cell? ⟨gb259, 0, none⟩ = some (.string ((rd_T36 l0_1 x30_2).f0)) ∧ w'.cell? ⟨gb259, 1, none⟩ = some (.int .i64 ((rd_T36 l0_1 x30_2).f1)) ∧ w'.cell? ⟨gb259, 2, none⟩ = some (.int .i64 ((rd_T36 l0_1 x30_2).f2)) ∧ w'.cell? ⟨gb259, 3, none⟩ = some (.int .i64 ((rd_T36 l0_1 x30_2).f3)) ∧ w'.cell? ⟨gb259, 4, none⟩ = some (.int .i64 ((rd_T36 l0_1 x30_2).f4)) ∧ w'.cell? ⟨gb259, 5, none⟩ = some (.int .i64 ((rd_T36 l0_1 x30_2).f5)) ∧ w'.cell? ⟨gb256, 0, none⟩ = some (.slice A0_0 l0_0.length c0_0) ∧ w'.cell? ⟨gb256, 1, none⟩ = some (.slice (some ad258) l0_1.length c0_1)) (ds := []) #[J,J,J,J,J,J,J,J,J,J,J,J,J,J,J,J,J,J,J,J,J,J,J,J,J] (z11_) rfl rfl ⟨(blk_cell BK259.out 0).trans rfl, (blk_cell BK259.out 1).trans rfl, (blk_cell BK259.out 2).trans rfl, (blk_cell BK259.out 3).trans rfl, (blk_cell BK259.out 4).trans rfl, (blk_cell BK259.out 5).trans rfl, (blk_cell BK256.out 0).trans rfl, (blk_cell BK256.out 1).trans rfl⟩ (fun hHeld => ?_); refine with_tabW impl_ValidNetwork.tab6 impl_ValidNetwork.bits6 (fun HT_ HW_ => ?_)
           generalize w53.drew = w54 at BK256 BK259 HB hHeld ⊢
           refine take_ (i := 0) (N := some 35) (v := ?_) (a' := ?_) #[Y,J,J,J,J,J,J,J,J,J,J,J,J,J,J,J,J,J,J,J,J,J,J,J,J] rfl rfl (take_ofW HT_.out HW_.out (z11_)) (fun _ _ _ h => h) (Or.inl ⟨by rfl, ?_⟩) hHeld ?_ ?_; rotate_left
           ·rintro w' ⟨s0, s1, s2, s3, s4, s5, s6, s7⟩; go_simp; with_reducible rfl
           rotate_left
           ·simp only [pU,pN,sB,sZ,sS,i64_w,i32_w]; rfl
           refine one_ (i := 1) (N := some 36) #[Y,Y,J,J,J,J,J,J,J,J,J,J,J,J,J,J,J,J,J,J,J,J,J,J,J] rfl rfl (one_of HT_.out (z11_)) (by decide) (fun K hK => ?_)
           refine goes_ Tryz.func45 (z11_) rfl #[.agg #[.string ((rd_T36 l0_1 x30_2).f0), .int .i64 ((rd_T36 l0_1 x30_2).f1), .int .i64 ((rd_T36 l0_1 x30_2).f2), .int .i64 ((rd_T36 l0_1 x30_2).f3), .int .i64 ((rd_T36 l0_1 x30_2).f4), .int .i64 ((rd_T36 l0_1 x30_2).f5)]] (by rfl) rfl rfl (z1_) ?_
           with_reducible refine (impl_ValidPipe_.calls ((rd_T36 l0_1 x30_2).f0) ((rd_T36 l0_1 x30_2).f1) ((rd_T36 l0_1 x30_2).f2) ((rd_T36 l0_1 x30_2).f3) ((rd_T36 l0_1 x30_2).f4) ((rd_T36 l0_1 x30_2).f5) true _ A20.out).mono ?_
           rintro e w55 ⟨rfl, hb⟩
           refine ⟨_, rfl, ?_⟩
           have n0_ := Aside0.mk (blk_below (g := gb256) (o := .cells #[.slice A0_0 l0_0.length c0_0, .slice (some ad258) l0_1.length c0_1] 25 (0, 0)) (z12_) hb)
           have n1_ := Aside0.mk (blk_below (g := gb259) (o := .cells #[.string ((rd_T36 l0_1 x30_2).f0), .int .i64 ((rd_T36 l0_1 x30_2).f1), .int .i64 ((rd_T36 l0_1 x30_2).f2), .int .i64 ((rd_T36 l0_1 x30_2).f3), .int .i64 ((rd_T36 l0_1 x30_2).f4), .int .i64 ((rd_T36 l0_1 x30_2).f5)] 36 (0, 0)) (z64_) hb)
           have n2_ := Aside0.mk (below_step (z15_) hb)
           clear BK256
           clear BK259
           clear HB
           have BK256 := n0_
           have BK259 := n1_
           have HB := n2_
           clear n0_ n1_ n2_
           (try clear hb)
           (try clear hb2)
           (try clear hk)
           (try clear hi)
           refine hK.out _ _ ⟨(blk_cell BK259.out 0).trans rfl, (blk_cell BK259.out 1).trans rfl, (blk_cell BK259.out 2).trans rfl, (blk_cell BK259.out 3).trans rfl, (blk_cell BK259.out 4).trans rfl, (blk_cell BK259.out 5).trans rfl, (blk_cell BK256.out 0).trans rfl, (blk_cell BK256.out 1).trans rfl⟩ (fun hHeld => ?_)
           clear hK K
           refine norm_ (a' := ?_) ?_ ?_
           rotate_left
           ·show Act.put _ (some 36) _ = _
            simp only [pU,pN,sB,sZ,sS,i64_w,i32_w]
            rfl
           refine pz_ 2 37 #[Y,Y,Y,J,J,J,J,J,J,J,J,J,J,J,J,J,J,J,J,J,J,J,J,J,J] HT_ ?_
           refine pz_ 3 38 #[Y,Y,Y,Y,J,J,J,J,J,J,J,J,J,J,J,J,J,J,J,J,J,J,J,J,J] HT_ ?_
           refine take_ (i := 4) (N := some 39) (v := ?_) (a' := ?_) #[Y,Y,Y,Y,Y,J,J,J,J,J,J,J,J,J,J,J,J,J,J,J,J,J,J,J,J] rfl rfl (take_ofW HT_.out HW_.out (z11_)) (fun _ _ _ h => h) (Or.inl ⟨by rfl, ?_⟩) hHeld ?_ ?_; rotate_left
           ·rintro w' ⟨s0, s1, s2, s3, s4, s5, s6, s7⟩; go_simp; with_reducible rfl
           rotate_left
           ·simp only [pU,pN,sB,sZ,sS,i64_w,i32_w]; rfl
           refine take_ (i := 5) (N := some 40) (v := ?_) (a' := ?_) #[Y,Y,Y,Y,Y,Y,J,J,J,J,J,J,J,J,J,J,J,J,J,J,J,J,J,J,J] rfl rfl (take_ofW HT_.out HW_.out (z11_)) (fun _ _ _ h => h) (Or.inl ⟨by rfl, ?_⟩) hHeld ?_ ?_; rotate_left
           ·rintro w' ⟨s0, s1, s2, s3, s4, s5, s6, s7⟩; go_simp; with_reducible rfl
           rotate_left
           ·simp only [pU,pN,sB,sZ,sS,i64_w,i32_w]; rfl
           refine one_ (i := 6) (N := some 41) #[Y,Y,Y,Y,Y,Y,Y,J,J,J,J,J,J,J,J,J,J,J,J,J,J,J,J,J,J] rfl rfl (one_of HT_.out (z11_)) (by decide) (fun K hK => ?_)
           refine goes_ Tryz.func48 (z11_) rfl #[.agg #[.slice A0_0 l0_0.length c0_0, .slice (some ad258) l0_1.length c0_1], .agg #[.string ((rd_T36 l0_1 x30_2).f0), .int .i64 ((rd_T36 l0_1 x30_2).f1), .int .i64 ((rd_T36 l0_1 x30_2).f2), .int .i64 ((rd_T36 l0_1 x30_2).f3), .int .i64 ((rd_T36 l0_1 x30_2).f4), .int .i64 ((rd_T36 l0_1 x30_2).f5)]] (by rfl) rfl rfl (z1_) ?_
           with_reducible refine (impl_Network_hasEnds.calls _ _ l0_0 _ _ l0_1 ((rd_T36 l0_1 x30_2).f0) ((rd_T36 l0_1 x30_2).f1) ((rd_T36 l0_1 x30_2).f2) ((rd_T36 l0_1 x30_2).f3) ((rd_T36 l0_1 x30_2).f4) ((rd_T36 l0_1 x30_2).f5) false _ ?side1 ?side2 ?side3 ?side4 A22.out).mono ?_
           (case side1 => repeat (first | exact (Kd.C_below HR0_0.out HB.out) | (with_reducible first|refine Kd.C_alloc ?_ _|refine Kd.C_drewN ?_ _|refine Kd.C_drew ?_)))
           (case side2 => exact HC0_0.out)
           (case side3 => repeat (first | exact (Kd.C_below HR0_1.out HB.out) | (with_reducible first|refine Kd.C_alloc ?_ _|refine Kd.C_drewN ?_ _|refine Kd.C_drew ?_)))
           (case side4 => exact HC0_1.out)
           rintro e w56 ⟨rfl, hb⟩
           refine ⟨_, rfl, ?_⟩
           have n0_ := Aside0.mk (blk_below (g := gb256) (o := .cells #[.slice A0_0 l0_0.length c0_0, .slice (some ad258) l0_1.length c0_1] 25 (0, 0)) (z12_) hb)
           have n1_ := Aside0.mk (blk_below (g := gb259) (o := .cells #[.string ((rd_T36 l0_1 x30_2).f0), .int .i64 ((rd_T36 l0_1 x30_2).f1), .int .i64 ((rd_T36 l0_1 x30_2).f2), .int .i64 ((rd_T36 l0_1 x30_2).f3), .int .i64 ((rd_T36 l0_1 x30_2).f4), .int .i64 ((rd_T36 l0_1 x30_2).f5)] 36 (0, 0)) (z64_) hb)
           have n2_ := Aside0.mk (below_step (z15_) hb)
           clear BK256
           clear BK259
           clear HB
           have BK256 := n0_
           have BK259 := n1_
           have HB := n2_
           clear n0_ n1_ n2_
           (try clear hb)
           (try clear hb2)
           (try clear hk)
           (try clear hi)
           refine hK.out _ _ ⟨(blk_cell BK259.out 0).trans rfl, (blk_cell BK259.out 1).trans rfl, (blk_cell BK259.out 2).trans rfl, (blk_cell BK259.out 3).trans rfl, (blk_cell BK259.out 4).trans rfl, (blk_cell BK259.out 5).trans rfl, (blk_cell BK256.out 0).trans rfl, (blk_cell BK256.out 1).trans rfl⟩ (fun hHeld => ?_)
           clear hK K
           refine norm_ (a' := ?_) ?_ ?_
           rotate_left
           ·show Act.put _ (some 41) _ = _
            simp only [pU,pN,sB,sZ,sS,i64_w,i32_w]
            rfl
           refine pz_ 7 42 #[Y,Y,Y,Y,Y,Y,Y,Y,J,J,J,J,J,J,J,J,J,J,J,J,J,J,J,J,J] HT_ ?_
           refine pz_ 8 43 #[Y,Y,Y,Y,Y,Y,Y,Y,Y,J,J,J,J,J,J,J,J,J,J,J,J,J,J,J,J] HT_ ?_
           refine pz_ 9 44 #[Y,Y,Y,Y,Y,Y,Y,Y,Y,Y,J,J,J,J,J,J,J,J,J,J,J,J,J,J,J] HT_ ?_
           refine pu_ 10 45 #[Y,Y,Y,Y,Y,Y,Y,Y,Y,Y,Y,J,J,J,J,J,J,J,J,J,J,J,J,J,J] HT_ ?_
           refine pu_ 11 46 #[Y,Y,Y,Y,Y,Y,Y,Y,Y,Y,Y,Y,J,J,J,J,J,J,J,J,J,J,J,J,J] HT_ ?_
           refine pu_ 12 47 #[Y,Y,Y,Y,Y,Y,Y,Y,Y,Y,Y,Y,Y,J,J,J,J,J,J,J,J,J,J,J,J] HT_ ?_
           refine pu_ 13 48 #[Y,Y,Y,Y,Y,Y,Y,Y,Y,Y,Y,Y,Y,Y,J,J,J,J,J,J,J,J,J,J,J] HT_ ?_
           refine pu_ 14 49 #[Y,Y,Y,Y,Y,Y,Y,Y,Y,Y,Y,Y,Y,Y,Y,J,J,J,J,J,J,J,J,J,J] HT_ ?_
           refine pu_ 15 50 #[Y,Y,Y,Y,Y,Y,Y,Y,Y,Y,Y,Y,Y,Y,Y,Y,J,J,J,J,J,J,J,J,J] HT_ ?_
           refine pu_ 16 51 #[Y,Y,Y,Y,Y,Y,Y,Y,Y,Y,Y,Y,Y,Y,Y,Y,Y,J,J,J,J,J,J,J,J] HT_ ?_
           refine pu_ 17 52 #[Y,Y,Y,Y,Y,Y,Y,Y,Y,Y,Y,Y,Y,Y,Y,Y,Y,Y,J,J,J,J,J,J,J] HT_ ?_
           refine pu_ 18 53 #[Y,Y,Y,Y,Y,Y,Y,Y,Y,Y,Y,Y,Y,Y,Y,Y,Y,Y,Y,J,J,J,J,J,J] HT_ ?_
           refine pu_ 19 54 #[Y,Y,Y,Y,Y,Y,Y,Y,Y,Y,Y,Y,Y,Y,Y,Y,Y,Y,Y,Y,J,J,J,J,J] HT_ ?_
           refine pu_ 20 55 #[Y,Y,Y,Y,Y,Y,Y,Y,Y,Y,Y,Y,Y,Y,Y,Y,Y,Y,Y,Y,Y,J,J,J,J] HT_ ?_
           refine pu_ 21 56 #[Y,Y,Y,Y,Y,Y,Y,Y,Y,Y,Y,Y,Y,Y,Y,Y,Y,Y,Y,Y,Y,Y,J,J,J] HT_ ?_
           refine pu_ 22 57 #[Y,Y,Y,Y,Y,Y,Y,Y,Y,Y,Y,Y,Y,Y,Y,Y,Y,Y,Y,Y,Y,Y,Y,J,J] HT_ ?_
           refine pu_ 23 58 #[Y,Y,Y,Y,Y,Y,Y,Y,Y,Y,Y,Y,Y,Y,Y,Y,Y,Y,Y,Y,Y,Y,Y,Y,J] HT_ ?_
           refine pz_ 24 59 #[Y,Y,Y,Y,Y,Y,Y,Y,Y,Y,Y,Y,Y,Y,Y,Y,Y,Y,Y,Y,Y,Y,Y,Y,Y] HT_ ?_
           refine done_ (done_of HT_.out (z11_)) ?_
           try go_wp2
           go_ret
           exact ⟨z6_, z15_⟩
         ·replace c21 := Bool.eq_false_iff.mpr c21
          subst c21
          rw [if_neg (show ¬ (false = true) by decide)] at H
          obtain rfl := Option.some.inj H
          have p258 : 0 ≤ (x30_2 : Int) := of_decide_eq_true (z2_)
          have q258 : x30_2 < (l0_1.length : Int) := of_decide_eq_true (z2_)
          obtain ⟨ad258, e258, hx258_0, hx258_1, hx258_2, hx258_3, hx258_4, hx258_5⟩ := at_T36 HR0_1.out x30_2 p258 q258
          cases e258
          replace hx258_0 := (HB.out.cell (World.block_lt_of_cell? w _ hx258_0)).trans hx258_0
          replace hx258_1 := (HB.out.cell (World.block_lt_of_cell? w _ hx258_1)).trans hx258_1
          replace hx258_2 := (HB.out.cell (World.block_lt_of_cell? w _ hx258_2)).trans hx258_2
          replace hx258_3 := (HB.out.cell (World.block_lt_of_cell? w _ hx258_3)).trans hx258_3
          replace hx258_4 := (HB.out.cell (World.block_lt_of_cell? w _ hx258_4)).trans hx258_4
          replace hx258_5 := (HB.out.cell (World.block_lt_of_cell? w _ hx258_5)).trans hx258_5
          replace p258 := eq_true p258
          replace q258 := eq_true q258
          try go_wp2_with (first | ((with_reducible refine gate_dst (N := 4) rfl ?_); (try (refine gate_guard (by rfl) ?_; dsimp only)); refine box_event ?hg (N := 4) ?hd (cs := #[.string (⟨#[]⟩ : ByteArray), .int .i64 0, .int .i64 0, .int .i64 0, .int .i64 0, .int .i64 0]) (t := 36) ?hr ?_; (case hd => rfl); (case hg => rfl); (case hr => first | (go_simp; done) | (go_simp; rfl)); intro gb259 hg w57 hbox hb; have n0_ := Aside0.mk (blk_below (g := gb256) (o := .cells #[.slice A0_0 l0_0.length c0_0, .slice (some ad258) l0_1.length c0_1] 25 (0, 0)) (z12_) hb); have n1_ := Aside0.mk (below_step (z13_) hb); have n2_ := Aside0.mk (hbox); have n3_ := Aside0.mk ((z31_ : w.heap.size ≤ gb259)); have n4_ := Aside0.mk ((z31_ : w.heap.size ≤ gb259)); have n5_ := Aside0.mk ((z47_ : gb256 ≠ gb259)); have n6_ := Aside0.mk ((z48_ : gb259 ≠ gb256)); clear BK256; clear HB; have BK256 := n0_; have HB := n1_; have BK259 := n2_; have GW259 := n3_; have GE259 := n4_; have NB256_259 := n5_; have NB259_256 := n6_; clear n0_ n1_ n2_ n3_ n4_ n5_ n6_; clear hb hbox hg; have hnb58 := NB259_256.out; have hnc58 := NB256_259.out; have hcz59_0 := bc0_ w57 BK259.out; have hcz59_1 := bc1_ w57 BK259.out; have hcz59_2 := bc2_ w57 BK259.out; have hcz59_3 := bc3_ w57 BK259.out; have hcz59_4 := bc4_ w57 BK259.out; have hcz59_5 := bc5_ w57 BK259.out; have hfz59_0 := blk_frozen BK259.out 0; have hfz59_1 := blk_frozen BK259.out 1; have hfz59_2 := blk_frozen BK259.out 2; have hfz59_3 := blk_frozen BK259.out 3; have hfz59_4 := blk_frozen BK259.out 4; have hfz59_5 := blk_frozen BK259.out 5))
          have n0_ : Aside0 (((((((w57.setCell ⟨gb259, 0, none⟩ (.string ((rd_T36 l0_1 x30_2).f0))).setCell ⟨gb259, 1, none⟩ (.int .i64 ((rd_T36 l0_1 x30_2).f1))).setCell ⟨gb259, 2, none⟩ (.int .i64 ((rd_T36 l0_1 x30_2).f2))).setCell ⟨gb259, 3, none⟩ (.int .i64 ((rd_T36 l0_1 x30_2).f3))).setCell ⟨gb259, 4, none⟩ (.int .i64 ((rd_T36 l0_1 x30_2).f4))).setCell ⟨gb259, 5, none⟩ (.int .i64 ((rd_T36 l0_1 x30_2).f5))).heap[gb256]? = some (.cells #[.slice A0_0 l0_0.length c0_0, .slice (some ad258) l0_1.length c0_1] 25 (0, 0))) := ⟨z10_⟩
          have n1_ : Aside0 (((((((w57.setCell ⟨gb259, 0, none⟩ (.string ((rd_T36 l0_1 x30_2).f0))).setCell ⟨gb259, 1, none⟩ (.int .i64 ((rd_T36 l0_1 x30_2).f1))).setCell ⟨gb259, 2, none⟩ (.int .i64 ((rd_T36 l0_1 x30_2).f2))).setCell ⟨gb259, 3, none⟩ (.int .i64 ((rd_T36 l0_1 x30_2).f3))).setCell ⟨gb259, 4, none⟩ (.int .i64 ((rd_T36 l0_1 x30_2).f4))).setCell ⟨gb259, 5, none⟩ (.int .i64 ((rd_T36 l0_1 x30_2).f5))).heap[gb259]? = some (.cells #[.string ((rd_T36 l0_1 x30_2).f0), .int .i64 ((rd_T36 l0_1 x30_2).f1), .int .i64 ((rd_T36 l0_1 x30_2).f2), .int .i64 ((rd_T36 l0_1 x30_2).f3), .int .i64 ((rd_T36 l0_1 x30_2).f4), .int .i64 ((rd_T36 l0_1 x30_2).f5)] 36 (0, 0))) := ⟨z5_⟩
          have n2_ : Aside0 (Below w.heap.size w ((((((w57.setCell ⟨gb259, 0, none⟩ (.string ((rd_T36 l0_1 x30_2).f0))).setCell ⟨gb259, 1, none⟩ (.int .i64 ((rd_T36 l0_1 x30_2).f1))).setCell ⟨gb259, 2, none⟩ (.int .i64 ((rd_T36 l0_1 x30_2).f2))).setCell ⟨gb259, 3, none⟩ (.int .i64 ((rd_T36 l0_1 x30_2).f3))).setCell ⟨gb259, 4, none⟩ (.int .i64 ((rd_T36 l0_1 x30_2).f4))).setCell ⟨gb259, 5, none⟩ (.int .i64 ((rd_T36 l0_1 x30_2).f5)))) := ⟨z15_⟩
          (try clear BK256)
          (try clear BK259)
          (try clear HB)
          generalize ((((((w57.setCell ⟨gb259, 0, none⟩ (.string ((rd_T36 l0_1 x30_2).f0))).setCell ⟨gb259, 1, none⟩ (.int .i64 ((rd_T36 l0_1 x30_2).f1))).setCell ⟨gb259, 2, none⟩ (.int .i64 ((rd_T36 l0_1 x30_2).f2))).setCell ⟨gb259, 3, none⟩ (.int .i64 ((rd_T36 l0_1 x30_2).f3))).setCell ⟨gb259, 4, none⟩ (.int .i64 ((rd_T36 l0_1 x30_2).f4))).setCell ⟨gb259, 5, none⟩ (.int .i64 ((rd_T36 l0_1 x30_2).f5))) = w60 at n0_ n1_ n2_ ⊢
          have BK256 := n0_
          have BK259 := n1_
          have HB := n2_
          clear n0_ n1_ n2_
          have n0_ := Aside0.mk (blk_drew BK256.out)
          have n1_ := Aside0.mk (blk_drew BK259.out)
          have n2_ := Aside0.mk (below_drew1 HB.out)
          clear BK256
          clear BK259
          clear HB
          have BK256 := n0_
          have BK259 := n1_
          have HB := n2_
          clear n0_ n1_ n2_
          refine start_ (n := 25) (S := fun w' => w'.cell? ⟨gb259, 0, none⟩ = some (.string ((rd_T36 l0_1 x30_2).f0)) ∧ w'.cell? ⟨gb259, 1, none⟩ = some (.int .i64 ((rd_T36 l0_1 x30_2).f1)) ∧ w'.cell? ⟨gb259, 2, none⟩ = some (.int .i64 ((rd_T36 l0_1 x30_2).f2)) ∧ w'.cell? ⟨gb259, 3, none⟩ = some (.int .i64 ((rd_T36 l0_1 x30_2).f3)) ∧ w'.cell? ⟨gb259, 4, none⟩ = some (.int .i64 ((rd_T36 l0_1 x30_2).f4)) ∧ w'.cell? ⟨gb259, 5, none⟩ = some (.int .i64 ((rd_T36 l0_1 x30_2).f5))) (ds := []) #[J,J,J,J,J,J,J,J,J,J,J,J,J,J,J,J,J,J,J,J,J,J,J,J,J] (z11_) rfl rfl ⟨(blk_cell BK259.out 0).trans rfl, (blk_cell BK259.out 1).trans rfl, (blk_cell BK259.out 2).trans rfl, (blk_cell BK259.out 3).trans rfl, (blk_cell BK259.out 4).trans rfl, (blk_cell BK259.out 5).trans rfl⟩ (fun hHeld => ?_); refine with_tabW impl_ValidNetwork.tab6 impl_ValidNetwork.bits6 (fun HT_ HW_ => ?_)
          generalize w60.drew = w61 at BK256 BK259 HB hHeld ⊢
          refine take_ (i := 0) (N := some 35) (v := ?_) (a' := ?_) #[Y,J,J,J,J,J,J,J,J,J,J,J,J,J,J,J,J,J,J,J,J,J,J,J,J] rfl rfl (take_ofW HT_.out HW_.out (z11_)) (fun _ _ _ h => h) (Or.inl ⟨by rfl, ?_⟩) hHeld ?_ ?_; rotate_left
          ·rintro w' ⟨s0, s1, s2, s3, s4, s5⟩; go_simp; with_reducible rfl
          rotate_left
          ·simp only [pU,pN,sB,sZ,sS,i64_w,i32_w]; rfl
          refine one_ (i := 1) (N := some 36) #[Y,Y,J,J,J,J,J,J,J,J,J,J,J,J,J,J,J,J,J,J,J,J,J,J,J] rfl rfl (one_of HT_.out (z11_)) (by decide) (fun K hK => ?_)
          refine goes_ Tryz.func45 (z11_) rfl #[.agg #[.string ((rd_T36 l0_1 x30_2).f0), .int .i64 ((rd_T36 l0_1 x30_2).f1), .int .i64 ((rd_T36 l0_1 x30_2).f2), .int .i64 ((rd_T36 l0_1 x30_2).f3), .int .i64 ((rd_T36 l0_1 x30_2).f4), .int .i64 ((rd_T36 l0_1 x30_2).f5)]] (by rfl) rfl rfl (z1_) ?_
          with_reducible refine (impl_ValidPipe_.calls ((rd_T36 l0_1 x30_2).f0) ((rd_T36 l0_1 x30_2).f1) ((rd_T36 l0_1 x30_2).f2) ((rd_T36 l0_1 x30_2).f3) ((rd_T36 l0_1 x30_2).f4) ((rd_T36 l0_1 x30_2).f5) false _ A20.out).mono ?_
          rintro e w62 ⟨rfl, hb⟩
          refine ⟨_, rfl, ?_⟩
          have n0_ := Aside0.mk (blk_below (g := gb256) (o := .cells #[.slice A0_0 l0_0.length c0_0, .slice (some ad258) l0_1.length c0_1] 25 (0, 0)) (z12_) hb)
          have n1_ := Aside0.mk (blk_below (g := gb259) (o := .cells #[.string ((rd_T36 l0_1 x30_2).f0), .int .i64 ((rd_T36 l0_1 x30_2).f1), .int .i64 ((rd_T36 l0_1 x30_2).f2), .int .i64 ((rd_T36 l0_1 x30_2).f3), .int .i64 ((rd_T36 l0_1 x30_2).f4), .int .i64 ((rd_T36 l0_1 x30_2).f5)] 36 (0, 0)) (z64_) hb)
          have n2_ := Aside0.mk (below_step (z15_) hb)
          clear BK256
          clear BK259
          clear HB
          have BK256 := n0_
          have BK259 := n1_
          have HB := n2_
          clear n0_ n1_ n2_
          (try clear hb)
          (try clear hb2)
          (try clear hk)
          (try clear hi)
          refine hK.out _ _ ⟨(blk_cell BK259.out 0).trans rfl, (blk_cell BK259.out 1).trans rfl, (blk_cell BK259.out 2).trans rfl, (blk_cell BK259.out 3).trans rfl, (blk_cell BK259.out 4).trans rfl, (blk_cell BK259.out 5).trans rfl⟩ (fun hHeld => ?_)
          clear hK K
          refine norm_ (a' := ?_) ?_ ?_
          rotate_left
          ·show Act.put _ (some 36) _ = _
           simp only [pU,pN,sB,sZ,sS,i64_w,i32_w]
           rfl
          refine pz_ 2 37 #[Y,Y,Y,J,J,J,J,J,J,J,J,J,J,J,J,J,J,J,J,J,J,J,J,J,J] HT_ ?_
          refine pz_ 3 38 #[Y,Y,Y,Y,J,J,J,J,J,J,J,J,J,J,J,J,J,J,J,J,J,J,J,J,J] HT_ ?_
          refine pu_ 4 39 #[Y,Y,Y,Y,Y,J,J,J,J,J,J,J,J,J,J,J,J,J,J,J,J,J,J,J,J] HT_ ?_
          refine pu_ 5 40 #[Y,Y,Y,Y,Y,Y,J,J,J,J,J,J,J,J,J,J,J,J,J,J,J,J,J,J,J] HT_ ?_
          refine pu_ 6 41 #[Y,Y,Y,Y,Y,Y,Y,J,J,J,J,J,J,J,J,J,J,J,J,J,J,J,J,J,J] HT_ ?_
          refine pu_ 7 42 #[Y,Y,Y,Y,Y,Y,Y,Y,J,J,J,J,J,J,J,J,J,J,J,J,J,J,J,J,J] HT_ ?_
          refine pz_ 8 43 #[Y,Y,Y,Y,Y,Y,Y,Y,Y,J,J,J,J,J,J,J,J,J,J,J,J,J,J,J,J] HT_ ?_
          refine pz_ 9 44 #[Y,Y,Y,Y,Y,Y,Y,Y,Y,Y,J,J,J,J,J,J,J,J,J,J,J,J,J,J,J] HT_ ?_
          refine pu_ 10 45 #[Y,Y,Y,Y,Y,Y,Y,Y,Y,Y,Y,J,J,J,J,J,J,J,J,J,J,J,J,J,J] HT_ ?_
          refine pu_ 11 46 #[Y,Y,Y,Y,Y,Y,Y,Y,Y,Y,Y,Y,J,J,J,J,J,J,J,J,J,J,J,J,J] HT_ ?_
          refine pu_ 12 47 #[Y,Y,Y,Y,Y,Y,Y,Y,Y,Y,Y,Y,Y,J,J,J,J,J,J,J,J,J,J,J,J] HT_ ?_
          refine pu_ 13 48 #[Y,Y,Y,Y,Y,Y,Y,Y,Y,Y,Y,Y,Y,Y,J,J,J,J,J,J,J,J,J,J,J] HT_ ?_
          refine pu_ 14 49 #[Y,Y,Y,Y,Y,Y,Y,Y,Y,Y,Y,Y,Y,Y,Y,J,J,J,J,J,J,J,J,J,J] HT_ ?_
          refine pu_ 15 50 #[Y,Y,Y,Y,Y,Y,Y,Y,Y,Y,Y,Y,Y,Y,Y,Y,J,J,J,J,J,J,J,J,J] HT_ ?_
          refine pu_ 16 51 #[Y,Y,Y,Y,Y,Y,Y,Y,Y,Y,Y,Y,Y,Y,Y,Y,Y,J,J,J,J,J,J,J,J] HT_ ?_
          refine pu_ 17 52 #[Y,Y,Y,Y,Y,Y,Y,Y,Y,Y,Y,Y,Y,Y,Y,Y,Y,Y,J,J,J,J,J,J,J] HT_ ?_
          refine pu_ 18 53 #[Y,Y,Y,Y,Y,Y,Y,Y,Y,Y,Y,Y,Y,Y,Y,Y,Y,Y,Y,J,J,J,J,J,J] HT_ ?_
          refine pu_ 19 54 #[Y,Y,Y,Y,Y,Y,Y,Y,Y,Y,Y,Y,Y,Y,Y,Y,Y,Y,Y,Y,J,J,J,J,J] HT_ ?_
          refine pu_ 20 55 #[Y,Y,Y,Y,Y,Y,Y,Y,Y,Y,Y,Y,Y,Y,Y,Y,Y,Y,Y,Y,Y,J,J,J,J] HT_ ?_
          refine pu_ 21 56 #[Y,Y,Y,Y,Y,Y,Y,Y,Y,Y,Y,Y,Y,Y,Y,Y,Y,Y,Y,Y,Y,Y,J,J,J] HT_ ?_
          refine pu_ 22 57 #[Y,Y,Y,Y,Y,Y,Y,Y,Y,Y,Y,Y,Y,Y,Y,Y,Y,Y,Y,Y,Y,Y,Y,J,J] HT_ ?_
          refine pu_ 23 58 #[Y,Y,Y,Y,Y,Y,Y,Y,Y,Y,Y,Y,Y,Y,Y,Y,Y,Y,Y,Y,Y,Y,Y,Y,J] HT_ ?_
          refine pz_ 24 59 #[Y,Y,Y,Y,Y,Y,Y,Y,Y,Y,Y,Y,Y,Y,Y,Y,Y,Y,Y,Y,Y,Y,Y,Y,Y] HT_ ?_
          refine done_ (done_of HT_.out (z11_)) ?_
          try go_wp2
          go_ret
          exact ⟨z6_, z15_⟩
        ·rw [if_neg c19] at H
         exact absurd H (by simp)
       ·rw [if_neg c18] at H
        exact absurd H (by simp)
      ·rw [if_neg c17] at H
       have c17b0 := decide_eq_false c17
       clear c17
       obtain rfl := Option.some.inj H
       go_wp2
       go_ret
       exact ⟨z6_, z13_⟩

end Go.Proofs.YtabgkdejpkpejaaGreatDoor.PFnExactReadNetwork
