-- Printed by a program of this session (wip/hprint.sh: the kit's print with hand-proved contracts put in); not by print.sh itself.
import Derived.Test.YtabgkdejpkpejaaGreatDoorPFnExactReadNetworkx0
import Derived.Test.YtabgkdejpkpejaaGreatDoorPFnExactReadNetworkx4
import Derived.Test.YtabgkdejpkpejaaGreatDoorPFnExactReadNetworkx10
import Derived.Test.YtabgkdejpkpejaaGreatDoorPFnExactReadNetworkx11
import Derived.Test.YtabgkdejpkpejaaGreatDoorPFnExactReadNetworkx12
import Derived.Test.YtabgkdejpkpejaaGreatDoorPFnExactReadNetworkx14
namespace Go.Proofs.YtabgkdejpkpejaaGreatDoor.PFnExactReadNetwork
open Go.RowKit Go.Proofs.YtabgkdejpkpejaaGreatDoorW.PrintWords Go.Proofs.YtabgkdejpkpejaaGreatDoorW.PrintLast Go.Proofs.YtabgkdejpkpejaaGreatDoorW.PrintMore Go.Proofs.YtabgkdejpkpejaaGreatDoorM
attribute [local go_sem] max2_int min2_int max_two min_two max_three min_three max_four min_four   -- for this text's walks alone
set_option linter.unusedVariables false
set_option linter.unusedSimpArgs false

/-! ### laws_FnExactReadNetwork: function 3 -/
mutual
def laws_FnExactReadNetwork.j0 : Nat → ByteArray → Option (Bool)
 | 0, _ => none
 | k + 1, x0 => (spec_ReadNetwork.f k x0).bind fun bt339 => ((impl_ReadNetwork.f k x0).bind fun bt347 => ((laws_eqNetwork.f bt347.1 bt347.2.1 bt339.1 bt339.2.1).bind fun t355 => (if t355 = true then (laws_FnExactReadNetwork.j1 k x0 bt339.2.2 (bt347.2.2 != bt339.2.2) bt339.1 bt339.2.1 bt347.1 bt347.2.1) else (laws_FnExactReadNetwork.j1 k x0 bt339.2.2 true bt339.1 bt339.2.1 bt347.1 bt347.2.1))))
def laws_FnExactReadNetwork.j1 : Nat → ByteArray → Bool → Bool → List Int → List (S36) → List Int → List (S36) → Option (Bool)
 | 0, _, _, _, _, _, _, _ => none
 | k + 1, x0, x4, x32, x347000, x347001, x355000, x355001 => if x32 = true then (some false) else (laws_FnExactReadNetwork.j2 k x0 x4 x347000 x347001 x355000 x355001)
def laws_FnExactReadNetwork.j2 : Nat → ByteArray → Bool → List Int → List (S36) → List Int → List (S36) → Option (Bool)
 | 0, _, _, _, _, _, _ => none
 | k + 1, x0, x4, x347000, x347001, x355000, x355001 => (laws_markNetwork.f x355000 x355001 1).bind fun bt356 => ((laws_heldNetwork.f bt356.2.1 bt356.2.2 1).bind fun t359 => (if t359 < 0 then (some false) else (laws_FnExactReadNetwork.j3 k x0 x4 bt356.1 t359 x347000 x347001 bt356.2.1 bt356.2.2)))
def laws_FnExactReadNetwork.j3 : Nat → ByteArray → Bool → Int → Int → List Int → List (S36) → List Int → List (S36) → Option (Bool)
 | 0, _, _, _, _, _, _, _, _ => none
 | k + 1, x0, x4, x7, x8, x347000, x347001, x355000, x355001 => if x8 = x7 then (laws_FnExactReadNetwork.j4 k x0 x4 x7 x347000 x347001 x355000 x355001) else (some false)
def laws_FnExactReadNetwork.j4 : Nat → ByteArray → Bool → Int → List Int → List (S36) → List Int → List (S36) → Option (Bool)
 | 0, _, _, _, _, _, _, _ => none
 | k + 1, x0, x4, x7, x347000, x347001, x355000, x355001 => (impl_ReadNetwork.f k x0).bind fun bt360 => ((laws_eqNetwork.f bt360.1 bt360.2.1 x347000 x347001).bind fun t368 => (if t368 = true then (laws_FnExactReadNetwork.j5 k x7 (bt360.2.2 != x4) x355000 x355001) else (laws_FnExactReadNetwork.j5 k x7 true x355000 x355001)))
def laws_FnExactReadNetwork.j5 : Nat → Int → Bool → List Int → List (S36) → Option (Bool)
 | 0, _, _, _, _ => none
 | k + 1, x7, x57, x355000, x355001 => if x57 = true then (some false) else (laws_FnExactReadNetwork.j6 k x7 x355000 x355001)
def laws_FnExactReadNetwork.j6 : Nat → Int → List Int → List (S36) → Option (Bool)
 | 0, _, _, _ => none
 | k + 1, x7, x355000, x355001 => (laws_heldNetwork.f x355000 x355001 1).bind fun t369 => (if t369 < 0 then (some false) else (if t369 = x7 then (some true) else (some false)))
end
def laws_FnExactReadNetwork.f (k : Nat) (a0 : ByteArray) : Option (Bool) := if (a0.size : Int) > 1048576 then (some true) else (laws_FnExactReadNetwork.j0 k a0)
theorem laws_FnExactReadNetwork.mono_l : ∀ k, (∀ y0, LeO (laws_FnExactReadNetwork.j0 k y0) (laws_FnExactReadNetwork.j0 (k + 1) y0)) ∧ (∀ y0 y1 y2 y3 y4 y5 y6, LeO (laws_FnExactReadNetwork.j1 k y0 y1 y2 y3 y4 y5 y6) (laws_FnExactReadNetwork.j1 (k + 1) y0 y1 y2 y3 y4 y5 y6)) ∧ (∀ y0 y1 y2 y3 y4 y5, LeO (laws_FnExactReadNetwork.j2 k y0 y1 y2 y3 y4 y5) (laws_FnExactReadNetwork.j2 (k + 1) y0 y1 y2 y3 y4 y5)) ∧ (∀ y0 y1 y2 y3 y4 y5 y6 y7, LeO (laws_FnExactReadNetwork.j3 k y0 y1 y2 y3 y4 y5 y6 y7) (laws_FnExactReadNetwork.j3 (k + 1) y0 y1 y2 y3 y4 y5 y6 y7)) ∧ (∀ y0 y1 y2 y3 y4 y5 y6, LeO (laws_FnExactReadNetwork.j4 k y0 y1 y2 y3 y4 y5 y6) (laws_FnExactReadNetwork.j4 (k + 1) y0 y1 y2 y3 y4 y5 y6)) ∧ (∀ y0 y1 y2 y3, LeO (laws_FnExactReadNetwork.j5 k y0 y1 y2 y3) (laws_FnExactReadNetwork.j5 (k + 1) y0 y1 y2 y3)) ∧ (∀ y0 y1 y2, LeO (laws_FnExactReadNetwork.j6 k y0 y1 y2) (laws_FnExactReadNetwork.j6 (k + 1) y0 y1 y2))
 | 0 => ⟨fun _ r h => by simp [laws_FnExactReadNetwork.j0] at h, fun _ _ _ _ _ _ _ r h => by simp [laws_FnExactReadNetwork.j1] at h, fun _ _ _ _ _ _ r h => by simp [laws_FnExactReadNetwork.j2] at h, fun _ _ _ _ _ _ _ _ r h => by simp [laws_FnExactReadNetwork.j3] at h, fun _ _ _ _ _ _ _ r h => by simp [laws_FnExactReadNetwork.j4] at h, fun _ _ _ _ r h => by simp [laws_FnExactReadNetwork.j5] at h, fun _ _ _ r h => by simp [laws_FnExactReadNetwork.j6] at h⟩
 | k + 1 => by
  obtain ⟨ih0, ih1, ih2, ih3, ih4, ih5, ih6⟩ := laws_FnExactReadNetwork.mono_l k
  refine ⟨?_, ?_, ?_, ?_, ?_, ?_, ?_⟩
  ·intro y0
   unfold laws_FnExactReadNetwork.j0
   repeat' first|(with_reducible first|exact ih0 _|exact ih1 _ _ _ _ _ _ _|exact ih2 _ _ _ _ _ _|exact ih3 _ _ _ _ _ _ _ _|exact ih4 _ _ _ _ _ _ _|exact ih5 _ _ _ _|exact ih6 _ _ _|exact impl_ReadNetwork.mono _ _|exact spec_ReadNetwork.mono _ _|exact LeO.refl _|exact LeO.none _|refine LeO.ite ?_ ?_|refine LeO.bind ?_ (fun _ => ?_))|exact ih0 _|exact ih1 _ _ _ _ _ _ _|exact ih2 _ _ _ _ _ _|exact ih3 _ _ _ _ _ _ _ _|exact ih4 _ _ _ _ _ _ _|exact ih5 _ _ _ _|exact ih6 _ _ _|exact impl_ReadNetwork.mono _ _|exact spec_ReadNetwork.mono _ _|exact LeO.none _|refine LeO.ite ?_ ?_|refine LeO.bind ?_ (fun _ => ?_)
  ·intro y0 y1 y2 y3 y4 y5 y6
   unfold laws_FnExactReadNetwork.j1
   repeat' first|(with_reducible first|exact ih0 _|exact ih1 _ _ _ _ _ _ _|exact ih2 _ _ _ _ _ _|exact ih3 _ _ _ _ _ _ _ _|exact ih4 _ _ _ _ _ _ _|exact ih5 _ _ _ _|exact ih6 _ _ _|exact impl_ReadNetwork.mono _ _|exact spec_ReadNetwork.mono _ _|exact LeO.refl _|exact LeO.none _|refine LeO.ite ?_ ?_|refine LeO.bind ?_ (fun _ => ?_))|exact ih0 _|exact ih1 _ _ _ _ _ _ _|exact ih2 _ _ _ _ _ _|exact ih3 _ _ _ _ _ _ _ _|exact ih4 _ _ _ _ _ _ _|exact ih5 _ _ _ _|exact ih6 _ _ _|exact impl_ReadNetwork.mono _ _|exact spec_ReadNetwork.mono _ _|exact LeO.none _|refine LeO.ite ?_ ?_|refine LeO.bind ?_ (fun _ => ?_)
  ·intro y0 y1 y2 y3 y4 y5
   unfold laws_FnExactReadNetwork.j2
   repeat' first|(with_reducible first|exact ih0 _|exact ih1 _ _ _ _ _ _ _|exact ih2 _ _ _ _ _ _|exact ih3 _ _ _ _ _ _ _ _|exact ih4 _ _ _ _ _ _ _|exact ih5 _ _ _ _|exact ih6 _ _ _|exact impl_ReadNetwork.mono _ _|exact spec_ReadNetwork.mono _ _|exact LeO.refl _|exact LeO.none _|refine LeO.ite ?_ ?_|refine LeO.bind ?_ (fun _ => ?_))|exact ih0 _|exact ih1 _ _ _ _ _ _ _|exact ih2 _ _ _ _ _ _|exact ih3 _ _ _ _ _ _ _ _|exact ih4 _ _ _ _ _ _ _|exact ih5 _ _ _ _|exact ih6 _ _ _|exact impl_ReadNetwork.mono _ _|exact spec_ReadNetwork.mono _ _|exact LeO.none _|refine LeO.ite ?_ ?_|refine LeO.bind ?_ (fun _ => ?_)
  ·intro y0 y1 y2 y3 y4 y5 y6 y7
   unfold laws_FnExactReadNetwork.j3
   repeat' first|(with_reducible first|exact ih0 _|exact ih1 _ _ _ _ _ _ _|exact ih2 _ _ _ _ _ _|exact ih3 _ _ _ _ _ _ _ _|exact ih4 _ _ _ _ _ _ _|exact ih5 _ _ _ _|exact ih6 _ _ _|exact impl_ReadNetwork.mono _ _|exact spec_ReadNetwork.mono _ _|exact LeO.refl _|exact LeO.none _|refine LeO.ite ?_ ?_|refine LeO.bind ?_ (fun _ => ?_))|exact ih0 _|exact ih1 _ _ _ _ _ _ _|exact ih2 _ _ _ _ _ _|exact ih3 _ _ _ _ _ _ _ _|exact ih4 _ _ _ _ _ _ _|exact ih5 _ _ _ _|exact ih6 _ _ _|exact impl_ReadNetwork.mono _ _|exact spec_ReadNetwork.mono _ _|exact LeO.none _|refine LeO.ite ?_ ?_|refine LeO.bind ?_ (fun _ => ?_)
  ·intro y0 y1 y2 y3 y4 y5 y6
   unfold laws_FnExactReadNetwork.j4
   repeat' first|(with_reducible first|exact ih0 _|exact ih1 _ _ _ _ _ _ _|exact ih2 _ _ _ _ _ _|exact ih3 _ _ _ _ _ _ _ _|exact ih4 _ _ _ _ _ _ _|exact ih5 _ _ _ _|exact ih6 _ _ _|exact impl_ReadNetwork.mono _ _|exact spec_ReadNetwork.mono _ _|exact LeO.refl _|exact LeO.none _|refine LeO.ite ?_ ?_|refine LeO.bind ?_ (fun _ => ?_))|exact ih0 _|exact ih1 _ _ _ _ _ _ _|exact ih2 _ _ _ _ _ _|exact ih3 _ _ _ _ _ _ _ _|exact ih4 _ _ _ _ _ _ _|exact ih5 _ _ _ _|exact ih6 _ _ _|exact impl_ReadNetwork.mono _ _|exact spec_ReadNetwork.mono _ _|exact LeO.none _|refine LeO.ite ?_ ?_|refine LeO.bind ?_ (fun _ => ?_)
  ·intro y0 y1 y2 y3
   unfold laws_FnExactReadNetwork.j5
   repeat' first|(with_reducible first|exact ih0 _|exact ih1 _ _ _ _ _ _ _|exact ih2 _ _ _ _ _ _|exact ih3 _ _ _ _ _ _ _ _|exact ih4 _ _ _ _ _ _ _|exact ih5 _ _ _ _|exact ih6 _ _ _|exact impl_ReadNetwork.mono _ _|exact spec_ReadNetwork.mono _ _|exact LeO.refl _|exact LeO.none _|refine LeO.ite ?_ ?_|refine LeO.bind ?_ (fun _ => ?_))|exact ih0 _|exact ih1 _ _ _ _ _ _ _|exact ih2 _ _ _ _ _ _|exact ih3 _ _ _ _ _ _ _ _|exact ih4 _ _ _ _ _ _ _|exact ih5 _ _ _ _|exact ih6 _ _ _|exact impl_ReadNetwork.mono _ _|exact spec_ReadNetwork.mono _ _|exact LeO.none _|refine LeO.ite ?_ ?_|refine LeO.bind ?_ (fun _ => ?_)
  ·intro y0 y1 y2
   unfold laws_FnExactReadNetwork.j6
   repeat' first|(with_reducible first|exact ih0 _|exact ih1 _ _ _ _ _ _ _|exact ih2 _ _ _ _ _ _|exact ih3 _ _ _ _ _ _ _ _|exact ih4 _ _ _ _ _ _ _|exact ih5 _ _ _ _|exact ih6 _ _ _|exact impl_ReadNetwork.mono _ _|exact spec_ReadNetwork.mono _ _|exact LeO.refl _|exact LeO.none _|refine LeO.ite ?_ ?_|refine LeO.bind ?_ (fun _ => ?_))|exact ih0 _|exact ih1 _ _ _ _ _ _ _|exact ih2 _ _ _ _ _ _|exact ih3 _ _ _ _ _ _ _ _|exact ih4 _ _ _ _ _ _ _|exact ih5 _ _ _ _|exact ih6 _ _ _|exact impl_ReadNetwork.mono _ _|exact spec_ReadNetwork.mono _ _|exact LeO.none _|refine LeO.ite ?_ ?_|refine LeO.bind ?_ (fun _ => ?_)
theorem laws_FnExactReadNetwork.mono : ∀ a0 k, LeO (laws_FnExactReadNetwork.f k a0) (laws_FnExactReadNetwork.f (k + 1) a0) := by
 intro a0 k
 obtain ⟨ih0, ih1, ih2, ih3, ih4, ih5, ih6⟩ := laws_FnExactReadNetwork.mono_l k
 unfold laws_FnExactReadNetwork.f
 repeat' first|(with_reducible first|exact ih0 _|exact ih1 _ _ _ _ _ _ _|exact ih2 _ _ _ _ _ _|exact ih3 _ _ _ _ _ _ _ _|exact ih4 _ _ _ _ _ _ _|exact ih5 _ _ _ _|exact ih6 _ _ _|exact impl_ReadNetwork.mono _ _|exact spec_ReadNetwork.mono _ _|exact LeO.refl _|exact LeO.none _|refine LeO.ite ?_ ?_|refine LeO.bind ?_ (fun _ => ?_))|exact ih0 _|exact ih1 _ _ _ _ _ _ _|exact ih2 _ _ _ _ _ _|exact ih3 _ _ _ _ _ _ _ _|exact ih4 _ _ _ _ _ _ _|exact ih5 _ _ _ _|exact ih6 _ _ _|exact impl_ReadNetwork.mono _ _|exact spec_ReadNetwork.mono _ _|exact LeO.none _|refine LeO.ite ?_ ?_|refine LeO.bind ?_ (fun _ => ?_)
set_option maxHeartbeats 8000000 in
set_option maxRecDepth 100000 in
theorem laws_FnExactReadNetwork.calls (k : Nat) (a0 : ByteArray) (r : Bool) (w : World) (ht : Tabs true true true w) (h : laws_FnExactReadNetwork.f k a0 = some r) :
  Calls Tryz.prog 3 #[.string a0] w fun e w' => e = .returned (.bool r) ∧ Below w.heap.size w w' := by
 have HT := Aside0.mk ht
 clear ht
 have hu25 := Tryz.underlying25
 have HB := Aside0.mk (Below.refl w.heap.size w)
 have H : (if (a0.size : Int) > 1048576 then (some true) else (laws_FnExactReadNetwork.j0 k a0)) = some r := h
 clear h
 have HC2 := Aside0.mk H
 clear H
 go_enter Tryz.func3, Tryz.ntmps3
 go_upto_if 13 with (fail)
 go_cut [] (fun wc => ∃ (kq : Nat), Aside0 (laws_FnExactReadNetwork.j0 kq a0 = some r) ∧ Aside0 (kq ≤ k) ∧ Aside0 (Below w.heap.size w wc))
 case first =>
  have H := HC2.out
  clear HC2
  by_cases c3 : (a0.size : Int) > 1048576
  ·rw [if_pos c3] at H
   have c3b0 : decide (1048576 < (a0.size : Int)) = true := decide_eq_true c3
   have c3b1 : decide (1048576 < a0.size) = true := decide_eq_true (by omega)
   clear c3
   (first | rw [c3b0] | (simp only [i64_w, i32_w]; rw [c3b0]) | rw [c3b2] | skip)
   obtain rfl := Option.some.inj H
   go_wp2
   go_ret
   exact ⟨z6_, z0_⟩
  ·rw [if_neg c3] at H
   have c3b0 : decide (1048576 < (a0.size : Int)) = false := decide_eq_false c3
   have c3b1 : decide (1048576 < a0.size) = false := decide_eq_false (by omega)
   clear c3
   (first | rw [c3b0] | (simp only [i64_w, i32_w]; rw [c3b0]) | rw [c3b2] | skip)
   have H' := Aside0.mk H
   clear H
   go_wp2
   go_meet
   case rel => exact ⟨_, H', ⟨z124_⟩, ⟨z0_⟩⟩
 case rest =>
  clear HC2
  try clear p2
  try clear c3
  try clear c3b0
  try clear c3b1
  try clear c3b2
  obtain ⟨kq, HA, HJ1, HB⟩ := hcut
  cases kq with
  | zero => exact absurd HA.out (by simp [laws_FnExactReadNetwork.j0])
  | succ kj1 =>
   have H := HA.out
   clear HA
   simp only [laws_FnExactReadNetwork.j0] at H
   replace H := Option.bind_eq_some_iff.mp H
   obtain ⟨⟨t339, t342, t345⟩, A40, H⟩ := H
   replace H : ((impl_ReadNetwork.f kj1 a0).bind fun bt347 => ((laws_eqNetwork.f bt347.1 bt347.2.1 t339 t342).bind fun t355 => (if t355 = true then (laws_FnExactReadNetwork.j1 kj1 a0 t345 (bt347.2.2 != t345) t339 t342 bt347.1 bt347.2.1) else (laws_FnExactReadNetwork.j1 kj1 a0 t345 true t339 t342 bt347.1 bt347.2.1)))) = some r := H
   have A4 := Aside0.mk A40
   clear A40
   replace H := Option.bind_eq_some_iff.mp H
   obtain ⟨⟨t347, t350, t353⟩, A50, H⟩ := H
   replace H : ((laws_eqNetwork.f t347 t350 t339 t342).bind fun t355 => (if t355 = true then (laws_FnExactReadNetwork.j1 kj1 a0 t345 (t353 != t345) t339 t342 t347 t350) else (laws_FnExactReadNetwork.j1 kj1 a0 t345 true t339 t342 t347 t350))) = some r := H
   have A5 := Aside0.mk A50
   clear A50
   have HC6 := Aside0.mk H
   clear H
   go_upto_region 5 with (first | ((with_reducible refine gate_callee (f := 4) rfl ?_); refine goesL_ (some 16) rfl rfl Tryz.func4 (z11_) rfl #[.string a0] rfl (z1_) ?_; (with_reducible refine (spec_ReadNetwork.calls kj1 a0 t339 t342 t345 _ A4.out).mono ?_); rintro e w7 ⟨v340, v343, rfl, ho0, ho1, hb⟩; refine ⟨_, rfl, ?_⟩; have n0_ := Aside0.mk (Kd.R_lower ho0 (below_size (z0_))); have n1_ := Aside0.mk (Kd.R_lower ho1 (below_size (z0_))); have n2_ := Aside0.mk (below_step (z0_) hb); clear HB; have HO341 := n0_; have HO344 := n1_; have HB := n2_; clear n0_ n1_ n2_; (try clear hb); (try clear hb2); (try clear hk); (try clear hi); (try clear ho0); (try clear ho1)) | ((with_reducible refine gate_dst (N := 3) rfl ?_); refine box_event ?hg (N := 3) ?hd (cs := #[.slice none 0 0, .slice none 0 0]) (t := 25) ?hr ?_; (case hd => rfl); (case hg => rfl); (case hr => first | (go_simp; done) | (go_simp; rfl)); intro gb346 hg w8 hbox hb; have n0_ := Aside0.mk (Kd.R_below (by (with_reducible repeat (first | apply rA|apply rN|apply rW)); exact HO341.out) hb); have n1_ := Aside0.mk (Kd.R_below (by (with_reducible repeat (first | apply rA|apply rN|apply rW)); exact HO344.out) hb); have n2_ := Aside0.mk (below_step (z0_) hb); have n3_ := Aside0.mk (hbox); have n4_ := Aside0.mk ((z4_ : w.heap.size ≤ gb346)); have n5_ := Aside0.mk ((z4_ : w.heap.size ≤ gb346)); clear HO341; clear HO344; clear HB; have HO341 := n0_; have HO344 := n1_; have HB := n2_; have BK346 := n3_; have GW346 := n4_; have GE346 := n5_; clear n0_ n1_ n2_ n3_ n4_ n5_; clear hb hbox hg; obtain ⟨Ao9, co9, eo9⟩ := Kd.R_slice HO341.out; subst eo9; have hcz10_0 := bc0_ w8 BK346.out; have hcz10_1 := bc1_ w8 BK346.out; have hfz10_0 := blk_frozen BK346.out 0; have hfz10_1 := blk_frozen BK346.out 1; obtain ⟨Ao11, co11, eo11⟩ := Kd.R_slice HO344.out; subst eo11) | ((with_reducible refine gate_callee (f := 5) rfl ?_); refine goesL_ (some 21) rfl rfl Tryz.func5 (z11_) rfl #[.string a0] rfl (z1_) ?_; (with_reducible refine (impl_ReadNetwork.calls kj1 a0 t347 t350 t353 _ ?sideT A5.out).mono ?_); (case sideT => exact HT.out.now (z68_)); rintro e w12 ⟨v348, v351, rfl, ho0, ho1, hb⟩; refine ⟨_, rfl, ?_⟩; have n0_ := Aside0.mk (Kd.R_elder' (z100_) (Kd.R_base ho0) hb); have n1_ := Aside0.mk (Kd.R_elder' (z101_) (Kd.R_base ho1) hb); have n2_ := Aside0.mk (Kd.R_lower (Kd.R_new' ho0 (Kd.R_lt (z100_))) (below_size (z68_))); have n3_ := Aside0.mk (Kd.R_lower (Kd.R_new' ho1 (Kd.R_lt (z101_))) (below_size (z68_))); have n4_ := Aside0.mk (blk_below (g := gb346) (o := .cells #[.slice Ao9 t339.length co9, .slice Ao11 t342.length co11] 25 (0, 0)) (by (with_reducible repeat (first | refine bN ?_ _|refine bW ?_|refine bA ?_ _)); refine blk_put (cs := #[.slice Ao9 t339.length co9, .slice none 0 0]) ?_ 1 _ rfl; (with_reducible repeat (first | refine bN ?_ _|refine bW ?_|refine bA ?_ _)); refine blk_put (cs := #[.slice none 0 0, .slice none 0 0]) ?_ 0 _ rfl; (with_reducible repeat (first | refine bN ?_ _|refine bW ?_|refine bA ?_ _)); exact BK346.out) hb); have n5_ := Aside0.mk (below_step (z68_) hb); clear HO341; clear HO344; clear BK346; clear HB; have HO341 := n0_; have HO344 := n1_; have HO349 := n2_; have HO352 := n3_; have BK346 := n4_; have HB := n5_; clear n0_ n1_ n2_ n3_ n4_ n5_; (try clear hb); (try clear hb2); (try clear hk); (try clear hi); (try clear ho0); (try clear ho1)) | ((with_reducible refine gate_dst (N := 5) rfl ?_); refine box_event ?hg (N := 5) ?hd (cs := #[.slice none 0 0, .slice none 0 0]) (t := 25) ?hr ?_; (case hd => rfl); (case hg => rfl); (case hr => first | (go_simp; done) | (go_simp; rfl)); intro gb354 hg w13 hbox hb; have n0_ := Aside0.mk (Kd.R_below (by (with_reducible repeat (first | apply rA|apply rN|apply rW)); exact HO341.out) hb); have n1_ := Aside0.mk (Kd.R_below (by (with_reducible repeat (first | apply rA|apply rN|apply rW)); exact HO344.out) hb); have n2_ := Aside0.mk (Kd.R_below (by (with_reducible repeat (first | apply rA|apply rN|apply rW)); exact HO349.out) hb); have n3_ := Aside0.mk (Kd.R_below (by (with_reducible repeat (first | apply rA|apply rN|apply rW)); exact HO352.out) hb); have n4_ := Aside0.mk (blk_below (g := gb346) (o := .cells #[.slice Ao9 t339.length co9, .slice Ao11 t342.length co11] 25 (0, 0)) (z33_) hb); have n5_ := Aside0.mk (below_step (z68_) hb); have n6_ := Aside0.mk (hbox); have n7_ := Aside0.mk ((z147_ : w.heap.size ≤ gb354)); have n8_ := Aside0.mk ((z147_ : w.heap.size ≤ gb354)); have n9_ := Aside0.mk ((z122_ : gb346 ≠ gb354)); have n10_ := Aside0.mk ((z123_ : gb354 ≠ gb346)); clear HO341; clear HO344; clear HO349; clear HO352; clear BK346; clear HB; have HO341 := n0_; have HO344 := n1_; have HO349 := n2_; have HO352 := n3_; have BK346 := n4_; have HB := n5_; have BK354 := n6_; have GW354 := n7_; have GE354 := n8_; have NB346_354 := n9_; have NB354_346 := n10_; clear n0_ n1_ n2_ n3_ n4_ n5_ n6_ n7_ n8_ n9_ n10_; clear hb hbox hg; obtain ⟨Ao14, co14, eo14⟩ := Kd.R_slice HO349.out; subst eo14; have hnb15 := NB354_346.out; have hnc15 := NB346_354.out; have hcz16_0 := bc0_ w13 BK354.out; have hcz16_1 := bc1_ w13 BK354.out; have hfz16_0 := blk_frozen BK354.out 0; have hfz16_1 := blk_frozen BK354.out 1; obtain ⟨Ao17, co17, eo17⟩ := Kd.R_slice HO352.out; subst eo17))
   (try simp only [Act.put, List.setIfInBounds_toArray, List.set_cons_zero, List.set_cons_succ])
   go_cut [32] (fun v32 wc => ∃ (kq : Nat) (x32_5 : Bool), v32 = .bool x32_5 ∧ Aside0 (laws_FnExactReadNetwork.j1 kq a0 t345 x32_5 t339 t342 t347 t350 = some r) ∧ Aside0 (kq ≤ kj1) ∧ Aside0 (Kd.R (Kd.int .i64) 2 wc w.heap.size (fun k_ => some k_ ≠ ((.slice Ao14 t347.length co14) : Value).ownBlock) (.slice Ao9 t339.length co9) t339) ∧ Aside0 (Kd.R k36 36 wc w.heap.size (fun k_ => some k_ ≠ ((.slice Ao17 t350.length co17) : Value).ownBlock) (.slice Ao11 t342.length co11) t342) ∧ Aside0 (Kd.R (Kd.int .i64) 2 wc w.heap.size (fun k_ => some k_ ≠ ((.slice Ao9 t339.length co9) : Value).ownBlock) (.slice Ao14 t347.length co14) t347) ∧ Aside0 (Kd.R k36 36 wc w.heap.size (fun k_ => some k_ ≠ ((.slice Ao11 t342.length co11) : Value).ownBlock) (.slice Ao17 t350.length co17) t350) ∧ Aside0 (wc.heap[gb346]? = some (.cells #[(.slice Ao9 t339.length co9), (.slice Ao11 t342.length co11)] 25 (0, 0))) ∧ Aside0 (wc.heap[gb354]? = some (.cells #[(.slice Ao14 t347.length co14), (.slice Ao17 t350.length co17)] 25 (0, 0))) ∧ Aside0 (Below w.heap.size w wc))
   case first =>
    have H := HC6.out
    clear HC6
    replace H := Option.bind_eq_some_iff.mp H
    obtain ⟨t355, A180, H⟩ := H
    have A18 := Aside0.mk A180
    clear A180
    by_cases c19 : t355 = true
    ·subst c19
     rw [if_pos rfl] at H
     have H' := Aside0.mk H
     clear H
     have hnb20 := NB354_346.out
     have hnc20 := NB346_354.out
     have hcz21_0 := bc0_ w13 BK354.out
     have hcz21_1 := bc1_ w13 BK354.out
     have hfz21_0 := blk_frozen BK354.out 0
     have hfz21_1 := blk_frozen BK354.out 1
     have hcz22_0 := bc0_ w13 BK346.out
     have hcz22_1 := bc1_ w13 BK346.out
     have hfz22_0 := blk_frozen BK346.out 0
     have hfz22_1 := blk_frozen BK346.out 1
     go_wp2_with (first | ((with_reducible refine gate_callee (f := 6) rfl ?_); refine goesL_ (some 26) rfl rfl Tryz.func6 (z11_) rfl #[.agg #[.slice Ao14 t347.length co14, .slice Ao17 t350.length co17], .agg #[.slice Ao9 t339.length co9, .slice Ao11 t342.length co11]] rfl (z1_) ?_; (with_reducible refine (laws_eqNetwork.calls _ _ t347 _ _ t350 _ _ t339 _ _ t342 true _ ?side1 ?side2 ?side3 ?side4 ?side5 ?side6 ?side7 ?side8 A18.out).mono ?_); (case side1 => refine (Kd.R_reads' (e := 2) (base := w.heap.size) (ok := fun k_ => (True ∧ some k_ ≠ (.slice Ao9 t339.length co9 : Value).ownBlock)) (n := t347.length) (c := co14) ?_).2.2; exact (z40_)); (case side2 => exact (Kd.R_reads' HO349.out).2.1); (case side3 => refine (Kd.R_reads' (e := 36) (base := w.heap.size) (ok := fun k_ => (True ∧ some k_ ≠ (.slice Ao11 t342.length co11 : Value).ownBlock)) (n := t350.length) (c := co17) ?_).2.2; exact (z41_)); (case side4 => exact (Kd.R_reads' HO352.out).2.1); (case side5 => refine (Kd.R_reads' (e := 2) (base := w.heap.size) (ok := fun k_ => (True ∧ some k_ ≠ (.slice Ao14 t347.length co14 : Value).ownBlock)) (n := t339.length) (c := co9) ?_).2.2; exact (z42_)); (case side6 => exact (Kd.R_reads' HO341.out).2.1); (case side7 => refine (Kd.R_reads' (e := 36) (base := w.heap.size) (ok := fun k_ => (True ∧ some k_ ≠ (.slice Ao17 t350.length co17 : Value).ownBlock)) (n := t342.length) (c := co11) ?_).2.2; exact (z43_)); (case side8 => exact (Kd.R_reads' HO344.out).2.1); rintro e w23 ⟨rfl, hb⟩; refine ⟨_, rfl, ?_⟩; have n0_ := Aside0.mk (Kd.R_below (z42_) hb); have n1_ := Aside0.mk (Kd.R_below (z43_) hb); have n2_ := Aside0.mk (Kd.R_below (z40_) hb); have n3_ := Aside0.mk (Kd.R_below (z41_) hb); have n4_ := Aside0.mk (blk_below (g := gb346) (o := .cells #[.slice Ao9 t339.length co9, .slice Ao11 t342.length co11] 25 (0, 0)) (z88_) hb); have n5_ := Aside0.mk (blk_below (g := gb354) (o := .cells #[.slice Ao14 t347.length co14, .slice Ao17 t350.length co17] 25 (0, 0)) (z69_) hb); have n6_ := Aside0.mk (below_step (z16_) hb); clear HO341; clear HO344; clear HO349; clear HO352; clear BK346; clear BK354; clear HB; have HO341 := n0_; have HO344 := n1_; have HO349 := n2_; have HO352 := n3_; have BK346 := n4_; have BK354 := n5_; have HB := n6_; clear n0_ n1_ n2_ n3_ n4_ n5_ n6_; (try clear hb); (try clear hb2); (try clear hk); (try clear hi)))
     go_meet
     case rel => exact ⟨_, ((t353 != t345)), (z7_), H', ⟨z160_⟩, ⟨z161_⟩, ⟨z162_⟩, ⟨z163_⟩, ⟨z164_⟩, ⟨z33_⟩, ⟨z46_⟩, ⟨z16_⟩⟩
    ·replace c19 := Bool.eq_false_iff.mpr c19
     subst c19
     rw [if_neg (show ¬ (false = true) by decide)] at H
     have H' := Aside0.mk H
     clear H
     have hnb24 := NB354_346.out
     have hnc24 := NB346_354.out
     have hcz25_0 := bc0_ w13 BK354.out
     have hcz25_1 := bc1_ w13 BK354.out
     have hfz25_0 := blk_frozen BK354.out 0
     have hfz25_1 := blk_frozen BK354.out 1
     have hcz26_0 := bc0_ w13 BK346.out
     have hcz26_1 := bc1_ w13 BK346.out
     have hfz26_0 := blk_frozen BK346.out 0
     have hfz26_1 := blk_frozen BK346.out 1
     go_wp2_with (first | ((with_reducible refine gate_callee (f := 6) rfl ?_); refine goesL_ (some 26) rfl rfl Tryz.func6 (z11_) rfl #[.agg #[.slice Ao14 t347.length co14, .slice Ao17 t350.length co17], .agg #[.slice Ao9 t339.length co9, .slice Ao11 t342.length co11]] rfl (z1_) ?_; (with_reducible refine (laws_eqNetwork.calls _ _ t347 _ _ t350 _ _ t339 _ _ t342 false _ ?side1 ?side2 ?side3 ?side4 ?side5 ?side6 ?side7 ?side8 A18.out).mono ?_); (case side1 => refine (Kd.R_reads' (e := 2) (base := w.heap.size) (ok := fun k_ => (True ∧ some k_ ≠ (.slice Ao9 t339.length co9 : Value).ownBlock)) (n := t347.length) (c := co14) ?_).2.2; exact (z40_)); (case side2 => exact (Kd.R_reads' HO349.out).2.1); (case side3 => refine (Kd.R_reads' (e := 36) (base := w.heap.size) (ok := fun k_ => (True ∧ some k_ ≠ (.slice Ao11 t342.length co11 : Value).ownBlock)) (n := t350.length) (c := co17) ?_).2.2; exact (z41_)); (case side4 => exact (Kd.R_reads' HO352.out).2.1); (case side5 => refine (Kd.R_reads' (e := 2) (base := w.heap.size) (ok := fun k_ => (True ∧ some k_ ≠ (.slice Ao14 t347.length co14 : Value).ownBlock)) (n := t339.length) (c := co9) ?_).2.2; exact (z42_)); (case side6 => exact (Kd.R_reads' HO341.out).2.1); (case side7 => refine (Kd.R_reads' (e := 36) (base := w.heap.size) (ok := fun k_ => (True ∧ some k_ ≠ (.slice Ao17 t350.length co17 : Value).ownBlock)) (n := t342.length) (c := co11) ?_).2.2; exact (z43_)); (case side8 => exact (Kd.R_reads' HO344.out).2.1); rintro e w27 ⟨rfl, hb⟩; refine ⟨_, rfl, ?_⟩; have n0_ := Aside0.mk (Kd.R_below (z42_) hb); have n1_ := Aside0.mk (Kd.R_below (z43_) hb); have n2_ := Aside0.mk (Kd.R_below (z40_) hb); have n3_ := Aside0.mk (Kd.R_below (z41_) hb); have n4_ := Aside0.mk (blk_below (g := gb346) (o := .cells #[.slice Ao9 t339.length co9, .slice Ao11 t342.length co11] 25 (0, 0)) (z88_) hb); have n5_ := Aside0.mk (blk_below (g := gb354) (o := .cells #[.slice Ao14 t347.length co14, .slice Ao17 t350.length co17] 25 (0, 0)) (z69_) hb); have n6_ := Aside0.mk (below_step (z16_) hb); clear HO341; clear HO344; clear HO349; clear HO352; clear BK346; clear BK354; clear HB; have HO341 := n0_; have HO344 := n1_; have HO349 := n2_; have HO352 := n3_; have BK346 := n4_; have BK354 := n5_; have HB := n6_; clear n0_ n1_ n2_ n3_ n4_ n5_ n6_; (try clear hb); (try clear hb2); (try clear hk); (try clear hi)))
     go_meet
     case rel => exact ⟨_, (true), (z7_), H', ⟨z160_⟩, ⟨z161_⟩, ⟨z162_⟩, ⟨z163_⟩, ⟨z164_⟩, ⟨z33_⟩, ⟨z46_⟩, ⟨z16_⟩⟩
   case rest =>
    clear HC6
    try clear c1
    try clear c2
    try clear p2
    try clear c3
    try clear c3b0
    try clear c3b1
    try clear c3b2
    try clear c4
    try clear c5
    try clear c6
    try clear c15
    try clear c19
    try clear c20
    try clear c24
    try clear hcz10_0
    try clear hcz10_1
    try clear hcz16_0
    try clear hcz16_1
    try clear hcz21_0
    try clear hcz21_1
    try clear hcz22_0
    try clear hcz22_1
    try clear hcz25_0
    try clear hcz25_1
    try clear hcz26_0
    try clear hcz26_1
    try clear hfz10_0
    try clear hfz10_1
    try clear hfz16_0
    try clear hfz16_1
    try clear hfz21_0
    try clear hfz21_1
    try clear hfz22_0
    try clear hfz22_1
    try clear hfz25_0
    try clear hfz25_1
    try clear hfz26_0
    try clear hfz26_1
    try clear p2
    obtain ⟨kq, x32_5, rfl, HA, HJ5, HO_347000, HO_347001, HO_355000, HO_355001, BK346, BK354, HB⟩ := hcut
    cases kq with
    | zero => exact absurd HA.out (by simp [laws_FnExactReadNetwork.j1])
    | succ kj5 =>
     have H := HA.out
     clear HA
     simp only [laws_FnExactReadNetwork.j1] at H
     have HC28 := Aside0.mk H
     clear H
     go_upto_if 32 with (fail)
     go_cut [] (fun wc => ∃ (kq : Nat), Aside0 (laws_FnExactReadNetwork.j2 kq a0 t345 t339 t342 t347 t350 = some r) ∧ Aside0 (kq ≤ kj5) ∧ Aside0 (Kd.R (Kd.int .i64) 2 wc w.heap.size (fun k_ => some k_ ≠ ((.slice Ao14 t347.length co14) : Value).ownBlock) (.slice Ao9 t339.length co9) t339) ∧ Aside0 (Kd.R k36 36 wc w.heap.size (fun k_ => some k_ ≠ ((.slice Ao17 t350.length co17) : Value).ownBlock) (.slice Ao11 t342.length co11) t342) ∧ Aside0 (Kd.R (Kd.int .i64) 2 wc w.heap.size (fun k_ => some k_ ≠ ((.slice Ao9 t339.length co9) : Value).ownBlock) (.slice Ao14 t347.length co14) t347) ∧ Aside0 (Kd.R k36 36 wc w.heap.size (fun k_ => some k_ ≠ ((.slice Ao11 t342.length co11) : Value).ownBlock) (.slice Ao17 t350.length co17) t350) ∧ Aside0 (wc.heap[gb346]? = some (.cells #[(.slice Ao9 t339.length co9), (.slice Ao11 t342.length co11)] 25 (0, 0))) ∧ Aside0 (wc.heap[gb354]? = some (.cells #[(.slice Ao14 t347.length co14), (.slice Ao17 t350.length co17)] 25 (0, 0))) ∧ Aside0 (Below w.heap.size w wc))
     case first =>
      have H := HC28.out
      clear HC28
      by_cases c29 : x32_5 = true
      ·subst c29
       rw [if_pos rfl] at H
       obtain rfl := Option.some.inj H
       go_wp2
       go_ret
       exact ⟨z6_, z16_⟩
      ·replace c29 := Bool.eq_false_iff.mpr c29
       subst c29
       rw [if_neg (show ¬ (false = true) by decide)] at H
       have H' := Aside0.mk H
       clear H
       go_wp2
       go_meet
       case rel => exact ⟨_, H', ⟨z137_⟩, ⟨z75_⟩, ⟨z76_⟩, ⟨z77_⟩, ⟨z78_⟩, ⟨z33_⟩, ⟨z46_⟩, ⟨z16_⟩⟩
     case rest =>
      clear HC28
      try clear c1
      try clear c2
      try clear p2
      try clear c3
      try clear c3b0
      try clear c3b1
      try clear c3b2
      try clear c4
      try clear c5
      try clear c6
      try clear c15
      try clear c19
      try clear c20
      try clear c24
      try clear c29
      try clear hcz10_0
      try clear hcz10_1
      try clear hcz16_0
      try clear hcz16_1
      try clear hcz21_0
      try clear hcz21_1
      try clear hcz22_0
      try clear hcz22_1
      try clear hcz25_0
      try clear hcz25_1
      try clear hcz26_0
      try clear hcz26_1
      try clear hfz10_0
      try clear hfz10_1
      try clear hfz16_0
      try clear hfz16_1
      try clear hfz21_0
      try clear hfz21_1
      try clear hfz22_0
      try clear hfz22_1
      try clear hfz25_0
      try clear hfz25_1
      try clear hfz26_0
      try clear hfz26_1
      try clear p2
      obtain ⟨kq, HA, HJ27, HO_347000, HO_347001, HO_355000, HO_355001, BK346, BK354, HB⟩ := hcut
      cases kq with
      | zero => exact absurd HA.out (by simp [laws_FnExactReadNetwork.j2])
      | succ kj27 =>
       have H := HA.out
       clear HA
       simp only [laws_FnExactReadNetwork.j2] at H
       replace H := Option.bind_eq_some_iff.mp H
       obtain ⟨⟨t356, t357, t358⟩, A300, H⟩ := H
       replace H : ((laws_heldNetwork.f t357 t358 1).bind fun t359 => (if t359 < 0 then (some false) else (laws_FnExactReadNetwork.j3 kj27 a0 t345 t356 t359 t339 t342 t357 t358))) = some r := H
       have A30 := Aside0.mk A300
       clear A300
       replace H := Option.bind_eq_some_iff.mp H
       obtain ⟨t359, A310, H⟩ := H
       have A31 := Aside0.mk A310
       clear A310
       have HC32 := Aside0.mk H
       clear H
       have hnb33 := NB354_346.out
       have hnc33 := NB346_354.out
       have hcz34_0 := bc0_ wc BK354.out
       have hcz34_1 := bc1_ wc BK354.out
       have hfz34_0 := blk_frozen BK354.out 0
       have hfz34_1 := blk_frozen BK354.out 1
       go_upto_if 40 with (first | ((with_reducible refine gate_callee (f := 7) rfl ?_); refine goesL_ (some 35) rfl rfl Tryz.func7 (z11_) rfl #[.agg #[.slice Ao14 t347.length co14, .slice Ao17 t350.length co17], .int .i64 1] rfl (z1_) ?_; (with_reducible refine (laws_markNetwork.calls (fun k_ => some k_ = (.slice Ao14 t347.length co14 : Value).ownBlock) (.slice Ao14 t347.length co14) t347 (fun k_ => some k_ = (.slice Ao17 t350.length co17 : Value).ownBlock) (.slice Ao17 t350.length co17) t350 1 t356 t357 t358 w _ ?side1 ?side2 ?side3 A30.out).mono ?_); (case side1 => repeat (first | (with_reducible first | exact HB.out|apply wA|apply wN|apply wD |refine wS ?_ GE346.out |refine wS ?_ GE354.out) | exact HB.out)); (case side2 => exact Kd.R_tight rfl HO_355000.out); (case side3 => exact Kd.R_tight rfl HO_355001.out); rintro e w35 ⟨rfl, hy0, hy1, hb, hkp⟩; refine ⟨_, rfl, ?_⟩; have n0_ := Aside0.mk (Kd.R_mono (ok' := fun k_ => some k_ ≠ (.slice Ao14 t347.length co14 : Value).ownBlock) (Kd.R_keptB ((Kd.R_apart' HO_347000.out (Kd.R_typed HO_355001.out) (by decide))) hkp (fun k_ hk_ hs_ => Or.elim hs_ (fun e_ => (hk_.1) e_) (fun e_ => (hk_.2) e_))) (fun k_ hk_ => hk_.1.1)); have n1_ := Aside0.mk (Kd.R_mono (ok' := fun k_ => some k_ ≠ (.slice Ao17 t350.length co17 : Value).ownBlock) (Kd.R_keptB ((Kd.R_apart' HO_347001.out (Kd.R_typed HO_355000.out) (by decide))) hkp (fun k_ hk_ hs_ => Or.elim hs_ (fun e_ => (hk_.2) e_) (fun e_ => (hk_.1) e_))) (fun k_ hk_ => hk_.1.1)); have n2_ := Aside0.mk (Kd.R_reok rfl hy0 (fun k_ e_ => HO_355000.out.1 k_ e_)); have n3_ := Aside0.mk (Kd.R_reok rfl hy1 (fun k_ e_ => HO_355001.out.1 k_ e_)); have n4_ := Aside0.mk (blk_kept (z33_) hkp (fun hs_ => Or.elim hs_ (fun e_ => (fun e_ => (Kd.R_ne HO_355000.out BK346.out (by decide)) e_) e_) (fun e_ => (fun e_ => (Kd.R_ne HO_355001.out BK346.out (by decide)) e_) e_))); have n5_ := Aside0.mk (blk_kept (z46_) hkp (fun hs_ => Or.elim hs_ (fun e_ => (fun e_ => (Kd.R_ne HO_355000.out BK354.out (by decide)) e_) e_) (fun e_ => (fun e_ => (Kd.R_ne HO_355001.out BK354.out (by decide)) e_) e_))); have n6_ := Aside0.mk (hb); clear HO_347000; clear HO_347001; clear HO_355000; clear HO_355001; clear BK346; clear BK354; clear HB; have HO_347000 := n0_; have HO_347001 := n1_; have HO_355000 := n2_; have HO_355001 := n3_; have BK346 := n4_; have BK354 := n5_; have HB := n6_; clear n0_ n1_ n2_ n3_ n4_ n5_ n6_; (try clear hb); (try clear hkp); (try clear hy0); (try clear hy1); have hcz36_0 := bc0_ w35 BK354.out; have hcz36_1 := bc1_ w35 BK354.out; have hfz36_0 := blk_frozen BK354.out 0; have hfz36_1 := blk_frozen BK354.out 1) | ((with_reducible refine gate_callee (f := 8) rfl ?_); refine goesL_ (some 38) rfl rfl Tryz.func8 (z11_) rfl #[.agg #[.slice Ao14 t357.length co14, .slice Ao17 t358.length co17], .int .i64 1] rfl (by (try simp only [List.map_toArray, List.map_cons, List.map_nil]); first | done | (rw [show t357.length = t347.length from (Kd.R_reads' HO_355000.out).1.symm, show t358.length = t350.length from (Kd.R_reads' HO_355001.out).1.symm] <;> rfl) | rfl | (simp only [List.length_drop, List.length_take]; rfl)) ?_; (with_reducible refine (laws_heldNetwork.calls _ _ t357 _ _ t358 1 t359 _ ?side1 ?side2 ?side3 ?side4 A31.out).mono ?_); (case side1 => repeat (first | exact (Kd.R_reads' HO_355000.out).2.2 | (with_reducible first|refine Kd.C_alloc ?_ _|refine Kd.C_drewN ?_ _|refine Kd.C_drew ?_))); (case side2 => rw [show t357.length = t347.length from (Kd.R_reads' HO_355000.out).1.symm]; exact (Kd.R_reads' HO_355000.out).2.1); (case side3 => repeat (first | exact (Kd.R_reads' HO_355001.out).2.2 | (with_reducible first|refine Kd.C_alloc ?_ _|refine Kd.C_drewN ?_ _|refine Kd.C_drew ?_))); (case side4 => rw [show t358.length = t350.length from (Kd.R_reads' HO_355001.out).1.symm]; exact (Kd.R_reads' HO_355001.out).2.1); rintro e w37 ⟨rfl, hb⟩; refine ⟨_, rfl, ?_⟩; have n0_ := Aside0.mk (Kd.R_below (z75_) hb); have n1_ := Aside0.mk (Kd.R_below (z76_) hb); have n2_ := Aside0.mk (Kd.R_below (z77_) hb); have n3_ := Aside0.mk (Kd.R_below (z78_) hb); have n4_ := Aside0.mk (blk_below (g := gb346) (o := .cells #[.slice Ao9 t339.length co9, .slice Ao11 t342.length co11] 25 (0, 0)) (z33_) hb); have n5_ := Aside0.mk (blk_below (g := gb354) (o := .cells #[.slice Ao14 t347.length co14, .slice Ao17 t350.length co17] 25 (0, 0)) (z46_) hb); have n6_ := Aside0.mk (below_step (z16_) hb); clear HO_347000; clear HO_347001; clear HO_355000; clear HO_355001; clear BK346; clear BK354; clear HB; have HO_347000 := n0_; have HO_347001 := n1_; have HO_355000 := n2_; have HO_355001 := n3_; have BK346 := n4_; have BK354 := n5_; have HB := n6_; clear n0_ n1_ n2_ n3_ n4_ n5_ n6_; (try clear hb); (try clear hb2); (try clear hk); (try clear hi)))
       (try simp only [Act.put, List.setIfInBounds_toArray, List.set_cons_zero, List.set_cons_succ])
       go_cut [] (fun wc => ∃ (kq : Nat), Aside0 (laws_FnExactReadNetwork.j3 kq a0 t345 t356 t359 t339 t342 t357 t358 = some r) ∧ Aside0 (kq ≤ kj27) ∧ Aside0 (Kd.R (Kd.int .i64) 2 wc w.heap.size (fun k_ => some k_ ≠ ((.slice Ao14 t347.length co14) : Value).ownBlock) (.slice Ao9 t339.length co9) t339) ∧ Aside0 (Kd.R k36 36 wc w.heap.size (fun k_ => some k_ ≠ ((.slice Ao17 t350.length co17) : Value).ownBlock) (.slice Ao11 t342.length co11) t342) ∧ Aside0 (Kd.R (Kd.int .i64) 2 wc w.heap.size (fun k_ => some k_ ≠ ((.slice Ao9 t339.length co9) : Value).ownBlock) (.slice Ao14 t347.length co14) t357) ∧ Aside0 (Kd.R k36 36 wc w.heap.size (fun k_ => some k_ ≠ ((.slice Ao11 t342.length co11) : Value).ownBlock) (.slice Ao17 t350.length co17) t358) ∧ Aside0 (wc.heap[gb346]? = some (.cells #[(.slice Ao9 t339.length co9), (.slice Ao11 t342.length co11)] 25 (0, 0))) ∧ Aside0 (wc.heap[gb354]? = some (.cells #[(.slice Ao14 t347.length co14), (.slice Ao17 t350.length co17)] 25 (0, 0))) ∧ Aside0 (Below w.heap.size w wc))
       case first =>
        have H := HC32.out
        clear HC32
        by_cases c38 : t359 < 0
        ·rw [if_pos c38] at H
         have c38b0 := decide_eq_true c38
         clear c38
         (first | rw [c38b0] | (simp only [i64_w, i32_w]; rw [c38b0]) | rw [c38b2] | skip)
         obtain rfl := Option.some.inj H
         go_wp2
         go_ret
         exact ⟨z6_, z16_⟩
        ·rw [if_neg c38] at H
         have c38b0 := decide_eq_false c38
         clear c38
         (first | rw [c38b0] | (simp only [i64_w, i32_w]; rw [c38b0]) | rw [c38b2] | skip)
         have H' := Aside0.mk H
         clear H
         go_wp2
         go_meet
         case rel => exact ⟨_, H', ⟨by have := HJ1.out; have := HJ5.out; have := HJ27.out; first | omega | exact Nat.le_refl _⟩, ⟨z75_⟩, ⟨z76_⟩, ⟨z77_⟩, ⟨z78_⟩, ⟨z33_⟩, ⟨z46_⟩, ⟨z16_⟩⟩
       case rest =>
        clear HC32
        try clear c1
        try clear c2
        try clear p2
        try clear c3
        try clear c3b0
        try clear c3b1
        try clear c3b2
        try clear c4
        try clear c5
        try clear c6
        try clear c7
        try clear c8
        try clear c15
        try clear c19
        try clear c20
        try clear c24
        try clear c29
        try clear c33
        try clear c38
        try clear c38b0
        try clear c38b2
        try clear hcz10_0
        try clear hcz10_1
        try clear hcz16_0
        try clear hcz16_1
        try clear hcz21_0
        try clear hcz21_1
        try clear hcz22_0
        try clear hcz22_1
        try clear hcz25_0
        try clear hcz25_1
        try clear hcz26_0
        try clear hcz26_1
        try clear hcz34_0
        try clear hcz34_1
        try clear hcz36_0
        try clear hcz36_1
        try clear hfz10_0
        try clear hfz10_1
        try clear hfz16_0
        try clear hfz16_1
        try clear hfz21_0
        try clear hfz21_1
        try clear hfz22_0
        try clear hfz22_1
        try clear hfz25_0
        try clear hfz25_1
        try clear hfz26_0
        try clear hfz26_1
        try clear hfz34_0
        try clear hfz34_1
        try clear hfz36_0
        try clear hfz36_1
        try clear p2
        obtain ⟨kq, HA, HJ31, HO_347000, HO_347001, HO_355000, HO_355001, BK346, BK354, HB⟩ := hcut
        have hl355000_31 := (Kd.R_reads' HO_355000.out).1
        rw [hl355000_31] at HO_355000
        (try simp only [hl355000_31])
        (try simp only [hl355000_31] at BK346)
        (try simp only [hl355000_31] at BK354)
        (try simp only [hl355000_31] at HO_347000)
        (try simp only [hl355000_31] at HO_347001)
        (try simp only [hl355000_31] at HO_355001)
        have hl355001_31 := (Kd.R_reads' HO_355001.out).1
        rw [hl355001_31] at HO_355001
        (try simp only [hl355001_31])
        (try simp only [hl355001_31] at BK346)
        (try simp only [hl355001_31] at BK354)
        (try simp only [hl355001_31] at HO_347000)
        (try simp only [hl355001_31] at HO_347001)
        (try simp only [hl355001_31] at HO_355000)
        cases kq with
        | zero => exact absurd HA.out (by simp [laws_FnExactReadNetwork.j3])
        | succ kj31 =>
         have H := HA.out
         clear HA
         simp only [laws_FnExactReadNetwork.j3] at H
         have HC39 := Aside0.mk H
         clear H
         go_upto_if 43 with (fail)
         go_cut [] (fun wc => ∃ (kq : Nat), Aside0 (laws_FnExactReadNetwork.j4 kq a0 t345 t356 t339 t342 t357 t358 = some r) ∧ Aside0 (kq ≤ kj31) ∧ Aside0 (Kd.R (Kd.int .i64) 2 wc w.heap.size (fun k_ => some k_ ≠ ((.slice Ao14 t357.length co14) : Value).ownBlock) (.slice Ao9 t339.length co9) t339) ∧ Aside0 (Kd.R k36 36 wc w.heap.size (fun k_ => some k_ ≠ ((.slice Ao17 t358.length co17) : Value).ownBlock) (.slice Ao11 t342.length co11) t342) ∧ Aside0 (Kd.R (Kd.int .i64) 2 wc w.heap.size (fun k_ => some k_ ≠ ((.slice Ao9 t339.length co9) : Value).ownBlock) (.slice Ao14 t357.length co14) t357) ∧ Aside0 (Kd.R k36 36 wc w.heap.size (fun k_ => some k_ ≠ ((.slice Ao11 t342.length co11) : Value).ownBlock) (.slice Ao17 t358.length co17) t358) ∧ Aside0 (wc.heap[gb346]? = some (.cells #[(.slice Ao9 t339.length co9), (.slice Ao11 t342.length co11)] 25 (0, 0))) ∧ Aside0 (wc.heap[gb354]? = some (.cells #[(.slice Ao14 t357.length co14), (.slice Ao17 t358.length co17)] 25 (0, 0))) ∧ Aside0 (Below w.heap.size w wc))
         case first =>
          have H := HC39.out
          clear HC39
          by_cases c40 : t359 = t356
          ·rw [if_pos c40] at H
           have c40b0 : (t359 == t356) = true := beq_iff_eq.mpr c40
           have c40b1 : (t359 != t356) = false := bne_eq_false_iff_eq.mpr c40
           clear c40
           (first | rw [c40b0] | (simp only [i64_w, i32_w]; rw [c40b0]) | rw [c40b2] | skip)
           have H' := Aside0.mk H
           clear H
           go_wp2
           go_meet
           case rel => exact ⟨_, H', ⟨by have := HJ1.out; have := HJ5.out; have := HJ27.out; have := HJ31.out; first | omega | exact Nat.le_refl _⟩, ⟨z104_⟩, ⟨z105_⟩, ⟨z106_⟩, ⟨z107_⟩, ⟨z98_⟩, ⟨z99_⟩, ⟨z16_⟩⟩
          ·rw [if_neg c40] at H
           have c40b0 : (t359 == t356) = false := beq_eq_false_iff_ne.mpr c40
           have c40b1 : (t359 != t356) = true := bne_iff_ne.mpr c40
           (first | rw [c40b0] | (simp only [i64_w, i32_w]; rw [c40b0]) | rw [c40b2] | skip)
           obtain rfl := Option.some.inj H
           go_wp2
           go_ret
           exact ⟨z6_, z16_⟩
         case rest =>
          clear HC39
          try clear c1
          try clear c2
          try clear p2
          try clear c3
          try clear c3b0
          try clear c3b1
          try clear c3b2
          try clear c4
          try clear c5
          try clear c6
          try clear c7
          try clear c8
          try clear c15
          try clear c19
          try clear c20
          try clear c24
          try clear c29
          try clear c33
          try clear c38
          try clear c38b0
          try clear c38b2
          try clear c40
          try clear c40b0
          try clear c40b1
          try clear c40b2
          try clear hcz10_0
          try clear hcz10_1
          try clear hcz16_0
          try clear hcz16_1
          try clear hcz21_0
          try clear hcz21_1
          try clear hcz22_0
          try clear hcz22_1
          try clear hcz25_0
          try clear hcz25_1
          try clear hcz26_0
          try clear hcz26_1
          try clear hcz34_0
          try clear hcz34_1
          try clear hcz36_0
          try clear hcz36_1
          try clear hfz10_0
          try clear hfz10_1
          try clear hfz16_0
          try clear hfz16_1
          try clear hfz21_0
          try clear hfz21_1
          try clear hfz22_0
          try clear hfz22_1
          try clear hfz25_0
          try clear hfz25_1
          try clear hfz26_0
          try clear hfz26_1
          try clear hfz34_0
          try clear hfz34_1
          try clear hfz36_0
          try clear hfz36_1
          try clear p2
          obtain ⟨kq, HA, HJ38, HO_347000, HO_347001, HO_355000, HO_355001, BK346, BK354, HB⟩ := hcut
          cases kq with
          | zero => exact absurd HA.out (by simp [laws_FnExactReadNetwork.j4])
          | succ kj38 =>
           have H := HA.out
           clear HA
           simp only [laws_FnExactReadNetwork.j4] at H
           replace H := Option.bind_eq_some_iff.mp H
           obtain ⟨⟨t360, t363, t366⟩, A410, H⟩ := H
           replace H : ((laws_eqNetwork.f t360 t363 t339 t342).bind fun t368 => (if t368 = true then (laws_FnExactReadNetwork.j5 kj38 t356 (t366 != t345) t357 t358) else (laws_FnExactReadNetwork.j5 kj38 t356 true t357 t358))) = some r := H
           have A41 := Aside0.mk A410
           clear A410
           have HC42 := Aside0.mk H
           clear H
           go_upto_region 16 with (first | ((with_reducible refine gate_callee (f := 5) rfl ?_); refine goesL_ (some 46) rfl rfl Tryz.func5 (z11_) rfl #[.string a0] rfl (z1_) ?_; (with_reducible refine (impl_ReadNetwork.calls kj38 a0 t360 t363 t366 _ ?sideT A41.out).mono ?_); (case sideT => exact HT.out.now (z16_)); rintro e w43 ⟨v361, v364, rfl, ho0, ho1, hb⟩; refine ⟨_, rfl, ?_⟩; have n0_ := Aside0.mk (Kd.R_elder' (z75_) (Kd.R_base ho0) hb); have n1_ := Aside0.mk (Kd.R_elder' (z76_) (Kd.R_base ho1) hb); have n2_ := Aside0.mk (Kd.R_elder' (z77_) (Kd.R_base ho0) hb); have n3_ := Aside0.mk (Kd.R_elder' (z78_) (Kd.R_base ho1) hb); have n4_ := Aside0.mk (Kd.R_lower (Kd.R_new' (Kd.R_new' ho0 (Kd.R_lt (z75_))) (Kd.R_lt (z77_))) (below_size (z16_))); have n5_ := Aside0.mk (Kd.R_lower (Kd.R_new' (Kd.R_new' ho1 (Kd.R_lt (z76_))) (Kd.R_lt (z78_))) (below_size (z16_))); have n6_ := Aside0.mk (blk_below (g := gb346) (o := .cells #[.slice Ao9 t339.length co9, .slice Ao11 t342.length co11] 25 (0, 0)) (z33_) hb); have n7_ := Aside0.mk (blk_below (g := gb354) (o := .cells #[.slice Ao14 t357.length co14, .slice Ao17 t358.length co17] 25 (0, 0)) (z46_) hb); have n8_ := Aside0.mk (below_step (z16_) hb); clear HO_347000; clear HO_347001; clear HO_355000; clear HO_355001; clear BK346; clear BK354; clear HB; have HO_347000 := n0_; have HO_347001 := n1_; have HO_355000 := n2_; have HO_355001 := n3_; have HO362 := n4_; have HO365 := n5_; have BK346 := n6_; have BK354 := n7_; have HB := n8_; clear n0_ n1_ n2_ n3_ n4_ n5_ n6_ n7_ n8_; (try clear hb); (try clear hb2); (try clear hk); (try clear hi); (try clear ho0); (try clear ho1)) | ((with_reducible refine gate_dst (N := 9) rfl ?_); refine box_event ?hg (N := 9) ?hd (cs := #[.slice none 0 0, .slice none 0 0]) (t := 25) ?hr ?_; (case hd => rfl); (case hg => rfl); (case hr => first | (go_simp; done) | (go_simp; rfl)); intro gb367 hg w44 hbox hb; have n0_ := Aside0.mk (Kd.R_below (z75_) hb); have n1_ := Aside0.mk (Kd.R_below (z76_) hb); have n2_ := Aside0.mk (Kd.R_below (z77_) hb); have n3_ := Aside0.mk (Kd.R_below (z78_) hb); have n4_ := Aside0.mk (Kd.R_below (by (with_reducible repeat (first | apply rA|apply rN|apply rW)); exact HO362.out) hb); have n5_ := Aside0.mk (Kd.R_below (by (with_reducible repeat (first | apply rA|apply rN|apply rW)); exact HO365.out) hb); have n6_ := Aside0.mk (blk_below (g := gb346) (o := .cells #[.slice Ao9 t339.length co9, .slice Ao11 t342.length co11] 25 (0, 0)) (z33_) hb); have n7_ := Aside0.mk (blk_below (g := gb354) (o := .cells #[.slice Ao14 t357.length co14, .slice Ao17 t358.length co17] 25 (0, 0)) (z46_) hb); have n8_ := Aside0.mk (below_step (z16_) hb); have n9_ := Aside0.mk (hbox); have n10_ := Aside0.mk ((z138_ : w.heap.size ≤ gb367)); have n11_ := Aside0.mk ((z138_ : w.heap.size ≤ gb367)); have n12_ := Aside0.mk ((z122_ : gb346 ≠ gb367)); have n13_ := Aside0.mk ((z123_ : gb367 ≠ gb346)); have n14_ := Aside0.mk ((by rw [hg]; exact Nat.ne_of_lt (blk_lt (g := gb354) (o := .cells #[.slice Ao14 t357.length co14, .slice Ao17 t358.length co17] 25 (0, 0)) (z46_)) : gb354 ≠ gb367)); have n15_ := Aside0.mk ((by rw [hg]; exact Nat.ne_of_gt (blk_lt (g := gb354) (o := .cells #[.slice Ao14 t357.length co14, .slice Ao17 t358.length co17] 25 (0, 0)) (z46_)) : gb367 ≠ gb354)); clear HO_347000; clear HO_347001; clear HO_355000; clear HO_355001; clear HO362; clear HO365; clear BK346; clear BK354; clear HB; have HO_347000 := n0_; have HO_347001 := n1_; have HO_355000 := n2_; have HO_355001 := n3_; have HO362 := n4_; have HO365 := n5_; have BK346 := n6_; have BK354 := n7_; have HB := n8_; have BK367 := n9_; have GW367 := n10_; have GE367 := n11_; have NB346_367 := n12_; have NB367_346 := n13_; have NB354_367 := n14_; have NB367_354 := n15_; clear n0_ n1_ n2_ n3_ n4_ n5_ n6_ n7_ n8_ n9_ n10_ n11_ n12_ n13_ n14_ n15_; clear hb hbox hg; obtain ⟨Ao45, co45, eo45⟩ := Kd.R_slice HO362.out; subst eo45; have hnb46 := NB367_346.out; have hnc46 := NB346_367.out; have hnb47 := NB367_354.out; have hnc47 := NB354_367.out; have hcz48_0 := bc0_ w44 BK367.out; have hcz48_1 := bc1_ w44 BK367.out; have hfz48_0 := blk_frozen BK367.out 0; have hfz48_1 := blk_frozen BK367.out 1; obtain ⟨Ao49, co49, eo49⟩ := Kd.R_slice HO365.out; subst eo49))
           (try simp only [Act.put, List.setIfInBounds_toArray, List.set_cons_zero, List.set_cons_succ])
           go_cut [57] (fun v57 wc => ∃ (kq : Nat) (x57_41 : Bool), v57 = .bool x57_41 ∧ Aside0 (laws_FnExactReadNetwork.j5 kq t356 x57_41 t357 t358 = some r) ∧ Aside0 (kq ≤ kj38) ∧ Aside0 (Kd.R (Kd.int .i64) 2 wc w.heap.size (fun k_ => some k_ ≠ ((.slice Ao14 t357.length co14) : Value).ownBlock ∧ some k_ ≠ ((.slice Ao45 t360.length co45) : Value).ownBlock) (.slice Ao9 t339.length co9) t339) ∧ Aside0 (Kd.R k36 36 wc w.heap.size (fun k_ => some k_ ≠ ((.slice Ao17 t358.length co17) : Value).ownBlock ∧ some k_ ≠ ((.slice Ao49 t363.length co49) : Value).ownBlock) (.slice Ao11 t342.length co11) t342) ∧ Aside0 (Kd.R (Kd.int .i64) 2 wc w.heap.size (fun k_ => some k_ ≠ ((.slice Ao9 t339.length co9) : Value).ownBlock ∧ some k_ ≠ ((.slice Ao45 t360.length co45) : Value).ownBlock) (.slice Ao14 t357.length co14) t357) ∧ Aside0 (Kd.R k36 36 wc w.heap.size (fun k_ => some k_ ≠ ((.slice Ao11 t342.length co11) : Value).ownBlock ∧ some k_ ≠ ((.slice Ao49 t363.length co49) : Value).ownBlock) (.slice Ao17 t358.length co17) t358) ∧ Aside0 (Kd.R (Kd.int .i64) 2 wc w.heap.size (fun k_ => some k_ ≠ ((.slice Ao9 t339.length co9) : Value).ownBlock ∧ some k_ ≠ ((.slice Ao14 t357.length co14) : Value).ownBlock) (.slice Ao45 t360.length co45) t360) ∧ Aside0 (Kd.R k36 36 wc w.heap.size (fun k_ => some k_ ≠ ((.slice Ao11 t342.length co11) : Value).ownBlock ∧ some k_ ≠ ((.slice Ao17 t358.length co17) : Value).ownBlock) (.slice Ao49 t363.length co49) t363) ∧ Aside0 (wc.heap[gb346]? = some (.cells #[(.slice Ao9 t339.length co9), (.slice Ao11 t342.length co11)] 25 (0, 0))) ∧ Aside0 (wc.heap[gb354]? = some (.cells #[(.slice Ao14 t357.length co14), (.slice Ao17 t358.length co17)] 25 (0, 0))) ∧ Aside0 (wc.heap[gb367]? = some (.cells #[(.slice Ao45 t360.length co45), (.slice Ao49 t363.length co49)] 25 (0, 0))) ∧ Aside0 (Below w.heap.size w wc))
           case first =>
            have H := HC42.out
            clear HC42
            replace H := Option.bind_eq_some_iff.mp H
            obtain ⟨t368, A500, H⟩ := H
            have A50 := Aside0.mk A500
            clear A500
            by_cases c51 : t368 = true
            ·subst c51
             rw [if_pos rfl] at H
             have H' := Aside0.mk H
             clear H
             have hnb52 := NB367_346.out
             have hnc52 := NB346_367.out
             have hnb53 := NB367_354.out
             have hnc53 := NB354_367.out
             have hcz54_0 := bc0_ w44 BK367.out
             have hcz54_1 := bc1_ w44 BK367.out
             have hfz54_0 := blk_frozen BK367.out 0
             have hfz54_1 := blk_frozen BK367.out 1
             have hnb55 := NB346_354.out
             have hnc55 := NB354_346.out
             have hcz56_0 := bc0_ w44 BK346.out
             have hcz56_1 := bc1_ w44 BK346.out
             have hfz56_0 := blk_frozen BK346.out 0
             have hfz56_1 := blk_frozen BK346.out 1
             go_wp2_with (first | ((with_reducible refine gate_callee (f := 6) rfl ?_); refine goesL_ (some 51) rfl rfl Tryz.func6 (z11_) rfl #[.agg #[.slice Ao45 t360.length co45, .slice Ao49 t363.length co49], .agg #[.slice Ao9 t339.length co9, .slice Ao11 t342.length co11]] rfl (z1_) ?_; (with_reducible refine (laws_eqNetwork.calls _ _ t360 _ _ t363 _ _ t339 _ _ t342 true _ ?side1 ?side2 ?side3 ?side4 ?side5 ?side6 ?side7 ?side8 A50.out).mono ?_); (case side1 => refine (Kd.R_reads' (e := 2) (base := w.heap.size) (ok := fun k_ => ((True ∧ some k_ ≠ (.slice Ao9 t339.length co9 : Value).ownBlock) ∧ some k_ ≠ (.slice Ao14 t357.length co14 : Value).ownBlock)) (n := t360.length) (c := co45) ?_).2.2; exact (z44_)); (case side2 => exact (Kd.R_reads' HO362.out).2.1); (case side3 => refine (Kd.R_reads' (e := 36) (base := w.heap.size) (ok := fun k_ => ((True ∧ some k_ ≠ (.slice Ao11 t342.length co11 : Value).ownBlock) ∧ some k_ ≠ (.slice Ao17 t358.length co17 : Value).ownBlock)) (n := t363.length) (c := co49) ?_).2.2; exact (z45_)); (case side4 => exact (Kd.R_reads' HO365.out).2.1); (case side5 => refine (Kd.R_reads' (e := 2) (base := w.heap.size) (ok := fun k_ => (some k_ ≠ (.slice Ao14 t357.length co14 : Value).ownBlock ∧ some k_ ≠ (.slice Ao45 t360.length co45 : Value).ownBlock)) (n := t339.length) (c := co9) ?_).2.2; exact (z38_)); (case side6 => exact (Kd.R_reads' HO_347000.out).2.1); (case side7 => refine (Kd.R_reads' (e := 36) (base := w.heap.size) (ok := fun k_ => (some k_ ≠ (.slice Ao17 t358.length co17 : Value).ownBlock ∧ some k_ ≠ (.slice Ao49 t363.length co49 : Value).ownBlock)) (n := t342.length) (c := co11) ?_).2.2; exact (z39_)); (case side8 => exact (Kd.R_reads' HO_347001.out).2.1); rintro e w57 ⟨rfl, hb⟩; refine ⟨_, rfl, ?_⟩; have n0_ := Aside0.mk (Kd.R_below (z38_) hb); have n1_ := Aside0.mk (Kd.R_below (z39_) hb); have n2_ := Aside0.mk (Kd.R_below (z91_) hb); have n3_ := Aside0.mk (Kd.R_below (z92_) hb); have n4_ := Aside0.mk (Kd.R_below (z44_) hb); have n5_ := Aside0.mk (Kd.R_below (z45_) hb); have n6_ := Aside0.mk (blk_below (g := gb346) (o := .cells #[.slice Ao9 t339.length co9, .slice Ao11 t342.length co11] 25 (0, 0)) (z89_) hb); have n7_ := Aside0.mk (blk_below (g := gb354) (o := .cells #[.slice Ao14 t357.length co14, .slice Ao17 t358.length co17] 25 (0, 0)) (z90_) hb); have n8_ := Aside0.mk (blk_below (g := gb367) (o := .cells #[.slice Ao45 t360.length co45, .slice Ao49 t363.length co49] 25 (0, 0)) (z70_) hb); have n9_ := Aside0.mk (below_step (z20_) hb); clear HO_347000; clear HO_347001; clear HO_355000; clear HO_355001; clear HO362; clear HO365; clear BK346; clear BK354; clear BK367; clear HB; have HO_347000 := n0_; have HO_347001 := n1_; have HO_355000 := n2_; have HO_355001 := n3_; have HO362 := n4_; have HO365 := n5_; have BK346 := n6_; have BK354 := n7_; have BK367 := n8_; have HB := n9_; clear n0_ n1_ n2_ n3_ n4_ n5_ n6_ n7_ n8_ n9_; (try clear hb); (try clear hb2); (try clear hk); (try clear hi)))
             go_meet
             case rel => exact ⟨_, ((t366 != t345)), (z7_), H', ⟨z152_⟩, ⟨z104_⟩, ⟨z105_⟩, ⟨z106_⟩, ⟨z107_⟩, ⟨z135_⟩, ⟨z136_⟩, ⟨z98_⟩, ⟨z99_⟩, ⟨z121_⟩, ⟨z20_⟩⟩
            ·replace c51 := Bool.eq_false_iff.mpr c51
             subst c51
             rw [if_neg (show ¬ (false = true) by decide)] at H
             have H' := Aside0.mk H
             clear H
             have hnb58 := NB367_346.out
             have hnc58 := NB346_367.out
             have hnb59 := NB367_354.out
             have hnc59 := NB354_367.out
             have hcz60_0 := bc0_ w44 BK367.out
             have hcz60_1 := bc1_ w44 BK367.out
             have hfz60_0 := blk_frozen BK367.out 0
             have hfz60_1 := blk_frozen BK367.out 1
             have hnb61 := NB346_354.out
             have hnc61 := NB354_346.out
             have hcz62_0 := bc0_ w44 BK346.out
             have hcz62_1 := bc1_ w44 BK346.out
             have hfz62_0 := blk_frozen BK346.out 0
             have hfz62_1 := blk_frozen BK346.out 1
             go_wp2_with (first | ((with_reducible refine gate_callee (f := 6) rfl ?_); refine goesL_ (some 51) rfl rfl Tryz.func6 (z11_) rfl #[.agg #[.slice Ao45 t360.length co45, .slice Ao49 t363.length co49], .agg #[.slice Ao9 t339.length co9, .slice Ao11 t342.length co11]] rfl (z1_) ?_; (with_reducible refine (laws_eqNetwork.calls _ _ t360 _ _ t363 _ _ t339 _ _ t342 false _ ?side1 ?side2 ?side3 ?side4 ?side5 ?side6 ?side7 ?side8 A50.out).mono ?_); (case side1 => refine (Kd.R_reads' (e := 2) (base := w.heap.size) (ok := fun k_ => ((True ∧ some k_ ≠ (.slice Ao9 t339.length co9 : Value).ownBlock) ∧ some k_ ≠ (.slice Ao14 t357.length co14 : Value).ownBlock)) (n := t360.length) (c := co45) ?_).2.2; exact (z44_)); (case side2 => exact (Kd.R_reads' HO362.out).2.1); (case side3 => refine (Kd.R_reads' (e := 36) (base := w.heap.size) (ok := fun k_ => ((True ∧ some k_ ≠ (.slice Ao11 t342.length co11 : Value).ownBlock) ∧ some k_ ≠ (.slice Ao17 t358.length co17 : Value).ownBlock)) (n := t363.length) (c := co49) ?_).2.2; exact (z45_)); (case side4 => exact (Kd.R_reads' HO365.out).2.1); (case side5 => refine (Kd.R_reads' (e := 2) (base := w.heap.size) (ok := fun k_ => (some k_ ≠ (.slice Ao14 t357.length co14 : Value).ownBlock ∧ some k_ ≠ (.slice Ao45 t360.length co45 : Value).ownBlock)) (n := t339.length) (c := co9) ?_).2.2; exact (z38_)); (case side6 => exact (Kd.R_reads' HO_347000.out).2.1); (case side7 => refine (Kd.R_reads' (e := 36) (base := w.heap.size) (ok := fun k_ => (some k_ ≠ (.slice Ao17 t358.length co17 : Value).ownBlock ∧ some k_ ≠ (.slice Ao49 t363.length co49 : Value).ownBlock)) (n := t342.length) (c := co11) ?_).2.2; exact (z39_)); (case side8 => exact (Kd.R_reads' HO_347001.out).2.1); rintro e w63 ⟨rfl, hb⟩; refine ⟨_, rfl, ?_⟩; have n0_ := Aside0.mk (Kd.R_below (z38_) hb); have n1_ := Aside0.mk (Kd.R_below (z39_) hb); have n2_ := Aside0.mk (Kd.R_below (z91_) hb); have n3_ := Aside0.mk (Kd.R_below (z92_) hb); have n4_ := Aside0.mk (Kd.R_below (z44_) hb); have n5_ := Aside0.mk (Kd.R_below (z45_) hb); have n6_ := Aside0.mk (blk_below (g := gb346) (o := .cells #[.slice Ao9 t339.length co9, .slice Ao11 t342.length co11] 25 (0, 0)) (z89_) hb); have n7_ := Aside0.mk (blk_below (g := gb354) (o := .cells #[.slice Ao14 t357.length co14, .slice Ao17 t358.length co17] 25 (0, 0)) (z90_) hb); have n8_ := Aside0.mk (blk_below (g := gb367) (o := .cells #[.slice Ao45 t360.length co45, .slice Ao49 t363.length co49] 25 (0, 0)) (z70_) hb); have n9_ := Aside0.mk (below_step (z20_) hb); clear HO_347000; clear HO_347001; clear HO_355000; clear HO_355001; clear HO362; clear HO365; clear BK346; clear BK354; clear BK367; clear HB; have HO_347000 := n0_; have HO_347001 := n1_; have HO_355000 := n2_; have HO_355001 := n3_; have HO362 := n4_; have HO365 := n5_; have BK346 := n6_; have BK354 := n7_; have BK367 := n8_; have HB := n9_; clear n0_ n1_ n2_ n3_ n4_ n5_ n6_ n7_ n8_ n9_; (try clear hb); (try clear hb2); (try clear hk); (try clear hi)))
             go_meet
             case rel => exact ⟨_, (true), (z7_), H', ⟨z152_⟩, ⟨z104_⟩, ⟨z105_⟩, ⟨z106_⟩, ⟨z107_⟩, ⟨z135_⟩, ⟨z136_⟩, ⟨z98_⟩, ⟨z99_⟩, ⟨z121_⟩, ⟨z20_⟩⟩
           case rest =>
            clear HC42
            try clear c1
            try clear c2
            try clear p2
            try clear c3
            try clear c3b0
            try clear c3b1
            try clear c3b2
            try clear c4
            try clear c5
            try clear c6
            try clear c7
            try clear c8
            try clear c15
            try clear c19
            try clear c20
            try clear c24
            try clear c29
            try clear c33
            try clear c38
            try clear c38b0
            try clear c38b2
            try clear c40
            try clear c40b0
            try clear c40b1
            try clear c40b2
            try clear c46
            try clear c47
            try clear c51
            try clear c52
            try clear c53
            try clear c55
            try clear c58
            try clear c59
            try clear c61
            try clear hcz10_0
            try clear hcz10_1
            try clear hcz16_0
            try clear hcz16_1
            try clear hcz21_0
            try clear hcz21_1
            try clear hcz22_0
            try clear hcz22_1
            try clear hcz25_0
            try clear hcz25_1
            try clear hcz26_0
            try clear hcz26_1
            try clear hcz34_0
            try clear hcz34_1
            try clear hcz36_0
            try clear hcz36_1
            try clear hcz48_0
            try clear hcz48_1
            try clear hcz54_0
            try clear hcz54_1
            try clear hcz56_0
            try clear hcz56_1
            try clear hcz60_0
            try clear hcz60_1
            try clear hcz62_0
            try clear hcz62_1
            try clear hfz10_0
            try clear hfz10_1
            try clear hfz16_0
            try clear hfz16_1
            try clear hfz21_0
            try clear hfz21_1
            try clear hfz22_0
            try clear hfz22_1
            try clear hfz25_0
            try clear hfz25_1
            try clear hfz26_0
            try clear hfz26_1
            try clear hfz34_0
            try clear hfz34_1
            try clear hfz36_0
            try clear hfz36_1
            try clear hfz48_0
            try clear hfz48_1
            try clear hfz54_0
            try clear hfz54_1
            try clear hfz56_0
            try clear hfz56_1
            try clear hfz60_0
            try clear hfz60_1
            try clear hfz62_0
            try clear hfz62_1
            try clear p2
            obtain ⟨kq, x57_41, rfl, HA, HJ41, HO_347000, HO_347001, HO_355000, HO_355001, HO_368000, HO_368001, BK346, BK354, BK367, HB⟩ := hcut
            cases kq with
            | zero => exact absurd HA.out (by simp [laws_FnExactReadNetwork.j5])
            | succ kj41 =>
             have H := HA.out
             clear HA
             simp only [laws_FnExactReadNetwork.j5] at H
             have HC64 := Aside0.mk H
             clear H
             go_upto_if 57 with (fail)
             go_cut [] (fun wc => ∃ (kq : Nat), Aside0 (laws_FnExactReadNetwork.j6 kq t356 t357 t358 = some r) ∧ Aside0 (kq ≤ kj41) ∧ Aside0 (Kd.R (Kd.int .i64) 2 wc w.heap.size (fun k_ => some k_ ≠ ((.slice Ao14 t357.length co14) : Value).ownBlock ∧ some k_ ≠ ((.slice Ao45 t360.length co45) : Value).ownBlock) (.slice Ao9 t339.length co9) t339) ∧ Aside0 (Kd.R k36 36 wc w.heap.size (fun k_ => some k_ ≠ ((.slice Ao17 t358.length co17) : Value).ownBlock ∧ some k_ ≠ ((.slice Ao49 t363.length co49) : Value).ownBlock) (.slice Ao11 t342.length co11) t342) ∧ Aside0 (Kd.R (Kd.int .i64) 2 wc w.heap.size (fun k_ => some k_ ≠ ((.slice Ao9 t339.length co9) : Value).ownBlock ∧ some k_ ≠ ((.slice Ao45 t360.length co45) : Value).ownBlock) (.slice Ao14 t357.length co14) t357) ∧ Aside0 (Kd.R k36 36 wc w.heap.size (fun k_ => some k_ ≠ ((.slice Ao11 t342.length co11) : Value).ownBlock ∧ some k_ ≠ ((.slice Ao49 t363.length co49) : Value).ownBlock) (.slice Ao17 t358.length co17) t358) ∧ Aside0 (Kd.R (Kd.int .i64) 2 wc w.heap.size (fun k_ => some k_ ≠ ((.slice Ao9 t339.length co9) : Value).ownBlock ∧ some k_ ≠ ((.slice Ao14 t357.length co14) : Value).ownBlock) (.slice Ao45 t360.length co45) t360) ∧ Aside0 (Kd.R k36 36 wc w.heap.size (fun k_ => some k_ ≠ ((.slice Ao11 t342.length co11) : Value).ownBlock ∧ some k_ ≠ ((.slice Ao17 t358.length co17) : Value).ownBlock) (.slice Ao49 t363.length co49) t363) ∧ Aside0 (wc.heap[gb346]? = some (.cells #[(.slice Ao9 t339.length co9), (.slice Ao11 t342.length co11)] 25 (0, 0))) ∧ Aside0 (wc.heap[gb354]? = some (.cells #[(.slice Ao14 t357.length co14), (.slice Ao17 t358.length co17)] 25 (0, 0))) ∧ Aside0 (wc.heap[gb367]? = some (.cells #[(.slice Ao45 t360.length co45), (.slice Ao49 t363.length co49)] 25 (0, 0))) ∧ Aside0 (Below w.heap.size w wc))
             case first =>
              have H := HC64.out
              clear HC64
              by_cases c65 : x57_41 = true
              ·subst c65
               rw [if_pos rfl] at H
               obtain rfl := Option.some.inj H
               go_wp2
               go_ret
               exact ⟨z6_, z20_⟩
              ·replace c65 := Bool.eq_false_iff.mpr c65
               subst c65
               rw [if_neg (show ¬ (false = true) by decide)] at H
               have H' := Aside0.mk H
               clear H
               go_wp2
               go_meet
               case rel => exact ⟨_, H', ⟨by have := HJ1.out; have := HJ5.out; have := HJ27.out; have := HJ31.out; have := HJ38.out; have := HJ41.out; first | omega | exact Nat.le_refl _⟩, ⟨z104_⟩, ⟨z105_⟩, ⟨z106_⟩, ⟨z107_⟩, ⟨by (try simp only [hl355000_31]); (try simp only [hl355001_31]); (with_reducible repeat (first | apply rA|apply rN|apply rW)); exact HO_368000.out⟩, ⟨by (try simp only [hl355000_31]); (try simp only [hl355001_31]); (with_reducible repeat (first | apply rA|apply rN|apply rW)); exact HO_368001.out⟩, ⟨z98_⟩, ⟨z99_⟩, ⟨z121_⟩, ⟨z20_⟩⟩
             case rest =>
              clear HC64
              try clear c1
              try clear c2
              try clear p2
              try clear c3
              try clear c3b0
              try clear c3b1
              try clear c3b2
              try clear c4
              try clear c5
              try clear c6
              try clear c7
              try clear c8
              try clear c15
              try clear c19
              try clear c20
              try clear c24
              try clear c29
              try clear c33
              try clear c38
              try clear c38b0
              try clear c38b2
              try clear c40
              try clear c40b0
              try clear c40b1
              try clear c40b2
              try clear c46
              try clear c47
              try clear c51
              try clear c52
              try clear c53
              try clear c55
              try clear c58
              try clear c59
              try clear c61
              try clear c65
              try clear hcz10_0
              try clear hcz10_1
              try clear hcz16_0
              try clear hcz16_1
              try clear hcz21_0
              try clear hcz21_1
              try clear hcz22_0
              try clear hcz22_1
              try clear hcz25_0
              try clear hcz25_1
              try clear hcz26_0
              try clear hcz26_1
              try clear hcz34_0
              try clear hcz34_1
              try clear hcz36_0
              try clear hcz36_1
              try clear hcz48_0
              try clear hcz48_1
              try clear hcz54_0
              try clear hcz54_1
              try clear hcz56_0
              try clear hcz56_1
              try clear hcz60_0
              try clear hcz60_1
              try clear hcz62_0
              try clear hcz62_1
              try clear hfz10_0
              try clear hfz10_1
              try clear hfz16_0
              try clear hfz16_1
              try clear hfz21_0
              try clear hfz21_1
              try clear hfz22_0
              try clear hfz22_1
              try clear hfz25_0
              try clear hfz25_1
              try clear hfz26_0
              try clear hfz26_1
              try clear hfz34_0
              try clear hfz34_1
              try clear hfz36_0
              try clear hfz36_1
              try clear hfz48_0
              try clear hfz48_1
              try clear hfz54_0
              try clear hfz54_1
              try clear hfz56_0
              try clear hfz56_1
              try clear hfz60_0
              try clear hfz60_1
              try clear hfz62_0
              try clear hfz62_1
              try clear p2
              obtain ⟨kq, HA, HJ63, HO_347000, HO_347001, HO_355000, HO_355001, HO_368000, HO_368001, BK346, BK354, BK367, HB⟩ := hcut
              cases kq with
              | zero => exact absurd HA.out (by simp [laws_FnExactReadNetwork.j6])
              | succ kj63 =>
               have H := HA.out
               clear HA
               simp only [laws_FnExactReadNetwork.j6] at H
               replace H := Option.bind_eq_some_iff.mp H
               obtain ⟨t369, A660, H⟩ := H
               have A66 := Aside0.mk A660
               clear A660
               by_cases c67 : t369 < 0
               ·rw [if_pos c67] at H
                have c67b0 := decide_eq_true c67
                clear c67
                obtain rfl := Option.some.inj H
                have hnb68 := NB354_346.out
                have hnc68 := NB346_354.out
                have hnb69 := NB354_367.out
                have hnc69 := NB367_354.out
                have hcz70_0 := bc0_ wc BK354.out
                have hcz70_1 := bc1_ wc BK354.out
                have hfz70_0 := blk_frozen BK354.out 0
                have hfz70_1 := blk_frozen BK354.out 1
                go_wp2_with (first | ((with_reducible refine gate_callee (f := 8) rfl ?_); refine goesL_ (some 60) rfl rfl Tryz.func8 (z11_) rfl #[.agg #[.slice Ao14 t357.length co14, .slice Ao17 t358.length co17], .int .i64 1] rfl (z1_) ?_; (with_reducible refine (laws_heldNetwork.calls _ _ t357 _ _ t358 1 t369 _ ?side1 ?side2 ?side3 ?side4 A66.out).mono ?_); (case side1 => repeat (first | exact (Kd.R_reads' HO_355000.out).2.2 | (with_reducible first|refine Kd.C_alloc ?_ _|refine Kd.C_drewN ?_ _|refine Kd.C_drew ?_))); (case side2 => exact (Kd.R_reads' HO_355000.out).2.1); (case side3 => repeat (first | exact (Kd.R_reads' HO_355001.out).2.2 | (with_reducible first|refine Kd.C_alloc ?_ _|refine Kd.C_drewN ?_ _|refine Kd.C_drew ?_))); (case side4 => exact (Kd.R_reads' HO_355001.out).2.1); rintro e w71 ⟨rfl, hb⟩; refine ⟨_, rfl, ?_⟩; have n0_ := Aside0.mk (Kd.R_below (z75_) hb); have n1_ := Aside0.mk (Kd.R_below (z76_) hb); have n2_ := Aside0.mk (Kd.R_below (z77_) hb); have n3_ := Aside0.mk (Kd.R_below (z78_) hb); have n4_ := Aside0.mk (Kd.R_below (z153_) hb); have n5_ := Aside0.mk (Kd.R_below (z154_) hb); have n6_ := Aside0.mk (blk_below (g := gb346) (o := .cells #[.slice Ao9 t339.length co9, .slice Ao11 t342.length co11] 25 (0, 0)) (z33_) hb); have n7_ := Aside0.mk (blk_below (g := gb354) (o := .cells #[.slice Ao14 t357.length co14, .slice Ao17 t358.length co17] 25 (0, 0)) (z46_) hb); have n8_ := Aside0.mk (blk_below (g := gb367) (o := .cells #[.slice Ao45 t360.length co45, .slice Ao49 t363.length co49] 25 (0, 0)) (z150_) hb); have n9_ := Aside0.mk (below_step (z20_) hb); clear HO_347000; clear HO_347001; clear HO_355000; clear HO_355001; clear HO_368000; clear HO_368001; clear BK346; clear BK354; clear BK367; clear HB; have HO_347000 := n0_; have HO_347001 := n1_; have HO_355000 := n2_; have HO_355001 := n3_; have HO_368000 := n4_; have HO_368001 := n5_; have BK346 := n6_; have BK354 := n7_; have BK367 := n8_; have HB := n9_; clear n0_ n1_ n2_ n3_ n4_ n5_ n6_ n7_ n8_ n9_; (try clear hb); (try clear hb2); (try clear hk); (try clear hi)))
                go_ret
                exact ⟨z6_, z20_⟩
               ·rw [if_neg c67] at H
                have c67b0 := decide_eq_false c67
                clear c67
                by_cases c72 : t369 = t356
                ·rw [if_pos c72] at H
                 have c72b0 : (t369 == t356) = true := beq_iff_eq.mpr c72
                 have c72b1 : (t369 != t356) = false := bne_eq_false_iff_eq.mpr c72
                 clear c72
                 obtain rfl := Option.some.inj H
                 have hnb73 := NB354_346.out
                 have hnc73 := NB346_354.out
                 have hnb74 := NB354_367.out
                 have hnc74 := NB367_354.out
                 have hcz75_0 := bc0_ wc BK354.out
                 have hcz75_1 := bc1_ wc BK354.out
                 have hfz75_0 := blk_frozen BK354.out 0
                 have hfz75_1 := blk_frozen BK354.out 1
                 go_wp2_with (first | ((with_reducible refine gate_callee (f := 8) rfl ?_); refine goesL_ (some 60) rfl rfl Tryz.func8 (z11_) rfl #[.agg #[.slice Ao14 t357.length co14, .slice Ao17 t358.length co17], .int .i64 1] rfl (z1_) ?_; (with_reducible refine (laws_heldNetwork.calls _ _ t357 _ _ t358 1 t369 _ ?side1 ?side2 ?side3 ?side4 A66.out).mono ?_); (case side1 => repeat (first | exact (Kd.R_reads' HO_355000.out).2.2 | (with_reducible first|refine Kd.C_alloc ?_ _|refine Kd.C_drewN ?_ _|refine Kd.C_drew ?_))); (case side2 => exact (Kd.R_reads' HO_355000.out).2.1); (case side3 => repeat (first | exact (Kd.R_reads' HO_355001.out).2.2 | (with_reducible first|refine Kd.C_alloc ?_ _|refine Kd.C_drewN ?_ _|refine Kd.C_drew ?_))); (case side4 => exact (Kd.R_reads' HO_355001.out).2.1); rintro e w76 ⟨rfl, hb⟩; refine ⟨_, rfl, ?_⟩; have n0_ := Aside0.mk (Kd.R_below (z75_) hb); have n1_ := Aside0.mk (Kd.R_below (z76_) hb); have n2_ := Aside0.mk (Kd.R_below (z77_) hb); have n3_ := Aside0.mk (Kd.R_below (z78_) hb); have n4_ := Aside0.mk (Kd.R_below (z153_) hb); have n5_ := Aside0.mk (Kd.R_below (z154_) hb); have n6_ := Aside0.mk (blk_below (g := gb346) (o := .cells #[.slice Ao9 t339.length co9, .slice Ao11 t342.length co11] 25 (0, 0)) (z33_) hb); have n7_ := Aside0.mk (blk_below (g := gb354) (o := .cells #[.slice Ao14 t357.length co14, .slice Ao17 t358.length co17] 25 (0, 0)) (z46_) hb); have n8_ := Aside0.mk (blk_below (g := gb367) (o := .cells #[.slice Ao45 t360.length co45, .slice Ao49 t363.length co49] 25 (0, 0)) (z150_) hb); have n9_ := Aside0.mk (below_step (z20_) hb); clear HO_347000; clear HO_347001; clear HO_355000; clear HO_355001; clear HO_368000; clear HO_368001; clear BK346; clear BK354; clear BK367; clear HB; have HO_347000 := n0_; have HO_347001 := n1_; have HO_355000 := n2_; have HO_355001 := n3_; have HO_368000 := n4_; have HO_368001 := n5_; have BK346 := n6_; have BK354 := n7_; have BK367 := n8_; have HB := n9_; clear n0_ n1_ n2_ n3_ n4_ n5_ n6_ n7_ n8_ n9_; (try clear hb); (try clear hb2); (try clear hk); (try clear hi)))
                 go_ret
                 exact ⟨z6_, z20_⟩
                ·rw [if_neg c72] at H
                 have c72b0 : (t369 == t356) = false := beq_eq_false_iff_ne.mpr c72
                 have c72b1 : (t369 != t356) = true := bne_iff_ne.mpr c72
                 obtain rfl := Option.some.inj H
                 have hnb77 := NB354_346.out
                 have hnc77 := NB346_354.out
                 have hnb78 := NB354_367.out
                 have hnc78 := NB367_354.out
                 have hcz79_0 := bc0_ wc BK354.out
                 have hcz79_1 := bc1_ wc BK354.out
                 have hfz79_0 := blk_frozen BK354.out 0
                 have hfz79_1 := blk_frozen BK354.out 1
                 go_wp2_with (first | ((with_reducible refine gate_callee (f := 8) rfl ?_); refine goesL_ (some 60) rfl rfl Tryz.func8 (z11_) rfl #[.agg #[.slice Ao14 t357.length co14, .slice Ao17 t358.length co17], .int .i64 1] rfl (z1_) ?_; (with_reducible refine (laws_heldNetwork.calls _ _ t357 _ _ t358 1 t369 _ ?side1 ?side2 ?side3 ?side4 A66.out).mono ?_); (case side1 => repeat (first | exact (Kd.R_reads' HO_355000.out).2.2 | (with_reducible first|refine Kd.C_alloc ?_ _|refine Kd.C_drewN ?_ _|refine Kd.C_drew ?_))); (case side2 => exact (Kd.R_reads' HO_355000.out).2.1); (case side3 => repeat (first | exact (Kd.R_reads' HO_355001.out).2.2 | (with_reducible first|refine Kd.C_alloc ?_ _|refine Kd.C_drewN ?_ _|refine Kd.C_drew ?_))); (case side4 => exact (Kd.R_reads' HO_355001.out).2.1); rintro e w80 ⟨rfl, hb⟩; refine ⟨_, rfl, ?_⟩; have n0_ := Aside0.mk (Kd.R_below (z75_) hb); have n1_ := Aside0.mk (Kd.R_below (z76_) hb); have n2_ := Aside0.mk (Kd.R_below (z77_) hb); have n3_ := Aside0.mk (Kd.R_below (z78_) hb); have n4_ := Aside0.mk (Kd.R_below (z153_) hb); have n5_ := Aside0.mk (Kd.R_below (z154_) hb); have n6_ := Aside0.mk (blk_below (g := gb346) (o := .cells #[.slice Ao9 t339.length co9, .slice Ao11 t342.length co11] 25 (0, 0)) (z33_) hb); have n7_ := Aside0.mk (blk_below (g := gb354) (o := .cells #[.slice Ao14 t357.length co14, .slice Ao17 t358.length co17] 25 (0, 0)) (z46_) hb); have n8_ := Aside0.mk (blk_below (g := gb367) (o := .cells #[.slice Ao45 t360.length co45, .slice Ao49 t363.length co49] 25 (0, 0)) (z150_) hb); have n9_ := Aside0.mk (below_step (z20_) hb); clear HO_347000; clear HO_347001; clear HO_355000; clear HO_355001; clear HO_368000; clear HO_368001; clear BK346; clear BK354; clear BK367; clear HB; have HO_347000 := n0_; have HO_347001 := n1_; have HO_355000 := n2_; have HO_355001 := n3_; have HO_368000 := n4_; have HO_368001 := n5_; have BK346 := n6_; have BK354 := n7_; have BK367 := n8_; have HB := n9_; clear n0_ n1_ n2_ n3_ n4_ n5_ n6_ n7_ n8_ n9_; (try clear hb); (try clear hb2); (try clear hk); (try clear hi)))
                 go_ret
                 exact ⟨z6_, z20_⟩

/-- THE ONE PURE STATEMENT of laws_FnExactReadNetwork: yours. -/
def laws_FnExactReadNetwork.Pure : Prop := ∀ (a0 : ByteArray), a0.size ≤ 140737488351232 → ∃ k, laws_FnExactReadNetwork.f k a0 = some true
theorem laws_FnExactReadNetwork.walk (P : laws_FnExactReadNetwork.Pure) (a0 : ByteArray) (w : World) (w0 : a0.size ≤ 140737488351232) (ht : Tabs true true true w) :
  Calls Tryz.prog 3 #[.string a0] w fun e w' => e = .returned (.bool true) ∧ Below w.heap.size w w' := by
 obtain ⟨k, h⟩ := P a0 w0
 refine (laws_FnExactReadNetwork.calls k a0 true w ht h).mono ?_
 rintro e w' ⟨rfl, hd⟩
 exact ⟨rfl, hd⟩

end Go.Proofs.YtabgkdejpkpejaaGreatDoor.PFnExactReadNetwork
