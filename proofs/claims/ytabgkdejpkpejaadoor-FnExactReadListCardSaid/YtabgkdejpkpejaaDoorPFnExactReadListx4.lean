-- Printed by a program of this session (wip/hprint.sh: the kit's print with hand-proved contracts put in); not by print.sh itself.
import Derived.Test.YtabgkdejpkpejaaDoorPFnExactReadListx0
import Derived.Test.YtabgkdejpkpejaaDoorPFnExactReadListx1
import Derived.Test.YtabgkdejpkpejaaDoorPFnExactReadListx2
import Derived.Test.YtabgkdejpkpejaaDoorPFnExactReadListx3
namespace Go.Proofs.YtabgkdejpkpejaaDoor.PFnExactReadList
open Go.RowKit Go.Proofs.YtabgkdejpkpejaaDoorW.PrintWords Go.Proofs.YtabgkdejpkpejaaDoorW.PrintLast Go.Proofs.YtabgkdejpkpejaaDoorW.PrintMore Go.Proofs.YtabgkdejpkpejaaDoorM
attribute [local go_sem] max2_int min2_int max_two min_two max_three min_three max_four min_four   -- for this text's walks alone
set_option linter.unusedVariables false
set_option linter.unusedSimpArgs false

/-! ### laws_FnExactReadList: function 9 -/
mutual
def laws_FnExactReadList.j0 : Nat → ByteArray → Option (Bool)
 | 0, _ => none
 | k + 1, x0 => (spec_ReadList.f k x0).bind fun bt152 => ((impl_ReadList.f k x0).bind fun bt156 => ((laws_eqInt64S_.f bt156.1 bt152.1).bind fun t160 => (if t160 = true then (laws_FnExactReadList.j1 k x0 bt152.1 bt152.2 bt156.1 (bt156.2 != bt152.2)) else (laws_FnExactReadList.j1 k x0 bt152.1 bt152.2 bt156.1 true))))
def laws_FnExactReadList.j1 : Nat → ByteArray → List Int → Bool → List Int → Bool → Option (Bool)
 | 0, _, _, _, _, _ => none
 | k + 1, x0, x3, x4, x5, x32 => if x32 = true then (some false) else (laws_FnExactReadList.j2 k x0 x3 x4 x5)
def laws_FnExactReadList.j2 : Nat → ByteArray → List Int → Bool → List Int → Option (Bool)
 | 0, _, _, _, _ => none
 | k + 1, x0, x3, x4, x5 => (laws_markInt64S_.f x5 1).bind fun bt161 => ((laws_heldInt64S_.f bt161.2 1).bind fun t163 => (if t163 < 0 then (some false) else (laws_FnExactReadList.j3 k x0 x3 x4 bt161.2 bt161.1 t163)))
def laws_FnExactReadList.j3 : Nat → ByteArray → List Int → Bool → List Int → Int → Int → Option (Bool)
 | 0, _, _, _, _, _, _ => none
 | k + 1, x0, x3, x4, x5, x7, x8 => if x8 = x7 then (laws_FnExactReadList.j4 k x0 x3 x4 x5 x7) else (some false)
def laws_FnExactReadList.j4 : Nat → ByteArray → List Int → Bool → List Int → Int → Option (Bool)
 | 0, _, _, _, _, _ => none
 | k + 1, x0, x3, x4, x5, x7 => (impl_ReadList.f k x0).bind fun bt164 => ((laws_eqInt64S_.f bt164.1 x3).bind fun t168 => (if t168 = true then (laws_FnExactReadList.j5 k x5 x7 (bt164.2 != x4)) else (laws_FnExactReadList.j5 k x5 x7 true)))
def laws_FnExactReadList.j5 : Nat → List Int → Int → Bool → Option (Bool)
 | 0, _, _, _ => none
 | k + 1, x5, x7, x57 => if x57 = true then (some false) else (laws_FnExactReadList.j6 k x5 x7)
def laws_FnExactReadList.j6 : Nat → List Int → Int → Option (Bool)
 | 0, _, _ => none
 | k + 1, x5, x7 => (laws_heldInt64S_.f x5 1).bind fun t169 => (if t169 < 0 then (some false) else (if t169 = x7 then (some true) else (some false)))
end
def laws_FnExactReadList.f (k : Nat) (a0 : ByteArray) : Option (Bool) := if (a0.size : Int) > 1048576 then (some true) else (laws_FnExactReadList.j0 k a0)
theorem laws_FnExactReadList.mono_l : ∀ k, (∀ y0, LeO (laws_FnExactReadList.j0 k y0) (laws_FnExactReadList.j0 (k + 1) y0)) ∧ (∀ y0 y1 y2 y3 y4, LeO (laws_FnExactReadList.j1 k y0 y1 y2 y3 y4) (laws_FnExactReadList.j1 (k + 1) y0 y1 y2 y3 y4)) ∧ (∀ y0 y1 y2 y3, LeO (laws_FnExactReadList.j2 k y0 y1 y2 y3) (laws_FnExactReadList.j2 (k + 1) y0 y1 y2 y3)) ∧ (∀ y0 y1 y2 y3 y4 y5, LeO (laws_FnExactReadList.j3 k y0 y1 y2 y3 y4 y5) (laws_FnExactReadList.j3 (k + 1) y0 y1 y2 y3 y4 y5)) ∧ (∀ y0 y1 y2 y3 y4, LeO (laws_FnExactReadList.j4 k y0 y1 y2 y3 y4) (laws_FnExactReadList.j4 (k + 1) y0 y1 y2 y3 y4)) ∧ (∀ y0 y1 y2, LeO (laws_FnExactReadList.j5 k y0 y1 y2) (laws_FnExactReadList.j5 (k + 1) y0 y1 y2)) ∧ (∀ y0 y1, LeO (laws_FnExactReadList.j6 k y0 y1) (laws_FnExactReadList.j6 (k + 1) y0 y1))
 | 0 => ⟨fun _ r h => by simp [laws_FnExactReadList.j0] at h, fun _ _ _ _ _ r h => by simp [laws_FnExactReadList.j1] at h, fun _ _ _ _ r h => by simp [laws_FnExactReadList.j2] at h, fun _ _ _ _ _ _ r h => by simp [laws_FnExactReadList.j3] at h, fun _ _ _ _ _ r h => by simp [laws_FnExactReadList.j4] at h, fun _ _ _ r h => by simp [laws_FnExactReadList.j5] at h, fun _ _ r h => by simp [laws_FnExactReadList.j6] at h⟩
 | k + 1 => by
  obtain ⟨ih0, ih1, ih2, ih3, ih4, ih5, ih6⟩ := laws_FnExactReadList.mono_l k
  refine ⟨?_, ?_, ?_, ?_, ?_, ?_, ?_⟩
  ·intro y0
   unfold laws_FnExactReadList.j0
   repeat' first
   | (with_reducible exact ih0 _)
   | (with_reducible exact ih1 _ _ _ _ _)
   | (with_reducible exact ih2 _ _ _ _)
   | (with_reducible exact ih3 _ _ _ _ _ _)
   | (with_reducible exact ih4 _ _ _ _ _)
   | (with_reducible exact ih5 _ _ _)
   | (with_reducible exact ih6 _ _)
   | (with_reducible exact impl_ReadList.mono _ _)
   | (with_reducible exact spec_ReadList.mono _ _)
   | (with_reducible exact LeO.refl _)
   | (with_reducible exact LeO.none _)
   | (with_reducible refine LeO.ite ?_ ?_)
   | (with_reducible refine LeO.bind ?_ (fun _ => ?_))
   | exact ih0 _
   | exact ih1 _ _ _ _ _
   | exact ih2 _ _ _ _
   | exact ih3 _ _ _ _ _ _
   | exact ih4 _ _ _ _ _
   | exact ih5 _ _ _
   | exact ih6 _ _
   | exact impl_ReadList.mono _ _
   | exact spec_ReadList.mono _ _
   | exact LeO.none _
   | refine LeO.ite ?_ ?_
   | refine LeO.bind ?_ (fun _ => ?_)
  ·intro y0 y1 y2 y3 y4
   unfold laws_FnExactReadList.j1
   repeat' first
   | (with_reducible exact ih0 _)
   | (with_reducible exact ih1 _ _ _ _ _)
   | (with_reducible exact ih2 _ _ _ _)
   | (with_reducible exact ih3 _ _ _ _ _ _)
   | (with_reducible exact ih4 _ _ _ _ _)
   | (with_reducible exact ih5 _ _ _)
   | (with_reducible exact ih6 _ _)
   | (with_reducible exact impl_ReadList.mono _ _)
   | (with_reducible exact spec_ReadList.mono _ _)
   | (with_reducible exact LeO.refl _)
   | (with_reducible exact LeO.none _)
   | (with_reducible refine LeO.ite ?_ ?_)
   | (with_reducible refine LeO.bind ?_ (fun _ => ?_))
   | exact ih0 _
   | exact ih1 _ _ _ _ _
   | exact ih2 _ _ _ _
   | exact ih3 _ _ _ _ _ _
   | exact ih4 _ _ _ _ _
   | exact ih5 _ _ _
   | exact ih6 _ _
   | exact impl_ReadList.mono _ _
   | exact spec_ReadList.mono _ _
   | exact LeO.none _
   | refine LeO.ite ?_ ?_
   | refine LeO.bind ?_ (fun _ => ?_)
  ·intro y0 y1 y2 y3
   unfold laws_FnExactReadList.j2
   repeat' first
   | (with_reducible exact ih0 _)
   | (with_reducible exact ih1 _ _ _ _ _)
   | (with_reducible exact ih2 _ _ _ _)
   | (with_reducible exact ih3 _ _ _ _ _ _)
   | (with_reducible exact ih4 _ _ _ _ _)
   | (with_reducible exact ih5 _ _ _)
   | (with_reducible exact ih6 _ _)
   | (with_reducible exact impl_ReadList.mono _ _)
   | (with_reducible exact spec_ReadList.mono _ _)
   | (with_reducible exact LeO.refl _)
   | (with_reducible exact LeO.none _)
   | (with_reducible refine LeO.ite ?_ ?_)
   | (with_reducible refine LeO.bind ?_ (fun _ => ?_))
   | exact ih0 _
   | exact ih1 _ _ _ _ _
   | exact ih2 _ _ _ _
   | exact ih3 _ _ _ _ _ _
   | exact ih4 _ _ _ _ _
   | exact ih5 _ _ _
   | exact ih6 _ _
   | exact impl_ReadList.mono _ _
   | exact spec_ReadList.mono _ _
   | exact LeO.none _
   | refine LeO.ite ?_ ?_
   | refine LeO.bind ?_ (fun _ => ?_)
  ·intro y0 y1 y2 y3 y4 y5
   unfold laws_FnExactReadList.j3
   repeat' first
   | (with_reducible exact ih0 _)
   | (with_reducible exact ih1 _ _ _ _ _)
   | (with_reducible exact ih2 _ _ _ _)
   | (with_reducible exact ih3 _ _ _ _ _ _)
   | (with_reducible exact ih4 _ _ _ _ _)
   | (with_reducible exact ih5 _ _ _)
   | (with_reducible exact ih6 _ _)
   | (with_reducible exact impl_ReadList.mono _ _)
   | (with_reducible exact spec_ReadList.mono _ _)
   | (with_reducible exact LeO.refl _)
   | (with_reducible exact LeO.none _)
   | (with_reducible refine LeO.ite ?_ ?_)
   | (with_reducible refine LeO.bind ?_ (fun _ => ?_))
   | exact ih0 _
   | exact ih1 _ _ _ _ _
   | exact ih2 _ _ _ _
   | exact ih3 _ _ _ _ _ _
   | exact ih4 _ _ _ _ _
   | exact ih5 _ _ _
   | exact ih6 _ _
   | exact impl_ReadList.mono _ _
   | exact spec_ReadList.mono _ _
   | exact LeO.none _
   | refine LeO.ite ?_ ?_
   | refine LeO.bind ?_ (fun _ => ?_)
  ·intro y0 y1 y2 y3 y4
   unfold laws_FnExactReadList.j4
   repeat' first
   | (with_reducible exact ih0 _)
   | (with_reducible exact ih1 _ _ _ _ _)
   | (with_reducible exact ih2 _ _ _ _)
   | (with_reducible exact ih3 _ _ _ _ _ _)
   | (with_reducible exact ih4 _ _ _ _ _)
   | (with_reducible exact ih5 _ _ _)
   | (with_reducible exact ih6 _ _)
   | (with_reducible exact impl_ReadList.mono _ _)
   | (with_reducible exact spec_ReadList.mono _ _)
   | (with_reducible exact LeO.refl _)
   | (with_reducible exact LeO.none _)
   | (with_reducible refine LeO.ite ?_ ?_)
   | (with_reducible refine LeO.bind ?_ (fun _ => ?_))
   | exact ih0 _
   | exact ih1 _ _ _ _ _
   | exact ih2 _ _ _ _
   | exact ih3 _ _ _ _ _ _
   | exact ih4 _ _ _ _ _
   | exact ih5 _ _ _
   | exact ih6 _ _
   | exact impl_ReadList.mono _ _
   | exact spec_ReadList.mono _ _
   | exact LeO.none _
   | refine LeO.ite ?_ ?_
   | refine LeO.bind ?_ (fun _ => ?_)
  ·intro y0 y1 y2
   unfold laws_FnExactReadList.j5
   repeat' first
   | (with_reducible exact ih0 _)
   | (with_reducible exact ih1 _ _ _ _ _)
   | (with_reducible exact ih2 _ _ _ _)
   | (with_reducible exact ih3 _ _ _ _ _ _)
   | (with_reducible exact ih4 _ _ _ _ _)
   | (with_reducible exact ih5 _ _ _)
   | (with_reducible exact ih6 _ _)
   | (with_reducible exact impl_ReadList.mono _ _)
   | (with_reducible exact spec_ReadList.mono _ _)
   | (with_reducible exact LeO.refl _)
   | (with_reducible exact LeO.none _)
   | (with_reducible refine LeO.ite ?_ ?_)
   | (with_reducible refine LeO.bind ?_ (fun _ => ?_))
   | exact ih0 _
   | exact ih1 _ _ _ _ _
   | exact ih2 _ _ _ _
   | exact ih3 _ _ _ _ _ _
   | exact ih4 _ _ _ _ _
   | exact ih5 _ _ _
   | exact ih6 _ _
   | exact impl_ReadList.mono _ _
   | exact spec_ReadList.mono _ _
   | exact LeO.none _
   | refine LeO.ite ?_ ?_
   | refine LeO.bind ?_ (fun _ => ?_)
  ·intro y0 y1
   unfold laws_FnExactReadList.j6
   repeat' first
   | (with_reducible exact ih0 _)
   | (with_reducible exact ih1 _ _ _ _ _)
   | (with_reducible exact ih2 _ _ _ _)
   | (with_reducible exact ih3 _ _ _ _ _ _)
   | (with_reducible exact ih4 _ _ _ _ _)
   | (with_reducible exact ih5 _ _ _)
   | (with_reducible exact ih6 _ _)
   | (with_reducible exact impl_ReadList.mono _ _)
   | (with_reducible exact spec_ReadList.mono _ _)
   | (with_reducible exact LeO.refl _)
   | (with_reducible exact LeO.none _)
   | (with_reducible refine LeO.ite ?_ ?_)
   | (with_reducible refine LeO.bind ?_ (fun _ => ?_))
   | exact ih0 _
   | exact ih1 _ _ _ _ _
   | exact ih2 _ _ _ _
   | exact ih3 _ _ _ _ _ _
   | exact ih4 _ _ _ _ _
   | exact ih5 _ _ _
   | exact ih6 _ _
   | exact impl_ReadList.mono _ _
   | exact spec_ReadList.mono _ _
   | exact LeO.none _
   | refine LeO.ite ?_ ?_
   | refine LeO.bind ?_ (fun _ => ?_)
theorem laws_FnExactReadList.mono : ∀ a0 k, LeO (laws_FnExactReadList.f k a0) (laws_FnExactReadList.f (k + 1) a0) := by
 intro a0 k
 obtain ⟨ih0, ih1, ih2, ih3, ih4, ih5, ih6⟩ := laws_FnExactReadList.mono_l k
 unfold laws_FnExactReadList.f
 repeat' first
   | (with_reducible exact ih0 _)
   | (with_reducible exact ih1 _ _ _ _ _)
   | (with_reducible exact ih2 _ _ _ _)
   | (with_reducible exact ih3 _ _ _ _ _ _)
   | (with_reducible exact ih4 _ _ _ _ _)
   | (with_reducible exact ih5 _ _ _)
   | (with_reducible exact ih6 _ _)
   | (with_reducible exact impl_ReadList.mono _ _)
   | (with_reducible exact spec_ReadList.mono _ _)
   | (with_reducible exact LeO.refl _)
   | (with_reducible exact LeO.none _)
   | (with_reducible refine LeO.ite ?_ ?_)
   | (with_reducible refine LeO.bind ?_ (fun _ => ?_))
   | exact ih0 _
   | exact ih1 _ _ _ _ _
   | exact ih2 _ _ _ _
   | exact ih3 _ _ _ _ _ _
   | exact ih4 _ _ _ _ _
   | exact ih5 _ _ _
   | exact ih6 _ _
   | exact impl_ReadList.mono _ _
   | exact spec_ReadList.mono _ _
   | exact LeO.none _
   | refine LeO.ite ?_ ?_
   | refine LeO.bind ?_ (fun _ => ?_)
set_option maxHeartbeats 8000000 in
set_option maxRecDepth 100000 in
theorem laws_FnExactReadList.calls (k : Nat) (a0 : ByteArray) (r : Bool) (w : World) (ht : Tabs true true true w) (h : laws_FnExactReadList.f k a0 = some r) :
  Calls Tryd.prog 9 #[.string a0] w fun e w' => e = .returned (.bool r) ∧ Below w.heap.size w w' := by
 have HT := Aside0.mk ht
 clear ht
 have HB := Aside0.mk (Below.refl w.heap.size w)
 have H : (if (a0.size : Int) > 1048576 then (some true) else (laws_FnExactReadList.j0 k a0)) = some r := h
 clear h
 have HC2 := Aside0.mk H
 clear H
 go_enter Tryd.func9, Tryd.ntmps9
 go_upto_if 13 with (fail)
 go_cut [] (fun wc => ∃ (kq : Nat), Aside0 (laws_FnExactReadList.j0 kq a0 = some r) ∧ Aside0 (kq ≤ k) ∧ Aside0 (Below w.heap.size w wc))
 case first =>
  have H := HC2.out
  clear HC2
  by_cases c3 : (a0.size : Int) > 1048576
  ·rw [if_pos c3] at H
   have c3b0 : decide (1048576 < (a0.size : Int)) = true := decide_eq_true c3
   have c3b1 : decide (1048576 < a0.size) = true := decide_eq_true (by omega)
   clear c3
   (first | rw [c3b0] | (simp only [i64_w, i32_w]; rw [c3b0]) | rw [c3b2] | skip)
   obtain rfl := Option.some.inj H
   go_wp2
   go_ret
   exact ⟨by first | rfl | (simp [errW_none, errW_some] <;> rfl) | (simp [*, errW_none, errW_some] <;> rfl), by repeat (first | (with_reducible first | exact HB.out|apply wA|apply wN|apply wD) | exact HB.out)⟩
  ·rw [if_neg c3] at H
   have c3b0 : decide (1048576 < (a0.size : Int)) = false := decide_eq_false c3
   have c3b1 : decide (1048576 < a0.size) = false := decide_eq_false (by omega)
   clear c3
   (first | rw [c3b0] | (simp only [i64_w, i32_w]; rw [c3b0]) | rw [c3b2] | skip)
   have H' := Aside0.mk H
   clear H
   go_wp2
   go_meet
   case rel => exact ⟨_, H', ⟨by first | omega | exact Nat.le_refl _⟩, ⟨by repeat (first | (with_reducible first | exact HB.out|apply wA|apply wN|apply wD) | exact HB.out)⟩⟩
 case rest =>
  clear HC2
  try clear p2
  try clear c3
  try clear c3b0
  try clear c3b1
  try clear c3b2
  obtain ⟨kq, HA, HJ1, HB⟩ := hcut
  cases kq with
  | zero => exact absurd HA.out (by simp [laws_FnExactReadList.j0])
  | succ kj1 =>
   have H := HA.out
   clear HA
   simp only [laws_FnExactReadList.j0] at H
   replace H := Option.bind_eq_some_iff.mp H
   obtain ⟨⟨t152, t153⟩, A40, H⟩ := H
   replace H : ((impl_ReadList.f kj1 a0).bind fun bt156 => ((laws_eqInt64S_.f bt156.1 t152).bind fun t160 => (if t160 = true then (laws_FnExactReadList.j1 kj1 a0 t152 t153 bt156.1 (bt156.2 != t153)) else (laws_FnExactReadList.j1 kj1 a0 t152 t153 bt156.1 true)))) = some r := H
   have A4 := Aside0.mk A40
   clear A40
   replace H := Option.bind_eq_some_iff.mp H
   obtain ⟨⟨t156, t157⟩, A50, H⟩ := H
   replace H : ((laws_eqInt64S_.f t156 t152).bind fun t160 => (if t160 = true then (laws_FnExactReadList.j1 kj1 a0 t152 t153 t156 (t157 != t153)) else (laws_FnExactReadList.j1 kj1 a0 t152 t153 t156 true))) = some r := H
   have A5 := Aside0.mk A50
   clear A50
   have HC6 := Aside0.mk H
   clear H
   go_upto_region 5 with (first | ((with_reducible refine gate_callee (f := 30) rfl ?_); refine goesL_ (some 16) rfl rfl Tryd.func30 (by kernel_rfl) rfl #[.string a0] rfl (by (try simp only [List.map_toArray, List.map_cons, List.map_nil]); first | done | rfl | (simp only [List.length_drop, List.length_take]; rfl)) ?_; (with_reducible refine (spec_ReadList.calls kj1 a0 t152 t153 _ A4.out).mono ?_); rintro e w7 ⟨v154, rfl, ho0, hb⟩; refine ⟨_, rfl, ?_⟩; have n0_ := Aside0.mk (Kd.R_lower ho0 (below_size (by repeat (first | (with_reducible first | exact HB.out|apply wA|apply wN|apply wD) | exact HB.out)))); have n1_ := Aside0.mk (below_step (by repeat (first | (with_reducible first | exact HB.out|apply wA|apply wN|apply wD) | exact HB.out)) hb); clear HB; have HO155 := n0_; have HB := n1_; clear n0_ n1_; (try clear hb); (try clear hb2); (try clear hk); (try clear hi); (try clear ho0)) | ((with_reducible refine gate_callee (f := 31) rfl ?_); refine goesL_ (some 21) rfl rfl Tryd.func31 (by kernel_rfl) rfl #[.string a0] rfl (by (try simp only [List.map_toArray, List.map_cons, List.map_nil]); first | done | rfl | (simp only [List.length_drop, List.length_take]; rfl)) ?_; (with_reducible refine (impl_ReadList.calls kj1 a0 t156 t157 _ ?sideT A5.out).mono ?_); (case sideT => exact HT.out.now (by repeat (first | (with_reducible first | exact HB.out|apply wA|apply wN|apply wD) | exact HB.out))); rintro e w8 ⟨v158, rfl, ho0, hb⟩; refine ⟨_, rfl, ?_⟩; have n0_ := Aside0.mk (Kd.R_elder' (by (with_reducible repeat (first | apply rA|apply rN|apply rW)); exact HO155.out) (Kd.R_base ho0) hb); have n1_ := Aside0.mk (Kd.R_lower (Kd.R_new' ho0 (Kd.R_lt (by (with_reducible repeat (first | apply rA|apply rN|apply rW)); exact HO155.out))) (below_size (by repeat (first | (with_reducible first | exact HB.out|apply wA|apply wN|apply wD) | exact HB.out)))); have n2_ := Aside0.mk (below_step (by repeat (first | (with_reducible first | exact HB.out|apply wA|apply wN|apply wD) | exact HB.out)) hb); clear HO155; clear HB; have HO155 := n0_; have HO159 := n1_; have HB := n2_; clear n0_ n1_ n2_; (try clear hb); (try clear hb2); (try clear hk); (try clear hi); (try clear ho0)))
   (try simp only [Act.put, List.setIfInBounds_toArray, List.set_cons_zero, List.set_cons_succ])
   go_cut [32] (fun v32 wc => ∃ (kq : Nat) (x32_5 : Bool), v32 = .bool x32_5 ∧ Aside0 (laws_FnExactReadList.j1 kq a0 t152 t153 t156 x32_5 = some r) ∧ Aside0 (kq ≤ kj1) ∧ Aside0 (Kd.R (Kd.int .i64) 2 wc w.heap.size (fun k_ => some k_ ≠ (v158 : Value).ownBlock) v154 t152) ∧ Aside0 (Kd.R (Kd.int .i64) 2 wc w.heap.size (fun k_ => some k_ ≠ (v154 : Value).ownBlock) v158 t156) ∧ Aside0 (Below w.heap.size w wc))
   case first =>
    have H := HC6.out
    clear HC6
    replace H := Option.bind_eq_some_iff.mp H
    obtain ⟨t160, A90, H⟩ := H
    replace H : (if t160 = true then (laws_FnExactReadList.j1 kj1 a0 t152 t153 t156 (t157 != t153)) else (laws_FnExactReadList.j1 kj1 a0 t152 t153 t156 true)) = some r := H
    have A9 := Aside0.mk A90
    clear A90
    by_cases c10 : t160 = true
    ·subst c10
     have H1 : (laws_FnExactReadList.j1 kj1 a0 t152 t153 t156 (t157 != t153)) = some r := by rw [if_pos rfl] at H; exact H
     clear H
     have H := H1
     clear H1
     have H' := Aside0.mk H
     clear H
     obtain ⟨Ao11, co11, eo11⟩ := Kd.R_slice HO159.out
     subst eo11
     obtain ⟨Ao12, co12, eo12⟩ := Kd.R_slice HO155.out
     subst eo12
     go_wp2_with (first | ((with_reducible refine gate_callee (f := 29) rfl ?_); refine goesL_ (some 26) rfl rfl Tryd.func29 (by kernel_rfl) rfl #[.slice Ao11 t156.length co11, .slice Ao12 t152.length co12] rfl (by (try simp only [List.map_toArray, List.map_cons, List.map_nil]); first | done | rfl | (simp only [List.length_drop, List.length_take]; rfl)) ?_; (with_reducible refine (laws_eqInt64S_.calls _ _ t156 _ _ t152 true _ ?side1 ?side2 ?side3 ?side4 A9.out).mono ?_); (case side1 => repeat (first | exact (Kd.R_reads' HO159.out).2.2 | (with_reducible first|refine Kd.C_alloc ?_ _|refine Kd.C_drewN ?_ _|refine Kd.C_drew ?_))); (case side2 => exact (Kd.R_reads' HO159.out).2.1); (case side3 => repeat (first | exact (Kd.R_reads' HO155.out).2.2 | (with_reducible first|refine Kd.C_alloc ?_ _|refine Kd.C_drewN ?_ _|refine Kd.C_drew ?_))); (case side4 => exact (Kd.R_reads' HO155.out).2.1); rintro e w' ⟨rfl, ⟨nd, rfl⟩⟩; refine ⟨_, rfl, ?_⟩))
     go_meet
     case rel => exact ⟨_, ((t157 != t153)), (by first | rfl | (simp; done) | (simp [*]; done)), H', ⟨by have := HJ1.out; first | omega | exact Nat.le_refl _⟩, ⟨by (with_reducible repeat (first | apply rA|apply rN|apply rW)); exact Kd.R_mono HO155.out (fun _ hk => hk.2)⟩, ⟨by (with_reducible repeat (first | apply rA|apply rN|apply rW)); exact Kd.R_mono HO159.out (fun _ hk => hk.2)⟩, ⟨by repeat (first | (with_reducible first | exact HB.out|apply wA|apply wN|apply wD) | exact HB.out)⟩⟩
    ·replace c10 := Bool.eq_false_iff.mpr c10
     subst c10
     have H1 : (laws_FnExactReadList.j1 kj1 a0 t152 t153 t156 true) = some r := by rw [if_neg (show ¬ (false = true) by decide)] at H; exact H
     clear H
     have H := H1
     clear H1
     have H' := Aside0.mk H
     clear H
     obtain ⟨Ao13, co13, eo13⟩ := Kd.R_slice HO159.out
     subst eo13
     obtain ⟨Ao14, co14, eo14⟩ := Kd.R_slice HO155.out
     subst eo14
     go_wp2_with (first | ((with_reducible refine gate_callee (f := 29) rfl ?_); refine goesL_ (some 26) rfl rfl Tryd.func29 (by kernel_rfl) rfl #[.slice Ao13 t156.length co13, .slice Ao14 t152.length co14] rfl (by (try simp only [List.map_toArray, List.map_cons, List.map_nil]); first | done | rfl | (simp only [List.length_drop, List.length_take]; rfl)) ?_; (with_reducible refine (laws_eqInt64S_.calls _ _ t156 _ _ t152 false _ ?side1 ?side2 ?side3 ?side4 A9.out).mono ?_); (case side1 => repeat (first | exact (Kd.R_reads' HO159.out).2.2 | (with_reducible first|refine Kd.C_alloc ?_ _|refine Kd.C_drewN ?_ _|refine Kd.C_drew ?_))); (case side2 => exact (Kd.R_reads' HO159.out).2.1); (case side3 => repeat (first | exact (Kd.R_reads' HO155.out).2.2 | (with_reducible first|refine Kd.C_alloc ?_ _|refine Kd.C_drewN ?_ _|refine Kd.C_drew ?_))); (case side4 => exact (Kd.R_reads' HO155.out).2.1); rintro e w' ⟨rfl, ⟨nd, rfl⟩⟩; refine ⟨_, rfl, ?_⟩))
     go_meet
     case rel => exact ⟨_, (true), (by first | rfl | (simp; done) | (simp [*]; done)), H', ⟨by have := HJ1.out; first | omega | exact Nat.le_refl _⟩, ⟨by (with_reducible repeat (first | apply rA|apply rN|apply rW)); exact Kd.R_mono HO155.out (fun _ hk => hk.2)⟩, ⟨by (with_reducible repeat (first | apply rA|apply rN|apply rW)); exact Kd.R_mono HO159.out (fun _ hk => hk.2)⟩, ⟨by repeat (first | (with_reducible first | exact HB.out|apply wA|apply wN|apply wD) | exact HB.out)⟩⟩
   case rest =>
    clear HC6
    try clear c1
    try clear c2
    try clear p2
    try clear c3
    try clear c3b0
    try clear c3b1
    try clear c3b2
    try clear c9
    try clear c10
    try clear p2
    obtain ⟨kq, x32_5, rfl, HA, HJ5, HO_3, HO_5, HB⟩ := hcut
    cases kq with
    | zero => exact absurd HA.out (by simp [laws_FnExactReadList.j1])
    | succ kj5 =>
     have H := HA.out
     clear HA
     simp only [laws_FnExactReadList.j1] at H
     have HC15 := Aside0.mk H
     clear H
     go_upto_if 32 with (fail)
     go_cut [] (fun wc => ∃ (kq : Nat), Aside0 (laws_FnExactReadList.j2 kq a0 t152 t153 t156 = some r) ∧ Aside0 (kq ≤ kj5) ∧ Aside0 (Kd.R (Kd.int .i64) 2 wc w.heap.size (fun k_ => some k_ ≠ (v158 : Value).ownBlock) v154 t152) ∧ Aside0 (Kd.R (Kd.int .i64) 2 wc w.heap.size (fun k_ => some k_ ≠ (v154 : Value).ownBlock) v158 t156) ∧ Aside0 (Below w.heap.size w wc))
     case first =>
      have H := HC15.out
      clear HC15
      by_cases c16 : x32_5 = true
      ·subst c16
       have H1 : (some false) = some r := by rw [if_pos rfl] at H; exact H
       clear H
       have H := H1
       clear H1
       obtain rfl := Option.some.inj H
       go_wp2
       go_ret
       exact ⟨by first | rfl | (simp [errW_none, errW_some] <;> rfl) | (simp [*, errW_none, errW_some] <;> rfl), by repeat (first | (with_reducible first | exact HB.out|apply wA|apply wN|apply wD) | exact HB.out)⟩
      ·replace c16 := Bool.eq_false_iff.mpr c16
       subst c16
       have H1 : (laws_FnExactReadList.j2 kj5 a0 t152 t153 t156) = some r := by rw [if_neg (show ¬ (false = true) by decide)] at H; exact H
       clear H
       have H := H1
       clear H1
       have H' := Aside0.mk H
       clear H
       go_wp2
       go_meet
       case rel => exact ⟨_, H', ⟨by have := HJ1.out; have := HJ5.out; first | omega | exact Nat.le_refl _⟩, ⟨by (with_reducible repeat (first | apply rA|apply rN|apply rW)); exact HO_3.out⟩, ⟨by (with_reducible repeat (first | apply rA|apply rN|apply rW)); exact HO_5.out⟩, ⟨by repeat (first | (with_reducible first | exact HB.out|apply wA|apply wN|apply wD) | exact HB.out)⟩⟩
     case rest =>
      clear HC15
      try clear c1
      try clear c2
      try clear p2
      try clear c3
      try clear c3b0
      try clear c3b1
      try clear c3b2
      try clear c9
      try clear c10
      try clear c16
      try clear p2
      obtain ⟨kq, HA, HJ14, HO_3, HO_5, HB⟩ := hcut
      cases kq with
      | zero => exact absurd HA.out (by simp [laws_FnExactReadList.j2])
      | succ kj14 =>
       have H := HA.out
       clear HA
       simp only [laws_FnExactReadList.j2] at H
       replace H := Option.bind_eq_some_iff.mp H
       obtain ⟨⟨t161, t162⟩, A170, H⟩ := H
       replace H : ((laws_heldInt64S_.f t162 1).bind fun t163 => (if t163 < 0 then (some false) else (laws_FnExactReadList.j3 kj14 a0 t152 t153 t162 t161 t163))) = some r := H
       have A17 := Aside0.mk A170
       clear A170
       replace H := Option.bind_eq_some_iff.mp H
       obtain ⟨t163, A180, H⟩ := H
       replace H : (if t163 < 0 then (some false) else (laws_FnExactReadList.j3 kj14 a0 t152 t153 t162 t161 t163)) = some r := H
       have A18 := Aside0.mk A180
       clear A180
       have HC19 := Aside0.mk H
       clear H
       obtain ⟨Ao20, co20, eo20⟩ := Kd.R_slice HO_5.out
       subst eo20
       go_upto_if 40 with (first | ((with_reducible refine gate_callee (f := 32) rfl ?_); refine goesL_ (some 35) rfl rfl Tryd.func32 (by kernel_rfl) rfl #[.slice Ao20 t156.length co20, .int .i64 1] rfl (by (try simp only [List.map_toArray, List.map_cons, List.map_nil]); first | done | rfl | (simp only [List.length_drop, List.length_take]; rfl)) ?_; (with_reducible refine (laws_markInt64S_.calls (fun k_ => some k_ = (.slice Ao20 t156.length co20 : Value).ownBlock) (.slice Ao20 t156.length co20) t156 1 t161 t162 w _ ?side1 ?side2 A17.out).mono ?_); (case side1 => repeat (first | (with_reducible first | exact HB.out|apply wA|apply wN|apply wD) | exact HB.out)); (case side2 => exact Kd.R_tight rfl HO_5.out); rintro e w21 ⟨rfl, hy0, hb, hkp⟩; refine ⟨_, rfl, ?_⟩; have n0_ := Aside0.mk (Kd.R_mono (ok' := fun k_ => some k_ ≠ (.slice Ao20 t156.length co20 : Value).ownBlock) (Kd.R_keptB (HO_3.out) hkp (fun k_ hk_ hs_ => (hk_) hs_)) (fun k_ hk_ => hk_.1)); have n1_ := Aside0.mk (Kd.R_reok rfl hy0 (fun k_ e_ => HO_5.out.1 k_ e_)); have n2_ := Aside0.mk (hb); clear HO_3; clear HO_5; clear HB; have HO_3 := n0_; have HO_5 := n1_; have HB := n2_; clear n0_ n1_ n2_; (try clear hb); (try clear hkp); (try clear hy0)) | ((with_reducible refine gate_callee (f := 33) rfl ?_); refine goesL_ (some 38) rfl rfl Tryd.func33 (by kernel_rfl) rfl #[.slice Ao20 t162.length co20, .int .i64 1] rfl (by (try simp only [List.map_toArray, List.map_cons, List.map_nil]); first | done | (rw [show t162.length = t156.length from (Kd.R_reads' HO_5.out).1.symm] <;> rfl) | rfl | (simp only [List.length_drop, List.length_take]; rfl)) ?_; (with_reducible refine (laws_heldInt64S_.calls _ _ t162 1 t163 _ ?side1 ?side2 A18.out).mono ?_); (case side1 => repeat (first | exact (Kd.R_reads' HO_5.out).2.2 | (with_reducible first|refine Kd.C_alloc ?_ _|refine Kd.C_drewN ?_ _|refine Kd.C_drew ?_))); (case side2 => rw [show t162.length = t156.length from (Kd.R_reads' HO_5.out).1.symm]; exact (Kd.R_reads' HO_5.out).2.1); rintro e w' ⟨rfl, ⟨nd, rfl⟩⟩; refine ⟨_, rfl, ?_⟩))
       (try simp only [Act.put, List.setIfInBounds_toArray, List.set_cons_zero, List.set_cons_succ])
       go_cut [] (fun wc => ∃ (kq : Nat), Aside0 (laws_FnExactReadList.j3 kq a0 t152 t153 t162 t161 t163 = some r) ∧ Aside0 (kq ≤ kj14) ∧ Aside0 (Kd.R (Kd.int .i64) 2 wc w.heap.size (fun k_ => some k_ ≠ ((.slice Ao20 t156.length co20) : Value).ownBlock) v154 t152) ∧ Aside0 (Kd.R (Kd.int .i64) 2 wc w.heap.size (fun k_ => some k_ ≠ (v154 : Value).ownBlock) (.slice Ao20 t156.length co20) t162) ∧ Aside0 (Below w.heap.size w wc))
       case first =>
        have H := HC19.out
        clear HC19
        by_cases c22 : t163 < 0
        ·rw [if_pos c22] at H
         have c22b0 : decide (t163 < 0) = true := decide_eq_true c22
         clear c22
         (first | rw [c22b0] | (simp only [i64_w, i32_w]; rw [c22b0]) | rw [c22b2] | skip)
         obtain rfl := Option.some.inj H
         go_wp2
         go_ret
         exact ⟨by first | rfl | (simp [errW_none, errW_some] <;> rfl) | (simp [*, errW_none, errW_some] <;> rfl), by repeat (first | (with_reducible first | exact HB.out|apply wA|apply wN|apply wD) | exact HB.out)⟩
        ·rw [if_neg c22] at H
         have c22b0 : decide (t163 < 0) = false := decide_eq_false c22
         clear c22
         (first | rw [c22b0] | (simp only [i64_w, i32_w]; rw [c22b0]) | rw [c22b2] | skip)
         have H' := Aside0.mk H
         clear H
         go_wp2
         go_meet
         case rel => exact ⟨_, H', ⟨by have := HJ1.out; have := HJ5.out; have := HJ14.out; first | omega | exact Nat.le_refl _⟩, ⟨by (with_reducible repeat (first | apply rA|apply rN|apply rW)); exact HO_3.out⟩, ⟨by (with_reducible repeat (first | apply rA|apply rN|apply rW)); exact HO_5.out⟩, ⟨by repeat (first | (with_reducible first | exact HB.out|apply wA|apply wN|apply wD) | exact HB.out)⟩⟩
       case rest =>
        clear HC19
        try clear c1
        try clear c2
        try clear p2
        try clear c3
        try clear c3b0
        try clear c3b1
        try clear c3b2
        try clear c9
        try clear c10
        try clear c16
        try clear c22
        try clear c22b0
        try clear c22b2
        try clear p2
        obtain ⟨kq, HA, HJ18, HO_3, HO_5, HB⟩ := hcut
        have hl5_18 := (Kd.R_reads' HO_5.out).1
        rw [hl5_18] at HO_5
        (try simp only [hl5_18])
        (try simp only [hl5_18] at HO_3)
        cases kq with
        | zero => exact absurd HA.out (by simp [laws_FnExactReadList.j3])
        | succ kj18 =>
         have H := HA.out
         clear HA
         simp only [laws_FnExactReadList.j3] at H
         have HC23 := Aside0.mk H
         clear H
         go_upto_if 43 with (fail)
         go_cut [] (fun wc => ∃ (kq : Nat), Aside0 (laws_FnExactReadList.j4 kq a0 t152 t153 t162 t161 = some r) ∧ Aside0 (kq ≤ kj18) ∧ Aside0 (Kd.R (Kd.int .i64) 2 wc w.heap.size (fun k_ => some k_ ≠ ((.slice Ao20 t162.length co20) : Value).ownBlock) v154 t152) ∧ Aside0 (Kd.R (Kd.int .i64) 2 wc w.heap.size (fun k_ => some k_ ≠ (v154 : Value).ownBlock) (.slice Ao20 t162.length co20) t162) ∧ Aside0 (Below w.heap.size w wc))
         case first =>
          have H := HC23.out
          clear HC23
          by_cases c24 : t163 = t161
          ·rw [if_pos c24] at H
           have c24b0 : (t163 == t161) = true := beq_iff_eq.mpr c24
           have c24b1 : (t163 != t161) = false := bne_eq_false_iff_eq.mpr c24
           clear c24
           (first | rw [c24b0] | (simp only [i64_w, i32_w]; rw [c24b0]) | rw [c24b2] | skip)
           have H' := Aside0.mk H
           clear H
           go_wp2
           go_meet
           case rel => exact ⟨_, H', ⟨by have := HJ1.out; have := HJ5.out; have := HJ14.out; have := HJ18.out; first | omega | exact Nat.le_refl _⟩, ⟨by (try simp only [hl5_18]); (with_reducible repeat (first | apply rA|apply rN|apply rW)); exact HO_3.out⟩, ⟨by (try simp only [hl5_18]); (with_reducible repeat (first | apply rA|apply rN|apply rW)); exact HO_5.out⟩, ⟨by repeat (first | (with_reducible first | exact HB.out|apply wA|apply wN|apply wD) | exact HB.out)⟩⟩
          ·rw [if_neg c24] at H
           have c24b0 : (t163 == t161) = false := beq_eq_false_iff_ne.mpr c24
           have c24b1 : (t163 != t161) = true := bne_iff_ne.mpr c24
           (first | rw [c24b0] | (simp only [i64_w, i32_w]; rw [c24b0]) | rw [c24b2] | skip)
           obtain rfl := Option.some.inj H
           go_wp2
           go_ret
           exact ⟨by first | rfl | (simp [errW_none, errW_some] <;> rfl) | (simp [*, errW_none, errW_some] <;> rfl), by repeat (first | (with_reducible first | exact HB.out|apply wA|apply wN|apply wD) | exact HB.out)⟩
         case rest =>
          clear HC23
          try clear c1
          try clear c2
          try clear p2
          try clear c3
          try clear c3b0
          try clear c3b1
          try clear c3b2
          try clear c9
          try clear c10
          try clear c16
          try clear c22
          try clear c22b0
          try clear c22b2
          try clear c24
          try clear c24b0
          try clear c24b1
          try clear c24b2
          try clear p2
          obtain ⟨kq, HA, HJ22, HO_3, HO_5, HB⟩ := hcut
          cases kq with
          | zero => exact absurd HA.out (by simp [laws_FnExactReadList.j4])
          | succ kj22 =>
           have H := HA.out
           clear HA
           simp only [laws_FnExactReadList.j4] at H
           replace H := Option.bind_eq_some_iff.mp H
           obtain ⟨⟨t164, t165⟩, A250, H⟩ := H
           replace H : ((laws_eqInt64S_.f t164 t152).bind fun t168 => (if t168 = true then (laws_FnExactReadList.j5 kj22 t162 t161 (t165 != t153)) else (laws_FnExactReadList.j5 kj22 t162 t161 true))) = some r := H
           have A25 := Aside0.mk A250
           clear A250
           have HC26 := Aside0.mk H
           clear H
           go_upto_region 16 with (first | ((with_reducible refine gate_callee (f := 31) rfl ?_); refine goesL_ (some 46) rfl rfl Tryd.func31 (by kernel_rfl) rfl #[.string a0] rfl (by (try simp only [List.map_toArray, List.map_cons, List.map_nil]); first | done | rfl | (simp only [List.length_drop, List.length_take]; rfl)) ?_; (with_reducible refine (impl_ReadList.calls kj22 a0 t164 t165 _ ?sideT A25.out).mono ?_); (case sideT => exact HT.out.now (by repeat (first | (with_reducible first | exact HB.out|apply wA|apply wN|apply wD) | exact HB.out))); rintro e w27 ⟨v166, rfl, ho0, hb⟩; refine ⟨_, rfl, ?_⟩; have n0_ := Aside0.mk (Kd.R_elder' (by (with_reducible repeat (first | apply rA|apply rN|apply rW)); exact HO_3.out) (Kd.R_base ho0) hb); have n1_ := Aside0.mk (Kd.R_elder' (by (with_reducible repeat (first | apply rA|apply rN|apply rW)); exact HO_5.out) (Kd.R_base ho0) hb); have n2_ := Aside0.mk (Kd.R_lower (Kd.R_new' (Kd.R_new' ho0 (Kd.R_lt (by (with_reducible repeat (first | apply rA|apply rN|apply rW)); exact HO_3.out))) (Kd.R_lt (by (with_reducible repeat (first | apply rA|apply rN|apply rW)); exact HO_5.out))) (below_size (by repeat (first | (with_reducible first | exact HB.out|apply wA|apply wN|apply wD) | exact HB.out)))); have n3_ := Aside0.mk (below_step (by repeat (first | (with_reducible first | exact HB.out|apply wA|apply wN|apply wD) | exact HB.out)) hb); clear HO_3; clear HO_5; clear HB; have HO_3 := n0_; have HO_5 := n1_; have HO167 := n2_; have HB := n3_; clear n0_ n1_ n2_ n3_; (try clear hb); (try clear hb2); (try clear hk); (try clear hi); (try clear ho0)))
           (try simp only [Act.put, List.setIfInBounds_toArray, List.set_cons_zero, List.set_cons_succ])
           go_cut [57] (fun v57 wc => ∃ (kq : Nat) (x57_25 : Bool), v57 = .bool x57_25 ∧ Aside0 (laws_FnExactReadList.j5 kq t162 t161 x57_25 = some r) ∧ Aside0 (kq ≤ kj22) ∧ Aside0 (Kd.R (Kd.int .i64) 2 wc w.heap.size (fun _ => True) (.slice Ao20 t162.length co20) t162) ∧ Aside0 (Below w.heap.size w wc))
           case first =>
            have H := HC26.out
            clear HC26
            replace H := Option.bind_eq_some_iff.mp H
            obtain ⟨t168, A280, H⟩ := H
            replace H : (if t168 = true then (laws_FnExactReadList.j5 kj22 t162 t161 (t165 != t153)) else (laws_FnExactReadList.j5 kj22 t162 t161 true)) = some r := H
            have A28 := Aside0.mk A280
            clear A280
            by_cases c29 : t168 = true
            ·subst c29
             have H1 : (laws_FnExactReadList.j5 kj22 t162 t161 (t165 != t153)) = some r := by rw [if_pos rfl] at H; exact H
             clear H
             have H := H1
             clear H1
             have H' := Aside0.mk H
             clear H
             obtain ⟨Ao30, co30, eo30⟩ := Kd.R_slice HO167.out
             subst eo30
             obtain ⟨Ao31, co31, eo31⟩ := Kd.R_slice HO_3.out
             subst eo31
             go_wp2_with (first | ((with_reducible refine gate_callee (f := 29) rfl ?_); refine goesL_ (some 51) rfl rfl Tryd.func29 (by kernel_rfl) rfl #[.slice Ao30 t164.length co30, .slice Ao31 t152.length co31] rfl (by (try simp only [List.map_toArray, List.map_cons, List.map_nil]); first | done | rfl | (simp only [List.length_drop, List.length_take]; rfl)) ?_; (with_reducible refine (laws_eqInt64S_.calls _ _ t164 _ _ t152 true _ ?side1 ?side2 ?side3 ?side4 A28.out).mono ?_); (case side1 => repeat (first | exact (Kd.R_reads' HO167.out).2.2 | (with_reducible first|refine Kd.C_alloc ?_ _|refine Kd.C_drewN ?_ _|refine Kd.C_drew ?_))); (case side2 => exact (Kd.R_reads' HO167.out).2.1); (case side3 => repeat (first | exact (Kd.R_reads' HO_3.out).2.2 | (with_reducible first|refine Kd.C_alloc ?_ _|refine Kd.C_drewN ?_ _|refine Kd.C_drew ?_))); (case side4 => exact (Kd.R_reads' HO_3.out).2.1); rintro e w' ⟨rfl, ⟨nd, rfl⟩⟩; refine ⟨_, rfl, ?_⟩))
             go_meet
             case rel => exact ⟨_, ((t165 != t153)), (by first | rfl | (simp; done) | (simp [*]; done)), H', ⟨by have := HJ1.out; have := HJ5.out; have := HJ14.out; have := HJ18.out; have := HJ22.out; first | omega | exact Nat.le_refl _⟩, ⟨by (try simp only [hl5_18]); (with_reducible repeat (first | apply rA|apply rN|apply rW)); exact Kd.R_mono HO_5.out (fun _ hk => trivial)⟩, ⟨by repeat (first | (with_reducible first | exact HB.out|apply wA|apply wN|apply wD) | exact HB.out)⟩⟩
            ·replace c29 := Bool.eq_false_iff.mpr c29
             subst c29
             have H1 : (laws_FnExactReadList.j5 kj22 t162 t161 true) = some r := by rw [if_neg (show ¬ (false = true) by decide)] at H; exact H
             clear H
             have H := H1
             clear H1
             have H' := Aside0.mk H
             clear H
             obtain ⟨Ao32, co32, eo32⟩ := Kd.R_slice HO167.out
             subst eo32
             obtain ⟨Ao33, co33, eo33⟩ := Kd.R_slice HO_3.out
             subst eo33
             go_wp2_with (first | ((with_reducible refine gate_callee (f := 29) rfl ?_); refine goesL_ (some 51) rfl rfl Tryd.func29 (by kernel_rfl) rfl #[.slice Ao32 t164.length co32, .slice Ao33 t152.length co33] rfl (by (try simp only [List.map_toArray, List.map_cons, List.map_nil]); first | done | rfl | (simp only [List.length_drop, List.length_take]; rfl)) ?_; (with_reducible refine (laws_eqInt64S_.calls _ _ t164 _ _ t152 false _ ?side1 ?side2 ?side3 ?side4 A28.out).mono ?_); (case side1 => repeat (first | exact (Kd.R_reads' HO167.out).2.2 | (with_reducible first|refine Kd.C_alloc ?_ _|refine Kd.C_drewN ?_ _|refine Kd.C_drew ?_))); (case side2 => exact (Kd.R_reads' HO167.out).2.1); (case side3 => repeat (first | exact (Kd.R_reads' HO_3.out).2.2 | (with_reducible first|refine Kd.C_alloc ?_ _|refine Kd.C_drewN ?_ _|refine Kd.C_drew ?_))); (case side4 => exact (Kd.R_reads' HO_3.out).2.1); rintro e w' ⟨rfl, ⟨nd, rfl⟩⟩; refine ⟨_, rfl, ?_⟩))
             go_meet
             case rel => exact ⟨_, (true), (by first | rfl | (simp; done) | (simp [*]; done)), H', ⟨by have := HJ1.out; have := HJ5.out; have := HJ14.out; have := HJ18.out; have := HJ22.out; first | omega | exact Nat.le_refl _⟩, ⟨by (try simp only [hl5_18]); (with_reducible repeat (first | apply rA|apply rN|apply rW)); exact Kd.R_mono HO_5.out (fun _ hk => trivial)⟩, ⟨by repeat (first | (with_reducible first | exact HB.out|apply wA|apply wN|apply wD) | exact HB.out)⟩⟩
           case rest =>
            clear HC26
            try clear c1
            try clear c2
            try clear p2
            try clear c3
            try clear c3b0
            try clear c3b1
            try clear c3b2
            try clear c9
            try clear c10
            try clear c16
            try clear c22
            try clear c22b0
            try clear c22b2
            try clear c24
            try clear c24b0
            try clear c24b1
            try clear c24b2
            try clear c29
            try clear c30
            try clear c31
            try clear c32
            try clear c33
            try clear p2
            obtain ⟨kq, x57_25, rfl, HA, HJ25, HO_5, HB⟩ := hcut
            cases kq with
            | zero => exact absurd HA.out (by simp [laws_FnExactReadList.j5])
            | succ kj25 =>
             have H := HA.out
             clear HA
             simp only [laws_FnExactReadList.j5] at H
             have HC34 := Aside0.mk H
             clear H
             go_upto_if 57 with (fail)
             go_cut [] (fun wc => ∃ (kq : Nat), Aside0 (laws_FnExactReadList.j6 kq t162 t161 = some r) ∧ Aside0 (kq ≤ kj25) ∧ Aside0 (Kd.R (Kd.int .i64) 2 wc w.heap.size (fun _ => True) (.slice Ao20 t162.length co20) t162) ∧ Aside0 (Below w.heap.size w wc))
             case first =>
              have H := HC34.out
              clear HC34
              by_cases c35 : x57_25 = true
              ·subst c35
               have H1 : (some false) = some r := by rw [if_pos rfl] at H; exact H
               clear H
               have H := H1
               clear H1
               obtain rfl := Option.some.inj H
               go_wp2
               go_ret
               exact ⟨by first | rfl | (simp [errW_none, errW_some] <;> rfl) | (simp [*, errW_none, errW_some] <;> rfl), by repeat (first | (with_reducible first | exact HB.out|apply wA|apply wN|apply wD) | exact HB.out)⟩
              ·replace c35 := Bool.eq_false_iff.mpr c35
               subst c35
               have H1 : (laws_FnExactReadList.j6 kj25 t162 t161) = some r := by rw [if_neg (show ¬ (false = true) by decide)] at H; exact H
               clear H
               have H := H1
               clear H1
               have H' := Aside0.mk H
               clear H
               go_wp2
               go_meet
               case rel => exact ⟨_, H', ⟨by have := HJ1.out; have := HJ5.out; have := HJ14.out; have := HJ18.out; have := HJ22.out; have := HJ25.out; first | omega | exact Nat.le_refl _⟩, ⟨by (try simp only [hl5_18]); (with_reducible repeat (first | apply rA|apply rN|apply rW)); exact HO_5.out⟩, ⟨by repeat (first | (with_reducible first | exact HB.out|apply wA|apply wN|apply wD) | exact HB.out)⟩⟩
             case rest =>
              clear HC34
              try clear c1
              try clear c2
              try clear p2
              try clear c3
              try clear c3b0
              try clear c3b1
              try clear c3b2
              try clear c9
              try clear c10
              try clear c16
              try clear c22
              try clear c22b0
              try clear c22b2
              try clear c24
              try clear c24b0
              try clear c24b1
              try clear c24b2
              try clear c29
              try clear c30
              try clear c31
              try clear c32
              try clear c33
              try clear c35
              try clear p2
              obtain ⟨kq, HA, HJ33, HO_5, HB⟩ := hcut
              cases kq with
              | zero => exact absurd HA.out (by simp [laws_FnExactReadList.j6])
              | succ kj33 =>
               have H := HA.out
               clear HA
               simp only [laws_FnExactReadList.j6] at H
               replace H := Option.bind_eq_some_iff.mp H
               obtain ⟨t169, A360, H⟩ := H
               replace H : (if t169 < 0 then (some false) else (if t169 = t161 then (some true) else (some false))) = some r := H
               have A36 := Aside0.mk A360
               clear A360
               by_cases c37 : t169 < 0
               ·rw [if_pos c37] at H
                have c37b0 : decide (t169 < 0) = true := decide_eq_true c37
                clear c37
                obtain rfl := Option.some.inj H
                go_wp2_with (first | ((with_reducible refine gate_callee (f := 33) rfl ?_); refine goesL_ (some 60) rfl rfl Tryd.func33 (by kernel_rfl) rfl #[.slice Ao20 t162.length co20, .int .i64 1] rfl (by (try simp only [List.map_toArray, List.map_cons, List.map_nil]); first | done | rfl | (simp only [List.length_drop, List.length_take]; rfl)) ?_; (with_reducible refine (laws_heldInt64S_.calls _ _ t162 1 t169 _ ?side1 ?side2 A36.out).mono ?_); (case side1 => repeat (first | exact (Kd.R_reads' HO_5.out).2.2 | (with_reducible first|refine Kd.C_alloc ?_ _|refine Kd.C_drewN ?_ _|refine Kd.C_drew ?_))); (case side2 => exact (Kd.R_reads' HO_5.out).2.1); rintro e w' ⟨rfl, ⟨nd, rfl⟩⟩; refine ⟨_, rfl, ?_⟩))
                go_ret
                exact ⟨by first | rfl | (simp [errW_none, errW_some] <;> rfl) | (simp [*, errW_none, errW_some] <;> rfl), by repeat (first | (with_reducible first | exact HB.out|apply wA|apply wN|apply wD) | exact HB.out)⟩
               ·rw [if_neg c37] at H
                have c37b0 : decide (t169 < 0) = false := decide_eq_false c37
                clear c37
                by_cases c38 : t169 = t161
                ·rw [if_pos c38] at H
                 have c38b0 : (t169 == t161) = true := beq_iff_eq.mpr c38
                 have c38b1 : (t169 != t161) = false := bne_eq_false_iff_eq.mpr c38
                 clear c38
                 obtain rfl := Option.some.inj H
                 go_wp2_with (first | ((with_reducible refine gate_callee (f := 33) rfl ?_); refine goesL_ (some 60) rfl rfl Tryd.func33 (by kernel_rfl) rfl #[.slice Ao20 t162.length co20, .int .i64 1] rfl (by (try simp only [List.map_toArray, List.map_cons, List.map_nil]); first | done | rfl | (simp only [List.length_drop, List.length_take]; rfl)) ?_; (with_reducible refine (laws_heldInt64S_.calls _ _ t162 1 t169 _ ?side1 ?side2 A36.out).mono ?_); (case side1 => repeat (first | exact (Kd.R_reads' HO_5.out).2.2 | (with_reducible first|refine Kd.C_alloc ?_ _|refine Kd.C_drewN ?_ _|refine Kd.C_drew ?_))); (case side2 => exact (Kd.R_reads' HO_5.out).2.1); rintro e w' ⟨rfl, ⟨nd, rfl⟩⟩; refine ⟨_, rfl, ?_⟩))
                 go_ret
                 exact ⟨by first | rfl | (simp [errW_none, errW_some] <;> rfl) | (simp [*, errW_none, errW_some] <;> rfl), by repeat (first | (with_reducible first | exact HB.out|apply wA|apply wN|apply wD) | exact HB.out)⟩
                ·rw [if_neg c38] at H
                 have c38b0 : (t169 == t161) = false := beq_eq_false_iff_ne.mpr c38
                 have c38b1 : (t169 != t161) = true := bne_iff_ne.mpr c38
                 obtain rfl := Option.some.inj H
                 go_wp2_with (first | ((with_reducible refine gate_callee (f := 33) rfl ?_); refine goesL_ (some 60) rfl rfl Tryd.func33 (by kernel_rfl) rfl #[.slice Ao20 t162.length co20, .int .i64 1] rfl (by (try simp only [List.map_toArray, List.map_cons, List.map_nil]); first | done | rfl | (simp only [List.length_drop, List.length_take]; rfl)) ?_; (with_reducible refine (laws_heldInt64S_.calls _ _ t162 1 t169 _ ?side1 ?side2 A36.out).mono ?_); (case side1 => repeat (first | exact (Kd.R_reads' HO_5.out).2.2 | (with_reducible first|refine Kd.C_alloc ?_ _|refine Kd.C_drewN ?_ _|refine Kd.C_drew ?_))); (case side2 => exact (Kd.R_reads' HO_5.out).2.1); rintro e w' ⟨rfl, ⟨nd, rfl⟩⟩; refine ⟨_, rfl, ?_⟩))
                 go_ret
                 exact ⟨by first | rfl | (simp [errW_none, errW_some] <;> rfl) | (simp [*, errW_none, errW_some] <;> rfl), by repeat (first | (with_reducible first | exact HB.out|apply wA|apply wN|apply wD) | exact HB.out)⟩

/-- THE ONE PURE STATEMENT of laws_FnExactReadList: yours. -/
def laws_FnExactReadList.Pure : Prop := ∀ (a0 : ByteArray), a0.size ≤ 140737488351232 → ∃ k, laws_FnExactReadList.f k a0 = some true
theorem laws_FnExactReadList.walk (P : laws_FnExactReadList.Pure) (a0 : ByteArray) (w : World) (w0 : a0.size ≤ 140737488351232) (ht : Tabs true true true w) :
  Calls Tryd.prog 9 #[.string a0] w fun e w' => e = .returned (.bool true) ∧ Below w.heap.size w w' := by
 obtain ⟨k, h⟩ := P a0 w0
 refine (laws_FnExactReadList.calls k a0 true w ht h).mono ?_
 rintro e w' ⟨rfl, hd⟩
 exact ⟨rfl, hd⟩

end Go.Proofs.YtabgkdejpkpejaaDoor.PFnExactReadList
