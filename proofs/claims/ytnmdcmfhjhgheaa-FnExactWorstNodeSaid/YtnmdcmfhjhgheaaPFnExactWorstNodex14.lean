-- Printed by a program of this session (wip/hprint.sh: the kit's print with hand-proved contracts put in); not by print.sh itself.
import Derived.Test.YtnmdcmfhjhgheaaPFnExactWorstNodex0
import Derived.Test.YtnmdcmfhjhgheaaPFnExactWorstNodex9
import Derived.Test.YtnmdcmfhjhgheaaPFnExactWorstNodex10
import Derived.Test.YtnmdcmfhjhgheaaPFnExactWorstNodex12
import Derived.Test.YtnmdcmfhjhgheaaPFnExactWorstNodex13
namespace Go.Proofs.Ytnmdcmfhjhgheaa.PFnExactWorstNode
open Go.RowKit Go.Proofs.YtnmdcmfhjhgheaaW.PrintWords Go.Proofs.YtnmdcmfhjhgheaaW.PrintLast Go.Proofs.YtnmdcmfhjhgheaaW.PrintMore Go.Proofs.YtnmdcmfhjhgheaaM
attribute [local go_sem] max2_int min2_int max_two min_two max_three min_three max_four min_four   -- for this text's walks alone
set_option linter.unusedVariables false
set_option linter.unusedSimpArgs false

def X19.f (k : Nat) (l0_0 : List Int) (l0_1 : List (S73)) : Option (Bool) := if (l0_1.length : Int) = (wrap64 ((l0_0.length : Int) - 1)) then ((X4.f k l0_0 l0_1 0 ([] : List Int)).bind fun t346 => (some ((t346.length : Int) == (l0_0.length : Int)))) else (some false)
theorem X19.mono : ∀ a0 a1 k, LeO (X19.f k a0 a1) (X19.f (k + 1) a0 a1) := by
 intro a0 a1 k
 unfold X19.f
 repeat' first|(with_reducible first|exact X4.mono _ _ _ _ _|exact LeO.refl _|exact LeO.none _|refine LeO.ite ?_ ?_|refine LeO.bind ?_ (fun _ => ?_))|exact X4.mono _ _ _ _ _|exact LeO.none _|refine LeO.ite ?_ ?_|refine LeO.bind ?_ (fun _ => ?_)
def X19.T1 : Bool × List (List Nat × List Nat) := (true, [([], []), ([0], [0]), ([1], [1]), ([], []), ([3], [3]), ([4], [4]), ([5], [5]), ([2, 6], [2, 6]), ([7], [7]), ([8], [8]), ([9, 8, 8], [8, 9]), ([10, 8], [8, 10]), ([8], [8]), ([12, 8], [8, 12]), ([13, 8], [8, 13]), ([11, 14, 8], [8, 11, 14]), ([8, 15], [8, 15]), ([16, 10, 0, 1, 2, 3, 4, 5, 6, 7, 8, 9, 10, 11, 12, 13, 14, 15, 16], [16])])
def X19.B1 : List Nat := [0, 1, 3, 0, 8, 24, 56, 127, 255, 511, 1023, 2047, 511, 4607, 12799, 32767, 65535, 131071]
theorem X19.tab1 : rtab .any (opsOf Try.f59 1) = X19.T1 := by kernel_rfl
theorem X19.bits1 : waitsOk X19.T1.2 X19.B1 = true := by kernel_rfl
set_option maxHeartbeats 8000000 in
set_option maxRecDepth 100000 in
theorem X19.calls (k : Nat) (A0_0 : Option Addr) (c0_0 : Nat) (l0_0 : List Int) (A0_1 : Option Addr) (c0_1 : Nat) (l0_1 : List (S73)) (r : Bool) (w : World) (hr0_0 : Kd.C (Kd.int .i64) w A0_0 l0_0.length l0_0) (hc0_0 : l0_0.length ≤ c0_0) (hr0_1 : Kd.C k73 w A0_1 l0_1.length l0_1) (hc0_1 : l0_1.length ≤ c0_1) (h : X19.f k l0_0 l0_1 = some r) :
  Calls Try.prog 59 #[.agg #[.slice A0_0 l0_0.length c0_0, .slice A0_1 l0_1.length c0_1]] w fun e w' => e = .returned (.bool r) ∧ Below w.heap.size w w' := by
 have hu31 := Try.underlying31
 have HR0_0 := am_ hr0_0
 have HC0_0 := am_ hc0_0
 clear hr0_0 hc0_0
 have HR0_1 := am_ hr0_1
 have HC0_1 := am_ hc0_1
 clear hr0_1 hc0_1
 have HB := am_ (Below.refl w.heap.size w)
 unfold X19.f at h;have H := h;clear h
 by_cases c2 : (l0_1.length : Int) = (wrap64 ((l0_0.length : Int) - 1))
 ·(rw [if_pos c2] at H);have c2b0 : ((l0_1.length : Int) == (wrap64 ((l0_0.length : Int) - 1))) = true := beq_iff_eq.mpr c2;have c2b1 : ((l0_1.length : Int) != (wrap64 ((l0_0.length : Int) - 1))) = false := bne_eq_false_iff_eq.mpr c2;clear c2;obtain ⟨t346, A30, H⟩ := ob_ H;have A3 := am_ A30;clear A30;obtain rfl := Option.some.inj H;go_enter Try.func59, Try.ntmps59;(try go_wp2_with (first | ((with_reducible refine gate_dst (N := 1) rfl ?_); (try (refine gate_guard (by rfl) ?_; dsimp only)); refine box_event ?hg (N := 1) ?hd (cs := #[.slice A0_0 l0_0.length c0_0, .slice A0_1 l0_1.length c0_1]) (t := 31) ?hr ?_; (case hd => rfl); (case hg => rfl); (case hr => first | (go_simp; done) | (go_simp; rfl)); intro gb345 hg w4 hbox hb; have BK345 := am_ (hbox); have GW345 := am_ ((z4_ : w.heap.size ≤ gb345)); have GE345 := am_ ((z4_ : w.heap.size ≤ gb345)); replace HB := am_ (below_step (z2_) hb); clear hb hbox hg)));replace BK345 := am_ (blk_drew BK345.out);replace HB := am_ (below_drew1 HB.out);refine start_ (n := 18) (S := fun w' => w'.cell? ⟨gb345, 0, none⟩ = some (.slice A0_0 l0_0.length c0_0) ∧ w'.cell? ⟨gb345, 1, none⟩ = some (.slice A0_1 l0_1.length c0_1)) (ds := []) #[J,J,J,J,J,J,J,J,J,J,J,J,J,J,J,J,J,J] (z13_) rfl rfl ⟨bt_ BK345 0, bt_ BK345 1⟩ (fun hHeld => ?_); refine with_tabW X19.tab1 X19.bits1 (fun HT_ HW_ => ?_);(generalize w4.drew = w5 at BK345 HB hHeld ⊢);refine pz_ 0 3 #[Y,J,J,J,J,J,J,J,J,J,J,J,J,J,J,J,J,J] HT_ ?_;refine pz_ 3 6 #[Y,J,J,Y,J,J,J,J,J,J,J,J,J,J,J,J,J,J] HT_ ?_;refine take_ (i := 1) (N := some 4) (v := ?_) (a' := ?_) #[Y,Y,J,Y,J,J,J,J,J,J,J,J,J,J,J,J,J,J] rfl rfl (take_ofW HT_.out HW_.out (z13_)) (fun _ _ _ h => h) (Or.inl ⟨by rfl, ?_⟩) hHeld ?_ ?_; rotate_left
  ·rintro w' ⟨s0, s1⟩; go_simp; with_reducible rfl
  rotate_left
  ·simp only [pU,pN,sB,sZ,sS,i64_w,i32_w]; rfl
  refine pz_ 2 5 #[Y,Y,Y,Y,J,J,J,J,J,J,J,J,J,J,J,J,J,J] HT_ ?_;refine take_ (i := 4) (N := some 7) (v := ?_) (a' := ?_) #[Y,Y,Y,Y,Y,J,J,J,J,J,J,J,J,J,J,J,J,J] rfl rfl (take_ofW HT_.out HW_.out (z13_)) (fun _ _ _ h => h) (Or.inl ⟨by rfl, ?_⟩) hHeld ?_ ?_; rotate_left
  ·rintro w' ⟨s0, s1⟩; go_simp; with_reducible rfl
  rotate_left
  ·simp only [pU,pN,sB,sZ,sS,i64_w,i32_w]; rfl
  refine pz_ 5 8 #[Y,Y,Y,Y,Y,Y,J,J,J,J,J,J,J,J,J,J,J,J] HT_ ?_;refine pz_ 6 9 #[Y,Y,Y,Y,Y,Y,Y,J,J,J,J,J,J,J,J,J,J,J] HT_ ?_;refine pz_ 7 10 #[Y,Y,Y,Y,Y,Y,Y,Y,J,J,J,J,J,J,J,J,J,J] HT_ ?_;refine pz_ 8 11 #[Y,Y,Y,Y,Y,Y,Y,Y,Y,J,J,J,J,J,J,J,J,J] HT_ ?_;refine pz_ 12 15 #[Y,Y,Y,Y,Y,Y,Y,Y,Y,J,J,J,Y,J,J,J,J,J] HT_ ?_;refine take_ (i := 9) (N := some 12) (v := ?_) (a' := ?_) #[Y,Y,Y,Y,Y,Y,Y,Y,Y,Y,J,J,Y,J,J,J,J,J] rfl rfl (take_ofW HT_.out HW_.out (z13_)) (fun _ _ _ h => h) (Or.inl ⟨by rfl, ?_⟩) hHeld ?_ ?_; rotate_left
  ·rintro w' ⟨s0, s1⟩; go_simp; with_reducible rfl
  rotate_left
  ·simp only [pU,pN,sB,sZ,sS,i64_w,i32_w]; rfl
  refine take_ (i := 13) (N := some 16) (v := ?_) (a' := ?_) #[Y,Y,Y,Y,Y,Y,Y,Y,Y,Y,J,J,Y,Y,J,J,J,J] rfl rfl (take_ofW HT_.out HW_.out (z13_)) (fun _ _ _ h => h) (Or.inl ⟨by rfl, ?_⟩) hHeld ?_ ?_; rotate_left
  ·rintro w' ⟨s0, s1⟩; go_simp; with_reducible rfl
  rotate_left
  ·simp only [pU,pN,sB,sZ,sS,i64_w,i32_w]; rfl
  refine pz_ 14 17 #[Y,Y,Y,Y,Y,Y,Y,Y,Y,Y,J,J,Y,Y,Y,J,J,J] HT_ ?_;refine one_ (i := 10) (N := some 13) #[Y,Y,Y,Y,Y,Y,Y,Y,Y,Y,Y,J,Y,Y,Y,J,J,J] rfl rfl (one_of HT_.out (z13_)) (by decide) (fun K hK => ?_);refine goes_ Try.func83 (z13_) rfl #[.agg #[.slice A0_0 l0_0.length c0_0, .slice A0_1 l0_1.length c0_1], .int .i64 0, .slice none 0 0] (by rfl) rfl rfl (z1_) ?_;refine (X4.calls k _ _ l0_0 _ _ l0_1 0 _ _ ([] : List Int) t346 _ ?side1 ?side2 ?side3 ?side4 ?side5 ?side6 A3.out).mono ?_
  (case side1 => exact z217_)
  (case side2 => exact HC0_0.out)
  (case side3 => exact z219_)
  (case side4 => exact HC0_1.out)
  (case side5 => exact Kd.C_nil _ _)
  (case side6 => exact Nat.le_refl _)
  rintro e w6 ⟨v347, rfl, ho0, hb⟩;refine ⟨_, rfl, ?_⟩;have HO348 := am_ (Kd.R_lower ho0 (below_size (z144_)));replace BK345 := am_ (blk_below (g := gb345) (o := .cells #[.slice A0_0 l0_0.length c0_0, .slice A0_1 l0_1.length c0_1] 31 (0, 0)) (by (with_reducible repeat (first | refine bN ?_ _|refine bW ?_|refine bA ?_ _)); exact BK345.out) hb);replace HB := am_ (below_step (z144_) hb);(try clear hb);(try clear ho0);obtain ⟨Ao7, co7, eo7⟩ := Kd.R_slice HO348.out;(first | subst eo7 | (injection eo7 with f1_ f2_ f3_; have f4_ := f1_.symm; have f5_ := f3_.symm; clear f1_ f2_ f3_; subst f4_; subst f5_));refine hK.out _ _ ⟨bt_ BK345 0, bt_ BK345 1⟩ (fun hHeld => ?_);clear hK K;refine norm_ (a' := ?_) ?_ ?_
  rotate_left
  ·show Act.put _ (some 13) _ = _
   simp only [pU,pN,sB,sZ,sS,i64_w,i32_w]
   rfl
  refine pz_ 11 14 #[Y,Y,Y,Y,Y,Y,Y,Y,Y,Y,Y,Y,Y,Y,Y,J,J,J] HT_ ?_;refine pz_ 15 18 #[Y,Y,Y,Y,Y,Y,Y,Y,Y,Y,Y,Y,Y,Y,Y,Y,J,J] HT_ ?_;refine pz_ 16 19 #[Y,Y,Y,Y,Y,Y,Y,Y,Y,Y,Y,Y,Y,Y,Y,Y,Y,J] HT_ ?_;refine pz_ 17 2 #[Y,Y,Y,Y,Y,Y,Y,Y,Y,Y,Y,Y,Y,Y,Y,Y,Y,Y] HT_ ?_;refine done_ (done_of HT_.out (z13_)) ?_;(try go_wp2);go_ret;exact ⟨z6_, z144_⟩
 ·(rw [if_neg c2] at H);have c2b0 : ((l0_1.length : Int) == (wrap64 ((l0_0.length : Int) - 1))) = false := beq_eq_false_iff_ne.mpr c2;have c2b1 : ((l0_1.length : Int) != (wrap64 ((l0_0.length : Int) - 1))) = true := bne_iff_ne.mpr c2;obtain rfl := Option.some.inj H;go_enter Try.func59, Try.ntmps59;(try go_wp2_with (first | ((with_reducible refine gate_dst (N := 1) rfl ?_); (try (refine gate_guard (by rfl) ?_; dsimp only)); refine box_event ?hg (N := 1) ?hd (cs := #[.slice A0_0 l0_0.length c0_0, .slice A0_1 l0_1.length c0_1]) (t := 31) ?hr ?_; (case hd => rfl); (case hg => rfl); (case hr => first | (go_simp; done) | (go_simp; rfl)); intro gb345 hg w8 hbox hb; have BK345 := am_ (hbox); have GW345 := am_ ((z4_ : w.heap.size ≤ gb345)); have GE345 := am_ ((z4_ : w.heap.size ≤ gb345)); replace HB := am_ (below_step (z2_) hb); clear hb hbox hg)));replace BK345 := am_ (blk_drew BK345.out);replace HB := am_ (below_drew1 HB.out);refine start_ (n := 18) (S := fun w' => w'.cell? ⟨gb345, 0, none⟩ = some (.slice A0_0 l0_0.length c0_0) ∧ w'.cell? ⟨gb345, 1, none⟩ = some (.slice A0_1 l0_1.length c0_1)) (ds := []) #[J,J,J,J,J,J,J,J,J,J,J,J,J,J,J,J,J,J] (z13_) rfl rfl ⟨bt_ BK345 0, bt_ BK345 1⟩ (fun hHeld => ?_); refine with_tabW X19.tab1 X19.bits1 (fun HT_ HW_ => ?_);(generalize w8.drew = w9 at BK345 HB hHeld ⊢);refine pz_ 0 3 #[Y,J,J,J,J,J,J,J,J,J,J,J,J,J,J,J,J,J] HT_ ?_;refine pz_ 3 6 #[Y,J,J,Y,J,J,J,J,J,J,J,J,J,J,J,J,J,J] HT_ ?_;refine take_ (i := 1) (N := some 4) (v := ?_) (a' := ?_) #[Y,Y,J,Y,J,J,J,J,J,J,J,J,J,J,J,J,J,J] rfl rfl (take_ofW HT_.out HW_.out (z13_)) (fun _ _ _ h => h) (Or.inl ⟨by rfl, ?_⟩) hHeld ?_ ?_; rotate_left
  ·rintro w' ⟨s0, s1⟩; go_simp; with_reducible rfl
  rotate_left
  ·simp only [pU,pN,sB,sZ,sS,i64_w,i32_w]; rfl
  refine pz_ 2 5 #[Y,Y,Y,Y,J,J,J,J,J,J,J,J,J,J,J,J,J,J] HT_ ?_;refine take_ (i := 4) (N := some 7) (v := ?_) (a' := ?_) #[Y,Y,Y,Y,Y,J,J,J,J,J,J,J,J,J,J,J,J,J] rfl rfl (take_ofW HT_.out HW_.out (z13_)) (fun _ _ _ h => h) (Or.inl ⟨by rfl, ?_⟩) hHeld ?_ ?_; rotate_left
  ·rintro w' ⟨s0, s1⟩; go_simp; with_reducible rfl
  rotate_left
  ·simp only [pU,pN,sB,sZ,sS,i64_w,i32_w]; rfl
  refine pz_ 5 8 #[Y,Y,Y,Y,Y,Y,J,J,J,J,J,J,J,J,J,J,J,J] HT_ ?_;refine pz_ 6 9 #[Y,Y,Y,Y,Y,Y,Y,J,J,J,J,J,J,J,J,J,J,J] HT_ ?_;refine pz_ 7 10 #[Y,Y,Y,Y,Y,Y,Y,Y,J,J,J,J,J,J,J,J,J,J] HT_ ?_;refine pz_ 8 11 #[Y,Y,Y,Y,Y,Y,Y,Y,Y,J,J,J,J,J,J,J,J,J] HT_ ?_;refine pu_ 9 12 #[Y,Y,Y,Y,Y,Y,Y,Y,Y,Y,J,J,J,J,J,J,J,J] HT_ ?_;refine pu_ 10 13 #[Y,Y,Y,Y,Y,Y,Y,Y,Y,Y,Y,J,J,J,J,J,J,J] HT_ ?_;refine pu_ 11 14 #[Y,Y,Y,Y,Y,Y,Y,Y,Y,Y,Y,Y,J,J,J,J,J,J] HT_ ?_;refine pu_ 12 15 #[Y,Y,Y,Y,Y,Y,Y,Y,Y,Y,Y,Y,Y,J,J,J,J,J] HT_ ?_;refine pu_ 13 16 #[Y,Y,Y,Y,Y,Y,Y,Y,Y,Y,Y,Y,Y,Y,J,J,J,J] HT_ ?_;refine pu_ 14 17 #[Y,Y,Y,Y,Y,Y,Y,Y,Y,Y,Y,Y,Y,Y,Y,J,J,J] HT_ ?_;refine pu_ 15 18 #[Y,Y,Y,Y,Y,Y,Y,Y,Y,Y,Y,Y,Y,Y,Y,Y,J,J] HT_ ?_;refine pz_ 16 19 #[Y,Y,Y,Y,Y,Y,Y,Y,Y,Y,Y,Y,Y,Y,Y,Y,Y,J] HT_ ?_;refine pz_ 17 2 #[Y,Y,Y,Y,Y,Y,Y,Y,Y,Y,Y,Y,Y,Y,Y,Y,Y,Y] HT_ ?_;refine done_ (done_of HT_.out (z13_)) ?_;(try go_wp2);go_ret;exact ⟨z6_, z144_⟩

mutual
def X11.j0 : Nat → List Int → List Int → Bool → Bool → List Int → List (S73) → Option (Int)
 | 0, _, _, _, _, _, _ => none
 | k + 1, x3, x4, x5, x17, x350000, x350001 => if x17 = true then (some 2) else (if x5 = true then (if (x3.length : Int) = (x350000.length : Int) then ((X36.f x3 0 100000).bind fun t353 => (X11.j1 k x4 x5 (!t353) x350000 x350001)) else (X11.j1 k x4 x5 true x350000 x350001)) else (X11.j1 k x4 x5 false x350000 x350001))
def X11.j1 : Nat → List Int → Bool → Bool → List Int → List (S73) → Option (Int)
 | 0, _, _, _, _, _ => none
 | k + 1, x4, x5, x27, x350000, x350001 => if x27 = true then (some 7) else (if x5 = true then (X11.j2 k false x350000 x350001) else ((X59.f x350000 x350001 x4).bind fun t354 => (X11.j2 k (!t354) x350000 x350001)))
def X11.j2 : Nat → Bool → List Int → List (S73) → Option (Int)
 | 0, _, _, _ => none
 | k + 1, x42, x350000, x350001 => if x42 = true then (some 7) else ((X19.f k x350000 x350001).bind fun t355 => (if t355 = true then (some 0) else (some 6)))
end
def X11.f (k : Nat) (l0_0 : List Int) (l0_1 : List (S73)) (a1 : Int) (a2 : Int) (l3 : List Int) (l4 : List Int) (a5 : Bool) : Option (Int) := (X38.f l0_0 l0_1).bind fun t350 => (if t350 = true then ((X26.f l0_0 l0_1 a1).bind fun t351 => (if t351 = true then ((X39.f a2).bind fun t352 => (X11.j0 k l3 l4 a5 (!t352) l0_0 l0_1)) else (X11.j0 k l3 l4 a5 true l0_0 l0_1))) else (some 1))
theorem X11.mono_l : ∀ k, (∀ y0 y1 y2 y3 y4 y5, LeO (X11.j0 k y0 y1 y2 y3 y4 y5) (X11.j0 (k + 1) y0 y1 y2 y3 y4 y5)) ∧ (∀ y0 y1 y2 y3 y4, LeO (X11.j1 k y0 y1 y2 y3 y4) (X11.j1 (k + 1) y0 y1 y2 y3 y4)) ∧ (∀ y0 y1 y2, LeO (X11.j2 k y0 y1 y2) (X11.j2 (k + 1) y0 y1 y2))
 | 0 => ⟨fun _ _ _ _ _ _ r h => by simp [X11.j0] at h, fun _ _ _ _ _ r h => by simp [X11.j1] at h, fun _ _ _ r h => by simp [X11.j2] at h⟩
 | k + 1 => by
  obtain ⟨ih0, ih1, ih2⟩ := X11.mono_l k
  refine ⟨?_, ?_, ?_⟩
  ·intro y0 y1 y2 y3 y4 y5
   unfold X11.j0
   exact z254_
  ·intro y0 y1 y2 y3 y4
   unfold X11.j1
   exact z254_
  ·intro y0 y1 y2
   unfold X11.j2
   exact z254_
theorem X11.mono : ∀ a0 a1 a2 a3 a4 a5 a6 k, LeO (X11.f k a0 a1 a2 a3 a4 a5 a6) (X11.f (k + 1) a0 a1 a2 a3 a4 a5 a6) := by
 intro a0 a1 a2 a3 a4 a5 a6 k
 obtain ⟨ih0, ih1, ih2⟩ := X11.mono_l k
 unfold X11.f
 exact z254_
set_option maxHeartbeats 8000000 in
set_option maxRecDepth 100000 in
theorem X11.calls (k : Nat) (A0_0 : Option Addr) (c0_0 : Nat) (l0_0 : List Int) (A0_1 : Option Addr) (c0_1 : Nat) (l0_1 : List (S73)) (a1 : Int) (a2 : Int) (A3 : Option Addr) (c3 : Nat) (l3 : List Int) (A4 : Option Addr) (c4 : Nat) (l4 : List Int) (a5 : Bool) (r : Int) (w : World) (hr0_0 : Kd.C (Kd.int .i64) w A0_0 l0_0.length l0_0) (hc0_0 : l0_0.length ≤ c0_0) (hr0_1 : Kd.C k73 w A0_1 l0_1.length l0_1) (hc0_1 : l0_1.length ≤ c0_1) (hr3 : Kd.C (Kd.int .i64) w A3 l3.length l3) (hc3 : l3.length ≤ c3) (hr4 : Kd.C (Kd.int .i64) w A4 l4.length l4) (hc4 : l4.length ≤ c4) (h : X11.f k l0_0 l0_1 a1 a2 l3 l4 a5 = some r) :
  Calls Try.prog 31 #[.agg #[.slice A0_0 l0_0.length c0_0, .slice A0_1 l0_1.length c0_1], .int .i64 a1, .int .i64 a2, .slice A3 l3.length c3, .slice A4 l4.length c4, .bool a5] w fun e w' => e = .returned (.int .i64 r) ∧ Below w.heap.size w w' := by
 have hu31 := Try.underlying31
 have HR0_0 := am_ hr0_0
 have HC0_0 := am_ hc0_0
 clear hr0_0 hc0_0
 have HR0_1 := am_ hr0_1
 have HC0_1 := am_ hc0_1
 clear hr0_1 hc0_1
 have HR3 := am_ hr3
 have HC3 := am_ hc3
 clear hr3 hc3
 have HR4 := am_ hr4
 have HC4 := am_ hc4
 clear hr4 hc4
 have HB := am_ (Below.refl w.heap.size w)
 unfold X11.f at h;have H := h;clear h
 obtain ⟨t350, A70, H⟩ := ob_ H
 have A7 := am_ A70
 clear A70
 by_cases c8 : t350 = true
 ·subst c8;(rw [if_pos rfl] at H);have HC9 := am_ H;clear H;go_enter Try.func31, Try.ntmps31
  go_upto_region 3 with (first | ((with_reducible refine gate_dst (N := 6) rfl ?_); (try (refine gate_guard (by rfl) ?_; dsimp only)); refine box_event ?hg (N := 6) ?hd (cs := #[.slice A0_0 l0_0.length c0_0, .slice A0_1 l0_1.length c0_1]) (t := 31) ?hr ?_; (case hd => rfl); (case hg => rfl); (case hr => first | (go_simp; done) | (go_simp; rfl)); intro gb349 hg w10 hbox hb; have BK349 := am_ (hbox); have GW349 := am_ ((z4_ : w.heap.size ≤ gb349)); have GE349 := am_ ((z4_ : w.heap.size ≤ gb349)); replace HB := am_ (below_step (z2_) hb); clear hb hbox hg; obtain ⟨hcz11_0,hcz11_1,hfz11_0,hfz11_1⟩ := bz2_ w10 BK349.out) | ((with_reducible refine gate_callee (f := 55) rfl ?_); refine goesL_ (some 15) rfl rfl Try.func55 (z13_) rfl #[.agg #[.slice A0_0 l0_0.length c0_0, .slice A0_1 l0_1.length c0_1]] rfl (z1_) ?_; (with_reducible refine (X38.calls _ _ l0_0 _ _ l0_1 true _ ?side1 ?side2 ?side3 ?side4 A7.out).mono ?_); (case side1 => exact z217_); (case side2 => exact HC0_0.out); (case side3 => exact z219_); (case side4 => exact HC0_1.out); rintro e w12 ⟨rfl, hb⟩; refine ⟨_, rfl, ?_⟩; replace BK349 := am_ (blk_below (g := gb349) (o := .cells #[.slice A0_0 l0_0.length c0_0, .slice A0_1 l0_1.length c0_1] 31 (0, 0)) (z43_) hb); replace HB := am_ (below_step (z24_) hb); (try clear hb); (try clear hi)))
  (try simp only [Act.put, List.setIfInBounds_toArray, List.set_cons_zero, List.set_cons_succ])
  go_cut [17] (fun v17 wc => ∃ (kq : Nat) (x17_8 : Bool), v17 = .bool x17_8 ∧ Aside0 (X11.j0 kq l3 l4 a5 x17_8 l0_0 l0_1 = some r) ∧ Aside0 (kq ≤ k) ∧ Aside0 (wc.heap[gb349]? = some (.cells #[(.slice A0_0 l0_0.length c0_0), (.slice A0_1 l0_1.length c0_1)] 31 (0, 0))) ∧ Aside0 (Below w.heap.size w wc))
  case first =>
   have H := HC9.out;clear HC9;obtain ⟨t351, A130, H⟩ := ob_ H;have A13 := am_ A130;clear A130;by_cases c14 : t351 = true
   ·subst c14;(rw [if_pos rfl] at H);obtain ⟨t352, A150, H⟩ := ob_ H;have A15 := am_ A150;clear A150;have H' := am_ H;clear H;obtain ⟨hcz16_0,hcz16_1,hfz16_0,hfz16_1⟩ := bz2_ w12 BK349.out
    go_wp2_with (first | ((with_reducible refine gate_callee (f := 56) rfl ?_); refine goesL_ (some 20) rfl rfl Try.func56 (z13_) rfl #[.agg #[.slice A0_0 l0_0.length c0_0, .slice A0_1 l0_1.length c0_1], .int .i64 a1] rfl (z1_) ?_; (with_reducible refine (X26.calls _ _ l0_0 _ _ l0_1 a1 true _ ?side1 ?side2 ?side3 ?side4 A13.out).mono ?_); (case side1 => exact z217_); (case side2 => exact HC0_0.out); (case side3 => exact z219_); (case side4 => exact HC0_1.out); rintro e w17 ⟨rfl, hb⟩; refine ⟨_, rfl, ?_⟩; replace BK349 := am_ (blk_below (g := gb349) (o := .cells #[.slice A0_0 l0_0.length c0_0, .slice A0_1 l0_1.length c0_1] 31 (0, 0)) (z43_) hb); replace HB := am_ (below_step (z24_) hb); (try clear hb); (try clear hi)) | (go_at_call 57; (with_reducible refine (X39.calls a2 t352 _ A15.out).mono ?_); rintro e w' ⟨rfl, ⟨nd, rfl⟩⟩))
    go_meet
    case rel => exact ⟨_, (!t352), (z8_), H', ⟨z167_⟩, ⟨z43_⟩, ⟨z24_⟩⟩
   ·replace c14 := Bool.eq_false_iff.mpr c14;subst c14;(rw [if_neg (show ¬ (false = true) by decide)] at H);have H' := am_ H;clear H;obtain ⟨hcz18_0,hcz18_1,hfz18_0,hfz18_1⟩ := bz2_ w12 BK349.out
    go_wp2_with (first | ((with_reducible refine gate_callee (f := 56) rfl ?_); refine goesL_ (some 20) rfl rfl Try.func56 (z13_) rfl #[.agg #[.slice A0_0 l0_0.length c0_0, .slice A0_1 l0_1.length c0_1], .int .i64 a1] rfl (z1_) ?_; (with_reducible refine (X26.calls _ _ l0_0 _ _ l0_1 a1 false _ ?side1 ?side2 ?side3 ?side4 A13.out).mono ?_); (case side1 => exact z217_); (case side2 => exact HC0_0.out); (case side3 => exact z219_); (case side4 => exact HC0_1.out); rintro e w19 ⟨rfl, hb⟩; refine ⟨_, rfl, ?_⟩; replace BK349 := am_ (blk_below (g := gb349) (o := .cells #[.slice A0_0 l0_0.length c0_0, .slice A0_1 l0_1.length c0_1] 31 (0, 0)) (z43_) hb); replace HB := am_ (below_step (z24_) hb); (try clear hb); (try clear hi)))
    go_meet
    case rel => exact ⟨_, (true), (z8_), H', ⟨z167_⟩, ⟨z43_⟩, ⟨z24_⟩⟩
  case rest =>
   clear HC9;(try clear c3);(try clear c4);(try clear c8);(try clear c14);(try clear hcz11_0);(try clear hcz11_1);(try clear hcz16_0);(try clear hcz16_1);(try clear hcz18_0);(try clear hcz18_1);(try clear hfz11_0);(try clear hfz11_1);(try clear hfz16_0);(try clear hfz16_1);(try clear hfz18_0);(try clear hfz18_1);obtain ⟨kq, x17_8, rfl, HA, HJ8, BK349, HB⟩ := hcut
   cases kq with
   | zero => exact absurd HA.out (by simp [X11.j0])
   | succ kj8 =>
    have H := HA.out;clear HA;(simp only [X11.j0] at H);by_cases c20 : x17_8 = true
    ·subst c20;(rw [if_pos rfl] at H);obtain rfl := Option.some.inj H;go_wp2;go_ret;exact ⟨z6_, z24_⟩
    ·replace c20 := Bool.eq_false_iff.mpr c20;subst c20;(rw [if_neg (show ¬ (false = true) by decide)] at H);have HC21 := am_ H;clear H
     go_upto_region 5 with (fail)
     go_cut [27] (fun v27 wc => ∃ (kq : Nat) (x27_20 : Bool), v27 = .bool x27_20 ∧ Aside0 (X11.j1 kq l4 a5 x27_20 l0_0 l0_1 = some r) ∧ Aside0 (kq ≤ kj8) ∧ Aside0 (wc.heap[gb349]? = some (.cells #[(.slice A0_0 l0_0.length c0_0), (.slice A0_1 l0_1.length c0_1)] 31 (0, 0))) ∧ Aside0 (Below w.heap.size w wc))
     case first =>
      have H := HC21.out;clear HC21;by_cases c22 : a5 = true
      ·subst c22;(rw [if_pos rfl] at H);by_cases c23 : (l3.length : Int) = (l0_0.length : Int)
       ·(rw [if_pos c23] at H);have c23b0 : ((l3.length : Int) == (l0_0.length : Int)) = true := beq_iff_eq.mpr c23;have c23b1 : ((l3.length : Int) != (l0_0.length : Int)) = false := bne_eq_false_iff_eq.mpr c23;(have c23b2 : (l3.length == l0_0.length) = true := by first | simpa using c23 | (simp at c23 ⊢; omega));clear c23;(first | rw [c23b0] | (simp only [i64_w, i32_w]; rw [c23b0]) | rw [c23b2] | skip);obtain ⟨t353, A240, H⟩ := ob_ H;have A24 := am_ A240;clear A240;have H' := am_ H;clear H;obtain ⟨hcz25_0,hcz25_1,hfz25_0,hfz25_1⟩ := bz2_ wc BK349.out
        go_wp2_with (first | (go_at_call 33; (with_reducible refine (X36.calls _ _ l3 0 100000 t353 _ ?side1 ?side2 A24.out).mono ?_); (case side1 => repeat (first | exact (Kd.C_below HR3.out HB.out) | (with_reducible first|refine Kd.C_alloc ?_ _|refine Kd.C_drewN ?_ _|refine Kd.C_drew ?_))); (case side2 => exact HC3.out); rintro e w26 ⟨rfl, hb⟩; replace BK349 := am_ (blk_below (g := gb349) (o := .cells #[.slice A0_0 l0_0.length c0_0, .slice A0_1 l0_1.length c0_1] 31 (0, 0)) (z43_) hb); replace HB := am_ (below_step (z24_) hb); (try clear hb); (try clear hi)))
        go_meet
        case rel => exact ⟨_, (!t353), (z8_), H', ⟨by have := HJ8.out; first | omega | exact Nat.le_refl _⟩, ⟨z43_⟩, ⟨z24_⟩⟩
       ·(rw [if_neg c23] at H);have c23b0 : ((l3.length : Int) == (l0_0.length : Int)) = false := beq_eq_false_iff_ne.mpr c23;have c23b1 : ((l3.length : Int) != (l0_0.length : Int)) = true := bne_iff_ne.mpr c23;(have c23b2 : (l3.length == l0_0.length) = false := by first | simpa using c23 | (simp at c23 ⊢; omega));(first | rw [c23b0] | (simp only [i64_w, i32_w]; rw [c23b0]) | rw [c23b2] | skip);have H' := am_ H;clear H;obtain ⟨hcz27_0,hcz27_1,hfz27_0,hfz27_1⟩ := bz2_ wc BK349.out;go_wp2;go_meet
        case rel => exact ⟨_, (true), (z8_), H', ⟨by have := HJ8.out; first | omega | exact Nat.le_refl _⟩, ⟨z43_⟩, ⟨z24_⟩⟩
      ·replace c22 := Bool.eq_false_iff.mpr c22;subst c22;(rw [if_neg (show ¬ (false = true) by decide)] at H);have H' := am_ H;clear H;go_wp2;go_meet
       case rel => exact ⟨_, (false), (z8_), H', ⟨by have := HJ8.out; first | omega | exact Nat.le_refl _⟩, ⟨z43_⟩, ⟨z24_⟩⟩
     case rest =>
      clear HC21;(try clear c3);(try clear c4);(try clear c8);(try clear c14);(try clear c20);(try clear c22);(try clear c23);(try clear c23b0);(try clear c23b1);(try clear c23b2);(try clear hcz11_0);(try clear hcz11_1);(try clear hcz16_0);(try clear hcz16_1);(try clear hcz18_0);(try clear hcz18_1);(try clear hcz25_0);(try clear hcz25_1);(try clear hcz27_0);(try clear hcz27_1);(try clear hfz11_0);(try clear hfz11_1);(try clear hfz16_0);(try clear hfz16_1);(try clear hfz18_0);(try clear hfz18_1);(try clear hfz25_0);(try clear hfz25_1);(try clear hfz27_0);(try clear hfz27_1);obtain ⟨kq, x27_20, rfl, HA, HJ20, BK349, HB⟩ := hcut
      cases kq with
      | zero => exact absurd HA.out (by simp [X11.j1])
      | succ kj20 =>
       have H := HA.out;clear HA;(simp only [X11.j1] at H);by_cases c28 : x27_20 = true
       ·subst c28;(rw [if_pos rfl] at H);obtain rfl := Option.some.inj H;go_wp2;go_ret;exact ⟨z6_, z24_⟩
       ·replace c28 := Bool.eq_false_iff.mpr c28;subst c28;(rw [if_neg (show ¬ (false = true) by decide)] at H);have HC29 := am_ H;clear H
        go_upto_region 7 with (fail)
        go_cut [42] (fun v42 wc => ∃ (kq : Nat) (x42_28 : Bool), v42 = .bool x42_28 ∧ Aside0 (X11.j2 kq x42_28 l0_0 l0_1 = some r) ∧ Aside0 (kq ≤ kj20) ∧ Aside0 (wc.heap[gb349]? = some (.cells #[(.slice A0_0 l0_0.length c0_0), (.slice A0_1 l0_1.length c0_1)] 31 (0, 0))) ∧ Aside0 (Below w.heap.size w wc))
        case first =>
         have H := HC29.out;clear HC29;by_cases c30 : a5 = true
         ·subst c30;(rw [if_pos rfl] at H);have H' := am_ H;clear H;go_wp2;go_meet
          case rel => exact ⟨_, (false), (z8_), H', ⟨by have := HJ8.out; have := HJ20.out; first | omega | exact Nat.le_refl _⟩, ⟨z43_⟩, ⟨z24_⟩⟩
         ·replace c30 := Bool.eq_false_iff.mpr c30;subst c30;(rw [if_neg (show ¬ (false = true) by decide)] at H);obtain ⟨t354, A310, H⟩ := ob_ H;have A31 := am_ A310;clear A310;have H' := am_ H;clear H;obtain ⟨hcz32_0,hcz32_1,hfz32_0,hfz32_1⟩ := bz2_ wc BK349.out
          go_wp2_with (first | (go_at_call 58; (with_reducible refine (X59.calls _ _ l0_0 _ _ l0_1 _ _ l4 t354 _ ?side1 ?side2 ?side3 ?side4 ?side5 ?side6 A31.out).mono ?_); (case side1 => exact z217_); (case side2 => exact HC0_0.out); (case side3 => exact z219_); (case side4 => exact HC0_1.out); (case side5 => repeat (first | exact (Kd.C_below HR4.out HB.out) | (with_reducible first|refine Kd.C_alloc ?_ _|refine Kd.C_drewN ?_ _|refine Kd.C_drew ?_))); (case side6 => exact HC4.out); rintro e w33 ⟨rfl, hb⟩; replace BK349 := am_ (blk_below (g := gb349) (o := .cells #[.slice A0_0 l0_0.length c0_0, .slice A0_1 l0_1.length c0_1] 31 (0, 0)) (z43_) hb); replace HB := am_ (below_step (z24_) hb); (try clear hb); (try clear hi)))
          go_meet
          case rel => exact ⟨_, (!t354), (z8_), H', ⟨by have := HJ8.out; have := HJ20.out; first | omega | exact Nat.le_refl _⟩, ⟨z43_⟩, ⟨z24_⟩⟩
        case rest =>
         clear HC29;(try clear c3);(try clear c4);(try clear c8);(try clear c14);(try clear c20);(try clear c22);(try clear c23);(try clear c23b0);(try clear c23b1);(try clear c23b2);(try clear c28);(try clear c30);(try clear hcz11_0);(try clear hcz11_1);(try clear hcz16_0);(try clear hcz16_1);(try clear hcz18_0);(try clear hcz18_1);(try clear hcz25_0);(try clear hcz25_1);(try clear hcz27_0);(try clear hcz27_1);(try clear hcz32_0);(try clear hcz32_1);(try clear hfz11_0);(try clear hfz11_1);(try clear hfz16_0);(try clear hfz16_1);(try clear hfz18_0);(try clear hfz18_1);(try clear hfz25_0);(try clear hfz25_1);(try clear hfz27_0);(try clear hfz27_1);(try clear hfz32_0);(try clear hfz32_1);obtain ⟨kq, x42_28, rfl, HA, HJ28, BK349, HB⟩ := hcut
         cases kq with
         | zero => exact absurd HA.out (by simp [X11.j2])
         | succ kj28 =>
          have H := HA.out;clear HA;(simp only [X11.j2] at H);by_cases c34 : x42_28 = true
          ·subst c34;(rw [if_pos rfl] at H);obtain rfl := Option.some.inj H;go_wp2;go_ret;exact ⟨z6_, z24_⟩
          ·replace c34 := Bool.eq_false_iff.mpr c34;subst c34;(rw [if_neg (show ¬ (false = true) by decide)] at H);obtain ⟨t355, A350, H⟩ := ob_ H;have A35 := am_ A350;clear A350;by_cases c36 : t355 = true
           ·subst c36;(rw [if_pos rfl] at H);obtain rfl := Option.some.inj H;obtain ⟨hcz37_0,hcz37_1,hfz37_0,hfz37_1⟩ := bz2_ wc BK349.out
            go_wp2_with (first | ((with_reducible refine gate_callee (f := 59) rfl ?_); refine goesL_ (some 53) rfl rfl Try.func59 (z13_) rfl #[.agg #[.slice A0_0 l0_0.length c0_0, .slice A0_1 l0_1.length c0_1]] rfl (z1_) ?_; (with_reducible refine (X19.calls kj28 _ _ l0_0 _ _ l0_1 true _ ?side1 ?side2 ?side3 ?side4 A35.out).mono ?_); (case side1 => exact z217_); (case side2 => exact HC0_0.out); (case side3 => exact z219_); (case side4 => exact HC0_1.out); rintro e w38 ⟨rfl, hb⟩; refine ⟨_, rfl, ?_⟩; replace BK349 := am_ (blk_below (g := gb349) (o := .cells #[.slice A0_0 l0_0.length c0_0, .slice A0_1 l0_1.length c0_1] 31 (0, 0)) (z43_) hb); replace HB := am_ (below_step (z24_) hb); (try clear hb); (try clear hi)))
            go_ret;exact ⟨z6_, z24_⟩
           ·replace c36 := Bool.eq_false_iff.mpr c36;subst c36;(rw [if_neg (show ¬ (false = true) by decide)] at H);obtain rfl := Option.some.inj H;obtain ⟨hcz39_0,hcz39_1,hfz39_0,hfz39_1⟩ := bz2_ wc BK349.out
            go_wp2_with (first | ((with_reducible refine gate_callee (f := 59) rfl ?_); refine goesL_ (some 53) rfl rfl Try.func59 (z13_) rfl #[.agg #[.slice A0_0 l0_0.length c0_0, .slice A0_1 l0_1.length c0_1]] rfl (z1_) ?_; (with_reducible refine (X19.calls kj28 _ _ l0_0 _ _ l0_1 false _ ?side1 ?side2 ?side3 ?side4 A35.out).mono ?_); (case side1 => exact z217_); (case side2 => exact HC0_0.out); (case side3 => exact z219_); (case side4 => exact HC0_1.out); rintro e w40 ⟨rfl, hb⟩; refine ⟨_, rfl, ?_⟩; replace BK349 := am_ (blk_below (g := gb349) (o := .cells #[.slice A0_0 l0_0.length c0_0, .slice A0_1 l0_1.length c0_1] 31 (0, 0)) (z43_) hb); replace HB := am_ (below_step (z24_) hb); (try clear hb); (try clear hi)))
            go_ret;exact ⟨z6_, z24_⟩
 ·replace c8 := Bool.eq_false_iff.mpr c8;subst c8;(rw [if_neg (show ¬ (false = true) by decide)] at H);obtain rfl := Option.some.inj H;go_enter Try.func31, Try.ntmps31
  go_wp2_with (first | ((with_reducible refine gate_dst (N := 6) rfl ?_); (try (refine gate_guard (by rfl) ?_; dsimp only)); refine box_event ?hg (N := 6) ?hd (cs := #[.slice A0_0 l0_0.length c0_0, .slice A0_1 l0_1.length c0_1]) (t := 31) ?hr ?_; (case hd => rfl); (case hg => rfl); (case hr => first | (go_simp; done) | (go_simp; rfl)); intro gb349 hg w41 hbox hb; have BK349 := am_ (hbox); have GW349 := am_ ((z4_ : w.heap.size ≤ gb349)); have GE349 := am_ ((z4_ : w.heap.size ≤ gb349)); replace HB := am_ (below_step (z2_) hb); clear hb hbox hg; obtain ⟨hcz42_0,hcz42_1,hfz42_0,hfz42_1⟩ := bz2_ w41 BK349.out) | ((with_reducible refine gate_callee (f := 55) rfl ?_); refine goesL_ (some 15) rfl rfl Try.func55 (z13_) rfl #[.agg #[.slice A0_0 l0_0.length c0_0, .slice A0_1 l0_1.length c0_1]] rfl (z1_) ?_; (with_reducible refine (X38.calls _ _ l0_0 _ _ l0_1 false _ ?side1 ?side2 ?side3 ?side4 A7.out).mono ?_); (case side1 => exact z217_); (case side2 => exact HC0_0.out); (case side3 => exact z219_); (case side4 => exact HC0_1.out); rintro e w43 ⟨rfl, hb⟩; refine ⟨_, rfl, ?_⟩; replace BK349 := am_ (blk_below (g := gb349) (o := .cells #[.slice A0_0 l0_0.length c0_0, .slice A0_1 l0_1.length c0_1] 31 (0, 0)) (z43_) hb); replace HB := am_ (below_step (z24_) hb); (try clear hb); (try clear hi)))
  go_ret;exact ⟨z6_, z24_⟩


open Go.Proofs.YtnmdcmfhjhgheaaM
def X53.f (l0 : List Int) : Option (List Int) := if l0.length < 17592186044416 then some l0 else none
set_option maxHeartbeats 8000000 in
set_option maxRecDepth 100000 in
theorem X53.calls (A0 : Option Addr) (c0 : Nat) (l0 : List Int) (r : List Int) (w : World) (hr0 : Kd.C (Kd.int .i64) w A0 l0.length l0) (hc0 : l0.length ≤ c0) (h : X53.f l0 = some r) :
    Calls Try.prog 60 #[.slice A0 l0.length c0] w fun e w' => ∃ v0_ : Value, e = .returned (v0_) ∧ Kd.R (Kd.int .i64) 2 w' w.heap.size (fun _ => True) v0_ r ∧ Below w.heap.size w w' := by
  unfold X53.f at h
  split at h
  case isFalse => exact absurd h (by simp)
  rename_i hl
  obtain rfl := Option.some.inj h;clear h;have HB := am_ (Below.refl w.heap.size w)
  cases A0 with
  | none =>
    have e0 : l0 = [] := by
      cases l0 with
      | nil => rfl
      | cons x l => obtain ⟨ad, h, _⟩ := hr0.2.2 (by simp); cases h
    subst e0;clear hr0 hl;(have hq : ∀ W, (binOp .eql 22 (.slice none 0 c0) (.slice none 0 0)).run Try.prog W = .ok (.bool true) W := fun W => Lib.run_eql_slice_nil W 22 2 none 0 c0 0 0 Try.underlying22);go_enter Try.func60, Try.ntmps60;go_wp2;go_ret;exact ⟨_, rfl, Kd.R_nil _ _ _ _ _, by repeat (first | exact HB.out | apply below_alloc | apply pw_below_drewN | apply below_drew1)⟩
  | some a =>
    have HR0 := am_ hr0;obtain ⟨y169, hy169⟩ : ∃ y_ : List Int, y_ = ([] : List Int) := ⟨_, rfl⟩;obtain ⟨y172, hy172⟩ : ∃ y_ : List Int, y_ = (y169 ++ l0) := ⟨_, rfl⟩;have Ny169 := am_ hy169;have Ny172 := am_ hy172;have LMc2 : Aside0 (y169.length + l0.length < 17592186044416) := ⟨by rw [hy169]; simpa using hl⟩;have HY : Aside0 (y172 = l0) := ⟨by rw [hy172, hy169]; rfl⟩;clear hr0 hl hy169 hy172;(have hq : ∀ W, (binOp .eql 22 (.slice (some a) l0.length c0) (.slice none 0 0)).run Try.prog W = .ok (.bool false) W := fun W => Lib.run_eql_slice_nil W 22 2 (some a) l0.length c0 0 0 Try.underlying22);go_enter Try.func60, Try.ntmps60
    go_wp2_with (first | ((with_reducible refine gate_dst (N := 5) rfl ?_); refine Kd.R_lit (Kd.int .i64) _ 2 ?hg (N := 5) ?hd (xs := ([] : List Int)) (inner := []) (ok := fun _ => True) (okp := fun _ => True) ?hr ?hp (fun _ hk => hk) trivial (Below.refl _ _) (Nat.le_refl _) (by simp) ?_; (case hd => rfl); (case hg => rfl); (case hr => first | (go_simp; done) | (go_simp; rfl)); (case hp => exact (Reps.none _ _)); intro v170 w3 ho4 hb hg_ hnew_; clear hg_ hnew_; (first | rw [← Ny169.out] at ho4 | (simp only [Int.reduceToNat] at ho4; rw [← Ny169.out] at ho4)); have HO171 := am_ (Kd.R_lower ho4 (below_size (z112_))); replace HB := am_ (below_step (z112_) hb); clear hb ho4) | ((with_reducible refine gate_builtin (b := .append) (xs := #[.tmp 5, .tmp 6]) rfl ?_); at_builtin; refine Kd.R_append_rows (Kd.int .i64) (w0 := w) w.heap.size rfl (.tmp 5) (.tmp 6) 22 2 (.int .i64 0) 8 rfl Try.underlying22 info2 rfl (by decide) (by omega) v170 y169 l0 _ _ _ (fun _ => True) (fun _ => False) rfl rfl ?aO ?aR (fun _ _ h => h) (fun _ h => h.elim) ?aF ?aB ?aS ?aL ?_; (case aR => repeat (first | exact (Kd.C_below HR0.out HB.out) | (with_reducible refine Kd.C_alloc ?_ _) | (with_reducible refine Kd.C_drewN ?_ _) | (with_reducible refine Kd.C_drew ?_))); (case aB => exact (z112_)); (case aF => exact (fun _ _ => trivial)); (case aO => exact (by (with_reducible repeat (first | apply Kd.R_alloc | apply Kd.R_drewN | apply Kd.R_drew)); exact HO171.out)); (case aS => exact (below_size (z112_))); (case aL => have := LMc2.out; omega); intro v173 w5 ho hb hg hat; rw [← Ny172.out] at ho; have n0_ := am_ (hb); have n1_ := am_ (ho); clear HB; clear HO171; have HB := n0_; have HO174 := n1_; clear n0_ n1_; clear ho hb hg hat))
    go_ret;exact ⟨_, rfl, by rw [← HY.out]; (with_reducible repeat (first | apply Kd.R_alloc | apply Kd.R_drewN | apply Kd.R_drew)); exact HO174.out, z112_⟩

-- NOT PRINTED: function 61 (impl_way)

end Go.Proofs.Ytnmdcmfhjhgheaa.PFnExactWorstNode
