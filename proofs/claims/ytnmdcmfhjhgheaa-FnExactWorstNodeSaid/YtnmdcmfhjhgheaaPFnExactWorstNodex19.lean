-- Printed by a program of this session (wip/hprint.sh: the kit's print with hand-proved contracts put in); not by print.sh itself.
import Derived.Test.YtnmdcmfhjhgheaaPFnExactWorstNodex0
import Derived.Test.YtnmdcmfhjhgheaaPFnExactWorstNodex17
import Derived.Test.YtnmdcmfhjhgheaaPFnExactWorstNodex1
import Derived.Test.YtnmdcmfhjhgheaaPFnExactWorstNodex2
import Derived.Test.YtnmdcmfhjhgheaaPFnExactWorstNodex9
namespace Go.Proofs.Ytnmdcmfhjhgheaa.PFnExactWorstNode
open Go.RowKit Go.Proofs.YtnmdcmfhjhgheaaW.PrintWords Go.Proofs.YtnmdcmfhjhgheaaW.PrintLast Go.Proofs.YtnmdcmfhjhgheaaW.PrintMore Go.Proofs.YtnmdcmfhjhgheaaM
attribute [local go_sem] max2_int min2_int max_two min_two max_three min_three max_four min_four   -- for this text's walks alone
set_option linter.unusedVariables false
set_option linter.unusedSimpArgs false

def X18.l0 : Nat → List Int → List Int → Int → List Int → Int → Int → Option (Int × Int × Int)
 | 0, _, _, _, _, _, _ => none
 | k + 1, x2, x11, x13, x27, x28, x29 => if x29 < x28 then (if 0 ≤ x29 then (if x29 < (x27.length : Int) then (if x29 < (x2.length : Int) then (if (rd x2 x29) > 0 then (if x13 < 0 then (X18.l0 k x2 x11 x29 x27 x28 (wrap64 (x29 + 1))) else (if 0 ≤ x13 then (if x13 < (x11.length : Int) then (if (rd x27 x29) < (rd x11 x13) then (X18.l0 k x2 x11 x29 x27 x28 (wrap64 (x29 + 1))) else (X18.l0 k x2 x11 x13 x27 x28 (wrap64 (x29 + 1)))) else (none)) else (none))) else (X18.l0 k x2 x11 x13 x27 x28 (wrap64 (x29 + 1)))) else (none)) else (none)) else (none)) else (if x13 < 0 then (some (0, 0, 3)) else (if 0 ≤ x13 then (if x13 < (x11.length : Int) then (some (x13, rd x11 x13, 0)) else (none)) else (none)))
def X18.f (k : Nat) (l0_0 : List Int) (l0_1 : List (S73)) (a1 : Int) (l2 : List Int) (a3 : Int) : Option (Int × Int × Int) := (X32.f k l0_0 l0_1 a1 l2 a3 0).bind fun bt431 => (if bt431.2 = 0 then (X18.l0 k l2 bt431.1 (-1) bt431.1 (bt431.1.length : Int) 0) else (some (0, 0, bt431.2)))
theorem X18.mono_l : ∀ k, (∀ y0 y1 y2 y3 y4 y5, LeO (X18.l0 k y0 y1 y2 y3 y4 y5) (X18.l0 (k + 1) y0 y1 y2 y3 y4 y5))
 | 0 => fun _ _ _ _ _ _ r h => by simp [X18.l0] at h
 | k + 1 => by
  have ih0 := X18.mono_l k
  ·intro y0 y1 y2 y3 y4 y5
   unfold X18.l0
   exact z257_
theorem X18.mono : ∀ a0 a1 a2 a3 a4 k, LeO (X18.f k a0 a1 a2 a3 a4) (X18.f (k + 1) a0 a1 a2 a3 a4) := by
 intro a0 a1 a2 a3 a4 k
 have ih0 := X18.mono_l k
 unfold X18.f
 exact z257_
set_option maxHeartbeats 8000000 in
set_option maxRecDepth 100000 in
theorem X18.calls (k : Nat) (A0_0 : Option Addr) (c0_0 : Nat) (l0_0 : List Int) (A0_1 : Option Addr) (c0_1 : Nat) (l0_1 : List (S73)) (a1 : Int) (A2 : Option Addr) (c2 : Nat) (l2 : List Int) (a3 : Int) (r1 : Int) (r2 : Int) (r3 : Int) (w : World) (hr0_0 : Kd.C (Kd.int .i64) w A0_0 l0_0.length l0_0) (hc0_0 : l0_0.length ≤ c0_0) (hr0_1 : Kd.C k73 w A0_1 l0_1.length l0_1) (hc0_1 : l0_1.length ≤ c0_1) (hr2 : Kd.C (Kd.int .i64) w A2 l2.length l2) (hc2 : l2.length ≤ c2) (h : X18.f k l0_0 l0_1 a1 l2 a3 = some (r1, r2, r3)) :
  Calls Try.prog 25 #[.agg #[.slice A0_0 l0_0.length c0_0, .slice A0_1 l0_1.length c0_1], .int .i64 a1, .slice A2 l2.length c2, .int .i64 a3] w fun e w' => e = .returned (.tuple #[.int .i64 r1, .int .i64 r2, .int .i64 r3]) ∧ Below w.heap.size w w' := by
 have hu31 := Try.underlying31
 have HR0_0 := am_ hr0_0
 have HC0_0 := am_ hc0_0
 clear hr0_0 hc0_0
 have HR0_1 := am_ hr0_1
 have HC0_1 := am_ hc0_1
 clear hr0_1 hc0_1
 have HR2 := am_ hr2
 have HC2 := am_ hc2
 clear hr2 hc2
 have HB := am_ (Below.refl w.heap.size w)
 unfold X18.f at h;have H := h;clear h
 replace H := Option.bind_eq_some_iff.mp H
 obtain ⟨⟨t431, t434⟩, A50, H⟩ := H
 replace H : (if t434 = 0 then (X18.l0 k l2 t431 (-1) t431 (t431.length : Int) 0) else (some (0, 0, t434))) = some (r1, r2, r3) := H
 have A5 := am_ A50
 clear A50
 by_cases c6 : t434 = 0
 ·(rw [if_pos c6] at H);have c6b0 : (t434 == 0) = true := beq_iff_eq.mpr c6;have c6b1 : (t434 != 0) = false := bne_eq_false_iff_eq.mpr c6;clear c6;have H' := am_ H;clear H;go_enter Try.func25, Try.ntmps25
  iterate 2 ((try go_quiet (fail)); (try go_wp2_with (first | ((with_reducible refine gate_dst (N := 4) rfl ?_); refine box_event ?hg (N := 4) ?hd (cs := #[.slice A0_0 l0_0.length c0_0, .slice A0_1 l0_1.length c0_1]) (t := 31) ?hr ?_; (case hd => rfl); (case hg => rfl); (case hr => first | (go_simp; done) | (go_simp; rfl)); intro gb430 hg w7 hbox hb; have BK430 := am_ (hbox); have GW430 := am_ ((z4_ : w.heap.size ≤ gb430)); have GE430 := am_ ((z4_ : w.heap.size ≤ gb430)); replace HB := am_ (below_step (z2_) hb); clear hb hbox hg; obtain ⟨hcz8_0,hcz8_1,hfz8_0,hfz8_1⟩ := bz2_ w7 BK430.out) | (go_at_call 47; (with_reducible refine (X32.calls k _ _ l0_0 _ _ l0_1 a1 _ _ l2 a3 0 t431 t434 _ ?side1 ?side2 ?side3 ?side4 ?side5 ?side6 A5.out).mono ?_); (case side1 => exact z217_); (case side2 => exact HC0_0.out); (case side3 => exact z219_); (case side4 => exact HC0_1.out); (case side5 => exact z222_); (case side6 => exact HC2.out); rintro e w9 ⟨v432, rfl, ho0, hb⟩; have HO433 := am_ (Kd.R_lower ho0 (below_size (z42_))); replace BK430 := am_ (blk_below (g := gb430) (o := .cells #[.slice A0_0 l0_0.length c0_0, .slice A0_1 l0_1.length c0_1] 31 (0, 0)) (z114_) hb); replace HB := am_ (below_step (z42_) hb); (try clear hb); (try clear ho0); obtain ⟨Ao10, co10, eo10⟩ := Kd.R_slice HO433.out; subst eo10))))
  go_loopg [13, 29] k (fun kq v13 v29 w' => ∃ (x13_1 : Int) (x29_1 : Int), v13 = .int .i64 x13_1 ∧ v29 = .int .i64 x29_1 ∧ Aside0 (X18.l0 kq l2 t431 x13_1 t431 (t431.length : Int) x29_1 = some (r1, r2, r3)) ∧ Aside0 (kq ≤ k) ∧ Aside0 (Kd.R (Kd.int .i64) 2 w' w.heap.size (fun _ => True) (.slice Ao10 t431.length co10) t431) ∧ Aside0 (Kd.R (Kd.int .i64) 2 w' w.heap.size (fun _ => True) (.slice Ao10 t431.length co10) t431) ∧ Aside0 (w'.heap[gb430]? = some (.cells #[(.slice A0_0 l0_0.length c0_0), (.slice A0_1 l0_1.length c0_1)] 31 (0, 0))) ∧ Aside0 (Below w.heap.size w w'))
  case atStart => exact ⟨((-1)), (0), (z8_), (z8_), H', ⟨Nat.le_refl _⟩, ⟨by (with_reducible repeat (first | apply rA|apply rN|apply rW)); exact HO433.out⟩, ⟨by (with_reducible repeat (first | apply rA|apply rN|apply rW)); exact HO433.out⟩, ⟨z114_⟩, ⟨z42_⟩⟩
  case round =>
   clear H';(try clear c2);(try clear c6);(try clear c6b0);(try clear c6b1);(try clear hcz8_0);(try clear hcz8_1);(try clear hfz8_0);(try clear hfz8_1);obtain ⟨x13_1, x29_1, rfl, rfl, HA, HK1, HO_11, HO_27, BK430, HB⟩ := hrel
   cases gk with
   | zero => exact absurd HA.out (by simp [X18.l0])
   | succ k1 =>
    have H := HA.out;clear HA;(simp only [X18.l0] at H);by_cases c11 : x29_1 < (t431.length : Int)
    ·(rw [if_pos c11] at H);have c11b0 := decide_eq_true c11;clear c11;obtain ⟨c12b0,H⟩ := pd_ H;obtain ⟨c13b0,H⟩ := pd_ H;obtain ⟨c14b0,H⟩ := pd_ H;by_cases c15 : (rd l2 x29_1) > 0
     ·(rw [if_pos c15] at H);have c15b0 : decide (0 < (rd l2 x29_1)) = true := decide_eq_true c15;clear c15;by_cases c16 : x13_1 < 0
      ·(rw [if_pos c16] at H);have c16b0 := decide_eq_true c16;clear c16;have H' := am_ H;clear H;obtain ⟨p435,q435,ad435,e435,hx435_0⟩ := aq_ (Kd.at_int (Kd.R_reads' HO_27.out).2.2 x29_1) z0_ z0_;cases e435;obtain ⟨p436,q436,ad436,e436,hx436_0⟩ := aq_ (Kd.at_int (Kd.C_below HR2.out HB.out) x29_1) z0_ z0_;cases e436;go_wp2
       repeat (go_quiet (fail); try go_wp2)
       go_roundg k1
       case measure => have := HK1.out; omega
       case rel => exact ⟨(x29_1), (wrap64 (x29_1 + 1)), (z8_), (z8_), H', ⟨z111_⟩, ⟨z136_⟩, ⟨z190_⟩, ⟨z114_⟩, ⟨z42_⟩⟩
      ·(rw [if_neg c16] at H);have c16b0 := decide_eq_false c16;clear c16;obtain ⟨c17b0,H⟩ := pd_ H;obtain ⟨c18b0,H⟩ := pd_ H;by_cases c19 : (rd t431 x29_1) < (rd t431 x13_1)
       ·(rw [if_pos c19] at H);have c19b0 := decide_eq_true c19;clear c19;have H' := am_ H;clear H;obtain ⟨p435,q435,ad435,e435,hx435_0⟩ := aq_ (Kd.at_int (Kd.R_reads' HO_27.out).2.2 x29_1) z0_ z0_;cases e435;obtain ⟨p436,q436,ad436,e436,hx436_0⟩ := aq_ (Kd.at_int (Kd.C_below HR2.out HB.out) x29_1) z0_ z0_;cases e436;obtain ⟨p437,q437,ad437,e437,hx437_0⟩ := aq_ (Kd.at_int (Kd.R_reads' HO_11.out).2.2 x13_1) z0_ z0_;obtain rfl : ad435 = ad437 := (by injection e437);go_wp2
        repeat (go_quiet (fail); try go_wp2)
        go_roundg k1
        case measure => have := HK1.out; omega
        case rel => exact ⟨(x29_1), (wrap64 (x29_1 + 1)), (z8_), (z8_), H', ⟨z111_⟩, ⟨z136_⟩, ⟨z190_⟩, ⟨z114_⟩, ⟨z42_⟩⟩
       ·(rw [if_neg c19] at H);have c19b0 := decide_eq_false c19;clear c19;have H' := am_ H;clear H;obtain ⟨p435,q435,ad435,e435,hx435_0⟩ := aq_ (Kd.at_int (Kd.R_reads' HO_27.out).2.2 x29_1) z0_ z0_;cases e435;obtain ⟨p436,q436,ad436,e436,hx436_0⟩ := aq_ (Kd.at_int (Kd.C_below HR2.out HB.out) x29_1) z0_ z0_;cases e436;obtain ⟨p437,q437,ad437,e437,hx437_0⟩ := aq_ (Kd.at_int (Kd.R_reads' HO_11.out).2.2 x13_1) z0_ z0_;obtain rfl : ad435 = ad437 := (by injection e437);go_wp2
        repeat (go_quiet (fail); try go_wp2)
        go_roundg k1
        case measure => have := HK1.out; omega
        case rel => exact ⟨(x13_1), (wrap64 (x29_1 + 1)), (z8_), (z8_), H', ⟨z111_⟩, ⟨z136_⟩, ⟨z190_⟩, ⟨z114_⟩, ⟨z42_⟩⟩
     ·(rw [if_neg c15] at H);have c15b0 : decide (0 < (rd l2 x29_1)) = false := decide_eq_false c15;clear c15;have H' := am_ H;clear H;obtain ⟨p435,q435,ad435,e435,hx435_0⟩ := aq_ (Kd.at_int (Kd.R_reads' HO_27.out).2.2 x29_1) z0_ z0_;cases e435;obtain ⟨p436,q436,ad436,e436,hx436_0⟩ := aq_ (Kd.at_int (Kd.C_below HR2.out HB.out) x29_1) z0_ z0_;cases e436;go_wp2
      repeat (go_quiet (fail); try go_wp2)
      go_roundg k1
      case measure => have := HK1.out; omega
      case rel => exact ⟨(x13_1), (wrap64 (x29_1 + 1)), (z8_), (z8_), H', ⟨z111_⟩, ⟨z136_⟩, ⟨z190_⟩, ⟨z114_⟩, ⟨z42_⟩⟩
    ·(rw [if_neg c11] at H);have c11b0 := decide_eq_false c11;clear c11;by_cases c20 : x13_1 < 0
     ·(rw [if_pos c20] at H);have c20b0 := decide_eq_true c20;clear c20;(simp only [Option.some.injEq, Prod.mk.injEq] at H);obtain ⟨rfl, rfl, rfl⟩ := H;go_wp2
      repeat (go_quiet (fail); try go_wp2)
      go_ret3;exact ⟨z6_, z42_⟩
     ·(rw [if_neg c20] at H);have c20b0 := decide_eq_false c20;clear c20;obtain ⟨c21b0,H⟩ := pd_ H;obtain ⟨c22b0,H⟩ := pd_ H;(simp only [Option.some.injEq, Prod.mk.injEq] at H);obtain ⟨rfl, rfl, rfl⟩ := H;obtain ⟨p438,q438,ad438,e438,hx438_0⟩ := aq_ (Kd.at_int (Kd.R_reads' HO_11.out).2.2 x13_1) z0_ z0_;cases e438;go_wp2
      repeat (go_quiet (fail); try go_wp2)
      go_ret3;exact ⟨z6_, z42_⟩
 ·(rw [if_neg c6] at H);have c6b0 : (t434 == 0) = false := beq_eq_false_iff_ne.mpr c6;have c6b1 : (t434 != 0) = true := bne_iff_ne.mpr c6;(simp only [Option.some.injEq, Prod.mk.injEq] at H);obtain ⟨rfl, rfl, rfl⟩ := H;go_enter Try.func25, Try.ntmps25
  iterate 2 ((try go_quiet (fail)); (try go_wp2_with (first | ((with_reducible refine gate_dst (N := 4) rfl ?_); refine box_event ?hg (N := 4) ?hd (cs := #[.slice A0_0 l0_0.length c0_0, .slice A0_1 l0_1.length c0_1]) (t := 31) ?hr ?_; (case hd => rfl); (case hg => rfl); (case hr => first | (go_simp; done) | (go_simp; rfl)); intro gb430 hg w23 hbox hb; have BK430 := am_ (hbox); have GW430 := am_ ((z4_ : w.heap.size ≤ gb430)); have GE430 := am_ ((z4_ : w.heap.size ≤ gb430)); replace HB := am_ (below_step (z2_) hb); clear hb hbox hg; obtain ⟨hcz24_0,hcz24_1,hfz24_0,hfz24_1⟩ := bz2_ w23 BK430.out) | (go_at_call 47; (with_reducible refine (X32.calls k _ _ l0_0 _ _ l0_1 a1 _ _ l2 a3 0 t431 t434 _ ?side1 ?side2 ?side3 ?side4 ?side5 ?side6 A5.out).mono ?_); (case side1 => exact z217_); (case side2 => exact HC0_0.out); (case side3 => exact z219_); (case side4 => exact HC0_1.out); (case side5 => exact z222_); (case side6 => exact HC2.out); rintro e w25 ⟨v432, rfl, ho0, hb⟩; have HO433 := am_ (Kd.R_lower ho0 (below_size (z42_))); replace BK430 := am_ (blk_below (g := gb430) (o := .cells #[.slice A0_0 l0_0.length c0_0, .slice A0_1 l0_1.length c0_1] 31 (0, 0)) (z114_) hb); replace HB := am_ (below_step (z42_) hb); (try clear hb); (try clear ho0)))))
  go_ret3;exact ⟨z6_, z42_⟩
mutual
def X3.j0 : Nat → Int → List Int → Int → List Int → List (S68) → Option (Bool)
 | 0, _, _, _, _, _ => none
 | k + 1, x1, x2, x3, x440000, x440001 => (X77.f x440000 x440001 1048576).bind fun t440 => (if t440 < 0 then (some true) else (X3.j1 k x1 x2 x3 x440000 x440001))
def X3.j1 : Nat → Int → List Int → Int → List Int → List (S68) → Option (Bool)
 | 0, _, _, _, _, _ => none
 | k + 1, x1, x2, x3, x440000, x440001 => (X45.f x440000 x440001).bind fun bt441 => ((X35.f x2).bind fun t447 => ((X21.f k bt441.1 bt441.2 x1 t447 x3).bind fun bt450 => ((X45.f x440000 x440001).bind fun bt453 => ((X35.f x2).bind fun t460 => ((X18.f k bt453.1 bt453.2 x1 t460 x3).bind fun bt463 => (if bt463.1 = bt450.1 then (if bt463.2.1 = bt450.2.1 then (X3.j2 k x2 t460 (bt463.2.2 != bt450.2.2) x440000 x440001 bt453.1 bt453.2) else (X3.j2 k x2 t460 true x440000 x440001 bt453.1 bt453.2)) else (X3.j2 k x2 t460 true x440000 x440001 bt453.1 bt453.2)))))))
def X3.j2 : Nat → List Int → List Int → Bool → List Int → List (S68) → List Int → List (S73) → Option (Bool)
 | 0, _, _, _, _, _, _, _ => none
 | k + 1, x2, x14, x62, x440000, x440001, x460000, x460001 => if x62 = true then (some false) else (X3.j3 k x2 x14 x440000 x440001 x460000 x460001)
def X3.j3 : Nat → List Int → List Int → List Int → List (S68) → List Int → List (S73) → Option (Bool)
 | 0, _, _, _, _, _, _ => none
 | k + 1, x2, x14, x440000, x440001, x460000, x460001 => (X45.f x440000 x440001).bind fun bt466 => ((X67.f x460000 x460001 bt466.1 bt466.2).bind fun t472 => (if t472 = true then (X3.j4 k x2 x14) else (some false)))
def X3.j4 : Nat → List Int → List Int → Option (Bool)
 | 0, _, _ => none
 | k + 1, x2, x14 => (X35.f x2).bind fun t473 => ((X41.f x14 t473).bind fun t476 => (if t476 = true then (some true) else (some false)))
end
def X3.f (k : Nat) (l0_0 : List Int) (l0_1 : List (S68)) (a1 : Int) (l2 : List Int) (a3 : Int) : Option (Bool) := if (l2.length : Int) > 1048576 then (some true) else (X3.j0 k a1 l2 a3 l0_0 l0_1)
theorem X3.mono_l : ∀ k, (∀ y0 y1 y2 y3 y4, LeO (X3.j0 k y0 y1 y2 y3 y4) (X3.j0 (k + 1) y0 y1 y2 y3 y4)) ∧ (∀ y0 y1 y2 y3 y4, LeO (X3.j1 k y0 y1 y2 y3 y4) (X3.j1 (k + 1) y0 y1 y2 y3 y4)) ∧ (∀ y0 y1 y2 y3 y4 y5 y6, LeO (X3.j2 k y0 y1 y2 y3 y4 y5 y6) (X3.j2 (k + 1) y0 y1 y2 y3 y4 y5 y6)) ∧ (∀ y0 y1 y2 y3 y4 y5, LeO (X3.j3 k y0 y1 y2 y3 y4 y5) (X3.j3 (k + 1) y0 y1 y2 y3 y4 y5)) ∧ (∀ y0 y1, LeO (X3.j4 k y0 y1) (X3.j4 (k + 1) y0 y1))
 | 0 => ⟨fun _ _ _ _ _ r h => by simp [X3.j0] at h, fun _ _ _ _ _ r h => by simp [X3.j1] at h, fun _ _ _ _ _ _ _ r h => by simp [X3.j2] at h, fun _ _ _ _ _ _ r h => by simp [X3.j3] at h, fun _ _ r h => by simp [X3.j4] at h⟩
 | k + 1 => by
  obtain ⟨ih0, ih1, ih2, ih3, ih4⟩ := X3.mono_l k
  refine ⟨?_, ?_, ?_, ?_, ?_⟩
  ·intro y0 y1 y2 y3 y4
   unfold X3.j0
   exact z258_
  ·intro y0 y1 y2 y3 y4
   unfold X3.j1
   exact z258_
  ·intro y0 y1 y2 y3 y4 y5 y6
   unfold X3.j2
   exact z258_
  ·intro y0 y1 y2 y3 y4 y5
   unfold X3.j3
   exact z258_
  ·intro y0 y1
   unfold X3.j4
   exact z258_
theorem X3.mono : ∀ a0 a1 a2 a3 a4 k, LeO (X3.f k a0 a1 a2 a3 a4) (X3.f (k + 1) a0 a1 a2 a3 a4) := by
 intro a0 a1 a2 a3 a4 k
 obtain ⟨ih0, ih1, ih2, ih3, ih4⟩ := X3.mono_l k
 unfold X3.f
 exact z258_
set_option maxHeartbeats 8000000 in
set_option maxRecDepth 100000 in
theorem X3.calls (k : Nat) (A0_0 : Option Addr) (c0_0 : Nat) (l0_0 : List Int) (A0_1 : Option Addr) (c0_1 : Nat) (l0_1 : List (S68)) (a1 : Int) (A2 : Option Addr) (c2 : Nat) (l2 : List Int) (a3 : Int) (r : Bool) (w : World) (hr0_0 : Kd.C (Kd.int .i64) w A0_0 l0_0.length l0_0) (hc0_0 : l0_0.length ≤ c0_0) (hr0_1 : Kd.C k68 w A0_1 l0_1.length l0_1) (hc0_1 : l0_1.length ≤ c0_1) (hr2 : Kd.C (Kd.int .i64) w A2 l2.length l2) (hc2 : l2.length ≤ c2) (h : X3.f k l0_0 l0_1 a1 l2 a3 = some r) :
  Calls Try.prog 7 #[.agg #[.slice A0_0 l0_0.length c0_0, .slice A0_1 l0_1.length c0_1], .int .i64 a1, .slice A2 l2.length c2, .int .i64 a3] w fun e w' => e = .returned (.bool r) ∧ Below w.heap.size w w' := by
 have hu25 := Try.underlying25
 have hu31 := Try.underlying31
 have HR0_0 := am_ hr0_0
 have HC0_0 := am_ hc0_0
 clear hr0_0 hc0_0
 have HR0_1 := am_ hr0_1
 have HC0_1 := am_ hc0_1
 clear hr0_1 hc0_1
 have HR2 := am_ hr2
 have HC2 := am_ hc2
 clear hr2 hc2
 have HB := am_ (Below.refl w.heap.size w)
 unfold X3.f at h;have H := h;clear h
 have HC5 := am_ H
 clear H
 go_enter Try.func7, Try.ntmps7
 go_upto_if 20 with (first | ((with_reducible refine gate_dst (N := 4) rfl ?_); refine box_event ?hg (N := 4) ?hd (cs := #[.slice A0_0 l0_0.length c0_0, .slice A0_1 l0_1.length c0_1]) (t := 25) ?hr ?_; (case hd => rfl); (case hg => rfl); (case hr => first | (go_simp; done) | (go_simp; rfl)); intro gb439 hg w6 hbox hb; have BK439 := am_ (hbox); have GW439 := am_ ((z4_ : w.heap.size ≤ gb439)); have GE439 := am_ ((z4_ : w.heap.size ≤ gb439)); replace HB := am_ (below_step (z2_) hb); clear hb hbox hg))
 (try simp only [Act.put, List.setIfInBounds_toArray, List.set_cons_zero, List.set_cons_succ])
 go_cut [] (fun wc => ∃ (kq : Nat), Aside0 (X3.j0 kq a1 l2 a3 l0_0 l0_1 = some r) ∧ Aside0 (kq ≤ k) ∧ Aside0 (wc.heap[gb439]? = some (.cells #[(.slice A0_0 l0_0.length c0_0), (.slice A0_1 l0_1.length c0_1)] 25 (0, 0))) ∧ Aside0 (Below w.heap.size w wc))
 case first =>
  have H := HC5.out;clear HC5;by_cases c7 : (l2.length : Int) > 1048576
  ·(rw [if_pos c7] at H);have c7b0 : decide (1048576 < (l2.length : Int)) = true := decide_eq_true c7;have c7b1 : decide (1048576 < l2.length) = true := decide_eq_true (by omega);clear c7;(first | rw [c7b0] | (simp only [i64_w, i32_w]; rw [c7b0]) | rw [c7b2] | skip);obtain rfl := Option.some.inj H;go_wp2;go_ret;exact ⟨z6_, z31_⟩
  ·(rw [if_neg c7] at H);have c7b0 : decide (1048576 < (l2.length : Int)) = false := decide_eq_false c7;have c7b1 : decide (1048576 < l2.length) = false := decide_eq_false (by omega);clear c7;(first | rw [c7b0] | (simp only [i64_w, i32_w]; rw [c7b0]) | rw [c7b2] | skip);have H' := am_ H;clear H;go_wp2;go_meet
   case rel => exact ⟨_, H', ⟨z167_⟩, ⟨z36_⟩, ⟨z31_⟩⟩
 case rest =>
  clear HC5;(try clear c2);(try clear c7);(try clear c7b0);(try clear c7b1);(try clear c7b2);obtain ⟨kq, HA, HJ4, BK439, HB⟩ := hcut
  cases kq with
  | zero => exact absurd HA.out (by simp [X3.j0])
  | succ kj4 =>
   have H := HA.out;clear HA;(simp only [X3.j0] at H);obtain ⟨t440, A80, H⟩ := ob_ H;have A8 := am_ A80;clear A80;have HC9 := am_ H;clear H;obtain ⟨hcz10_0,hcz10_1,hfz10_0,hfz10_1⟩ := bz2_ wc BK439.out
   go_upto_if 25 with (first | ((with_reducible refine gate_callee (f := 8) rfl ?_); refine goesL_ (some 23) rfl rfl Try.func8 (z13_) rfl #[.agg #[.slice A0_0 l0_0.length c0_0, .slice A0_1 l0_1.length c0_1], .int .i64 1048576] rfl (z1_) ?_; (with_reducible refine (X77.calls _ _ l0_0 _ _ l0_1 1048576 t440 _ ?side1 ?side2 ?side3 ?side4 A8.out).mono ?_); (case side1 => exact z217_); (case side2 => exact HC0_0.out); (case side3 => exact z219_); (case side4 => exact HC0_1.out); rintro e w11 ⟨rfl, hb⟩; refine ⟨_, rfl, ?_⟩; replace BK439 := am_ (blk_below (g := gb439) (o := .cells #[.slice A0_0 l0_0.length c0_0, .slice A0_1 l0_1.length c0_1] 25 (0, 0)) (z36_) hb); replace HB := am_ (below_step (z31_) hb); (try clear hb); (try clear hk); (try clear hi)))
   (try simp only [Act.put, List.setIfInBounds_toArray, List.set_cons_zero, List.set_cons_succ])
   go_cut [] (fun wc => ∃ (kq : Nat), Aside0 (X3.j1 kq a1 l2 a3 l0_0 l0_1 = some r) ∧ Aside0 (kq ≤ kj4) ∧ Aside0 (wc.heap[gb439]? = some (.cells #[(.slice A0_0 l0_0.length c0_0), (.slice A0_1 l0_1.length c0_1)] 25 (0, 0))) ∧ Aside0 (Below w.heap.size w wc))
   case first =>
    have H := HC9.out;clear HC9;by_cases c12 : t440 < 0
    ·(rw [if_pos c12] at H);have c12b0 := decide_eq_true c12;clear c12;(first | rw [c12b0] | (simp only [i64_w, i32_w]; rw [c12b0]) | rw [c12b2] | skip);obtain rfl := Option.some.inj H;go_wp2;go_ret;exact ⟨z6_, z31_⟩
    ·(rw [if_neg c12] at H);have c12b0 := decide_eq_false c12;clear c12;(first | rw [c12b0] | (simp only [i64_w, i32_w]; rw [c12b0]) | rw [c12b2] | skip);have H' := am_ H;clear H;go_wp2;go_meet
     case rel => exact ⟨_, H', ⟨by have := HJ4.out; first | omega | exact Nat.le_refl _⟩, ⟨z36_⟩, ⟨z31_⟩⟩
   case rest =>
    clear HC9;(try clear c2);(try clear c7);(try clear c7b0);(try clear c7b1);(try clear c7b2);(try clear c12);(try clear c12b0);(try clear c12b2);(try clear hcz10_0);(try clear hcz10_1);(try clear hfz10_0);(try clear hfz10_1);obtain ⟨kq, HA, HJ8, BK439, HB⟩ := hcut
    cases kq with
    | zero => exact absurd HA.out (by simp [X3.j1])
    | succ kj8 =>
     have H := HA.out;clear HA;(simp only [X3.j1] at H);replace H := Option.bind_eq_some_iff.mp H;obtain ⟨⟨t441, t444⟩, A130, H⟩ := H;replace H : ((X35.f l2).bind fun t447 => ((X21.f kj8 t441 t444 a1 t447 a3).bind fun bt450 => ((X45.f l0_0 l0_1).bind fun bt453 => ((X35.f l2).bind fun t460 => ((X18.f kj8 bt453.1 bt453.2 a1 t460 a3).bind fun bt463 => (if bt463.1 = bt450.1 then (if bt463.2.1 = bt450.2.1 then (X3.j2 kj8 l2 t460 (bt463.2.2 != bt450.2.2) l0_0 l0_1 bt453.1 bt453.2) else (X3.j2 kj8 l2 t460 true l0_0 l0_1 bt453.1 bt453.2)) else (X3.j2 kj8 l2 t460 true l0_0 l0_1 bt453.1 bt453.2))))))) = some r := H;have A13 := am_ A130;clear A130;obtain ⟨t447, A140, H⟩ := ob_ H;have A14 := am_ A140;clear A140;replace H := Option.bind_eq_some_iff.mp H;obtain ⟨⟨t450, t451, t452⟩, A150, H⟩ := H;replace H : ((X45.f l0_0 l0_1).bind fun bt453 => ((X35.f l2).bind fun t460 => ((X18.f kj8 bt453.1 bt453.2 a1 t460 a3).bind fun bt463 => (if bt463.1 = t450 then (if bt463.2.1 = t451 then (X3.j2 kj8 l2 t460 (bt463.2.2 != t452) l0_0 l0_1 bt453.1 bt453.2) else (X3.j2 kj8 l2 t460 true l0_0 l0_1 bt453.1 bt453.2)) else (X3.j2 kj8 l2 t460 true l0_0 l0_1 bt453.1 bt453.2))))) = some r := H;have A15 := am_ A150;clear A150;replace H := Option.bind_eq_some_iff.mp H;obtain ⟨⟨t453, t456⟩, A160, H⟩ := H;replace H : ((X35.f l2).bind fun t460 => ((X18.f kj8 t453 t456 a1 t460 a3).bind fun bt463 => (if bt463.1 = t450 then (if bt463.2.1 = t451 then (X3.j2 kj8 l2 t460 (bt463.2.2 != t452) l0_0 l0_1 t453 t456) else (X3.j2 kj8 l2 t460 true l0_0 l0_1 t453 t456)) else (X3.j2 kj8 l2 t460 true l0_0 l0_1 t453 t456)))) = some r := H;have A16 := am_ A160;clear A160;obtain ⟨t460, A170, H⟩ := ob_ H;have A17 := am_ A170;clear A170;replace H := Option.bind_eq_some_iff.mp H;obtain ⟨⟨t463, t464, t465⟩, A180, H⟩ := H;replace H : (if t463 = t450 then (if t464 = t451 then (X3.j2 kj8 l2 t460 (t465 != t452) l0_0 l0_1 t453 t456) else (X3.j2 kj8 l2 t460 true l0_0 l0_1 t453 t456)) else (X3.j2 kj8 l2 t460 true l0_0 l0_1 t453 t456)) = some r := H;have A18 := am_ A180;clear A180;have HC19 := am_ H;clear H;obtain ⟨hcz20_0,hcz20_1,hfz20_0,hfz20_1⟩ := bz2_ wc BK439.out
     go_upto_region 11 with (first | ((with_reducible refine gate_callee (f := 10) rfl ?_); refine goesL_ (some 28) rfl rfl Try.func10 (z13_) rfl #[.agg #[.slice A0_0 l0_0.length c0_0, .slice A0_1 l0_1.length c0_1]] rfl (z1_) ?_; (with_reducible refine (X45.calls _ _ l0_0 _ _ l0_1 t441 t444 _ ?side1 ?side2 ?side3 ?side4 A13.out).mono ?_); (case side1 => exact z217_); (case side2 => exact HC0_0.out); (case side3 => exact z219_); (case side4 => exact HC0_1.out); rintro e w21 ⟨v442, v445, rfl, ho0, ho1, hb⟩; refine ⟨_, rfl, ?_⟩; have HO443 := am_ (Kd.R_lower ho0 (below_size (z31_))); have HO446 := am_ (Kd.R_lower ho1 (below_size (z31_))); replace BK439 := am_ (blk_below (g := gb439) (o := .cells #[.slice A0_0 l0_0.length c0_0, .slice A0_1 l0_1.length c0_1] 25 (0, 0)) (z36_) hb); replace HB := am_ (below_step (z31_) hb); (try clear hb); (try clear hk); (try clear ho0); (try clear ho1)) | ((with_reducible refine gate_callee (f := 11) rfl ?_); refine goesL_ (some 31) rfl rfl Try.func11 (z13_) rfl #[.slice A2 l2.length c2] rfl (z1_) ?_; (with_reducible refine (X35.calls _ _ l2 t447 _ ?side1 ?side2 A14.out).mono ?_); (case side1 => exact z222_); (case side2 => exact HC2.out); rintro e w22 ⟨v448, rfl, ho0, hb⟩; refine ⟨_, rfl, ?_⟩; replace HO446 := am_ (Kd.R_below (z149_) hb); have HO449 := am_ (Kd.R_lower (Kd.R_new' ho0 (Kd.R_lt (z139_))) (below_size (z31_))); replace HO443 := am_ (Kd.R_elder' (z139_) (Kd.R_base ho0) hb); replace BK439 := am_ (blk_below (g := gb439) (o := .cells #[.slice A0_0 l0_0.length c0_0, .slice A0_1 l0_1.length c0_1] 25 (0, 0)) (z36_) hb); replace HB := am_ (below_step (z31_) hb); (try clear hb); (try clear hk); (try clear ho0); obtain ⟨Ao23, co23, eo23⟩ := Kd.R_slice HO443.out; subst eo23; obtain ⟨Ao24, co24, eo24⟩ := Kd.R_slice HO446.out; subst eo24; obtain ⟨Ao25, co25, eo25⟩ := Kd.R_slice HO449.out; subst eo25) | ((with_reducible refine gate_callee (f := 24) rfl ?_); refine goesL_ (some 33) rfl rfl Try.func24 (z13_) rfl #[.agg #[.slice Ao23 t441.length co23, .slice Ao24 t444.length co24], .int .i64 a1, .slice Ao25 t447.length co25, .int .i64 a3] rfl (z1_) ?_; (with_reducible refine (X21.calls kj8 _ _ t441 _ _ t444 a1 _ _ t447 a3 t450 t451 t452 _ ?side1 ?side2 ?side3 ?side4 ?side5 ?side6 A15.out).mono ?_); (case side1 => repeat (first | exact (Kd.R_reads' HO443.out).2.2 | (with_reducible first|refine Kd.C_alloc ?_ _|refine Kd.C_drewN ?_ _|refine Kd.C_drew ?_))); (case side2 => exact (Kd.R_reads' HO443.out).2.1); (case side3 => repeat (first | exact (Kd.R_reads' HO446.out).2.2 | (with_reducible first|refine Kd.C_alloc ?_ _|refine Kd.C_drewN ?_ _|refine Kd.C_drew ?_))); (case side4 => exact (Kd.R_reads' HO446.out).2.1); (case side5 => repeat (first | exact (Kd.R_reads' HO449.out).2.2 | (with_reducible first|refine Kd.C_alloc ?_ _|refine Kd.C_drewN ?_ _|refine Kd.C_drew ?_))); (case side6 => exact (Kd.R_reads' HO449.out).2.1); rintro e w26 ⟨rfl, hb⟩; refine ⟨_, rfl, ?_⟩; replace HO443 := am_ (Kd.R_below (z139_) hb); replace HO446 := am_ (Kd.R_below (z149_) hb); replace HO449 := am_ (Kd.R_below (z165_) hb); replace BK439 := am_ (blk_below (g := gb439) (o := .cells #[.slice A0_0 l0_0.length c0_0, .slice A0_1 l0_1.length c0_1] 25 (0, 0)) (z36_) hb); replace HB := am_ (below_step (z31_) hb); (try clear hb); (try clear hk); obtain ⟨hcz27_0,hcz27_1,hfz27_0,hfz27_1⟩ := bz2_ w26 BK439.out) | ((with_reducible refine gate_callee (f := 10) rfl ?_); refine goesL_ (some 38) rfl rfl Try.func10 (z13_) rfl #[.agg #[.slice A0_0 l0_0.length c0_0, .slice A0_1 l0_1.length c0_1]] rfl (z1_) ?_; (with_reducible refine (X45.calls _ _ l0_0 _ _ l0_1 t453 t456 _ ?side1 ?side2 ?side3 ?side4 A16.out).mono ?_); (case side1 => exact z217_); (case side2 => exact HC0_0.out); (case side3 => exact z219_); (case side4 => exact HC0_1.out); rintro e w28 ⟨v454, v457, rfl, ho0, ho1, hb⟩; refine ⟨_, rfl, ?_⟩; have HO455 := am_ (Kd.R_lower (Kd.R_new' (Kd.R_new' ho0 (Kd.R_lt (z139_))) (Kd.R_lt (z165_))) (below_size (z31_))); replace HO443 := am_ (Kd.R_elder' (z139_) (Kd.R_base ho0) hb); replace HO449 := am_ (Kd.R_elder' (z165_) (Kd.R_base ho0) hb); have HO458 := am_ (Kd.R_lower (Kd.R_new' ho1 (Kd.R_lt (z149_))) (below_size (z31_))); replace HO446 := am_ (Kd.R_elder' (z149_) (Kd.R_base ho1) hb); replace BK439 := am_ (blk_below (g := gb439) (o := .cells #[.slice A0_0 l0_0.length c0_0, .slice A0_1 l0_1.length c0_1] 25 (0, 0)) (z36_) hb); replace HB := am_ (below_step (z31_) hb); (try clear hb); (try clear hk); (try clear ho0); (try clear ho1)) | ((with_reducible refine gate_dst (N := 13) rfl ?_); refine box_event ?hg (N := 13) ?hd (cs := #[.slice none 0 0, .slice none 0 0]) (t := 31) ?hr ?_; (case hd => rfl); (case hg => rfl); (case hr => first | (go_simp; done) | (go_simp; rfl)); intro gb459 hg w29 hbox hb; replace HO443 := am_ (Kd.R_below (z139_) hb); replace HO446 := am_ (Kd.R_below (z149_) hb); replace HO449 := am_ (Kd.R_below (z165_) hb); replace HO455 := am_ (Kd.R_below (by (with_reducible repeat (first | apply rA|apply rN|apply rW)); exact HO455.out) hb); replace HO458 := am_ (Kd.R_below (by (with_reducible repeat (first | apply rA|apply rN|apply rW)); exact HO458.out) hb); have BK459 := am_ (hbox); have GW459 := am_ ((z198_ : w.heap.size ≤ gb459)); have GE459 := am_ ((z198_ : w.heap.size ≤ gb459)); replace HB := am_ (below_step (z31_) hb); have NB439_459 := am_ ((by rw [hg]; exact Nat.ne_of_lt (blk_lt (g := gb439) (o := .cells #[.slice A0_0 l0_0.length c0_0, .slice A0_1 l0_1.length c0_1] 25 (0, 0)) (z36_)) : gb439 ≠ gb459)); have NB459_439 := am_ ((by rw [hg]; exact Nat.ne_of_gt (blk_lt (g := gb439) (o := .cells #[.slice A0_0 l0_0.length c0_0, .slice A0_1 l0_1.length c0_1] 25 (0, 0)) (z36_)) : gb459 ≠ gb439)); replace BK439 := am_ (blk_below (g := gb439) (o := .cells #[.slice A0_0 l0_0.length c0_0, .slice A0_1 l0_1.length c0_1] 25 (0, 0)) (z36_) hb); clear hb hbox hg; obtain ⟨Ao30, co30, eo30⟩ := Kd.R_slice HO455.out; subst eo30; have hnb31 := NB459_439.out; have hnc31 := NB439_459.out; obtain ⟨hcz32_0,hcz32_1,hfz32_0,hfz32_1⟩ := bz2_ w29 BK459.out; obtain ⟨Ao33, co33, eo33⟩ := Kd.R_slice HO458.out; subst eo33) | ((with_reducible refine gate_callee (f := 11) rfl ?_); refine goesL_ (some 40) rfl rfl Try.func11 (z13_) rfl #[.slice A2 l2.length c2] rfl (z1_) ?_; (with_reducible refine (X35.calls _ _ l2 t460 _ ?side1 ?side2 A17.out).mono ?_); (case side1 => exact Kd.C_below HR2.out (z20_)); (case side2 => exact HC2.out); rintro e w34 ⟨v461, rfl, ho0, hb⟩; refine ⟨_, rfl, ?_⟩; replace HO446 := am_ (Kd.R_below (by (with_reducible repeat (first | apply rA|apply rN|apply rW)); exact (Kd.R_mono (Kd.R_far (p := ⟨gb459, 1, none⟩) (Kd.R_far (p := ⟨gb459, 0, none⟩) (Kd.R_types HO446.out BK459.out (by decide)) (fun _ hk => hk.2) (.slice Ao30 t453.length co30)) (fun _ hk => hk.2) (.slice Ao33 t456.length co33)) (fun _ h_ => h_.1))) hb); replace HO458 := am_ (Kd.R_below (by (with_reducible repeat (first | apply rA|apply rN|apply rW)); exact (Kd.R_mono (Kd.R_far (p := ⟨gb459, 1, none⟩) (Kd.R_far (p := ⟨gb459, 0, none⟩) (Kd.R_types HO458.out BK459.out (by decide)) (fun _ hk => hk.2) (.slice Ao30 t453.length co30)) (fun _ hk => hk.2) (.slice Ao33 t456.length co33)) (fun _ h_ => h_.1))) hb); have HO462 := am_ (Kd.R_lower (Kd.R_new' (Kd.R_new' (Kd.R_new' ho0 (Kd.R_lt (z122_))) (Kd.R_lt (z123_))) (Kd.R_lt (z124_))) (below_size (z20_))); replace HO443 := am_ (Kd.R_elder' (z122_) (Kd.R_base ho0) hb); replace HO449 := am_ (Kd.R_elder' (z123_) (Kd.R_base ho0) hb); replace HO455 := am_ (Kd.R_elder' (z124_) (Kd.R_base ho0) hb); replace BK439 := am_ (blk_below (g := gb439) (o := .cells #[.slice A0_0 l0_0.length c0_0, .slice A0_1 l0_1.length c0_1] 25 (0, 0)) (by (with_reducible repeat (first | refine bN ?_ _|refine bW ?_|refine bA ?_ _)); refine blk_far ?_ NB439_459.out _; (with_reducible repeat (first | refine bN ?_ _|refine bW ?_|refine bA ?_ _)); refine blk_far ?_ NB439_459.out _; (with_reducible repeat (first | refine bN ?_ _|refine bW ?_|refine bA ?_ _)); exact BK439.out) hb); replace BK459 := am_ (blk_below (g := gb459) (o := .cells #[.slice Ao30 t453.length co30, .slice Ao33 t456.length co33] 31 (0, 0)) (by (with_reducible repeat (first | refine bN ?_ _|refine bW ?_|refine bA ?_ _)); refine blk_put (cs := #[.slice Ao30 t453.length co30, .slice none 0 0]) ?_ 1 _ rfl; (with_reducible repeat (first | refine bN ?_ _|refine bW ?_|refine bA ?_ _)); refine blk_put (cs := #[.slice none 0 0, .slice none 0 0]) ?_ 0 _ rfl; (with_reducible repeat (first | refine bN ?_ _|refine bW ?_|refine bA ?_ _)); exact BK459.out) hb); replace HB := am_ (below_step (z20_) hb); (try clear hb); (try clear hk); (try clear ho0); obtain ⟨hcz35_0,hcz35_1,hfz35_0,hfz35_1⟩ := bz2_ w34 BK459.out; obtain ⟨Ao36, co36, eo36⟩ := Kd.R_slice HO462.out; subst eo36) | ((with_reducible refine gate_callee (f := 25) rfl ?_); refine goesL_ (some 46) rfl rfl Try.func25 (z13_) rfl #[.agg #[.slice Ao30 t453.length co30, .slice Ao33 t456.length co33], .int .i64 a1, .slice Ao36 t460.length co36, .int .i64 a3] rfl (z1_) ?_; (with_reducible refine (X18.calls kj8 _ _ t453 _ _ t456 a1 _ _ t460 a3 t463 t464 t465 _ ?side1 ?side2 ?side3 ?side4 ?side5 ?side6 A18.out).mono ?_); (case side1 => repeat (first | exact (Kd.R_reads' HO455.out).2.2 | (with_reducible first|refine Kd.C_alloc ?_ _|refine Kd.C_drewN ?_ _|refine Kd.C_drew ?_))); (case side2 => exact (Kd.R_reads' HO455.out).2.1); (case side3 => repeat (first | exact (Kd.R_reads' HO458.out).2.2 | (with_reducible first|refine Kd.C_alloc ?_ _|refine Kd.C_drewN ?_ _|refine Kd.C_drew ?_))); (case side4 => exact (Kd.R_reads' HO458.out).2.1); (case side5 => repeat (first | exact (Kd.R_reads' HO462.out).2.2 | (with_reducible first|refine Kd.C_alloc ?_ _|refine Kd.C_drewN ?_ _|refine Kd.C_drew ?_))); (case side6 => exact (Kd.R_reads' HO462.out).2.1); rintro e w37 ⟨rfl, hb⟩; refine ⟨_, rfl, ?_⟩; replace HO443 := am_ (Kd.R_below (z139_) hb); replace HO446 := am_ (Kd.R_below (z149_) hb); replace HO449 := am_ (Kd.R_below (z165_) hb); replace HO455 := am_ (Kd.R_below (by (with_reducible repeat (first | apply rA|apply rN|apply rW)); exact HO455.out) hb); replace HO458 := am_ (Kd.R_below (by (with_reducible repeat (first | apply rA|apply rN|apply rW)); exact HO458.out) hb); replace HO462 := am_ (Kd.R_below (by (with_reducible repeat (first | apply rA|apply rN|apply rW)); exact HO462.out) hb); replace BK439 := am_ (blk_below (g := gb439) (o := .cells #[.slice A0_0 l0_0.length c0_0, .slice A0_1 l0_1.length c0_1] 25 (0, 0)) (z36_) hb); replace BK459 := am_ (blk_below (g := gb459) (o := .cells #[.slice Ao30 t453.length co30, .slice Ao33 t456.length co33] 31 (0, 0)) (z70_) hb); replace HB := am_ (below_step (z20_) hb); (try clear hb); (try clear hk); (try clear hi)))
     (try simp only [Act.put, List.setIfInBounds_toArray, List.set_cons_zero, List.set_cons_succ])
     go_cut [62] (fun v62 wc => ∃ (kq : Nat) (x62_18 : Bool), v62 = .bool x62_18 ∧ Aside0 (X3.j2 kq l2 t460 x62_18 l0_0 l0_1 t453 t456 = some r) ∧ Aside0 (kq ≤ kj8) ∧ Aside0 (Kd.R (Kd.int .i64) 2 wc w.heap.size (fun k_ => some k_ ≠ ((.slice Ao30 t453.length co30) : Value).ownBlock) (.slice Ao36 t460.length co36) t460) ∧ Aside0 (Kd.R (Kd.int .i64) 2 wc w.heap.size (fun k_ => some k_ ≠ ((.slice Ao36 t460.length co36) : Value).ownBlock) (.slice Ao30 t453.length co30) t453) ∧ Aside0 (Kd.R k73 73 wc w.heap.size (fun _ => True) (.slice Ao33 t456.length co33) t456) ∧ Aside0 (wc.heap[gb439]? = some (.cells #[(.slice A0_0 l0_0.length c0_0), (.slice A0_1 l0_1.length c0_1)] 25 (0, 0))) ∧ Aside0 (wc.heap[gb459]? = some (.cells #[(.slice Ao30 t453.length co30), (.slice Ao33 t456.length co33)] 31 (0, 0))) ∧ Aside0 (Below w.heap.size w wc))
     case first =>
      have H := HC19.out;clear HC19;by_cases c38 : t463 = t450
      ·(rw [if_pos c38] at H);have c38b0 : (t463 == t450) = true := beq_iff_eq.mpr c38;have c38b1 : (t463 != t450) = false := bne_eq_false_iff_eq.mpr c38;clear c38;(first | rw [c38b0] | (simp only [i64_w, i32_w]; rw [c38b0]) | rw [c38b2] | skip);by_cases c39 : t464 = t451
       ·(rw [if_pos c39] at H);have c39b0 : (t464 == t451) = true := beq_iff_eq.mpr c39;have c39b1 : (t464 != t451) = false := bne_eq_false_iff_eq.mpr c39;clear c39;have H' := am_ H;clear H;go_wp2;go_meet
        case rel => exact ⟨_, ((t465 != t452)), (z8_), H', ⟨z213_⟩, ⟨z179_⟩, ⟨z180_⟩, ⟨z177_⟩, ⟨z36_⟩, ⟨z70_⟩, ⟨z20_⟩⟩
       ·(rw [if_neg c39] at H);have c39b0 : (t464 == t451) = false := beq_eq_false_iff_ne.mpr c39;have c39b1 : (t464 != t451) = true := bne_iff_ne.mpr c39;have H' := am_ H;clear H;go_wp2;go_meet
        case rel => exact ⟨_, (true), (z8_), H', ⟨z213_⟩, ⟨z179_⟩, ⟨z180_⟩, ⟨z177_⟩, ⟨z36_⟩, ⟨z70_⟩, ⟨z20_⟩⟩
      ·(rw [if_neg c38] at H);have c38b0 : (t463 == t450) = false := beq_eq_false_iff_ne.mpr c38;have c38b1 : (t463 != t450) = true := bne_iff_ne.mpr c38;(first | rw [c38b0] | (simp only [i64_w, i32_w]; rw [c38b0]) | rw [c38b2] | skip);have H' := am_ H;clear H;go_wp2;go_meet
       case rel => exact ⟨_, (true), (z8_), H', ⟨z213_⟩, ⟨z179_⟩, ⟨z180_⟩, ⟨z177_⟩, ⟨z36_⟩, ⟨z70_⟩, ⟨z20_⟩⟩
     case rest =>
      clear HC19;(try clear c2);(try clear c7);(try clear c7b0);(try clear c7b1);(try clear c7b2);(try clear c12);(try clear c12b0);(try clear c12b2);(try clear c38);(try clear c38b0);(try clear c38b1);(try clear c38b2);(try clear c39);(try clear c39b0);(try clear c39b1);(try clear hcz10_0);(try clear hcz10_1);(try clear hcz20_0);(try clear hcz20_1);(try clear hcz27_0);(try clear hcz27_1);(try clear hcz32_0);(try clear hcz32_1);(try clear hcz35_0);(try clear hcz35_1);(try clear hfz10_0);(try clear hfz10_1);(try clear hfz20_0);(try clear hfz20_1);(try clear hfz27_0);(try clear hfz27_1);(try clear hfz32_0);(try clear hfz32_1);(try clear hfz35_0);(try clear hfz35_1);obtain ⟨kq, x62_18, rfl, HA, HJ18, HO_14, HO_460000, HO_460001, BK439, BK459, HB⟩ := hcut
      cases kq with
      | zero => exact absurd HA.out (by simp [X3.j2])
      | succ kj18 =>
       have H := HA.out;clear HA;(simp only [X3.j2] at H);have HC40 := am_ H;clear H
       go_upto_if 62 with (fail)
       go_cut [] (fun wc => ∃ (kq : Nat), Aside0 (X3.j3 kq l2 t460 l0_0 l0_1 t453 t456 = some r) ∧ Aside0 (kq ≤ kj18) ∧ Aside0 (Kd.R (Kd.int .i64) 2 wc w.heap.size (fun k_ => some k_ ≠ ((.slice Ao30 t453.length co30) : Value).ownBlock) (.slice Ao36 t460.length co36) t460) ∧ Aside0 (Kd.R (Kd.int .i64) 2 wc w.heap.size (fun k_ => some k_ ≠ ((.slice Ao36 t460.length co36) : Value).ownBlock) (.slice Ao30 t453.length co30) t453) ∧ Aside0 (Kd.R k73 73 wc w.heap.size (fun _ => True) (.slice Ao33 t456.length co33) t456) ∧ Aside0 (wc.heap[gb439]? = some (.cells #[(.slice A0_0 l0_0.length c0_0), (.slice A0_1 l0_1.length c0_1)] 25 (0, 0))) ∧ Aside0 (wc.heap[gb459]? = some (.cells #[(.slice Ao30 t453.length co30), (.slice Ao33 t456.length co33)] 31 (0, 0))) ∧ Aside0 (Below w.heap.size w wc))
       case first =>
        have H := HC40.out;clear HC40;by_cases c41 : x62_18 = true
        ·subst c41;(rw [if_pos rfl] at H);obtain rfl := Option.some.inj H;go_wp2;go_ret;exact ⟨z6_, z20_⟩
        ·replace c41 := Bool.eq_false_iff.mpr c41;subst c41;(rw [if_neg (show ¬ (false = true) by decide)] at H);have H' := am_ H;clear H;go_wp2;go_meet
         case rel => exact ⟨_, H', ⟨by have := HJ4.out; have := HJ8.out; have := HJ18.out; first | omega | exact Nat.le_refl _⟩, ⟨z120_⟩, ⟨z115_⟩, ⟨z143_⟩, ⟨z36_⟩, ⟨z70_⟩, ⟨z20_⟩⟩
       case rest =>
        clear HC40;(try clear c2);(try clear c7);(try clear c7b0);(try clear c7b1);(try clear c7b2);(try clear c12);(try clear c12b0);(try clear c12b2);(try clear c38);(try clear c38b0);(try clear c38b1);(try clear c38b2);(try clear c39);(try clear c39b0);(try clear c39b1);(try clear c41);(try clear hcz10_0);(try clear hcz10_1);(try clear hcz20_0);(try clear hcz20_1);(try clear hcz27_0);(try clear hcz27_1);(try clear hcz32_0);(try clear hcz32_1);(try clear hcz35_0);(try clear hcz35_1);(try clear hfz10_0);(try clear hfz10_1);(try clear hfz20_0);(try clear hfz20_1);(try clear hfz27_0);(try clear hfz27_1);(try clear hfz32_0);(try clear hfz32_1);(try clear hfz35_0);(try clear hfz35_1);obtain ⟨kq, HA, HJ39, HO_14, HO_460000, HO_460001, BK439, BK459, HB⟩ := hcut
        cases kq with
        | zero => exact absurd HA.out (by simp [X3.j3])
        | succ kj39 =>
         have H := HA.out;clear HA;(simp only [X3.j3] at H);replace H := Option.bind_eq_some_iff.mp H;obtain ⟨⟨t466, t469⟩, A420, H⟩ := H;replace H : ((X67.f t453 t456 t466 t469).bind fun t472 => (if t472 = true then (X3.j4 kj39 l2 t460) else (some false))) = some r := H;have A42 := am_ A420;clear A420;obtain ⟨t472, A430, H⟩ := ob_ H;have A43 := am_ A430;clear A430;have HC44 := am_ H;clear H;(try go_wp2);replace HO_14 := am_ (Kd.R_drew HO_14.out);replace HO_460000 := am_ (Kd.R_drew HO_460000.out);replace HO_460001 := am_ (Kd.R_drew HO_460001.out);replace BK439 := am_ (blk_drew BK439.out);replace BK459 := am_ (blk_drew BK459.out);replace HB := am_ (below_drew1 HB.out);refine start_ (n := 5) (S := fun w' => w'.cell? ⟨gb459, 0, none⟩ = some (.slice Ao30 t453.length co30) ∧ w'.cell? ⟨gb459, 1, none⟩ = some (.slice Ao33 t456.length co33) ∧ w'.cell? ⟨gb439, 0, none⟩ = some (.slice A0_0 l0_0.length c0_0) ∧ w'.cell? ⟨gb439, 1, none⟩ = some (.slice A0_1 l0_1.length c0_1)) (ds := []) #[J,J,J,J,J] (z13_) rfl rfl ⟨bt_ BK459 0, bt_ BK459 1, bt_ BK439 0, bt_ BK439 1⟩ (fun hHeld => ?_);(generalize wc.drew = w45 at HO_14 HO_460000 HO_460001 BK439 BK459 HB hHeld ⊢);refine take_ (i := 0) (N := some 63) (v := ?_) (a' := ?_) #[Y,J,J,J,J] rfl rfl (z13_) (fun _ _ _ h => h) (Or.inl ⟨by rfl, ?_⟩) hHeld ?_ ?_; rotate_left
         ·rintro w' ⟨s0, s1, s2, s3⟩; go_simp; with_reducible rfl
         rotate_left
         ·simp only [pU,pN,sB,sZ,sS,i64_w,i32_w]; rfl
         refine take_ (i := 1) (N := some 64) (v := ?_) (a' := ?_) #[Y,Y,J,J,J] rfl rfl (z13_) (fun _ _ _ h => h) (Or.inl ⟨by rfl, ?_⟩) hHeld ?_ ?_; rotate_left
         ·rintro w' ⟨s0, s1, s2, s3⟩; go_simp; with_reducible rfl
         rotate_left
         ·simp only [pU,pN,sB,sZ,sS,i64_w,i32_w]; rfl
         refine one_ (i := 2) (N := some 65) #[Y,Y,Y,J,J] rfl rfl (z13_) (by decide) (fun K hK => ?_);refine goes_ Try.func10 (z13_) rfl #[.agg #[.slice A0_0 l0_0.length c0_0, .slice A0_1 l0_1.length c0_1]] (by rfl) rfl rfl (z1_) ?_;(with_reducible refine (X45.calls _ _ l0_0 _ _ l0_1 t466 t469 _ ?side1 ?side2 ?side3 ?side4 A42.out).mono ?_)
         (case side1 => exact z217_)
         (case side2 => exact HC0_0.out)
         (case side3 => exact z219_)
         (case side4 => exact HC0_1.out)
         rintro e w46 ⟨v467, v470, rfl, ho0, ho1, hb⟩;refine ⟨_, rfl, ?_⟩;have HO468 := am_ (Kd.R_lower (Kd.R_new' (Kd.R_new' ho0 (Kd.R_lt (z120_))) (Kd.R_lt (z115_))) (below_size (z20_)));replace HO_14 := am_ (Kd.R_elder' (z120_) (Kd.R_base ho0) hb);replace HO_460000 := am_ (Kd.R_elder' (z115_) (Kd.R_base ho0) hb);have HO471 := am_ (Kd.R_lower (Kd.R_new' ho1 (Kd.R_lt (z143_))) (below_size (z20_)));replace HO_460001 := am_ (Kd.R_elder' (z143_) (Kd.R_base ho1) hb);replace BK439 := am_ (blk_below (g := gb439) (o := .cells #[.slice A0_0 l0_0.length c0_0, .slice A0_1 l0_1.length c0_1] 25 (0, 0)) (z36_) hb);replace BK459 := am_ (blk_below (g := gb459) (o := .cells #[.slice Ao30 t453.length co30, .slice Ao33 t456.length co33] 31 (0, 0)) (z70_) hb);replace HB := am_ (below_step (z20_) hb);(try clear hb);(try clear hk);(try clear ho0);(try clear ho1);obtain ⟨Ao47, co47, eo47⟩ := Kd.R_slice HO468.out;(first | subst eo47 | (injection eo47 with f1_ f2_ f3_; have f4_ := f1_.symm; have f5_ := f3_.symm; clear f1_ f2_ f3_; subst f4_; subst f5_));obtain ⟨Ao48, co48, eo48⟩ := Kd.R_slice HO471.out;(first | subst eo48 | (injection eo48 with f1_ f2_ f3_; have f4_ := f1_.symm; have f5_ := f3_.symm; clear f1_ f2_ f3_; subst f4_; subst f5_));refine hK.out _ _ ⟨bt_ BK459 0, bt_ BK459 1, bt_ BK439 0, bt_ BK439 1⟩ (fun hHeld => ?_);clear hK K;refine norm_ (a' := ?_) ?_ ?_
         rotate_left
         ·show Act.put _ (some 65) _ = _
          simp only [pU,pN,sB,sZ,sS,i64_w,i32_w]
          rfl
         refine one_ (i := 3) (N := some 66) #[Y,Y,Y,Y,J] rfl rfl (z13_) (by decide) (fun K hK => ?_);refine goes_ Try.func14 (z13_) rfl #[.agg #[.slice Ao30 t453.length co30, .slice Ao33 t456.length co33], .agg #[.slice Ao47 t466.length co47, .slice Ao48 t469.length co48]] (by rfl) rfl rfl (z1_) ?_;(with_reducible refine (X67.calls _ _ t453 _ _ t456 _ _ t466 _ _ t469 t472 _ ?side1 ?side2 ?side3 ?side4 ?side5 ?side6 ?side7 ?side8 A43.out).mono ?_)
         (case side1 => repeat (first | exact (Kd.R_reads' HO_460000.out).2.2 | (with_reducible first|refine Kd.C_alloc ?_ _|refine Kd.C_drewN ?_ _|refine Kd.C_drew ?_)))
         (case side2 => exact (Kd.R_reads' HO_460000.out).2.1)
         (case side3 => repeat (first | exact (Kd.R_reads' HO_460001.out).2.2 | (with_reducible first|refine Kd.C_alloc ?_ _|refine Kd.C_drewN ?_ _|refine Kd.C_drew ?_)))
         (case side4 => exact (Kd.R_reads' HO_460001.out).2.1)
         (case side5 => repeat (first | exact (Kd.R_reads' HO468.out).2.2 | (with_reducible first|refine Kd.C_alloc ?_ _|refine Kd.C_drewN ?_ _|refine Kd.C_drew ?_)))
         (case side6 => exact (Kd.R_reads' HO468.out).2.1)
         (case side7 => repeat (first | exact (Kd.R_reads' HO471.out).2.2 | (with_reducible first|refine Kd.C_alloc ?_ _|refine Kd.C_drewN ?_ _|refine Kd.C_drew ?_)))
         (case side8 => exact (Kd.R_reads' HO471.out).2.1)
         rintro e w49 ⟨rfl, hb⟩;refine ⟨_, rfl, ?_⟩;replace HO_14 := am_ (Kd.R_below (z120_) hb);replace HO_460000 := am_ (Kd.R_below (z115_) hb);replace HO_460001 := am_ (Kd.R_below (z143_) hb);replace HO468 := am_ (Kd.R_below (by (with_reducible repeat (first | apply rA|apply rN|apply rW)); exact HO468.out) hb);replace HO471 := am_ (Kd.R_below (by (with_reducible repeat (first | apply rA|apply rN|apply rW)); exact HO471.out) hb);replace BK439 := am_ (blk_below (g := gb439) (o := .cells #[.slice A0_0 l0_0.length c0_0, .slice A0_1 l0_1.length c0_1] 25 (0, 0)) (z36_) hb);replace BK459 := am_ (blk_below (g := gb459) (o := .cells #[.slice Ao30 t453.length co30, .slice Ao33 t456.length co33] 31 (0, 0)) (z70_) hb);replace HB := am_ (below_step (z20_) hb);(try clear hb);(try clear hk);refine hK.out _ _ ⟨bt_ BK459 0, bt_ BK459 1, bt_ BK439 0, bt_ BK439 1⟩ (fun hHeld => ?_);clear hK K;refine norm_ (a' := ?_) ?_ ?_
         rotate_left
         ·show Act.put _ (some 66) _ = _
          simp only [pU,pN,sB,sZ,sS,i64_w,i32_w]
          rfl
         refine pure_ (i := 4) (N := some 67) (v := ?_) (a' := ?_) #[Y,Y,Y,Y,Y] rfl rfl (z13_) (fun _ _ _ h => h) (Or.inl ⟨by rfl, ?_⟩) ?_ ?_; rotate_left
         ·intro w'; go_simp; with_reducible rfl
         rotate_left
         ·simp only [pU,pN,sB,sZ,sS,i64_w,i32_w]; rfl
         refine done_ (z13_) ?_
         go_upto_if 67 with (fail)
         go_cut [] (fun wc => ∃ (kq : Nat), Aside0 (X3.j4 kq l2 t460 = some r) ∧ Aside0 (kq ≤ kj39) ∧ Aside0 (Kd.R (Kd.int .i64) 2 wc w.heap.size (fun k_ => some k_ ≠ ((.slice Ao30 t453.length co30) : Value).ownBlock) (.slice Ao36 t460.length co36) t460) ∧ Aside0 (Kd.R (Kd.int .i64) 2 wc w.heap.size (fun k_ => some k_ ≠ ((.slice Ao36 t460.length co36) : Value).ownBlock) (.slice Ao30 t453.length co30) t453) ∧ Aside0 (Kd.R k73 73 wc w.heap.size (fun _ => True) (.slice Ao33 t456.length co33) t456) ∧ Aside0 (wc.heap[gb439]? = some (.cells #[(.slice A0_0 l0_0.length c0_0), (.slice A0_1 l0_1.length c0_1)] 25 (0, 0))) ∧ Aside0 (wc.heap[gb459]? = some (.cells #[(.slice Ao30 t453.length co30), (.slice Ao33 t456.length co33)] 31 (0, 0))) ∧ Aside0 (Below w.heap.size w wc))
         case first =>
          have H := HC44.out;clear HC44;by_cases c50 : t472 = true
          ·subst c50;(rw [if_pos rfl] at H);have H' := am_ H;clear H;go_wp2;go_meet
           case rel => exact ⟨_, H', ⟨by have := HJ4.out; have := HJ8.out; have := HJ18.out; have := HJ39.out; first | omega | exact Nat.le_refl _⟩, ⟨by (with_reducible repeat (first | apply rA|apply rN|apply rW)); exact Kd.R_mono HO_14.out (fun _ hk => hk.1)⟩, ⟨by (with_reducible repeat (first | apply rA|apply rN|apply rW)); exact Kd.R_mono HO_460000.out (fun _ hk => hk.1)⟩, ⟨by (with_reducible repeat (first | apply rA|apply rN|apply rW)); exact Kd.R_mono HO_460001.out (fun _ hk => trivial)⟩, ⟨z36_⟩, ⟨z70_⟩, ⟨z20_⟩⟩
          ·replace c50 := Bool.eq_false_iff.mpr c50;subst c50;(rw [if_neg (show ¬ (false = true) by decide)] at H);obtain rfl := Option.some.inj H;go_wp2;go_ret;exact ⟨z6_, z20_⟩
         case rest =>
          clear HC44;(try clear c2);(try clear c7);(try clear c7b0);(try clear c7b1);(try clear c7b2);(try clear c12);(try clear c12b0);(try clear c12b2);(try clear c38);(try clear c38b0);(try clear c38b1);(try clear c38b2);(try clear c39);(try clear c39b0);(try clear c39b1);(try clear c41);(try clear c50);(try clear hcz10_0);(try clear hcz10_1);(try clear hcz20_0);(try clear hcz20_1);(try clear hcz27_0);(try clear hcz27_1);(try clear hcz32_0);(try clear hcz32_1);(try clear hcz35_0);(try clear hcz35_1);(try clear hfz10_0);(try clear hfz10_1);(try clear hfz20_0);(try clear hfz20_1);(try clear hfz27_0);(try clear hfz27_1);(try clear hfz32_0);(try clear hfz32_1);(try clear hfz35_0);(try clear hfz35_1);obtain ⟨kq, HA, HJ43, HO_14, HO_460000, HO_460001, BK439, BK459, HB⟩ := hcut
          cases kq with
          | zero => exact absurd HA.out (by simp [X3.j4])
          | succ kj43 =>
           have H := HA.out;clear HA;(simp only [X3.j4] at H);obtain ⟨t473, A510, H⟩ := ob_ H;have A51 := am_ A510;clear A510;obtain ⟨t476, A520, H⟩ := ob_ H;have A52 := am_ A520;clear A520;by_cases c53 : t476 = true
           ·subst c53;(rw [if_pos rfl] at H);obtain rfl := Option.some.inj H
            go_wp2_with (first | ((with_reducible refine gate_callee (f := 11) rfl ?_); refine goesL_ (some 70) rfl rfl Try.func11 (z13_) rfl #[.slice A2 l2.length c2] rfl (z1_) ?_; (with_reducible refine (X35.calls _ _ l2 t473 _ ?side1 ?side2 A51.out).mono ?_); (case side1 => exact z222_); (case side2 => exact HC2.out); rintro e w54 ⟨v474, rfl, ho0, hb⟩; refine ⟨_, rfl, ?_⟩; replace HO_460001 := am_ (Kd.R_below (z143_) hb); have HO475 := am_ (Kd.R_lower (Kd.R_new' (Kd.R_new' ho0 (Kd.R_lt (z120_))) (Kd.R_lt (z115_))) (below_size (z20_))); replace HO_14 := am_ (Kd.R_elder' (z120_) (Kd.R_base ho0) hb); replace HO_460000 := am_ (Kd.R_elder' (z115_) (Kd.R_base ho0) hb); replace BK439 := am_ (blk_below (g := gb439) (o := .cells #[.slice A0_0 l0_0.length c0_0, .slice A0_1 l0_1.length c0_1] 25 (0, 0)) (z36_) hb); replace BK459 := am_ (blk_below (g := gb459) (o := .cells #[.slice Ao30 t453.length co30, .slice Ao33 t456.length co33] 31 (0, 0)) (z70_) hb); replace HB := am_ (below_step (z20_) hb); (try clear hb); (try clear hk); (try clear ho0); obtain ⟨Ao55, co55, eo55⟩ := Kd.R_slice HO475.out; subst eo55) | ((with_reducible refine gate_callee (f := 13) rfl ?_); refine goesL_ (some 71) rfl rfl Try.func13 (z13_) rfl #[.slice Ao36 t460.length co36, .slice Ao55 t473.length co55] rfl (z1_) ?_; (with_reducible refine (X41.calls _ _ t460 _ _ t473 true _ ?side1 ?side2 ?side3 ?side4 A52.out).mono ?_); (case side1 => exact z242_); (case side2 => exact (Kd.R_reads' HO_14.out).2.1); (case side3 => exact z243_); (case side4 => exact (Kd.R_reads' HO475.out).2.1); rintro e w' ⟨rfl, ⟨nd, rfl⟩⟩; refine ⟨_, rfl, ?_⟩))
            go_ret;exact ⟨z6_, z20_⟩
           ·replace c53 := Bool.eq_false_iff.mpr c53;subst c53;(rw [if_neg (show ¬ (false = true) by decide)] at H);obtain rfl := Option.some.inj H
            go_wp2_with (first | ((with_reducible refine gate_callee (f := 11) rfl ?_); refine goesL_ (some 70) rfl rfl Try.func11 (z13_) rfl #[.slice A2 l2.length c2] rfl (z1_) ?_; (with_reducible refine (X35.calls _ _ l2 t473 _ ?side1 ?side2 A51.out).mono ?_); (case side1 => exact z222_); (case side2 => exact HC2.out); rintro e w56 ⟨v474, rfl, ho0, hb⟩; refine ⟨_, rfl, ?_⟩; replace HO_460001 := am_ (Kd.R_below (z143_) hb); have HO475 := am_ (Kd.R_lower (Kd.R_new' (Kd.R_new' ho0 (Kd.R_lt (z120_))) (Kd.R_lt (z115_))) (below_size (z20_))); replace HO_14 := am_ (Kd.R_elder' (z120_) (Kd.R_base ho0) hb); replace HO_460000 := am_ (Kd.R_elder' (z115_) (Kd.R_base ho0) hb); replace BK439 := am_ (blk_below (g := gb439) (o := .cells #[.slice A0_0 l0_0.length c0_0, .slice A0_1 l0_1.length c0_1] 25 (0, 0)) (z36_) hb); replace BK459 := am_ (blk_below (g := gb459) (o := .cells #[.slice Ao30 t453.length co30, .slice Ao33 t456.length co33] 31 (0, 0)) (z70_) hb); replace HB := am_ (below_step (z20_) hb); (try clear hb); (try clear hk); (try clear ho0); obtain ⟨Ao57, co57, eo57⟩ := Kd.R_slice HO475.out; subst eo57) | ((with_reducible refine gate_callee (f := 13) rfl ?_); refine goesL_ (some 71) rfl rfl Try.func13 (z13_) rfl #[.slice Ao36 t460.length co36, .slice Ao57 t473.length co57] rfl (z1_) ?_; (with_reducible refine (X41.calls _ _ t460 _ _ t473 false _ ?side1 ?side2 ?side3 ?side4 A52.out).mono ?_); (case side1 => exact z242_); (case side2 => exact (Kd.R_reads' HO_14.out).2.1); (case side3 => exact z243_); (case side4 => exact (Kd.R_reads' HO475.out).2.1); rintro e w' ⟨rfl, ⟨nd, rfl⟩⟩; refine ⟨_, rfl, ?_⟩))
            go_ret;exact ⟨z6_, z20_⟩

end Go.Proofs.Ytnmdcmfhjhgheaa.PFnExactWorstNode
