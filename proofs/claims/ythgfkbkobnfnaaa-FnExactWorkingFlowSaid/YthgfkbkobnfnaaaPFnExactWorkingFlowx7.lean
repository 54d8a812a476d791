-- Printed by a program of this session (wip/hprint.sh: the kit's print with hand-proved contracts put in); not by print.sh itself.
import Derived.Test.YthgfkbkobnfnaaaPFnExactWorkingFlowx0
import Derived.Test.YthgfkbkobnfnaaaPFnExactWorkingFlowx5
import Derived.Test.YthgfkbkobnfnaaaPFnExactWorkingFlowx6
namespace Go.Proofs.Ythgfkbkobnfnaaa.PFnExactWorkingFlow
open Go.RowKit Go.Proofs.YthgfkbkobnfnaaaW.PrintWords Go.Proofs.YthgfkbkobnfnaaaW.PrintLast Go.Proofs.YthgfkbkobnfnaaaW.PrintMore Go.Proofs.YthgfkbkobnfnaaaM
attribute [local go_sem] max2_int min2_int max_two min_two max_three min_three max_four min_four   -- for this text's walks alone
set_option linter.unusedVariables false
set_option linter.unusedSimpArgs false

/-! ### impl_Pump_head: function 70 -/
def impl_Pump_head.l0 : Nat → Int → Int → ByteArray → List (List Int) → Option (Int)
 | 0, _, _, _, _ => none
 | k + 1, x1, x5, x185000, x185001 => if x5 < (x185001.length : Int) then (if 0 ≤ x5 then (if 0 < ((rd_L1 x185001 x5).length : Int) then (if (rd (rd_L1 x185001 x5) 0) < x1 then (impl_Pump_head.l0 k x1 (wrap64 (x5 + 1)) x185000 x185001) else (if x5 = (x185001.length : Int) then (some 0) else (if 0 ≤ (wrap64 (x5 - 1)) then (if (wrap64 (x5 - 1)) < (x185001.length : Int) then (if 0 < ((rd_L1 x185001 (wrap64 (x5 - 1))).length : Int) then (if 1 < ((rd_L1 x185001 (wrap64 (x5 - 1))).length : Int) then (if 1 < ((rd_L1 x185001 x5).length : Int) then ((impl_blend_.f (rd (rd_L1 x185001 (wrap64 (x5 - 1))) 0) (rd (rd_L1 x185001 (wrap64 (x5 - 1))) 1) (rd (rd_L1 x185001 x5) 0) (rd (rd_L1 x185001 x5) 1) x1).bind fun t193 => (some t193)) else (none)) else (none)) else (none)) else (none)) else (none)))) else (none)) else (none)) else (if x5 = (x185001.length : Int) then (some 0) else (if 0 ≤ (wrap64 (x5 - 1)) then (if (wrap64 (x5 - 1)) < (x185001.length : Int) then (if 0 ≤ x5 then (none) else (none)) else (none)) else (none)))
def impl_Pump_head.f (k : Nat) (a0_0 : ByteArray) (l0_1 : List (List Int)) (a1 : Int) : Option (Int) := impl_Pump_head.l0 k a1 1 a0_0 l0_1
theorem impl_Pump_head.mono_l : ∀ k, (∀ y0 y1 y2 y3, LeO (impl_Pump_head.l0 k y0 y1 y2 y3) (impl_Pump_head.l0 (k + 1) y0 y1 y2 y3))
 | 0 => fun _ _ _ _ r h => by simp [impl_Pump_head.l0] at h
 | k + 1 => by
  have ih0 := impl_Pump_head.mono_l k
  ·intro y0 y1 y2 y3
   unfold impl_Pump_head.l0
   repeat' first
   | (with_reducible exact ih0 _ _ _ _)
   | (with_reducible exact LeO.refl _)
   | (with_reducible exact LeO.none _)
   | (with_reducible refine LeO.ite ?_ ?_)
   | (with_reducible refine LeO.bind ?_ (fun _ => ?_))
   | exact ih0 _ _ _ _
   | exact LeO.none _
   | refine LeO.ite ?_ ?_
   | refine LeO.bind ?_ (fun _ => ?_)
theorem impl_Pump_head.mono : ∀ a0 a1 a2 k, LeO (impl_Pump_head.f k a0 a1 a2) (impl_Pump_head.f (k + 1) a0 a1 a2) := by
 intro a0 a1 a2 k
 have ih0 := impl_Pump_head.mono_l k
 unfold impl_Pump_head.f
 repeat' first
   | (with_reducible exact ih0 _ _ _ _)
   | (with_reducible exact LeO.refl _)
   | (with_reducible exact LeO.none _)
   | (with_reducible refine LeO.ite ?_ ?_)
   | (with_reducible refine LeO.bind ?_ (fun _ => ?_))
   | exact ih0 _ _ _ _
   | exact LeO.none _
   | refine LeO.ite ?_ ?_
   | refine LeO.bind ?_ (fun _ => ?_)
set_option maxHeartbeats 8000000 in
set_option maxRecDepth 100000 in
theorem impl_Pump_head.calls (k : Nat) (a0_0 : ByteArray) (A0_1 : Option Addr) (c0_1 : Nat) (l0_1 : List (List Int)) (a1 : Int) (r : Int) (w : World) (hr0_1 : Kd.C (Kd.slice 2 (Kd.int .i64)) w A0_1 l0_1.length l0_1) (hc0_1 : l0_1.length ≤ c0_1) (h : impl_Pump_head.f k a0_0 l0_1 a1 = some r) :
  Calls Try.prog 70 #[.agg #[.string a0_0, .slice A0_1 l0_1.length c0_1], .int .i64 a1] w fun e w' => e = .returned (.int .i64 r) ∧ Below w.heap.size w w' := by
 have hu27 := Try.underlying27
 have HR0_1 := Aside0.mk hr0_1
 have HC0_1 := Aside0.mk hc0_1
 clear hr0_1 hc0_1
 have HB := Aside0.mk (Below.refl w.heap.size w)
 have H : (impl_Pump_head.l0 k a1 1 a0_0 l0_1) = some r := h
 clear h
 have H' := Aside0.mk H
 clear H
 go_enter Try.func70, Try.ntmps70
 iterate 3 ((try go_quiet (fail)); (try go_wp2_with (first | ((with_reducible refine gate_dst (N := 2) rfl ?_); refine box_event ?hg (N := 2) ?hd (cs := #[.string a0_0, .slice A0_1 l0_1.length c0_1]) (t := 27) ?hr ?_; (case hd => rfl); (case hg => rfl); (case hr => first | (go_simp; done) | (go_simp; rfl)); intro gb184 hg w3 hbox hb; have n0_ := Aside0.mk (below_step (by repeat (first | (with_reducible first | exact HB.out | apply below_alloc | apply pw_below_drewN | apply below_drew1) | exact HB.out)) hb); have n1_ := Aside0.mk (hbox); have n2_ := Aside0.mk ((by rw [hg]; exact (below_size (by repeat (first | (with_reducible first | exact HB.out | apply below_alloc | apply pw_below_drewN | apply below_drew1) | exact HB.out))) : w.heap.size ≤ gb184)); have n3_ := Aside0.mk ((by rw [hg]; exact (below_size (by repeat (first | (with_reducible first | exact HB.out | apply below_alloc | apply pw_below_drewN | apply below_drew1) | exact HB.out))) : w.heap.size ≤ gb184)); clear HB; have HB := n0_; have BK184 := n1_; have GW184 := n2_; have GE184 := n3_; clear n0_ n1_ n2_ n3_; clear hb hbox hg))))
 go_loopg [5] k (fun kq v5 w' => ∃ (x5_1 : Int), v5 = .int .i64 x5_1 ∧ Aside0 (impl_Pump_head.l0 kq a1 x5_1 a0_0 l0_1 = some r) ∧ Aside0 (kq ≤ k) ∧ Aside0 (w'.heap[gb184]? = some (.cells #[.string a0_0, (.slice A0_1 l0_1.length c0_1)] 27 (0, 0))) ∧ Aside0 (Below w.heap.size w w'))
 case atStart => exact ⟨(1), (by first | rfl | (simp; done) | (simp [*]; done)), H', ⟨Nat.le_refl _⟩, ⟨by (with_reducible repeat (first | refine blk_drewN ?_ _ | refine blk_drew ?_ | refine blk_alloc ?_ _)); exact BK184.out⟩, ⟨by repeat (first | (with_reducible first | exact HB.out | apply below_alloc | apply pw_below_drewN | apply below_drew1 | refine below_set ?_ GE184.out) | exact HB.out)⟩⟩
 case round =>
  clear H'
  try clear p2
  obtain ⟨x5_1, rfl, HA, HK1, BK184, HB⟩ := hrel
  cases gk with
  | zero => exact absurd HA.out (by simp [impl_Pump_head.l0])
  | succ k1 =>
   have H := HA.out
   clear HA
   simp only [impl_Pump_head.l0] at H
   by_cases c4 : x5_1 < (l0_1.length : Int)
   ·rw [if_pos c4] at H
    have c4b0 : decide (x5_1 < (l0_1.length : Int)) = true := decide_eq_true c4
    clear c4
    by_cases c5 : 0 ≤ x5_1
    ·rw [if_pos c5] at H
     have c5b0 : decide (0 ≤ x5_1) = true := decide_eq_true c5
     clear c5
     by_cases c6 : 0 < ((rd_L1 l0_1 x5_1).length : Int)
     ·rw [if_pos c6] at H
      have c6b0 : decide (0 < ((rd_L1 l0_1 x5_1).length : Int)) = true := decide_eq_true c6
      have c6b1 : decide (0 < (rd_L1 l0_1 x5_1).length) = true := decide_eq_true (by omega)
      clear c6
      by_cases c7 : (rd (rd_L1 l0_1 x5_1) 0) < a1
      ·rw [if_pos c7] at H
       have c7b0 : decide ((rd (rd_L1 l0_1 x5_1) 0) < a1) = true := decide_eq_true c7
       clear c7
       have H' := Aside0.mk H
       clear H
       have hcz8_0 : wr.cell? ⟨gb184, 0, none⟩ = some (.string a0_0) := (blk_cell BK184.out 0).trans rfl
       have hcz8_1 : wr.cell? ⟨gb184, 1, none⟩ = some (.slice A0_1 l0_1.length c0_1) := (blk_cell BK184.out 1).trans rfl
       have hfz8_0 := blk_frozen BK184.out 0
       have hfz8_1 := blk_frozen BK184.out 1
       have p185 : 0 ≤ (x5_1 : Int) := of_decide_eq_true (by first | (with_reducible assumption) | assumption)
       have q185 : x5_1 < (l0_1.length : Int) := of_decide_eq_true (by first | (with_reducible assumption) | assumption)
       obtain ⟨ad185, A185_0, c185_0, e185, hx185_0, hl185_0, hi185_0⟩ := at_L1 HR0_1.out x5_1 p185 q185
       cases e185
       replace hx185_0 := (HB.out.cell (World.block_lt_of_cell? w _ hx185_0)).trans hx185_0
       have HR185_0 := Aside0.mk hi185_0
       have HC185_0 := Aside0.mk hl185_0
       clear hi185_0 hl185_0
       replace p185 := eq_true p185
       replace q185 := eq_true q185
       have p186 : 0 ≤ (0 : Int) := (by omega)
       have q186 : 0 < ((rd_L1 l0_1 x5_1).length : Int) := of_decide_eq_true (by first | (with_reducible assumption) | assumption)
       obtain ⟨ad186, e186, hx186_0⟩ := Kd.at_int HR185_0.out 0 p186 q186
       cases e186
       have qi186 : (0 < (rd_L1 l0_1 x5_1).length) = True := eq_true (by omega)
       (try rw [show ((0 : Int)).toNat = 0 from rfl] at hx186_0)
       (try rw [Addr.add_zero'] at hx186_0)
       replace hx186_0 := (HB.out.cell (World.block_lt_of_cell? w _ hx186_0)).trans hx186_0
       replace p186 := eq_true p186
       replace q186 := eq_true q186
       go_wp2
       repeat (go_quiet (fail); try go_wp2)
       go_roundg k1
       case measure => have := HK1.out; omega
       case rel => exact ⟨(wrap64 (x5_1 + 1)), (by first | rfl | (simp; done) | (simp [*]; done)), H', ⟨by have := HK1.out; omega⟩, ⟨by (with_reducible repeat (first | refine blk_drewN ?_ _ | refine blk_drew ?_ | refine blk_alloc ?_ _)); exact BK184.out⟩, ⟨by repeat (first | (with_reducible first | exact HB.out | apply below_alloc | apply pw_below_drewN | apply below_drew1 | refine below_set ?_ GE184.out) | exact HB.out)⟩⟩
      ·rw [if_neg c7] at H
       have c7b0 : decide ((rd (rd_L1 l0_1 x5_1) 0) < a1) = false := decide_eq_false c7
       clear c7
       by_cases c9 : x5_1 = (l0_1.length : Int)
       ·rw [if_pos c9] at H
        have c9b0 : (x5_1 == (l0_1.length : Int)) = true := beq_iff_eq.mpr c9
        have c9b1 : (x5_1 != (l0_1.length : Int)) = false := bne_eq_false_iff_eq.mpr c9
        clear c9
        obtain rfl := Option.some.inj H
        have hcz10_0 : wr.cell? ⟨gb184, 0, none⟩ = some (.string a0_0) := (blk_cell BK184.out 0).trans rfl
        have hcz10_1 : wr.cell? ⟨gb184, 1, none⟩ = some (.slice A0_1 l0_1.length c0_1) := (blk_cell BK184.out 1).trans rfl
        have hfz10_0 := blk_frozen BK184.out 0
        have hfz10_1 := blk_frozen BK184.out 1
        have p185 : 0 ≤ (x5_1 : Int) := of_decide_eq_true (by first | (with_reducible assumption) | assumption)
        have q185 : x5_1 < (l0_1.length : Int) := of_decide_eq_true (by first | (with_reducible assumption) | assumption)
        obtain ⟨ad185, A185_0, c185_0, e185, hx185_0, hl185_0, hi185_0⟩ := at_L1 HR0_1.out x5_1 p185 q185
        cases e185
        replace hx185_0 := (HB.out.cell (World.block_lt_of_cell? w _ hx185_0)).trans hx185_0
        have HR185_0 := Aside0.mk hi185_0
        have HC185_0 := Aside0.mk hl185_0
        clear hi185_0 hl185_0
        replace p185 := eq_true p185
        replace q185 := eq_true q185
        have p186 : 0 ≤ (0 : Int) := (by omega)
        have q186 : 0 < ((rd_L1 l0_1 x5_1).length : Int) := of_decide_eq_true (by first | (with_reducible assumption) | assumption)
        obtain ⟨ad186, e186, hx186_0⟩ := Kd.at_int HR185_0.out 0 p186 q186
        cases e186
        have qi186 : (0 < (rd_L1 l0_1 x5_1).length) = True := eq_true (by omega)
        (try rw [show ((0 : Int)).toNat = 0 from rfl] at hx186_0)
        (try rw [Addr.add_zero'] at hx186_0)
        replace hx186_0 := (HB.out.cell (World.block_lt_of_cell? w _ hx186_0)).trans hx186_0
        replace p186 := eq_true p186
        replace q186 := eq_true q186
        go_wp2
        repeat (go_quiet (fail); try go_wp2)
        go_ret
        exact ⟨by first | rfl | (simp [errW_none, errW_some] <;> rfl) | (simp [*, errW_none, errW_some] <;> rfl), by repeat (first | (with_reducible first | exact HB.out | apply below_alloc | apply pw_below_drewN | apply below_drew1 | refine below_set ?_ GE184.out) | exact HB.out)⟩
       ·rw [if_neg c9] at H
        have c9b0 : (x5_1 == (l0_1.length : Int)) = false := beq_eq_false_iff_ne.mpr c9
        have c9b1 : (x5_1 != (l0_1.length : Int)) = true := bne_iff_ne.mpr c9
        obtain ⟨ji11, hji11⟩ : ∃ j_ : Int, (wrap64 (x5_1 - 1)) = j_ := ⟨_, rfl⟩
        replace H : (if 0 ≤ (ji11) then (if (ji11) < (l0_1.length : Int) then (if 0 < ((rd_L1 l0_1 (ji11)).length : Int) then (if 1 < ((rd_L1 l0_1 (ji11)).length : Int) then (if 1 < ((rd_L1 l0_1 x5_1).length : Int) then ((impl_blend_.f (rd (rd_L1 l0_1 (ji11)) 0) (rd (rd_L1 l0_1 (ji11)) 1) (rd (rd_L1 l0_1 x5_1) 0) (rd (rd_L1 l0_1 x5_1) 1) a1).bind fun t193 => (some t193)) else (none)) else (none)) else (none)) else (none)) else (none)) = some r := by first | (rw [hji11] at H; exact H) | (simp only [hji11] at H ⊢; exact H)
        have hji11w : (IntKind.i64.wrap (x5_1 - 1)) = ji11 := (i64_w _).trans hji11
        by_cases c12 : 0 ≤ (ji11)
        ·rw [if_pos c12] at H
         have c12b0 : decide (0 ≤ (ji11)) = true := decide_eq_true c12
         clear c12
         by_cases c13 : (ji11) < (l0_1.length : Int)
         ·rw [if_pos c13] at H
          have c13b0 : decide ((ji11) < (l0_1.length : Int)) = true := decide_eq_true c13
          clear c13
          by_cases c14 : 0 < ((rd_L1 l0_1 (ji11)).length : Int)
          ·rw [if_pos c14] at H
           have c14b0 : decide (0 < ((rd_L1 l0_1 (ji11)).length : Int)) = true := decide_eq_true c14
           have c14b1 : decide (0 < (rd_L1 l0_1 (ji11)).length) = true := decide_eq_true (by omega)
           clear c14
           by_cases c15 : 1 < ((rd_L1 l0_1 (ji11)).length : Int)
           ·rw [if_pos c15] at H
            have c15b0 : decide (1 < ((rd_L1 l0_1 (ji11)).length : Int)) = true := decide_eq_true c15
            have c15b1 : decide (1 < (rd_L1 l0_1 (ji11)).length) = true := decide_eq_true (by omega)
            clear c15
            by_cases c16 : 1 < ((rd_L1 l0_1 x5_1).length : Int)
            ·rw [if_pos c16] at H
             have c16b0 : decide (1 < ((rd_L1 l0_1 x5_1).length : Int)) = true := decide_eq_true c16
             have c16b1 : decide (1 < (rd_L1 l0_1 x5_1).length) = true := decide_eq_true (by omega)
             clear c16
             replace H := Option.bind_eq_some_iff.mp H
             obtain ⟨t193, A170, H⟩ := H
             replace H : (some t193) = some r := H
             have A17 := Aside0.mk A170
             clear A170
             obtain rfl := Option.some.inj H
             have hcz18_0 : wr.cell? ⟨gb184, 0, none⟩ = some (.string a0_0) := (blk_cell BK184.out 0).trans rfl
             have hcz18_1 : wr.cell? ⟨gb184, 1, none⟩ = some (.slice A0_1 l0_1.length c0_1) := (blk_cell BK184.out 1).trans rfl
             have hfz18_0 := blk_frozen BK184.out 0
             have hfz18_1 := blk_frozen BK184.out 1
             have p185 : 0 ≤ (x5_1 : Int) := of_decide_eq_true (by first | (with_reducible assumption) | assumption)
             have q185 : x5_1 < (l0_1.length : Int) := of_decide_eq_true (by first | (with_reducible assumption) | assumption)
             obtain ⟨ad185, A185_0, c185_0, e185, hx185_0, hl185_0, hi185_0⟩ := at_L1 HR0_1.out x5_1 p185 q185
             cases e185
             replace hx185_0 := (HB.out.cell (World.block_lt_of_cell? w _ hx185_0)).trans hx185_0
             have HR185_0 := Aside0.mk hi185_0
             have HC185_0 := Aside0.mk hl185_0
             clear hi185_0 hl185_0
             replace p185 := eq_true p185
             replace q185 := eq_true q185
             have p186 : 0 ≤ (0 : Int) := (by omega)
             have q186 : 0 < ((rd_L1 l0_1 x5_1).length : Int) := of_decide_eq_true (by first | (with_reducible assumption) | assumption)
             obtain ⟨ad186, e186, hx186_0⟩ := Kd.at_int HR185_0.out 0 p186 q186
             cases e186
             have qi186 : (0 < (rd_L1 l0_1 x5_1).length) = True := eq_true (by omega)
             (try rw [show ((0 : Int)).toNat = 0 from rfl] at hx186_0)
             (try rw [Addr.add_zero'] at hx186_0)
             replace hx186_0 := (HB.out.cell (World.block_lt_of_cell? w _ hx186_0)).trans hx186_0
             replace p186 := eq_true p186
             replace q186 := eq_true q186
             have p187 : 0 ≤ ((ji11) : Int) := of_decide_eq_true (by first | (with_reducible assumption) | assumption)
             have q187 : (ji11) < (l0_1.length : Int) := of_decide_eq_true (by first | (with_reducible assumption) | assumption)
             obtain ⟨ad187, A187_0, c187_0, e187, hx187_0, hl187_0, hi187_0⟩ := at_L1 HR0_1.out (ji11) p187 q187
             obtain rfl : ad185 = ad187 := (by injection e187)
             replace hx187_0 := (HB.out.cell (World.block_lt_of_cell? w _ hx187_0)).trans hx187_0
             have HR187_0 := Aside0.mk hi187_0
             have HC187_0 := Aside0.mk hl187_0
             clear hi187_0 hl187_0
             replace p187 := eq_true p187
             replace q187 := eq_true q187
             have p188 : 0 ≤ (x5_1 : Int) := of_decide_eq_true (by first | (with_reducible assumption) | assumption)
             have q188 : x5_1 < (l0_1.length : Int) := of_decide_eq_true (by first | (with_reducible assumption) | assumption)
             obtain ⟨ad188, A188_0, c188_0, e188, hx188_0, hl188_0, hi188_0⟩ := at_L1 HR0_1.out x5_1 p188 q188
             obtain rfl : ad185 = ad188 := (by injection e188)
             replace hx188_0 := (HB.out.cell (World.block_lt_of_cell? w _ hx188_0)).trans hx188_0
             have HR188_0 := Aside0.mk hi188_0
             have HC188_0 := Aside0.mk hl188_0
             clear hi188_0 hl188_0
             replace p188 := eq_true p188
             replace q188 := eq_true q188
             have ea_ := Option.some.inj (hx185_0.symm.trans hx188_0)
             injection ea_ with ea_ en_ ec_
             subst ea_
             subst ec_
             clear en_
             have p189 : 0 ≤ (0 : Int) := (by omega)
             have q189 : 0 < ((rd_L1 l0_1 (ji11)).length : Int) := of_decide_eq_true (by first | (with_reducible assumption) | assumption)
             obtain ⟨ad189, e189, hx189_0⟩ := Kd.at_int HR187_0.out 0 p189 q189
             cases e189
             have qi189 : (0 < (rd_L1 l0_1 (ji11)).length) = True := eq_true (by omega)
             (try rw [show ((0 : Int)).toNat = 0 from rfl] at hx189_0)
             (try rw [Addr.add_zero'] at hx189_0)
             replace hx189_0 := (HB.out.cell (World.block_lt_of_cell? w _ hx189_0)).trans hx189_0
             replace p189 := eq_true p189
             replace q189 := eq_true q189
             have p190 : 0 ≤ (1 : Int) := (by omega)
             have q190 : 1 < ((rd_L1 l0_1 (ji11)).length : Int) := of_decide_eq_true (by first | (with_reducible assumption) | assumption)
             obtain ⟨ad190, e190, hx190_0⟩ := Kd.at_int HR187_0.out 1 p190 q190
             obtain rfl : ad189 = ad190 := (by injection e190)
             (try simp only [show (1 : Int).toNat = 1 from rfl, Nat.reduceMul, Nat.reduceEqDiff, Go.Addr.add, ↓reduceIte] at hx190_0)
             have qi190 : (1 < (rd_L1 l0_1 (ji11)).length) = True := eq_true (by omega)
             (try rw [show ((1 : Int)).toNat = 1 from rfl] at hx190_0)
             replace hx190_0 := (HB.out.cell (World.block_lt_of_cell? w _ hx190_0)).trans hx190_0
             replace p190 := eq_true p190
             replace q190 := eq_true q190
             have p191 : 0 ≤ (0 : Int) := (by omega)
             have q191 : 0 < ((rd_L1 l0_1 x5_1).length : Int) := of_decide_eq_true (by first | (with_reducible assumption) | assumption)
             obtain ⟨ad191, e191, hx191_0⟩ := Kd.at_int HR188_0.out 0 p191 q191
             cases e191
             have qi191 : (0 < (rd_L1 l0_1 x5_1).length) = True := eq_true (by omega)
             (try rw [show ((0 : Int)).toNat = 0 from rfl] at hx191_0)
             (try rw [Addr.add_zero'] at hx191_0)
             replace hx191_0 := (HB.out.cell (World.block_lt_of_cell? w _ hx191_0)).trans hx191_0
             replace p191 := eq_true p191
             replace q191 := eq_true q191
             have p192 : 0 ≤ (1 : Int) := (by omega)
             have q192 : 1 < ((rd_L1 l0_1 x5_1).length : Int) := of_decide_eq_true (by first | (with_reducible assumption) | assumption)
             obtain ⟨ad192, e192, hx192_0⟩ := Kd.at_int HR188_0.out 1 p192 q192
             cases e192
             (try simp only [show (1 : Int).toNat = 1 from rfl, Nat.reduceMul, Nat.reduceEqDiff, Go.Addr.add, ↓reduceIte] at hx192_0)
             have qi192 : (1 < (rd_L1 l0_1 x5_1).length) = True := eq_true (by omega)
             (try rw [show ((1 : Int)).toNat = 1 from rfl] at hx192_0)
             replace hx192_0 := (HB.out.cell (World.block_lt_of_cell? w _ hx192_0)).trans hx192_0
             replace p192 := eq_true p192
             replace q192 := eq_true q192
             iterate 3 ((try go_quiet (first | (go_at_call 116; (with_reducible refine (impl_blend_.calls (rd (rd_L1 l0_1 (ji11)) 0) (rd (rd_L1 l0_1 (ji11)) 1) (rd (rd_L1 l0_1 x5_1) 0) (rd (rd_L1 l0_1 x5_1) 1) a1 t193 _ A17.out).mono ?_); rintro e w' ⟨rfl, ⟨nd, rfl⟩⟩; (try first | exact ⟨rfl, _, World.drewN_drewN _ _ _⟩ | exact ⟨rfl, _, Eq.trans (World.drewN_drewN _ _ _) (congrArg (World.drewN _) (Nat.add_assoc _ _ _))⟩)))); (try go_wp2_with (first | (go_at_call 116; (with_reducible refine (impl_blend_.calls (rd (rd_L1 l0_1 (ji11)) 0) (rd (rd_L1 l0_1 (ji11)) 1) (rd (rd_L1 l0_1 x5_1) 0) (rd (rd_L1 l0_1 x5_1) 1) a1 t193 _ A17.out).mono ?_); rintro e w' ⟨rfl, ⟨nd, rfl⟩⟩; (try first | exact ⟨rfl, _, World.drewN_drewN _ _ _⟩ | exact ⟨rfl, _, Eq.trans (World.drewN_drewN _ _ _) (congrArg (World.drewN _) (Nat.add_assoc _ _ _))⟩)))))
             go_ret
             exact ⟨by first | rfl | (simp [errW_none, errW_some] <;> rfl) | (simp only [← hji11]; first | rfl | (simp [errW_none, errW_some] <;> rfl)) | (simp [*, errW_none, errW_some] <;> rfl), by repeat (first | (with_reducible first | exact HB.out | apply below_alloc | apply pw_below_drewN | apply below_drew1 | refine below_set ?_ GE184.out) | exact HB.out)⟩
            ·rw [if_neg c16] at H
             exact absurd H (by simp)
           ·rw [if_neg c15] at H
            exact absurd H (by simp)
          ·rw [if_neg c14] at H
           exact absurd H (by simp)
         ·rw [if_neg c13] at H
          exact absurd H (by simp)
        ·rw [if_neg c12] at H
         exact absurd H (by simp)
     ·rw [if_neg c6] at H
      exact absurd H (by simp)
    ·rw [if_neg c5] at H
     exact absurd H (by simp)
   ·rw [if_neg c4] at H
    have c4b0 : decide (x5_1 < (l0_1.length : Int)) = false := decide_eq_false c4
    clear c4
    by_cases c19 : x5_1 = (l0_1.length : Int)
    ·rw [if_pos c19] at H
     have c19b0 : (x5_1 == (l0_1.length : Int)) = true := beq_iff_eq.mpr c19
     have c19b1 : (x5_1 != (l0_1.length : Int)) = false := bne_eq_false_iff_eq.mpr c19
     clear c19
     obtain rfl := Option.some.inj H
     have hcz20_0 : wr.cell? ⟨gb184, 0, none⟩ = some (.string a0_0) := (blk_cell BK184.out 0).trans rfl
     have hcz20_1 : wr.cell? ⟨gb184, 1, none⟩ = some (.slice A0_1 l0_1.length c0_1) := (blk_cell BK184.out 1).trans rfl
     have hfz20_0 := blk_frozen BK184.out 0
     have hfz20_1 := blk_frozen BK184.out 1
     go_wp2
     repeat (go_quiet (fail); try go_wp2)
     go_ret
     exact ⟨by first | rfl | (simp [errW_none, errW_some] <;> rfl) | (simp [*, errW_none, errW_some] <;> rfl), by repeat (first | (with_reducible first | exact HB.out | apply below_alloc | apply pw_below_drewN | apply below_drew1 | refine below_set ?_ GE184.out) | exact HB.out)⟩
    ·rw [if_neg c19] at H
     have c19b0 : (x5_1 == (l0_1.length : Int)) = false := beq_eq_false_iff_ne.mpr c19
     have c19b1 : (x5_1 != (l0_1.length : Int)) = true := bne_iff_ne.mpr c19
     obtain ⟨ji21, hji21⟩ : ∃ j_ : Int, (wrap64 (x5_1 - 1)) = j_ := ⟨_, rfl⟩
     replace H : (if 0 ≤ (ji21) then (if (ji21) < (l0_1.length : Int) then (if 0 ≤ x5_1 then (none) else (none)) else (none)) else (none)) = some r := by first | (rw [hji21] at H; exact H) | (simp only [hji21] at H ⊢; exact H)
     have hji21w : (IntKind.i64.wrap (x5_1 - 1)) = ji21 := (i64_w _).trans hji21
     by_cases c22 : 0 ≤ (ji21)
     ·rw [if_pos c22] at H
      have c22b0 : decide (0 ≤ (ji21)) = true := decide_eq_true c22
      clear c22
      by_cases c23 : (ji21) < (l0_1.length : Int)
      ·rw [if_pos c23] at H
       have c23b0 : decide ((ji21) < (l0_1.length : Int)) = true := decide_eq_true c23
       clear c23
       by_cases c24 : 0 ≤ x5_1
       ·rw [if_pos c24] at H
        exact absurd H (by simp)
       ·rw [if_neg c24] at H
        exact absurd H (by simp)
      ·rw [if_neg c23] at H
       exact absurd H (by simp)
     ·rw [if_neg c22] at H
      exact absurd H (by simp)

open Go.Proofs.YthgfkbkobnfnaaaM
def impl_Pump_head_.f (a0_0 : ByteArray) (l0_1 : List (List Int)) (a1 : Int) : Option Int := if 1 ≤ l0_1.length ∧ l0_1.length ≤ 8 ∧ (∀ j, j < l0_1.length → pointOk l0_1 j = true) then some (headI l0_1 a1) else none
theorem rdL_ih (c : List (List Int)) (i : Nat) : rd_L1 c (i : Int) = c.getD i [] := by unfold rd_L1; rw [Int.toNat_natCast]
theorem head_loopI (s : ByteArray) (c : List (List Int)) (q : Int) (hc : c.length ≤ 8) (hp : ∀ j, j < c.length → pointOk c j = true) : ∀ (d k i : Nat), 1 ≤ i → i ≤ c.length → c.length - i = d → d < k → impl_Pump_head.l0 k q (i : Int) s c = some (headFrom c q d i) := by
  intro d
  induction d with
  | zero =>
    intro k i h0 h1 hd hk
    obtain ⟨k, rfl⟩ : ∃ m, k = m + 1 := ⟨k - 1, by omega⟩
    simp only [impl_Pump_head.l0]; rw [if_neg (by omega), if_pos (by omega)]; rfl
  | succ d ih =>
    intro k i h0 h1 hd hk
    obtain ⟨k, rfl⟩ : ∃ m, k = m + 1 := ⟨k - 1, by omega⟩
    simp only [impl_Pump_head.l0]
    have e1 : wrap64 ((i : Int) - 1) = ((i - 1 : Nat) : Int) := by rw [w64 (by omega) (by omega)]; omega
    have ha := point_len (hp (i - 1) (by omega))
    have hb := point_len (hp i (by omega))
    have ra := point_range (hp (i - 1) (by omega))
    have rb := point_range (hp i (by omega))
    rw [if_pos (by omega), if_pos (by omega), rdL_ih, if_pos (by omega), e1, rdL_ih, rd_0, rd_1, rd_0, rd_1]
    have hs : headFrom c q (d + 1) i = if q ≤ (c.getD i []).getD 0 0 then lineI ((c.getD (i - 1) []).getD 0 0) ((c.getD (i - 1) []).getD 1 0) ((c.getD i []).getD 0 0) ((c.getD i []).getD 1 0) q else headFrom c q d (i + 1) := rfl
    rw [hs]
    by_cases h : (c.getD i []).getD 0 0 < q
    · rw [if_pos h, if_neg (by omega), w64 (x := (i : Int) + 1) (by omega) (by omega), show (i : Int) + 1 = ((i + 1 : Nat) : Int) by omega]
      exact ih k (i + 1) (by omega) (by omega) (by omega) (by omega)
    · rw [if_neg h, if_pos (show q ≤ _ by omega), if_neg (by omega), if_pos (by omega), if_pos (by omega), if_pos (by omega), if_pos (by omega), if_pos (by omega)]
      unfold impl_blend_.f
      rw [if_pos (by omega)]; rfl
theorem impl_Pump_head_.same (s : ByteArray) (c : List (List Int)) (q : Int) (h : 1 ≤ c.length ∧ c.length ≤ 8 ∧ ∀ j, j < c.length → pointOk c j = true) : impl_Pump_head.f 9 s c q = some (headI c q) := by
  unfold impl_Pump_head.f headI
  exact head_loopI s c q h.2.1 h.2.2 (c.length - 1) 9 1 (by omega) (by omega) (by omega) (by omega)
theorem impl_Pump_head_.calls (a0_0 : ByteArray) (A0_1 : Option Addr) (c0_1 : Nat) (l0_1 : List (List Int)) (a1 : Int) (r : Int) (w : World) (hr0_1 : Kd.C (Kd.slice 2 (Kd.int .i64)) w A0_1 l0_1.length l0_1) (hc0_1 : l0_1.length ≤ c0_1) (h : impl_Pump_head_.f a0_0 l0_1 a1 = some r) :
    Calls Try.prog 70 #[.agg #[.string a0_0, .slice A0_1 l0_1.length c0_1], .int .i64 a1] w fun e w' => e = .returned (.int .i64 r) ∧ Below w.heap.size w w' := by
  unfold impl_Pump_head_.f at h
  split at h
  · rename_i hs
    exact impl_Pump_head.calls 9 a0_0 A0_1 c0_1 l0_1 a1 r w hr0_1 hc0_1 (by rw [← h]; exact impl_Pump_head_.same a0_0 l0_1 a1 hs)
  · exact absurd h (by simp)


/-! ### impl_systemOk: function 81 -/
def impl_systemOk.f (a0 : Int) (a1 : Int) (a2 : Int) : Option (Bool) := (impl_headOk.f a0).bind fun t195 => (if t195 = true then ((impl_within_.f a1 0 100000000).bind fun t196 => (if t196 = true then ((impl_within_.f a2 0 100000).bind fun t197 => (some t197)) else (some false))) else (some false))
set_option maxHeartbeats 8000000 in
set_option maxRecDepth 100000 in
theorem impl_systemOk.calls (a0 : Int) (a1 : Int) (a2 : Int) (r : Bool) (w : World) (h : impl_systemOk.f a0 a1 a2 = some r) :
  Calls Try.prog 81 #[.int .i64 a0, .int .i64 a1, .int .i64 a2] w fun e w' => e = .returned (.bool r) ∧ Drawn0 w w' := by
 have H : ((impl_headOk.f a0).bind fun t195 => (if t195 = true then ((impl_within_.f a1 0 100000000).bind fun t196 => (if t196 = true then ((impl_within_.f a2 0 100000).bind fun t197 => (some t197)) else (some false))) else (some false))) = some r := h
 clear h
 replace H := Option.bind_eq_some_iff.mp H
 obtain ⟨t195, A40, H⟩ := H
 replace H : (if t195 = true then ((impl_within_.f a1 0 100000000).bind fun t196 => (if t196 = true then ((impl_within_.f a2 0 100000).bind fun t197 => (some t197)) else (some false))) else (some false)) = some r := H
 have A4 := Aside0.mk A40
 clear A40
 by_cases c5 : t195 = true
 ·subst c5
  have H1 : ((impl_within_.f a1 0 100000000).bind fun t196 => (if t196 = true then ((impl_within_.f a2 0 100000).bind fun t197 => (some t197)) else (some false))) = some r := by rw [if_pos rfl] at H; exact H
  clear H
  have H := H1
  clear H1
  replace H := Option.bind_eq_some_iff.mp H
  obtain ⟨t196, A60, H⟩ := H
  replace H : (if t196 = true then ((impl_within_.f a2 0 100000).bind fun t197 => (some t197)) else (some false)) = some r := H
  have A6 := Aside0.mk A60
  clear A60
  by_cases c7 : t196 = true
  ·subst c7
   have H1 : ((impl_within_.f a2 0 100000).bind fun t197 => (some t197)) = some r := by rw [if_pos rfl] at H; exact H
   clear H
   have H := H1
   clear H1
   replace H := Option.bind_eq_some_iff.mp H
   obtain ⟨t197, A80, H⟩ := H
   replace H : (some t197) = some r := H
   have A8 := Aside0.mk A80
   clear A80
   obtain rfl := Option.some.inj H
   go_enter Try.func81, Try.ntmps81
   go_wp2_with (first | ((with_reducible refine gate_callee (f := 67) rfl ?_); refine goesL_ (some 8) rfl rfl Try.func67 (by kernel_rfl) rfl #[.int .i64 a0] rfl (by (try simp only [List.map_toArray, List.map_cons, List.map_nil]); first | done | rfl | (simp only [List.length_drop, List.length_take]; rfl)) ?_; (with_reducible refine (impl_headOk.calls a0 true _ A4.out).mono ?_); rintro e w' ⟨rfl, ⟨nd, rfl⟩⟩; refine ⟨_, rfl, ?_⟩) | (go_at_call 66; (with_reducible refine (impl_within_.calls a1 0 100000000 true _ A6.out).mono ?_); rintro e w' ⟨rfl, ⟨nd, rfl⟩⟩) | (go_at_call 66; (with_reducible refine (impl_within_.calls a2 0 100000 t197 _ A8.out).mono ?_); rintro e w' ⟨rfl, ⟨nd, rfl⟩⟩))
   go_ret
   exact ⟨by first | rfl | (simp; done) | (simp [*]; done), by repeat (first | exact Drawn0.refl _ | apply Drawn0.step)⟩
  ·replace c7 := Bool.eq_false_iff.mpr c7
   subst c7
   have H1 : (some false) = some r := by rw [if_neg (show ¬ (false = true) by decide)] at H; exact H
   clear H
   have H := H1
   clear H1
   obtain rfl := Option.some.inj H
   go_enter Try.func81, Try.ntmps81
   go_wp2_with (first | ((with_reducible refine gate_callee (f := 67) rfl ?_); refine goesL_ (some 8) rfl rfl Try.func67 (by kernel_rfl) rfl #[.int .i64 a0] rfl (by (try simp only [List.map_toArray, List.map_cons, List.map_nil]); first | done | rfl | (simp only [List.length_drop, List.length_take]; rfl)) ?_; (with_reducible refine (impl_headOk.calls a0 true _ A4.out).mono ?_); rintro e w' ⟨rfl, ⟨nd, rfl⟩⟩; refine ⟨_, rfl, ?_⟩) | (go_at_call 66; (with_reducible refine (impl_within_.calls a1 0 100000000 false _ A6.out).mono ?_); rintro e w' ⟨rfl, ⟨nd, rfl⟩⟩))
   go_ret
   exact ⟨by first | rfl | (simp; done) | (simp [*]; done), by repeat (first | exact Drawn0.refl _ | apply Drawn0.step)⟩
 ·replace c5 := Bool.eq_false_iff.mpr c5
  subst c5
  have H1 : (some false) = some r := by rw [if_neg (show ¬ (false = true) by decide)] at H; exact H
  clear H
  have H := H1
  clear H1
  obtain rfl := Option.some.inj H
  go_enter Try.func81, Try.ntmps81
  go_wp2_with (first | ((with_reducible refine gate_callee (f := 67) rfl ?_); refine goesL_ (some 8) rfl rfl Try.func67 (by kernel_rfl) rfl #[.int .i64 a0] rfl (by (try simp only [List.map_toArray, List.map_cons, List.map_nil]); first | done | rfl | (simp only [List.length_drop, List.length_take]; rfl)) ?_; (with_reducible refine (impl_headOk.calls a0 false _ A4.out).mono ?_); rintro e w' ⟨rfl, ⟨nd, rfl⟩⟩; refine ⟨_, rfl, ?_⟩))
  go_ret
  exact ⟨by first | rfl | (simp; done) | (simp [*]; done), by repeat (first | exact Drawn0.refl _ | apply Drawn0.step)⟩


/-! ### sort_Search: function 118 -/
open Go.Proofs.YthgfkbkobnfnaaaM
def SearchPost (n : Nat) (p : Nat → Bool) (w : World) (e : Ending) (w' : World) : Prop :=
  e = .returned (.int .i64 (firstTrue p n : Nat)) ∧ Below w.heap.size w w'
set_option maxHeartbeats 4000000 in
set_option maxRecDepth 100000 in
/-- sort.Search over n places with a function value that reads: how far the property fails. -/
theorem search_any (g : Nat) (cb : Array Value) (n : Nat) (p : Nat → Bool) (w : World) (eg : Enters Try.prog g) (hsz : n < 4611686018427387904)
    (hf : ∀ (W : World) (i : Nat), Below w.heap.size w W → i < n → Calls Try.prog g (#[.int .i64 i] ++ cb) W fun e w' => e = .returned (.bool (p i)) ∧ Below W.heap.size W w')
    (hmono : ∀ a b, a ≤ b → b < n → p a = true → p b = true) :
    Calls Try.prog 118 #[.int .i64 n, .func (.func g) #[] cb] w (SearchPost n p w) := by
  have HF := Aside0.mk hf
  have M := Aside0.mk hmono
  clear hf hmono
  have eg' : ∀ args w, (callFunc g args).run Try.prog w = .ok (.enter g args) w := eg
  clear eg
  obtain ⟨Q, hQ0⟩ : ∃ Q : Ending → World → Prop, SearchPost n p w = Q := ⟨_, rfl⟩
  have hQ := Aside0.mk hQ0
  rw [hQ0]
  clear hQ0
  go_enter Try.func118, Try.ntmps118
  go_wp2
  go_loopg [5, 6] n (fun kx s5 s6 wr => ∃ (lo hi : Nat), s5 = .int .i64 lo ∧ s6 = .int .i64 hi ∧ lo ≤ hi ∧ hi ≤ n ∧ hi - lo ≤ kx ∧ Aside0 (Below w.heap.size w wr) ∧
    Aside0 ((∀ t, t < lo → p t = false) ∧ (∀ t, hi ≤ t → t < n → p t = true)))
  case atStart => exact ⟨0, n, rfl, rfl, Nat.zero_le _, Nat.le_refl _, by omega, ⟨Below.refl _ _⟩, ⟨fun t ht => absurd ht (Nat.not_lt_zero _), fun t h1 h2 => by omega⟩⟩
  case round =>
    obtain ⟨lo, hi, rfl, rfl, hlh, hin, hg, HB, I⟩ := hrel
    by_cases hlt : lo < hi
    · have hc := HF.out wr ((lo + hi) / 2) HB.out (by omega)
      rw [show (((lo + hi) / 2 : Nat) : Int) = ((lo : Int) + (hi : Int)) / 2 by omega] at hc
      cases hp : p ((lo + hi) / 2) <;> rw [hp] at hc
      · have HP := Aside0.mk hp
        clear hp
        go_wp2_with (go_at_fn g; refine hc.mono ?_; rintro e w' ⟨rfl, hb⟩)
        go_roundg (hi - ((lo + hi) / 2 + 1))
        case measure => omega
        case rel =>
          exact ⟨(lo + hi) / 2 + 1, hi, by rw [show ((lo : Int) + (hi : Int)) / 2 + 1 = (((lo + hi) / 2 + 1 : Nat) : Int) by omega], rfl, by omega, hin, Nat.le_refl _, ⟨below_then HB.out HB.out.size hb⟩, ⟨fun t ht => (by
            cases h : p t with
            | false => rfl
            | true => have := M.out t ((lo + hi) / 2) (by omega) (by omega) h; rw [HP.out] at this; cases this), I.out.2⟩⟩
      · have HP := Aside0.mk hp
        clear hp
        go_wp2_with (go_at_fn g; refine hc.mono ?_; rintro e w' ⟨rfl, hb⟩)
        go_roundg ((lo + hi) / 2 - lo)
        case measure => omega
        case rel =>
          exact ⟨lo, (lo + hi) / 2, rfl, by rw [show ((lo : Int) + (hi : Int)) / 2 = (((lo + hi) / 2 : Nat) : Int) by omega], by omega, by omega, Nat.le_refl _, ⟨below_then HB.out HB.out.size hb⟩, ⟨I.out.1, fun t ht htn => M.out ((lo + hi) / 2) t ht htn HP.out⟩⟩
    · obtain rfl : hi = lo := by omega
      go_wp2
      rw [← hQ.out]
      exact ⟨by rw [firstTrue_unique p n hi hin I.out.1 I.out.2]; rfl, HB.out⟩
def SearchPostI (n : Nat) (p : Nat → Bool) (I : World → Prop) (e : Ending) (w' : World) : Prop :=
  e = .returned (.int .i64 (firstTrue p n : Nat)) ∧ I w'
set_option maxHeartbeats 4000000 in
set_option maxRecDepth 100000 in
/-- The same with a function value that writes, within an invariant. -/
theorem search_inv (g : Nat) (cb : Array Value) (n : Nat) (p : Nat → Bool) (I : World → Prop) (w : World) (hI : I w) (eg : Enters Try.prog g) (hsz : n < 4611686018427387904)
    (hf : ∀ (W : World) (i : Nat), I W → i < n → Calls Try.prog g (#[.int .i64 i] ++ cb) W fun e w' => e = .returned (.bool (p i)) ∧ I w')
    (hmono : ∀ a b, a ≤ b → b < n → p a = true → p b = true) :
    Calls Try.prog 118 #[.int .i64 n, .func (.func g) #[] cb] w (SearchPostI n p I) := by
  have HF := Aside0.mk hf
  have M := Aside0.mk hmono
  clear hf hmono
  have eg' : ∀ args w, (callFunc g args).run Try.prog w = .ok (.enter g args) w := eg
  clear eg
  obtain ⟨Q, hQ0⟩ : ∃ Q : Ending → World → Prop, SearchPostI n p I = Q := ⟨_, rfl⟩
  have hQ := Aside0.mk hQ0
  rw [hQ0]
  clear hQ0
  go_enter Try.func118, Try.ntmps118
  go_wp2
  go_loopg [5, 6] n (fun kx s5 s6 wr => ∃ (lo hi : Nat), s5 = .int .i64 lo ∧ s6 = .int .i64 hi ∧ lo ≤ hi ∧ hi ≤ n ∧ hi - lo ≤ kx ∧ Aside0 (I wr) ∧
    Aside0 ((∀ t, t < lo → p t = false) ∧ (∀ t, hi ≤ t → t < n → p t = true)))
  case atStart => exact ⟨0, n, rfl, rfl, Nat.zero_le _, Nat.le_refl _, by omega, ⟨hI⟩, ⟨fun t ht => absurd ht (Nat.not_lt_zero _), fun t h1 h2 => by omega⟩⟩
  case round =>
    obtain ⟨lo, hi, rfl, rfl, hlh, hin, hg, HB, J⟩ := hrel
    by_cases hlt : lo < hi
    · have hc := HF.out wr ((lo + hi) / 2) HB.out (by omega)
      rw [show (((lo + hi) / 2 : Nat) : Int) = ((lo : Int) + (hi : Int)) / 2 by omega] at hc
      cases hp : p ((lo + hi) / 2) <;> rw [hp] at hc
      · have HP := Aside0.mk hp
        clear hp
        go_wp2_with (go_at_fn g; refine hc.mono ?_; rintro e w' ⟨rfl, hb⟩)
        go_roundg (hi - ((lo + hi) / 2 + 1))
        case measure => omega
        case rel =>
          exact ⟨(lo + hi) / 2 + 1, hi, by rw [show ((lo : Int) + (hi : Int)) / 2 + 1 = (((lo + hi) / 2 + 1 : Nat) : Int) by omega], rfl, by omega, hin, Nat.le_refl _, ⟨hb⟩, ⟨fun t ht => (by
            cases h : p t with
            | false => rfl
            | true => have := M.out t ((lo + hi) / 2) (by omega) (by omega) h; rw [HP.out] at this; cases this), J.out.2⟩⟩
      · have HP := Aside0.mk hp
        clear hp
        go_wp2_with (go_at_fn g; refine hc.mono ?_; rintro e w' ⟨rfl, hb⟩)
        go_roundg ((lo + hi) / 2 - lo)
        case measure => omega
        case rel =>
          exact ⟨lo, (lo + hi) / 2, rfl, by rw [show ((lo : Int) + (hi : Int)) / 2 = (((lo + hi) / 2 : Nat) : Int) by omega], by omega, by omega, Nat.le_refl _, ⟨hb⟩, ⟨J.out.1, fun t ht htn => M.out ((lo + hi) / 2) t ht htn HP.out⟩⟩
    · obtain rfl : hi = lo := by omega
      go_wp2
      rw [← hQ.out]
      exact ⟨by rw [firstTrue_unique p n hi hin J.out.1 J.out.2]; rfl, HB.out⟩


/-! ### impl_firstIn: function 82 -/
open Go.Proofs.YthgfkbkobnfnaaaM
def FirstPost (low : Int) (n : Nat) (p : Int → Bool) (w : World) (e : Ending) (w' : World) : Prop :=
  e = .returned (.tuple #[.int .i64 (low + (firstTrue (fun i => p (low + (i : Int))) n : Nat)), .bool (decide (firstTrue (fun i => p (low + (i : Int))) n < n))]) ∧ Below w.heap.size w w'
set_option maxHeartbeats 2000000 in
set_option maxRecDepth 100000 in
theorem firstIn_closure (g : Nat) (cb : Array Value) (B0 B1 : Nat) (low x : Int) (b : Bool) (W : World) (i : Nat) (eg : Enters Try.prog g) (hx : low + (i : Int) = x) (h1 : -4611686018427387904 ≤ low) (h2 : low ≤ 4611686018427387904) (h3 : i < 4611686018427387904)
    (c0 : W.cell? ⟨B0, 0, none⟩ = some (.int .i64 low)) (c1 : W.cell? ⟨B1, 0, none⟩ = some (.func (.func g) #[] cb))
    (hf : Calls Try.prog g (#[.int .i64 x] ++ cb) W fun e w' => e = .returned (.bool b) ∧ Below W.heap.size W w') :
    Calls Try.prog 119 (#[.int .i64 i] ++ #[.pointer (some ⟨B1, 0, none⟩), .pointer (some ⟨B0, 0, none⟩)]) W fun e w' => e = .returned (.bool b) ∧ Below W.heap.size W w' := by
  rw [← hx] at hf
  clear hx
  have HF := Aside0.mk hf
  clear hf
  have eg' : ∀ args w, (callFunc g args).run Try.prog w = .ok (.enter g args) w := eg
  clear eg
  go_enter Try.func119, Try.ntmps119
  go_wp2_with (go_at_fn g; refine HF.out.mono ?_; rintro e w' ⟨rfl, hb⟩)
  go_ret
  exact ⟨rfl, hb⟩
set_option maxHeartbeats 2000000 in
set_option maxRecDepth 100000 in
/-- The least number from low to high with a property that all greater ones have, too. -/
theorem firstIn_any (g : Nat) (cb : Array Value) (low high : Int) (n : Nat) (p : Int → Bool) (w : World) (eg : Enters Try.prog g) (hn : high - low + 1 = (n : Int)) (h1 : -1000000000000 ≤ low) (h2 : low ≤ 1000000000000) (h3 : -1000000000000 ≤ high) (h4 : high ≤ 1000000000000)
    (hf : ∀ (W : World) (x : Int), Below w.heap.size w W → low ≤ x → x ≤ high → Calls Try.prog g (#[.int .i64 x] ++ cb) W fun e w' => e = .returned (.bool (p x)) ∧ Below W.heap.size W w')
    (hmono : ∀ a b, low ≤ a → a ≤ b → b ≤ high → p a = true → p b = true) :
    Calls Try.prog 82 #[.int .i64 low, .int .i64 high, .func (.func g) #[] cb] w (FirstPost low n p w) := by
  obtain ⟨W, hW⟩ : ∃ W, (w.alloc (.cells #[.int .i64 low] 2)).alloc (.cells #[.func (.func g) #[] cb] 84) = W := ⟨_, rfl⟩
  have hb : Below w.heap.size w W := by rw [← hW]; exact below_alloc (below_alloc (Below.refl _ _) _) _
  have hs : W.heap.size = w.heap.size + 1 + 1 := by rw [← hW]; simp
  have d0 : W.cell? ⟨w.heap.size, 0, none⟩ = some (.int .i64 low) := by rw [← hW]; simp
  have d1 : W.cell? ⟨w.heap.size + 1, 0, none⟩ = some (.func (.func g) #[] cb) := by rw [← hW]; simp
  have ek : Enters Try.prog 119 := enters_of Try.func119 (by kernel_rfl) rfl
  have hS := search_any 119 #[.pointer (some ⟨w.heap.size + 1, 0, none⟩), .pointer (some ⟨w.heap.size, 0, none⟩)] n (fun i => p (low + (i : Int))) W ek (by omega)
    (fun W' i hb' hi => firstIn_closure g cb w.heap.size (w.heap.size + 1) low (low + (i : Int)) _ W' i eg rfl (by omega) (by omega) (by omega)
      ((hb'.cell (p := ⟨w.heap.size, 0, none⟩) (by rw [hs]; show w.heap.size < _; omega)).trans d0) ((hb'.cell (p := ⟨w.heap.size + 1, 0, none⟩) (by rw [hs]; show w.heap.size + 1 < _; omega)).trans d1)
      (hf W' _ (hb.trans (hb'.mono (by omega))) (by omega) (by omega)))
    (fun a b hab hbn hp => hmono _ _ (by omega) (by omega) (by omega) hp)
  unfold SearchPost at hS
  unfold FirstPost
  have hk : firstTrue (fun i => p (low + (i : Int))) n ≤ n := firstTrue_le _ _
  generalize firstTrue (fun i => p (low + (i : Int))) n = k at hS hk ⊢
  have HS := Aside0.mk hS
  have HBW := Aside0.mk hb
  have HN := Aside0.mk hn
  have HS0 := Aside0.mk hs
  clear hS hf hmono hb hn ek eg d1 hs
  have hn : 0 ≤ high - low + 1 := by have := HN.out; omega
  have hk2 : (k : Int) ≤ 3000000000000 := by have := HN.out; omega
  go_enter Try.func82, Try.ntmps82
  go_wp2_with (go_at_call 118; rw [HN.out]; refine HS.out.mono ?_; rintro e w' ⟨rfl, hb⟩; have d2 := (hb.cell (p := ⟨w.heap.size, 0, none⟩) (by rw [HS0.out]; show w.heap.size < _; omega)).trans d0)
  go_ret2
  exact ⟨rfl, below_then HBW.out HBW.out.size hb⟩
set_option maxHeartbeats 2000000 in
set_option maxRecDepth 100000 in
theorem firstIn_closure_inv (g : Nat) (cb : Array Value) (B0 B1 : Nat) (low x : Int) (b : Bool) (W : World) (P : World → Prop) (i : Nat) (eg : Enters Try.prog g) (hx : low + (i : Int) = x) (h1 : -4611686018427387904 ≤ low) (h2 : low ≤ 4611686018427387904) (h3 : i < 4611686018427387904)
    (c0 : W.cell? ⟨B0, 0, none⟩ = some (.int .i64 low)) (c1 : W.cell? ⟨B1, 0, none⟩ = some (.func (.func g) #[] cb))
    (hf : Calls Try.prog g (#[.int .i64 x] ++ cb) W fun e w' => e = .returned (.bool b) ∧ P w') :
    Calls Try.prog 119 (#[.int .i64 i] ++ #[.pointer (some ⟨B1, 0, none⟩), .pointer (some ⟨B0, 0, none⟩)]) W fun e w' => e = .returned (.bool b) ∧ P w' := by
  rw [← hx] at hf
  clear hx
  have HF := Aside0.mk hf
  clear hf
  have eg' : ∀ args w, (callFunc g args).run Try.prog w = .ok (.enter g args) w := eg
  clear eg
  go_enter Try.func119, Try.ntmps119
  go_wp2_with (go_at_fn g; refine HF.out.mono ?_; rintro e w' ⟨rfl, hb⟩)
  go_ret
  exact ⟨rfl, hb⟩
def FirstPostI (low : Int) (n : Nat) (p : Int → Bool) (I : World → Prop) (e : Ending) (w' : World) : Prop :=
  e = .returned (.tuple #[.int .i64 (low + (firstTrue (fun i => p (low + (i : Int))) n : Nat)), .bool (decide (firstTrue (fun i => p (low + (i : Int))) n < n))]) ∧ I w'
set_option maxHeartbeats 2000000 in
set_option maxRecDepth 100000 in
/-- The same with a function value that writes to memory of its own. -/
theorem firstIn_inv (g : Nat) (cb : Array Value) (low high : Int) (n : Nat) (p : Int → Bool) (I : World → Prop) (w : World) (eg : Enters Try.prog g) (hn : high - low + 1 = (n : Int)) (h1 : -1000000000000 ≤ low) (h2 : low ≤ 1000000000000) (h3 : -1000000000000 ≤ high) (h4 : high ≤ 1000000000000)
    (hI : ∀ W, Below w.heap.size w W → I W)
    (hf : ∀ (W : World) (x : Int), I W → low ≤ x → x ≤ high → Calls Try.prog g (#[.int .i64 x] ++ cb) W fun e w' => e = .returned (.bool (p x)) ∧ I w' ∧ ∀ B, w.heap.size ≤ B → B < W.heap.size → w'.cell? ⟨B, 0, none⟩ = W.cell? ⟨B, 0, none⟩)
    (hmono : ∀ a b, low ≤ a → a ≤ b → b ≤ high → p a = true → p b = true) :
    Calls Try.prog 82 #[.int .i64 low, .int .i64 high, .func (.func g) #[] cb] w (FirstPostI low n p I) := by
  obtain ⟨W, hW⟩ : ∃ W, (w.alloc (.cells #[.int .i64 low] 2)).alloc (.cells #[.func (.func g) #[] cb] 84) = W := ⟨_, rfl⟩
  have hb : Below w.heap.size w W := by rw [← hW]; exact below_alloc (below_alloc (Below.refl _ _) _) _
  have hs : W.heap.size = w.heap.size + 1 + 1 := by rw [← hW]; simp
  have d0 : W.cell? ⟨w.heap.size, 0, none⟩ = some (.int .i64 low) := by rw [← hW]; simp
  have d1 : W.cell? ⟨w.heap.size + 1, 0, none⟩ = some (.func (.func g) #[] cb) := by rw [← hW]; simp
  have ek : Enters Try.prog 119 := enters_of Try.func119 (by kernel_rfl) rfl
  have hS := search_inv 119 #[.pointer (some ⟨w.heap.size + 1, 0, none⟩), .pointer (some ⟨w.heap.size, 0, none⟩)] n (fun i => p (low + (i : Int))) (fun V => I V ∧ V.cell? ⟨w.heap.size, 0, none⟩ = some (.int .i64 low) ∧ V.cell? ⟨w.heap.size + 1, 0, none⟩ = some (.func (.func g) #[] cb)) W ⟨hI W hb, d0, d1⟩ ek (by omega)
    (fun W' i hJ hi => firstIn_closure_inv g cb w.heap.size (w.heap.size + 1) low (low + (i : Int)) _ W' _ i eg rfl (by omega) (by omega) (by omega) hJ.2.1 hJ.2.2
      ((hf W' _ hJ.1 (by omega) (by omega)).mono fun e w' ⟨he, hI', hk⟩ => ⟨he, hI', (hk _ (Nat.le_refl _) (World.block_lt_of_cell? W' ⟨w.heap.size, 0, none⟩ hJ.2.1)).trans hJ.2.1, (hk _ (Nat.le_succ _) (World.block_lt_of_cell? W' ⟨w.heap.size + 1, 0, none⟩ hJ.2.2)).trans hJ.2.2⟩))
    (fun a b hab hbn hp => hmono _ _ (by omega) (by omega) (by omega) hp)
  unfold SearchPostI at hS
  unfold FirstPostI
  have hk : firstTrue (fun i => p (low + (i : Int))) n ≤ n := firstTrue_le _ _
  generalize firstTrue (fun i => p (low + (i : Int))) n = k at hS hk ⊢
  have HS := Aside0.mk hS
  have HN := Aside0.mk hn
  clear hS hf hmono hb hn ek eg d1 hs
  have hn : 0 ≤ high - low + 1 := by have := HN.out; omega
  have hk2 : (k : Int) ≤ 3000000000000 := by have := HN.out; omega
  go_enter Try.func82, Try.ntmps82
  go_wp2_with (go_at_call 118; rw [HN.out]; refine HS.out.mono ?_; rintro e w' ⟨rfl, hb⟩; have d2 := hb.2.1)
  go_ret2
  exact ⟨rfl, hb.1⟩

/-! ### impl_systemHead: function 84 -/
def impl_systemHead.f (a0 : Int) (a1 : Int) (a2 : Int) : Option (Int) := (impl_divRound.f (wrap64 ((wrap64 (a1 * a2)) * a2)) 10000000000).bind fun t198 => (some (wrap64 (a0 + t198)))
set_option maxHeartbeats 8000000 in
set_option maxRecDepth 100000 in
theorem impl_systemHead.calls (a0 : Int) (a1 : Int) (a2 : Int) (r : Int) (w : World) (h : impl_systemHead.f a0 a1 a2 = some r) :
  Calls Try.prog 84 #[.int .i64 a0, .int .i64 a1, .int .i64 a2] w fun e w' => e = .returned (.int .i64 r) ∧ Drawn0 w w' := by
 have H : ((impl_divRound.f (wrap64 ((wrap64 (a1 * a2)) * a2)) 10000000000).bind fun t198 => (some (wrap64 (a0 + t198)))) = some r := h
 clear h
 replace H := Option.bind_eq_some_iff.mp H
 obtain ⟨t198, A40, H⟩ := H
 replace H : (some (wrap64 (a0 + t198))) = some r := H
 have A4 := Aside0.mk A40
 clear A40
 obtain rfl := Option.some.inj H
 go_enter Try.func84, Try.ntmps84
 go_wp2_with (first | ((with_reducible refine gate_callee (f := 73) rfl ?_); refine goesL_ (some 13) rfl rfl Try.func73 (by kernel_rfl) rfl #[.int .i64 (wrap64 ((wrap64 (a1 * a2)) * a2)), .int .i64 10000000000] rfl (by (try simp only [List.map_toArray, List.map_cons, List.map_nil]); first | done | rfl | (simp only [List.length_drop, List.length_take]; rfl)) ?_; (with_reducible refine (impl_divRound.calls (wrap64 ((wrap64 (a1 * a2)) * a2)) 10000000000 t198 _ A4.out).mono ?_); rintro e w' ⟨rfl, ⟨nd, rfl⟩⟩; refine ⟨_, rfl, ?_⟩))
 go_ret
 exact ⟨by first | rfl | (simp; done) | (simp [*]; done), by repeat (first | exact Drawn0.refl _ | apply Drawn0.step)⟩


/-! ### impl_WorkingFlow: function 32 -/
open Go.Proofs.YthgfkbkobnfnaaaM
def systemI (st co q : Int) : Int := st + rdiv (co * q * q) 10000000000
theorem system_mono {st co a b : Int} (hc : 0 ≤ co) (ha : 0 ≤ a) (h : a ≤ b) : systemI st co a ≤ systemI st co b := by
  unfold systemI
  have h1 : co * a ≤ co * b := Int.mul_le_mul_of_nonneg_left h hc
  have h2 : co * a * a ≤ co * b * b := Int.mul_le_mul h1 h ha (Int.mul_nonneg hc (by omega))
  have := rdiv_mono (d := 10000000000) (by omega) h2
  omega
theorem line_anti {x0 y0 x1 y1 a b : Int} (hx : x0 < x1) (hy : y1 ≤ y0) (h : a ≤ b) : lineI x0 y0 x1 y1 b ≤ lineI x0 y0 x1 y1 a := by
  have hb := line_down (x := b) hx hy
  have ha := line_down (x := a) hx hy
  by_cases c1 : a ≤ x0
  · have : lineI x0 y0 x1 y1 a = y0 := by unfold lineI; rw [if_pos (Or.inl c1)]
    omega
  by_cases c2 : x1 ≤ b
  · have : lineI x0 y0 x1 y1 b = y1 := by unfold lineI; rw [if_neg (by omega), if_pos c2]
    omega
  have ea : lineI x0 y0 x1 y1 a = y0 + rdiv ((y1 - y0) * (a - x0)) (x1 - x0) := by unfold lineI; rw [if_neg (by omega), if_neg (by omega)]
  have eb : lineI x0 y0 x1 y1 b = y0 + rdiv ((y1 - y0) * (b - x0)) (x1 - x0) := by unfold lineI; rw [if_neg (by omega), if_neg (by omega)]
  have e : ∀ z, (y1 - y0) * z = -((y0 - y1) * z) := fun z => by rw [← Int.neg_mul, Int.neg_sub]
  have hm := Int.mul_le_mul_of_nonneg_left (show a - x0 ≤ b - x0 by omega) (show 0 ≤ y0 - y1 by omega)
  have hm2 : (y1 - y0) * (b - x0) ≤ (y1 - y0) * (a - x0) := by rw [e, e]; omega
  have := rdiv_mono (d := x1 - x0) (by omega) hm2
  omega
theorem point_step {c : List (List Int)} {i : Nat} (h : pointOk c i = true) (h0 : 0 < i) : (c.getD (i - 1) []).getD 0 0 < (c.getD i []).getD 0 0 ∧ (c.getD i []).getD 1 0 ≤ (c.getD (i - 1) []).getD 1 0 := by
  unfold pointOk at h
  simp only [Bool.and_eq_true, decide_eq_true_eq] at h
  have h3 := h.2.2.2
  rw [if_neg (by omega)] at h3
  simp only [Bool.and_eq_true, decide_eq_true_eq] at h3
  exact h3
theorem head_le (c : List (List Int)) (q : Int) (hp : ∀ j, j < c.length → pointOk c j = true) : ∀ (d i : Nat), 1 ≤ i → i + d ≤ c.length → headFrom c q d i ≤ (c.getD (i - 1) []).getD 1 0 := by
  intro d
  induction d with
  | zero => intro i h1 h2; simp only [headFrom]; exact (point_range (hp (i - 1) (by omega))).2.1
  | succ d ih =>
    intro i h1 h2
    have st := point_step (hp i (by omega)) (by omega)
    simp only [headFrom]
    split
    · exact (line_down st.1 st.2).2
    · have := ih (i + 1) (by omega) (by omega)
      rw [Nat.add_sub_cancel] at this
      omega
theorem head_anti (c : List (List Int)) {a b : Int} (h : a ≤ b) (hp : ∀ j, j < c.length → pointOk c j = true) : ∀ (d i : Nat), 1 ≤ i → i + d ≤ c.length → headFrom c b d i ≤ headFrom c a d i := by
  intro d
  induction d with
  | zero => intro i h1 h2; exact Int.le_refl _
  | succ d ih =>
    intro i h1 h2
    have st := point_step (hp i (by omega)) (by omega)
    simp only [headFrom]
    by_cases cb : b ≤ (c.getD i []).getD 0 0
    · rw [if_pos cb, if_pos (by omega)]
      exact line_anti st.1 st.2 h
    · rw [if_neg cb]
      by_cases ca : a ≤ (c.getD i []).getD 0 0
      · rw [if_pos ca]
        have h3 := head_le c b hp d (i + 1) (by omega) (by omega)
        rw [Nat.add_sub_cancel] at h3
        have := (line_down (x := a) st.1 st.2).1
        omega
      · rw [if_neg ca]
        exact ih (i + 1) (by omega) (by omega)
theorem headI_anti (c : List (List Int)) {a b : Int} (h : a ≤ b) (hp : ∀ j, j < c.length → pointOk c j = true) (h1 : 1 ≤ c.length) : headI c b ≤ headI c a := head_anti c h hp _ 1 (by omega) (by omega)
/-- The first flow at which a system asks for more than the pump gives, or 100001. -/
def workI (c : List (List Int)) (st co : Int) : Nat := firstTrue (fun i : Nat => decide (headI c (0 + (i : Int)) < systemI st co (0 + (i : Int)))) 100001
theorem sys_is (st co q : Int) (h1 : 0 ≤ st ∧ st ≤ 2000000) (h2 : 0 ≤ co ∧ co ≤ 100000000) (h3 : 0 ≤ q ∧ q ≤ 100000) : impl_systemHead.f st co q = some (systemI st co q) := by
  unfold impl_systemHead.f systemI
  have hm := mulb (a := co) (b := q) 100000000 100000 (by omega) (by omega) (by omega) (by omega)
  have hm2 := mulb (a := co * q) (b := q) 10000000000000 100000 (by omega) (by omega) (by omega) (by omega)
  have hr := rdiv_bound (co * q * q) 10000000000
  rw [w64 (x := co * q) (by omega) (by omega), w64 (x := co * q * q) (by omega) (by omega)]
  simp only [impl_divRound.f]
  rw [if_pos (by omega)]
  simp only [Option.bind_some]
  rw [w64 (by omega) (by omega)]
theorem held_r {P : Prop} {n : Nat} {W w1 : World} (h : P ∧ Below n W w1) : Below n W w1 := h.2
theorem pk_keep {W w' : World} {B0 B1 B2 : Nat} {v0 v1 v2 v3 : Value} (c0 : W.cell? ⟨B0, 0, none⟩ = some v0) (c1 : W.cell? ⟨B1, 0, none⟩ = some v1) (c2 : W.cell? ⟨B2, 0, none⟩ = some v2) (c3 : W.cell? ⟨B2, 1, none⟩ = some v3) (hb : Below W.heap.size W w') :
    (w'.cell? ⟨B0, 0, none⟩ = some v0 ∧ w'.cell? ⟨B1, 0, none⟩ = some v1 ∧ w'.cell? ⟨B2, 0, none⟩ = some v2 ∧ w'.cell? ⟨B2, 1, none⟩ = some v3) ∧ Below W.heap.size W w' :=
  ⟨⟨pw_cell_below hb c0, pw_cell_below hb c1, pw_cell_below hb c2, pw_cell_below hb c3⟩, hb⟩
set_option maxHeartbeats 2000000 in
set_option maxRecDepth 100000 in
theorem wk_closure (B0 B1 B2 : Nat) (s : ByteArray) (A : Option Addr) (cp : Nat) (c : List (List Int)) (st co q : Int) (W : World) (h1 : 0 ≤ st ∧ st ≤ 2000000) (h2 : 0 ≤ co ∧ co ≤ 100000000) (h3 : 0 ≤ q ∧ q ≤ 100000)
    (hh : ∀ W', Below W.heap.size W W' → Calls Try.prog 70 #[.agg #[.string s, .slice A c.length cp], .int .i64 q] W' fun e w' => e = .returned (.int .i64 (headI c q)) ∧ Below W'.heap.size W' w')
    (c0 : W.cell? ⟨B0, 0, none⟩ = some (.int .i64 st)) (c1 : W.cell? ⟨B1, 0, none⟩ = some (.int .i64 co)) (c2 : W.cell? ⟨B2, 0, none⟩ = some (.string s)) (c3 : W.cell? ⟨B2, 1, none⟩ = some (.slice A c.length cp)) :
    Calls Try.prog 83 (#[.int .i64 q] ++ #[.pointer (some ⟨B0, 0, none⟩), .pointer (some ⟨B1, 0, none⟩), .pointer (some ⟨B2, 0, none⟩)]) W fun e w' => e = .returned (.bool (decide (headI c q < systemI st co q))) ∧ Below W.heap.size W w' := by
  have E : Aside0 (impl_systemHead.f st co q = some (systemI st co q)) := ⟨sys_is st co q h1 h2 h3⟩
  generalize headI c q = y at hh ⊢
  generalize systemI st co q = z at E ⊢
  have HH := Aside0.mk hh
  clear hh h1 h2 h3
  have hu27 := Try.underlying27
  have hB0 := World.block_lt_of_cell? W ⟨B0, 0, none⟩ c0
  have hB1 := World.block_lt_of_cell? W ⟨B1, 0, none⟩ c1
  have hB2 := World.block_lt_of_cell? W ⟨B2, 0, none⟩ c2
  go_enter Try.func83, Try.ntmps83
  go_wp2_with fail
  go_region_held3 (fun w' => (w'.cell? ⟨B0, 0, none⟩ = some (.int .i64 st) ∧ w'.cell? ⟨B1, 0, none⟩ = some (.int .i64 co) ∧ w'.cell? ⟨B2, 0, none⟩ = some (.string s) ∧ w'.cell? ⟨B2, 1, none⟩ = some (.slice A c.length cp)) ∧ Below W.heap.size W w') (first | assumption | exact pk_keep c0 c1 c2 c3 (below_drew1 (Below.refl _ _)) | exact pk_keep c0 c1 c2 c3 (pw_below_drewN (Below.refl _ _) _) | exact pk_keep c0 c1 c2 c3 (below_then (pw_below_drewN (Below.refl _ _) _) (by first | exact Nat.le_refl _ | simp) hb) | exact pk_keep c0 c1 c2 c3 (pw_below_drewN (below_drew1 (Below.refl _ _)) _) | exact pk_keep c0 c1 c2 c3 (below_then (pw_below_drewN (below_drew1 (Below.refl _ _)) _) (by first | exact Nat.le_refl _ | simp) hb) | exact pk_keep c0 c1 c2 c3 (below_then (below_drew1 (Below.refl _ _)) (Nat.le_refl _) hb)) (first | (go_at_call 84; (with_reducible refine (impl_systemHead.calls st co q z _ E.out).mono ?_); rintro e w' ⟨rfl, ⟨nd, rfl⟩⟩) | (go_at_call 70; refine (HH.out _ (by first | exact pw_below_drewN (Below.refl _ _) _ | exact pw_below_drewN (below_drew1 (Below.refl _ _)) _ | exact below_drew1 (Below.refl _ _) | exact held_r (by assumption))).mono ?_; rintro e w' ⟨rfl, hb⟩))
  go_wp2
  go_ret
  exact ⟨rfl, held_r (by assumption)⟩
def workR (s : ByteArray) (c : List (List Int)) (st co : Int) : Int × Int × Int := if pumpOk s c = true then (if (0 ≤ st ∧ st ≤ 2000000) ∧ (0 ≤ co ∧ co ≤ 100000000) then (if workI c st co = 0 then (0, 0, 3) else ((workI c st co : Int) - 1, headI c ((workI c st co : Int) - 1), 0)) else (0, 0, 2)) else (0, 0, 1)
def impl_WorkingFlow.f (a0_0 : ByteArray) (l0_1 : List (List Int)) (a1 a2 : Int) : Option (Int × Int × Int) := if a0_0.size ≤ 9000000000000000000 then some (workR a0_0 l0_1 a1 a2) else none
theorem sysOk_is (st co : Int) : impl_systemOk.f st co 0 = some (decide ((0 ≤ st ∧ st ≤ 2000000) ∧ (0 ≤ co ∧ co ≤ 100000000))) := by
  unfold impl_systemOk.f impl_headOk.f impl_within_.f
  by_cases h1 : 0 ≤ st ∧ st ≤ 2000000
  · by_cases h2 : 0 ≤ co ∧ co ≤ 100000000
    · simp [h1, h2]
    · simp [h1, h2]
  · simp [h1]
theorem pump_three (w : World) (s : ByteArray) (v : Value) (q m : Int) (T U V : TypeId) : let W := ((w.alloc (.cells #[.string s, v] T)).alloc (.cells #[.int .i64 q] U)).alloc (.cells #[.int .i64 m] V)
    W.cell? ⟨w.heap.size, 0, none⟩ = some (.string s) ∧ W.cell? ⟨w.heap.size, 1, none⟩ = some v ∧ W.cell? ⟨w.heap.size + 1, 0, none⟩ = some (.int .i64 q) ∧ W.cell? ⟨w.heap.size + 1 + 1, 0, none⟩ = some (.int .i64 m) := by
  intro W
  have h0 : W.heap[w.heap.size]? = some (.cells #[.string s, v] T (0, 0)) := blk_alloc (blk_alloc (alloc_new_ _ _) _) _
  have h1 : W.heap[w.heap.size + 1]? = some (.cells #[.int .i64 q] U (0, 0)) := blk_alloc (alloc_two _ _ _) _
  have h2 : W.heap[w.heap.size + 1 + 1]? = some (.cells #[.int .i64 m] V (0, 0)) := by
    have := alloc_two (w.alloc (.cells #[.string s, v] T)) (.cells #[.int .i64 q] U) (.cells #[.int .i64 m] V)
    rwa [World.size_alloc] at this
  exact ⟨blk_cell h0 0, blk_cell h0 1, blk_cell h1 0, blk_cell h2 0⟩
set_option maxHeartbeats 4000000 in
set_option maxRecDepth 100000 in
theorem impl_WorkingFlow.calls (a0_0 : ByteArray) (A0_1 : Option Addr) (c0_1 : Nat) (l0_1 : List (List Int)) (a1 a2 r1 r2 r3 : Int) (w : World) (hr0_1 : Kd.C (Kd.slice 2 (Kd.int .i64)) w A0_1 l0_1.length l0_1) (hc0_1 : l0_1.length ≤ c0_1) (h : impl_WorkingFlow.f a0_0 l0_1 a1 a2 = some (r1, r2, r3)) :
    Calls Try.prog 32 #[.agg #[.string a0_0, .slice A0_1 l0_1.length c0_1], .int .i64 a1, .int .i64 a2] w fun e w' => e = .returned (.tuple #[.int .i64 r1, .int .i64 r2, .int .i64 r3]) ∧ Below w.heap.size w w' := by
  have hu27 := Try.underlying27
  unfold impl_WorkingFlow.f at h
  split at h
  case isFalse => exact absurd h (by simp)
  rename_i hs9
  obtain ⟨W, hW⟩ : ∃ W, ((w.alloc (.cells #[.string a0_0, .slice A0_1 l0_1.length c0_1] 27)).alloc (.cells #[.int .i64 a1] 2)).alloc (.cells #[.int .i64 a2] 2) = W := ⟨_, rfl⟩
  have hb0 := below_alloc (below_alloc (below_alloc (Below.refl w.heap.size w) (.cells #[.string a0_0, .slice A0_1 l0_1.length c0_1] 27)) (.cells #[.int .i64 a1] 2)) (.cells #[.int .i64 a2] 2)
  have hs : W.heap.size = w.heap.size + 1 + 1 + 1 := by rw [← hW]; simp
  have hcells := pump_three w a0_0 (.slice A0_1 l0_1.length c0_1) a1 a2 27 2 2
  simp only [hW] at hcells hb0
  obtain ⟨d0, d1, d2, d3⟩ := hcells
  have HB := Aside0.mk hb0
  obtain ⟨b1, hc1⟩ : ∃ b, pumpOk a0_0 l0_1 = b := ⟨_, rfl⟩
  obtain ⟨b2, hc2⟩ : ∃ b, decide ((0 ≤ a1 ∧ a1 ≤ 2000000) ∧ (0 ≤ a2 ∧ a2 ≤ 100000000)) = b := ⟨_, rfl⟩
  have HV := Aside0.mk (fun (W' : World) (hb : Below w.heap.size w W') => impl_ValidPump_.calls a0_0 A0_1 c0_1 l0_1 b1 W' (Kd.C_below hr0_1 hb) hc0_1 (by unfold impl_ValidPump_.f; rw [if_pos hs9, hc1]))
  have HP := Aside0.mk (fun W => impl_systemOk.calls a1 a2 0 b2 W (by rw [← hc2]; exact sysOk_is a1 a2))
  unfold workR at h
  rw [hc1] at h
  cases b1
  · rw [if_neg (by simp)] at h
    simp only [Option.some.injEq, Prod.mk.injEq] at h
    obtain ⟨rfl, rfl, rfl⟩ := h
    clear hc1 hc2 hb0 hr0_1 hc0_1
    go_enter Try.func32, Try.ntmps32
    go_wp2_with (go_at_call 22; refine (HV.out _ (by repeat (first | exact HB.out | apply pw_below_drewN | apply below_drew1))).mono ?_; rintro e w' ⟨rfl, hb⟩)
    go_ret3
    exact ⟨rfl, below_then HB.out HB.out.size hb⟩
  obtain ⟨p1, p2, p3⟩ := pump_parts hc1
  rw [if_pos rfl] at h
  cases b2
  · rw [if_neg (of_decide_eq_false hc2)] at h
    simp only [Option.some.injEq, Prod.mk.injEq] at h
    obtain ⟨rfl, rfl, rfl⟩ := h
    clear hc1 hc2 hb0 hr0_1 hc0_1 p1 p2 p3
    go_enter Try.func32, Try.ntmps32
    go_wp2_with (first | (go_at_call 22; refine (HV.out _ (by repeat (first | exact HB.out | apply pw_below_drewN | apply below_drew1))).mono ?_; rintro e w' ⟨rfl, hb⟩; have e2 := pw_cell_below hb d2; have e3 := pw_cell_below hb d3) | (go_at_call 81; refine (HP.out _).mono ?_; rintro e w' ⟨rfl, ⟨nd, rfl⟩⟩))
    go_ret3
    exact ⟨rfl, by repeat (first | exact below_then HB.out HB.out.size hb | apply pw_below_drewN | apply below_drew1)⟩
  rw [if_pos (of_decide_eq_true hc2)] at h
  obtain ⟨hst, hco⟩ := of_decide_eq_true hc2
  have HH := Aside0.mk (fun (W' : World) (q : Int) (hb : Below w.heap.size w W') => impl_Pump_head_.calls a0_0 A0_1 c0_1 l0_1 q (headI l0_1 q) W' (Kd.C_below hr0_1 hb) hc0_1 (by unfold impl_Pump_head_.f; rw [if_pos ⟨by omega, p2, p3⟩]))
  have eg : Enters Try.prog 83 := enters_of Try.func83 (by kernel_rfl) rfl
  have hF := fun (W' : World) (hb1 : Below W.heap.size W W') => firstIn_any 83 #[.pointer (some ⟨w.heap.size + 1, 0, none⟩), .pointer (some ⟨w.heap.size + 1 + 1, 0, none⟩), .pointer (some ⟨w.heap.size, 0, none⟩)] 0 100000 100001 (fun x => decide (headI l0_1 x < systemI a1 a2 x)) W' eg (by omega) (by omega) (by omega) (by omega) (by omega)
    (fun W2 x hb hx0 hx1 => by
      have hb' := hb1.trans (hb.mono hb1.size)
      have hb3 := below_then hb0 hb0.size hb'
      exact wk_closure (w.heap.size + 1) (w.heap.size + 1 + 1) w.heap.size a0_0 A0_1 c0_1 l0_1 a1 a2 x W2 hst hco ⟨hx0, hx1⟩ (fun W3 hb4 => HH.out W3 x (below_then hb3 hb3.size hb4)) (pw_cell_below hb' d2) (pw_cell_below hb' d3) (pw_cell_below hb' d0) (pw_cell_below hb' d1))
    (fun a b ha hab _ hp => decide_eq_true (Int.lt_of_le_of_lt (headI_anti l0_1 hab p3 (by omega)) (Int.lt_of_lt_of_le (of_decide_eq_true hp) (system_mono hco.1 ha hab))))
  unfold FirstPost at hF
  have hk := firstTrue_le (fun i : Nat => decide (headI l0_1 (0 + (i : Int)) < systemI a1 a2 (0 + (i : Int)))) 100001
  unfold workI at h
  generalize firstTrue (fun i : Nat => decide (headI l0_1 (0 + (i : Int)) < systemI a1 a2 (0 + (i : Int)))) 100001 = k at hF hk h
  have HF := Aside0.mk hF
  have HS := Aside0.mk hs
  clear hF eg hs hst hco hc1 hc2 p1 p2 p3 hr0_1 hc0_1 hb0
  by_cases ck : k < 100001
  · have ck' := Aside0.mk (decide_eq_true ck)
    by_cases c0 : k = 0
    · subst c0
      rw [if_pos rfl] at h
      simp only [Option.some.injEq, Prod.mk.injEq] at h
      obtain ⟨rfl, rfl, rfl⟩ := h
      clear ck hk
      go_enter Try.func32, Try.ntmps32
      go_wp2_with (first | (go_at_call 22; refine (HV.out _ (by repeat (first | exact HB.out | apply pw_below_drewN | apply below_drew1))).mono ?_; rintro e w' ⟨rfl, hb⟩; have e2 := pw_cell_below hb d2; have e3 := pw_cell_below hb d3) | (go_at_call 81; refine (HP.out _).mono ?_; rintro e w' ⟨rfl, ⟨nd, rfl⟩⟩) | (go_at_call 82; refine (HF.out _ (by repeat (first | exact hb | apply pw_below_drewN | apply below_drew1))).mono ?_; rw [ck'.out]; rintro e w' ⟨rfl, hb2⟩))
      go_ret3
      exact ⟨rfl, below_then HB.out HB.out.size (below_then (by repeat (first | exact hb | apply pw_below_drewN | apply below_drew1)) (by simp; exact hb.size) hb2)⟩
    · rw [if_neg c0] at h
      simp only [Option.some.injEq, Prod.mk.injEq] at h
      obtain ⟨rfl, rfl, rfl⟩ := h
      have c0b : ((0 : Int) + (k : Int) == 0) = false := by simp; omega
      have c1b : ((k : Int) == 0) = false := by simp; omega
      have kw : wrap64 ((0 : Int) + (k : Int) - 1) = (k : Int) - 1 := by rw [w64 (by omega) (by omega)]; omega
      have kw2 : wrap64 ((k : Int) - 1) = (k : Int) - 1 := by rw [w64 (by omega) (by omega)]
      clear ck hk c0
      go_enter Try.func32, Try.ntmps32
      go_wp2_with (first | (go_at_call 22; refine (HV.out _ (by repeat (first | exact HB.out | apply pw_below_drewN | apply below_drew1))).mono ?_; rintro e w' ⟨rfl, hb⟩; have e2 := pw_cell_below hb d2; have e3 := pw_cell_below hb d3) | (go_at_call 81; refine (HP.out _).mono ?_; rintro e w' ⟨rfl, ⟨nd, rfl⟩⟩) | (go_at_call 82; refine (HF.out _ (by repeat (first | exact hb | apply pw_below_drewN | apply below_drew1))).mono ?_; rw [ck'.out]; rintro e w' ⟨rfl, hb2⟩; have HB3 := Aside0.mk (below_then HB.out HB.out.size (below_then (by repeat (first | exact hb | apply pw_below_drewN | apply below_drew1)) (by simp; exact hb.size) hb2)); have hb5 := below_then (by repeat (first | exact hb | apply pw_below_drewN | apply below_drew1)) (by simp; exact hb.size) hb2; have g0 := pw_cell_below hb5 d0; have g1 := pw_cell_below hb5 d1; clear hb5) | (go_at_call 70; (try rw [kw]); (try rw [kw2]); refine (HH.out _ _ (by repeat (first | exact HB3.out | apply pw_below_drewN | apply below_drew1))).mono ?_; rintro e w' ⟨rfl, hb4⟩))
      go_ret3
      (try rw [kw]); (try rw [kw2])
      exact ⟨rfl, below_then (by repeat (first | exact HB3.out | apply pw_below_drewN | apply below_drew1)) (by first | exact HB3.out.size | (simp; exact HB3.out.size)) hb4⟩
  · have ck' := Aside0.mk (decide_eq_false ck)
    obtain rfl : k = 100001 := by omega
    rw [if_neg (by omega)] at h
    simp only [Option.some.injEq, Prod.mk.injEq] at h
    obtain ⟨rfl, rfl, rfl⟩ := h
    clear ck hk
    go_enter Try.func32, Try.ntmps32
    go_wp2_with (first | (go_at_call 22; refine (HV.out _ (by repeat (first | exact HB.out | apply pw_below_drewN | apply below_drew1))).mono ?_; rintro e w' ⟨rfl, hb⟩; have e2 := pw_cell_below hb d2; have e3 := pw_cell_below hb d3) | (go_at_call 81; refine (HP.out _).mono ?_; rintro e w' ⟨rfl, ⟨nd, rfl⟩⟩) | (go_at_call 82; refine (HF.out _ (by repeat (first | exact hb | apply pw_below_drewN | apply below_drew1))).mono ?_; rw [ck'.out]; rintro e w' ⟨rfl, hb2⟩; have HB3 := Aside0.mk (below_then HB.out HB.out.size (below_then (by repeat (first | exact hb | apply pw_below_drewN | apply below_drew1)) (by simp; exact hb.size) hb2)); have hb5 := below_then (by repeat (first | exact hb | apply pw_below_drewN | apply below_drew1)) (by simp; exact hb.size) hb2; have g0 := pw_cell_below hb5 d0; have g1 := pw_cell_below hb5 d1; clear hb5) | (go_at_call 70; refine (HH.out _ _ (by repeat (first | exact HB3.out | apply pw_below_drewN | apply below_drew1))).mono ?_; rintro e w' ⟨rfl, hb4⟩))
    go_ret3
    exact ⟨rfl, below_then (by repeat (first | exact HB3.out | apply pw_below_drewN | apply below_drew1)) (by first | exact HB3.out.size | (simp; exact HB3.out.size)) hb4⟩

end Go.Proofs.Ythgfkbkobnfnaaa.PFnExactWorkingFlow
