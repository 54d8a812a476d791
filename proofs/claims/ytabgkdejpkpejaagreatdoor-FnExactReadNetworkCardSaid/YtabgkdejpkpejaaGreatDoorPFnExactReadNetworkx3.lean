-- Printed by a program of this session (wip/hprint.sh: the kit's print with hand-proved contracts put in); not by print.sh itself.
import Derived.Test.YtabgkdejpkpejaaGreatDoorPFnExactReadNetworkx0
import Derived.Test.YtabgkdejpkpejaaGreatDoorPFnExactReadNetworkx1
import Derived.Test.YtabgkdejpkpejaaGreatDoorPFnExactReadNetworkx2
namespace Go.Proofs.YtabgkdejpkpejaaGreatDoor.PFnExactReadNetwork
open Go.RowKit Go.Proofs.YtabgkdejpkpejaaGreatDoorW.PrintWords Go.Proofs.YtabgkdejpkpejaaGreatDoorW.PrintLast Go.Proofs.YtabgkdejpkpejaaGreatDoorW.PrintMore Go.Proofs.YtabgkdejpkpejaaGreatDoorM
attribute [local go_sem] max2_int min2_int max_two min_two max_three min_three max_four min_four   -- for this text's walks alone
set_option linter.unusedVariables false
set_option linter.unusedSimpArgs false

/-! ### spec_l03Read: function 22 -/
def spec_l03Read.j0 : Nat → List ByteArray → List Int → Bool → Option (ByteArray × Int × Int × Int × Int × Int × Bool)
 | 0, _, _, _ => none
 | k + 1, x4, x5, x27 => if x27 = true then (some ((⟨#[]⟩ : ByteArray), 0, 0, 0, 0, 0, false)) else (if 0 < (x4.length : Int) then (if 0 < (x5.length : Int) then (if 1 < (x5.length : Int) then (if 2 < (x5.length : Int) then (if 3 < (x5.length : Int) then (if 4 < (x5.length : Int) then ((spec_l03Ok.f (rdOf ByteArray.empty x4 0) (rd x5 0) (rd x5 1) (rd x5 2) (rd x5 3) (rd x5 4)).bind fun t146 => (if t146 = true then (some (rdOf ByteArray.empty x4 0, rd x5 0, rd x5 1, rd x5 2, rd x5 3, rd x5 4, true)) else (some ((⟨#[]⟩ : ByteArray), 0, 0, 0, 0, 0, false)))) else (none)) else (none)) else (none)) else (none)) else (none)) else (none))
def spec_l03Read.f (k : Nat) (a0 : ByteArray) : Option (ByteArray × Int × Int × Int × Int × Int × Bool) := (spec_l01Split.f k a0 32).bind fun t131 => (if (t131.length : Int) = 2 then (if 1 < (t131.length : Int) then ((spec_ReadList.f k (rdOf ByteArray.empty t131 1)).bind fun bt135 => (if bt135.2 = true then (spec_l03Read.j0 k t131 bt135.1 ((bt135.1.length : Int) != 5)) else (spec_l03Read.j0 k t131 bt135.1 true))) else (none)) else (some ((⟨#[]⟩ : ByteArray), 0, 0, 0, 0, 0, false)))
theorem spec_l03Read.mono_l : ∀ k, (∀ y0 y1 y2, LeO (spec_l03Read.j0 k y0 y1 y2) (spec_l03Read.j0 (k + 1) y0 y1 y2))
 | 0 => fun _ _ _ r h => by simp [spec_l03Read.j0] at h
 | k + 1 => by
  have ih0 := spec_l03Read.mono_l k
  ·intro y0 y1 y2
   unfold spec_l03Read.j0
   repeat' first|(with_reducible first|exact ih0 _ _ _|exact spec_ReadList.mono _ _|exact spec_l01Split.mono _ _ _|exact LeO.refl _|exact LeO.none _|refine LeO.ite ?_ ?_|refine LeO.bind ?_ (fun _ => ?_))|exact ih0 _ _ _|exact spec_ReadList.mono _ _|exact spec_l01Split.mono _ _ _|exact LeO.none _|refine LeO.ite ?_ ?_|refine LeO.bind ?_ (fun _ => ?_)
theorem spec_l03Read.mono : ∀ a0 k, LeO (spec_l03Read.f k a0) (spec_l03Read.f (k + 1) a0) := by
 intro a0 k
 have ih0 := spec_l03Read.mono_l k
 unfold spec_l03Read.f
 repeat' first|(with_reducible first|exact ih0 _ _ _|exact spec_ReadList.mono _ _|exact spec_l01Split.mono _ _ _|exact LeO.refl _|exact LeO.none _|refine LeO.ite ?_ ?_|refine LeO.bind ?_ (fun _ => ?_))|exact ih0 _ _ _|exact spec_ReadList.mono _ _|exact spec_l01Split.mono _ _ _|exact LeO.none _|refine LeO.ite ?_ ?_|refine LeO.bind ?_ (fun _ => ?_)
def spec_l03Read.T7 : Bool × List (List Nat × List Nat) := (true, [([], []), ([0], [0]), ([1], [1]), ([], []), ([3], [3]), ([4], [4]), ([], []), ([6], [6]), ([7], [7]), ([], []), ([9], [9]), ([10], [10]), ([], []), ([12], [12]), ([13], [13]), ([], []), ([15], [15]), ([16], [16]), ([2, 5, 8, 11, 14, 17], [2, 5, 8, 11, 14, 17]), ([], []), ([19, 18, 0, 1, 2, 3, 4, 5, 6, 7, 8, 9, 10, 11, 12, 13, 14, 15, 16, 17, 18, 19], [18, 19])])
def spec_l03Read.B7 : List Nat := [0, 1, 3, 0, 8, 24, 0, 64, 192, 0, 512, 1536, 0, 4096, 12288, 0, 32768, 98304, 262143, 0, 1048575]
theorem spec_l03Read.tab7 : rtab .any (opsOf Tryz.f22 7) = spec_l03Read.T7 := by kernel_rfl
theorem spec_l03Read.bits7 : waitsOk spec_l03Read.T7.2 spec_l03Read.B7 = true := by kernel_rfl
set_option maxHeartbeats 8000000 in
set_option maxRecDepth 100000 in
theorem spec_l03Read.calls (k : Nat) (a0 : ByteArray) (r1 : ByteArray) (r2 : Int) (r3 : Int) (r4 : Int) (r5 : Int) (r6 : Int) (r7 : Bool) (w : World) (h : spec_l03Read.f k a0 = some (r1, r2, r3, r4, r5, r6, r7)) :
  Calls Tryz.prog 22 #[.string a0] w fun e w' => e = .returned (.tuple #[.agg #[.string r1, .int .i64 r2, .int .i64 r3, .int .i64 r4, .int .i64 r5, .int .i64 r6], .bool r7]) ∧ Below w.heap.size w w' := by
 have hu36 := Tryz.underlying36
 have HB := Aside0.mk (Below.refl w.heap.size w)
 have H : ((spec_l01Split.f k a0 32).bind fun t131 => (if (t131.length : Int) = 2 then (if 1 < (t131.length : Int) then ((spec_ReadList.f k (rdOf ByteArray.empty t131 1)).bind fun bt135 => (if bt135.2 = true then (spec_l03Read.j0 k t131 bt135.1 ((bt135.1.length : Int) != 5)) else (spec_l03Read.j0 k t131 bt135.1 true))) else (none)) else (some ((⟨#[]⟩ : ByteArray), 0, 0, 0, 0, 0, false)))) = some (r1, r2, r3, r4, r5, r6, r7) := h
 clear h
 replace H := Option.bind_eq_some_iff.mp H
 obtain ⟨t131, A20, H⟩ := H
 have A2 := Aside0.mk A20
 clear A20
 by_cases c3 : (t131.length : Int) = 2
 ·rw [if_pos c3] at H
  have c3b0 : ((t131.length : Int) == 2) = true := beq_iff_eq.mpr c3
  have c3b1 : ((t131.length : Int) != 2) = false := bne_eq_false_iff_eq.mpr c3
  clear c3
  by_cases c4 : 1 < (t131.length : Int)
  ·rw [if_pos c4] at H
   have c4b0 := decide_eq_true c4
   have c4b1 : decide (1 < t131.length) = true := decide_eq_true (by omega)
   clear c4
   replace H := Option.bind_eq_some_iff.mp H
   obtain ⟨⟨t135, t136⟩, A50, H⟩ := H
   replace H : (if t136 = true then (spec_l03Read.j0 k t131 t135 ((t135.length : Int) != 5)) else (spec_l03Read.j0 k t131 t135 true)) = some (r1, r2, r3, r4, r5, r6, r7) := H
   have A5 := Aside0.mk A50
   clear A50
   have HC6 := Aside0.mk H
   clear H
   go_enter Tryz.func22, Tryz.ntmps22
   go_upto_region 5 with (first | ((with_reducible refine gate_dst (N := 2) rfl ?_); (try (refine gate_guard (by rfl) ?_; dsimp only)); refine box_event ?hg (N := 2) ?hd (cs := #[.string (⟨#[]⟩ : ByteArray), .int .i64 0, .int .i64 0, .int .i64 0, .int .i64 0, .int .i64 0]) (t := 36) ?hr ?_; (case hd => rfl); (case hg => rfl); (case hr => first | (go_simp; done) | (go_simp; rfl)); intro gb130 hg w7 hbox hb; have n0_ := Aside0.mk (below_step (z0_) hb); have n1_ := Aside0.mk (hbox); have n2_ := Aside0.mk ((z4_ : w.heap.size ≤ gb130)); have n3_ := Aside0.mk ((z4_ : w.heap.size ≤ gb130)); clear HB; have HB := n0_; have BK130 := n1_; have GW130 := n2_; have GE130 := n3_; clear n0_ n1_ n2_ n3_; clear hb hbox hg) | ((with_reducible refine gate_callee (f := 20) rfl ?_); refine goesL_ (some 9) rfl rfl Tryz.func20 (z11_) rfl #[.string a0, .int .u8 32] rfl (z1_) ?_; (with_reducible refine (spec_l01Split.calls k a0 32 t131 _ A2.out).mono ?_); rintro e w8 ⟨v132, rfl, ho0, hb⟩; refine ⟨_, rfl, ?_⟩; have n0_ := Aside0.mk (Kd.R_lower ho0 (below_size (z21_))); have n1_ := Aside0.mk (blk_below (g := gb130) (o := .cells #[.string (⟨#[]⟩ : ByteArray), .int .i64 0, .int .i64 0, .int .i64 0, .int .i64 0, .int .i64 0] 36 (0, 0)) (z53_) hb); have n2_ := Aside0.mk (below_step (z21_) hb); clear BK130; clear HB; have HO133 := n0_; have BK130 := n1_; have HB := n2_; clear n0_ n1_ n2_; (try clear hb); (try clear hb2); (try clear hk); (try clear hi); (try clear ho0); obtain ⟨Ao9, co9, eo9⟩ := Kd.R_slice HO133.out; subst eo9; have p134 : 0 ≤ (1 : Int) := (by omega); have q134 : 1 < (t131.length : Int) := of_decide_eq_true (z2_); obtain ⟨ad134, e134, hx134_0⟩ := Kd.at_string (Kd.R_reads' HO133.out).2.2 1 p134 q134; cases e134; (try simp only [show (1 : Int).toNat = 1 from rfl, Nat.reduceMul, Nat.reduceEqDiff, Go.Addr.add, ↓reduceIte] at hx134_0); have qi134 : (1 < t131.length) = True := eq_true (by omega); (try rw [show ((1 : Int)).toNat = 1 from rfl] at hx134_0); replace p134 := eq_true p134; replace q134 := eq_true q134) | ((with_reducible refine gate_callee (f := 21) rfl ?_); refine goesL_ (some 18) rfl rfl Tryz.func21 (z11_) rfl #[.string (rdOf ByteArray.empty t131 1)] rfl (z1_) ?_; (with_reducible refine (spec_ReadList.calls k (rdOf ByteArray.empty t131 1) t135 t136 _ A5.out).mono ?_); rintro e w10 ⟨v137, rfl, ho0, hb⟩; refine ⟨_, rfl, ?_⟩; have n0_ := Aside0.mk (Kd.R_below (z155_) hb); have n1_ := Aside0.mk (Kd.R_lower ho0 (below_size (z21_))); have n2_ := Aside0.mk (blk_below (g := gb130) (o := .cells #[.string (⟨#[]⟩ : ByteArray), .int .i64 0, .int .i64 0, .int .i64 0, .int .i64 0, .int .i64 0] 36 (0, 0)) (z53_) hb); have n3_ := Aside0.mk (below_step (z21_) hb); clear HO133; clear BK130; clear HB; have HO133 := n0_; have HO138 := n1_; have BK130 := n2_; have HB := n3_; clear n0_ n1_ n2_ n3_; (try clear hb); (try clear hb2); (try clear hk); (try clear hi); (try clear ho0)))
   (try simp only [Act.put, List.setIfInBounds_toArray, List.set_cons_zero, List.set_cons_succ])
   go_cut [27] (fun v27 wc => ∃ (kq : Nat) (x27_5 : Bool), v27 = .bool x27_5 ∧ Aside0 (spec_l03Read.j0 kq t131 t135 x27_5 = some (r1, r2, r3, r4, r5, r6, r7)) ∧ Aside0 (kq ≤ k) ∧ Aside0 (Kd.R Kd.string 9 wc w.heap.size (fun _ => True) (.slice (some ad134) t131.length co9) t131) ∧ Aside0 (Kd.R (Kd.int .i64) 2 wc w.heap.size (fun _ => True) v137 t135) ∧ Aside0 (wc.heap[gb130]? = some (.cells #[.string (⟨#[]⟩ : ByteArray), .int .i64 0, .int .i64 0, .int .i64 0, .int .i64 0, .int .i64 0] 36 (0, 0))) ∧ Aside0 (Below w.heap.size w wc))
   case first =>
    have H := HC6.out
    clear HC6
    by_cases c11 : t136 = true
    ·subst c11
     rw [if_pos rfl] at H
     have H' := Aside0.mk H
     clear H
     obtain ⟨Ao12, co12, eo12⟩ := Kd.R_slice HO138.out
     subst eo12
     go_wp2
     go_meet
     case rel => exact ⟨_, (((t135.length : Int) != 5)), (z7_), H', ⟨z124_⟩, ⟨z155_⟩, ⟨by (with_reducible repeat (first | apply rA|apply rN|apply rW)); exact HO138.out⟩, ⟨z53_⟩, ⟨z21_⟩⟩
    ·replace c11 := Bool.eq_false_iff.mpr c11
     subst c11
     rw [if_neg (show ¬ (false = true) by decide)] at H
     have H' := Aside0.mk H
     clear H
     go_wp2
     go_meet
     case rel => exact ⟨_, (true), (z7_), H', ⟨z124_⟩, ⟨z155_⟩, ⟨by (with_reducible repeat (first | apply rA|apply rN|apply rW)); exact HO138.out⟩, ⟨z53_⟩, ⟨z21_⟩⟩
   case rest =>
    clear HC6
    try clear c1
    try clear p1
    try clear q1
    try clear hx1
    try clear qi1
    try clear c2
    try clear p2
    try clear c3
    try clear c3b0
    try clear c3b1
    try clear c4
    try clear c4b0
    try clear c4b1
    try clear c11
    try clear hx134_0
    try clear p134
    try clear q134
    obtain ⟨kq, x27_5, rfl, HA, HJ5, HO_4, HO_5, BK130, HB⟩ := hcut
    cases kq with
    | zero => exact absurd HA.out (by simp [spec_l03Read.j0])
    | succ kj5 =>
     have H := HA.out
     clear HA
     simp only [spec_l03Read.j0] at H
     by_cases c13 : x27_5 = true
     ·subst c13
      rw [if_pos rfl] at H
      simp only [Option.some.injEq, Prod.mk.injEq] at H
      obtain ⟨rfl, rfl, rfl, rfl, rfl, rfl, rfl⟩ := H
      have hcz14_0 := bc0_ wc BK130.out
      have hcz14_1 := bc1_ wc BK130.out
      have hcz14_2 := bc2_ wc BK130.out
      have hcz14_3 := bc3_ wc BK130.out
      have hcz14_4 := bc4_ wc BK130.out
      have hcz14_5 := bc5_ wc BK130.out
      have hfz14_0 := blk_frozen BK130.out 0
      have hfz14_1 := blk_frozen BK130.out 1
      have hfz14_2 := blk_frozen BK130.out 2
      have hfz14_3 := blk_frozen BK130.out 3
      have hfz14_4 := blk_frozen BK130.out 4
      have hfz14_5 := blk_frozen BK130.out 5
      go_wp2
      refine bodyPost_ret (results_ct rfl _ _ gb130 36 #[.string (⟨#[]⟩ : ByteArray), .int .i64 0, .int .i64 0, .int .i64 0, .int .i64 0, .int .i64 0] (0, 0) _ rfl (z9_) Tryz.underlying36 rfl (z11_)) rfl ?_
      exact ⟨z6_, z21_⟩
     ·replace c13 := Bool.eq_false_iff.mpr c13
      subst c13
      rw [if_neg (show ¬ (false = true) by decide)] at H
      by_cases c15 : 0 < (t131.length : Int)
      ·rw [if_pos c15] at H
       have c15b0 := decide_eq_true c15
       have c15b1 : decide (0 < t131.length) = true := decide_eq_true (by omega)
       clear c15
       by_cases c16 : 0 < (t135.length : Int)
       ·rw [if_pos c16] at H
        have c16b0 := decide_eq_true c16
        have c16b1 : decide (0 < t135.length) = true := decide_eq_true (by omega)
        clear c16
        by_cases c17 : 1 < (t135.length : Int)
        ·rw [if_pos c17] at H
         have c17b0 := decide_eq_true c17
         have c17b1 : decide (1 < t135.length) = true := decide_eq_true (by omega)
         clear c17
         by_cases c18 : 2 < (t135.length : Int)
         ·rw [if_pos c18] at H
          have c18b0 := decide_eq_true c18
          have c18b1 : decide (2 < t135.length) = true := decide_eq_true (by omega)
          clear c18
          by_cases c19 : 3 < (t135.length : Int)
          ·rw [if_pos c19] at H
           have c19b0 := decide_eq_true c19
           have c19b1 : decide (3 < t135.length) = true := decide_eq_true (by omega)
           clear c19
           by_cases c20 : 4 < (t135.length : Int)
           ·rw [if_pos c20] at H
            have c20b0 := decide_eq_true c20
            have c20b1 : decide (4 < t135.length) = true := decide_eq_true (by omega)
            clear c20
            replace H := Option.bind_eq_some_iff.mp H
            obtain ⟨t146, A210, H⟩ := H
            have A21 := Aside0.mk A210
            clear A210
            by_cases c22 : t146 = true
            ·subst c22
             rw [if_pos rfl] at H
             simp only [Option.some.injEq, Prod.mk.injEq] at H
             obtain ⟨rfl, rfl, rfl, rfl, rfl, rfl, rfl⟩ := H
             try go_wp2
             have n0_ := Aside0.mk (Kd.R_drew HO_4.out)
             have n1_ := Aside0.mk (Kd.R_drew HO_5.out)
             have n2_ := Aside0.mk (blk_drew BK130.out)
             have n3_ := Aside0.mk (below_drew1 HB.out)
             clear HO_4
             clear HO_5
             clear BK130
             clear HB
             have HO_4 := n0_
             have HO_5 := n1_
             have BK130 := n2_
             have HB := n3_
             clear n0_ n1_ n2_ n3_
             have p139 : 0 ≤ (0 : Int) := (by omega)
             have q139 : 0 < (t131.length : Int) := of_decide_eq_true (z2_)
             obtain ⟨ad139, e139, hx139_0⟩ := Kd.at_string (Kd.R_reads' HO_4.out).2.2 0 p139 q139
             obtain rfl : ad134 = ad139 := (by injection e139)
             have qi139 : (0 < t131.length) = True := eq_true (by omega)
             (try rw [show ((0 : Int)).toNat = 0 from rfl] at hx139_0)
             (try rw [Addr.add_zero'] at hx139_0)
             replace p139 := eq_true p139
             replace q139 := eq_true q139
             obtain ⟨Ao24, co24, eo24⟩ := Kd.R_slice HO_5.out
             (first | subst eo24 | (injection eo24 with f1_ f2_ f3_; have f4_ := f1_.symm; have f5_ := f3_.symm; clear f1_ f2_ f3_; subst f4_; subst f5_))
             have p140 : 0 ≤ (0 : Int) := (by omega)
             have q140 : 0 < (t135.length : Int) := of_decide_eq_true (z2_)
             obtain ⟨ad140, e140, hx140_0⟩ := Kd.at_int (Kd.R_reads' HO_5.out).2.2 0 p140 q140
             cases e140
             have qi140 : (0 < t135.length) = True := eq_true (by omega)
             (try rw [show ((0 : Int)).toNat = 0 from rfl] at hx140_0)
             (try rw [Addr.add_zero'] at hx140_0)
             replace p140 := eq_true p140
             replace q140 := eq_true q140
             have p141 : 0 ≤ (1 : Int) := (by omega)
             have q141 : 1 < (t135.length : Int) := of_decide_eq_true (z2_)
             obtain ⟨ad141, e141, hx141_0⟩ := Kd.at_int (Kd.R_reads' HO_5.out).2.2 1 p141 q141
             obtain rfl : ad140 = ad141 := (by injection e141)
             (try simp only [show (1 : Int).toNat = 1 from rfl, Nat.reduceMul, Nat.reduceEqDiff, Go.Addr.add, ↓reduceIte] at hx141_0)
             have qi141 : (1 < t135.length) = True := eq_true (by omega)
             (try rw [show ((1 : Int)).toNat = 1 from rfl] at hx141_0)
             replace p141 := eq_true p141
             replace q141 := eq_true q141
             have p142 : 0 ≤ (2 : Int) := (by omega)
             have q142 : 2 < (t135.length : Int) := of_decide_eq_true (z2_)
             obtain ⟨ad142, e142, hx142_0⟩ := Kd.at_int (Kd.R_reads' HO_5.out).2.2 2 p142 q142
             obtain rfl : ad140 = ad142 := (by injection e142)
             (try simp only [show (2 : Int).toNat = 2 from rfl, Nat.reduceMul, Nat.reduceEqDiff, Go.Addr.add, ↓reduceIte] at hx142_0)
             have qi142 : (2 < t135.length) = True := eq_true (by omega)
             (try rw [show ((2 : Int)).toNat = 2 from rfl] at hx142_0)
             replace p142 := eq_true p142
             replace q142 := eq_true q142
             have p143 : 0 ≤ (3 : Int) := (by omega)
             have q143 : 3 < (t135.length : Int) := of_decide_eq_true (z2_)
             obtain ⟨ad143, e143, hx143_0⟩ := Kd.at_int (Kd.R_reads' HO_5.out).2.2 3 p143 q143
             obtain rfl : ad140 = ad143 := (by injection e143)
             (try simp only [show (3 : Int).toNat = 3 from rfl, Nat.reduceMul, Nat.reduceEqDiff, Go.Addr.add, ↓reduceIte] at hx143_0)
             have qi143 : (3 < t135.length) = True := eq_true (by omega)
             (try rw [show ((3 : Int)).toNat = 3 from rfl] at hx143_0)
             replace p143 := eq_true p143
             replace q143 := eq_true q143
             have p144 : 0 ≤ (4 : Int) := (by omega)
             have q144 : 4 < (t135.length : Int) := of_decide_eq_true (z2_)
             obtain ⟨ad144, e144, hx144_0⟩ := Kd.at_int (Kd.R_reads' HO_5.out).2.2 4 p144 q144
             obtain rfl : ad140 = ad144 := (by injection e144)
             (try simp only [show (4 : Int).toNat = 4 from rfl, Nat.reduceMul, Nat.reduceEqDiff, Go.Addr.add, ↓reduceIte] at hx144_0)
             have qi144 : (4 < t135.length) = True := eq_true (by omega)
             (try rw [show ((4 : Int)).toNat = 4 from rfl] at hx144_0)
             replace p144 := eq_true p144
             replace q144 := eq_true q144
             refine start_ (n := 21) (S := fun w' => w'.cell? ad134 = some (.string (rdOf ByteArray.empty t131 0)) ∧ w'.cell? ad140 = some (.int .i64 (rd t135 0)) ∧ w'.cell? ⟨ad140.block, ad140.off + 1, none⟩ = some (.int .i64 (rd t135 1)) ∧ w'.cell? ⟨ad140.block, ad140.off + 2, none⟩ = some (.int .i64 (rd t135 2)) ∧ w'.cell? ⟨ad140.block, ad140.off + 3, none⟩ = some (.int .i64 (rd t135 3)) ∧ w'.cell? ⟨ad140.block, ad140.off + 4, none⟩ = some (.int .i64 (rd t135 4))) (ds := []) #[J,J,J,J,J,J,J,J,J,J,J,J,J,J,J,J,J,J,J,J,J] (z11_) rfl rfl ⟨hx139_0, hx140_0, hx141_0, hx142_0, hx143_0, hx144_0⟩ (fun hHeld => ?_); refine with_tabW spec_l03Read.tab7 spec_l03Read.bits7 (fun HT_ HW_ => ?_)
             generalize wc.drew = w23 at HO_4 HO_5 BK130 HB hx139_0 hx140_0 hx141_0 hx142_0 hx143_0 hx144_0 hHeld ⊢
             refine pz_ 0 29 #[Y,J,J,J,J,J,J,J,J,J,J,J,J,J,J,J,J,J,J,J,J] HT_ ?_
             refine pz_ 1 30 #[Y,Y,J,J,J,J,J,J,J,J,J,J,J,J,J,J,J,J,J,J,J] HT_ ?_
             refine pz_ 3 32 #[Y,Y,J,Y,J,J,J,J,J,J,J,J,J,J,J,J,J,J,J,J,J] HT_ ?_
             refine pz_ 4 33 #[Y,Y,J,Y,Y,J,J,J,J,J,J,J,J,J,J,J,J,J,J,J,J] HT_ ?_
             refine pz_ 6 35 #[Y,Y,J,Y,Y,J,Y,J,J,J,J,J,J,J,J,J,J,J,J,J,J] HT_ ?_
             refine pz_ 7 36 #[Y,Y,J,Y,Y,J,Y,Y,J,J,J,J,J,J,J,J,J,J,J,J,J] HT_ ?_
             refine pz_ 9 38 #[Y,Y,J,Y,Y,J,Y,Y,J,Y,J,J,J,J,J,J,J,J,J,J,J] HT_ ?_
             refine pz_ 10 39 #[Y,Y,J,Y,Y,J,Y,Y,J,Y,Y,J,J,J,J,J,J,J,J,J,J] HT_ ?_
             refine pz_ 12 41 #[Y,Y,J,Y,Y,J,Y,Y,J,Y,Y,J,Y,J,J,J,J,J,J,J,J] HT_ ?_
             refine pz_ 13 42 #[Y,Y,J,Y,Y,J,Y,Y,J,Y,Y,J,Y,Y,J,J,J,J,J,J,J] HT_ ?_
             refine pz_ 15 44 #[Y,Y,J,Y,Y,J,Y,Y,J,Y,Y,J,Y,Y,J,Y,J,J,J,J,J] HT_ ?_
             refine pz_ 16 45 #[Y,Y,J,Y,Y,J,Y,Y,J,Y,Y,J,Y,Y,J,Y,Y,J,J,J,J] HT_ ?_
             refine take_ (i := 2) (N := some 31) (v := ?_) (a' := ?_) #[Y,Y,Y,Y,Y,J,Y,Y,J,Y,Y,J,Y,Y,J,Y,Y,J,J,J,J] rfl rfl (take_ofW HT_.out HW_.out (z11_)) (fun _ _ _ h => h) (Or.inl ⟨by rfl, ?_⟩) hHeld ?_ ?_; rotate_left
             ·rintro w' ⟨s0, s1, s2, s3, s4, s5⟩; go_simp; with_reducible rfl
             rotate_left
             ·simp only [pU,pN,sB,sZ,sS,i64_w,i32_w]; rfl
             refine take_ (i := 5) (N := some 34) (v := ?_) (a' := ?_) #[Y,Y,Y,Y,Y,Y,Y,Y,J,Y,Y,J,Y,Y,J,Y,Y,J,J,J,J] rfl rfl (take_ofW HT_.out HW_.out (z11_)) (fun _ _ _ h => h) (Or.inl ⟨by rfl, ?_⟩) hHeld ?_ ?_; rotate_left
             ·rintro w' ⟨s0, s1, s2, s3, s4, s5⟩; go_simp; with_reducible rfl
             rotate_left
             ·simp only [pU,pN,sB,sZ,sS,i64_w,i32_w]; rfl
             refine take_ (i := 8) (N := some 37) (v := ?_) (a' := ?_) #[Y,Y,Y,Y,Y,Y,Y,Y,Y,Y,Y,J,Y,Y,J,Y,Y,J,J,J,J] rfl rfl (take_ofW HT_.out HW_.out (z11_)) (fun _ _ _ h => h) (Or.inl ⟨by rfl, ?_⟩) hHeld ?_ ?_; rotate_left
             ·rintro w' ⟨s0, s1, s2, s3, s4, s5⟩; go_simp; with_reducible rfl
             rotate_left
             ·simp only [pU,pN,sB,sZ,sS,i64_w,i32_w]; rfl
             refine take_ (i := 11) (N := some 40) (v := ?_) (a' := ?_) #[Y,Y,Y,Y,Y,Y,Y,Y,Y,Y,Y,Y,Y,Y,J,Y,Y,J,J,J,J] rfl rfl (take_ofW HT_.out HW_.out (z11_)) (fun _ _ _ h => h) (Or.inl ⟨by rfl, ?_⟩) hHeld ?_ ?_; rotate_left
             ·rintro w' ⟨s0, s1, s2, s3, s4, s5⟩; go_simp; with_reducible rfl
             rotate_left
             ·simp only [pU,pN,sB,sZ,sS,i64_w,i32_w]; rfl
             refine take_ (i := 14) (N := some 43) (v := ?_) (a' := ?_) #[Y,Y,Y,Y,Y,Y,Y,Y,Y,Y,Y,Y,Y,Y,Y,Y,Y,J,J,J,J] rfl rfl (take_ofW HT_.out HW_.out (z11_)) (fun _ _ _ h => h) (Or.inl ⟨by rfl, ?_⟩) hHeld ?_ ?_; rotate_left
             ·rintro w' ⟨s0, s1, s2, s3, s4, s5⟩; go_simp; with_reducible rfl
             rotate_left
             ·simp only [pU,pN,sB,sZ,sS,i64_w,i32_w]; rfl
             refine take_ (i := 17) (N := some 46) (v := ?_) (a' := ?_) #[Y,Y,Y,Y,Y,Y,Y,Y,Y,Y,Y,Y,Y,Y,Y,Y,Y,Y,J,J,J] rfl rfl (take_ofW HT_.out HW_.out (z11_)) (fun _ _ _ h => h) (Or.inl ⟨by rfl, ?_⟩) hHeld ?_ ?_; rotate_left
             ·rintro w' ⟨s0, s1, s2, s3, s4, s5⟩; go_simp; with_reducible rfl
             rotate_left
             ·simp only [pU,pN,sB,sZ,sS,i64_w,i32_w]; rfl
             refine pz_ 18 47 #[Y,Y,Y,Y,Y,Y,Y,Y,Y,Y,Y,Y,Y,Y,Y,Y,Y,Y,Y,J,J] HT_ ?_
             refine one_ (i := 19) (N := some 7) #[Y,Y,Y,Y,Y,Y,Y,Y,Y,Y,Y,Y,Y,Y,Y,Y,Y,Y,Y,Y,J] rfl rfl (one_of HT_.out (z11_)) (by decide) (fun K hK => ?_)
             refine box_step ?hg (N := 7) ?hd (cs := #[.string (⟨#[]⟩ : ByteArray), .int .i64 0, .int .i64 0, .int .i64 0, .int .i64 0, .int .i64 0]) (t := 36) ?hr ?_; (case hd => rfl); (case hg => rfl); (case hr => first | (go_simp; done) | (go_simp; rfl))
             intro gb145 hg w25 hbox hb
             have HS0_ := (hb.cell (World.block_lt_of_cell? _ _ (hHeld.1))).trans (hHeld.1)
             have HS1_ := (hb.cell (World.block_lt_of_cell? _ _ (hHeld.2.1))).trans (hHeld.2.1)
             have HS2_ := (hb.cell (World.block_lt_of_cell? _ _ (hHeld.2.2.1))).trans (hHeld.2.2.1)
             have HS3_ := (hb.cell (World.block_lt_of_cell? _ _ (hHeld.2.2.2.1))).trans (hHeld.2.2.2.1)
             have HS4_ := (hb.cell (World.block_lt_of_cell? _ _ (hHeld.2.2.2.2.1))).trans (hHeld.2.2.2.2.1)
             have HS5_ := (hb.cell (World.block_lt_of_cell? _ _ (hHeld.2.2.2.2.2))).trans (hHeld.2.2.2.2.2)
             have n0_ := Aside0.mk (Kd.R_below (z35_) hb)
             have n1_ := Aside0.mk (Kd.R_below (z97_) hb)
             have n2_ := Aside0.mk (blk_below (g := gb130) (o := .cells #[.string (⟨#[]⟩ : ByteArray), .int .i64 0, .int .i64 0, .int .i64 0, .int .i64 0, .int .i64 0] 36 (0, 0)) (z53_) hb)
             have n3_ := Aside0.mk (below_step (z21_) hb)
             have n4_ := Aside0.mk (hbox)
             have n5_ := Aside0.mk ((z102_ : w.heap.size ≤ gb145))
             have n6_ := Aside0.mk ((z102_ : w.heap.size ≤ gb145))
             have n7_ := Aside0.mk ((z108_ : gb130 ≠ gb145))
             have n8_ := Aside0.mk ((z109_ : gb145 ≠ gb130))
             clear HO_4
             clear HO_5
             clear BK130
             clear HB
             have HO_4 := n0_
             have HO_5 := n1_
             have BK130 := n2_
             have HB := n3_
             have BK145 := n4_
             have GW145 := n5_
             have GE145 := n6_
             have NB130_145 := n7_
             have NB145_130 := n8_
             clear n0_ n1_ n2_ n3_ n4_ n5_ n6_ n7_ n8_
             clear hb hbox hg
             refine hK.out _ _ ⟨HS0_, HS1_, HS2_, HS3_, HS4_, HS5_⟩ (fun hHeld => ?_)
             clear hK K
             refine norm_ (a' := ?_) ?_ ?_
             rotate_left
             ·show Act.put _ (some 7) _ = _
              simp only [pU,pN,sB,sZ,sS,i64_w,i32_w]
              rfl
             refine one_ (i := 20) (N := none) #[Y,Y,Y,Y,Y,Y,Y,Y,Y,Y,Y,Y,Y,Y,Y,Y,Y,Y,Y,Y,Y] rfl rfl (one_of HT_.out (z11_)) (by decide) (fun K hK => ?_)
             have hs26 := bc0_ w25 BK145.out
             have hfs26 := blk_frozen BK145.out 0
             have hns26_0 := NB130_145.out
             have hms26_0 := NB145_130.out
             have hs27 := bc1_ w25 BK145.out
             have hfs27 := blk_frozen BK145.out 1
             have hns27_0 := NB130_145.out
             have hms27_0 := NB145_130.out
             have hs28 := bc2_ w25 BK145.out
             have hfs28 := blk_frozen BK145.out 2
             have hns28_0 := NB130_145.out
             have hms28_0 := NB145_130.out
             have hs29 := bc3_ w25 BK145.out
             have hfs29 := blk_frozen BK145.out 3
             have hns29_0 := NB130_145.out
             have hms29_0 := NB145_130.out
             have hs30 := bc4_ w25 BK145.out
             have hfs30 := blk_frozen BK145.out 4
             have hns30_0 := NB130_145.out
             have hms30_0 := NB145_130.out
             have hs31 := bc5_ w25 BK145.out
             have hfs31 := blk_frozen BK145.out 5
             have hns31_0 := NB130_145.out
             have hms31_0 := NB145_130.out
             refine skip_ (w1 := ?_) (by rfl) rfl ?_ ?_
             rotate_left
             ·go_simp
              rfl
             refine hK.out _ _ ⟨?_, ?_, ?_, ?_, ?_, ?_⟩ (fun hHeld => ?_)
             ·have e0_ := Kd.own_blk (Kd.R_ne HO_4.out BK145.out (by decide))
              refine Eq.trans (cell_far (p := ⟨gb145, 5, none⟩) (z3_) _) ?_
              refine Eq.trans (cell_far (p := ⟨gb145, 4, none⟩) (z3_) _) ?_
              refine Eq.trans (cell_far (p := ⟨gb145, 3, none⟩) (z3_) _) ?_
              refine Eq.trans (cell_far (p := ⟨gb145, 2, none⟩) (z3_) _) ?_
              refine Eq.trans (cell_far (p := ⟨gb145, 1, none⟩) (z3_) _) ?_
              refine Eq.trans (cell_far (p := ⟨gb145, 0, none⟩) (z3_) _) ?_
              exact hHeld.1
             ·have e0_ := Kd.own_blk (Kd.R_ne HO_5.out BK145.out (by decide))
              refine Eq.trans (cell_far (p := ⟨gb145, 5, none⟩) (z3_) _) ?_
              refine Eq.trans (cell_far (p := ⟨gb145, 4, none⟩) (z3_) _) ?_
              refine Eq.trans (cell_far (p := ⟨gb145, 3, none⟩) (z3_) _) ?_
              refine Eq.trans (cell_far (p := ⟨gb145, 2, none⟩) (z3_) _) ?_
              refine Eq.trans (cell_far (p := ⟨gb145, 1, none⟩) (z3_) _) ?_
              refine Eq.trans (cell_far (p := ⟨gb145, 0, none⟩) (z3_) _) ?_
              exact hHeld.2.1
             ·have e0_ := Kd.own_blk (Kd.R_ne HO_5.out BK145.out (by decide))
              refine Eq.trans (cell_far (p := ⟨gb145, 5, none⟩) (z3_) _) ?_
              refine Eq.trans (cell_far (p := ⟨gb145, 4, none⟩) (z3_) _) ?_
              refine Eq.trans (cell_far (p := ⟨gb145, 3, none⟩) (z3_) _) ?_
              refine Eq.trans (cell_far (p := ⟨gb145, 2, none⟩) (z3_) _) ?_
              refine Eq.trans (cell_far (p := ⟨gb145, 1, none⟩) (z3_) _) ?_
              refine Eq.trans (cell_far (p := ⟨gb145, 0, none⟩) (z3_) _) ?_
              exact hHeld.2.2.1
             ·have e0_ := Kd.own_blk (Kd.R_ne HO_5.out BK145.out (by decide))
              refine Eq.trans (cell_far (p := ⟨gb145, 5, none⟩) (z3_) _) ?_
              refine Eq.trans (cell_far (p := ⟨gb145, 4, none⟩) (z3_) _) ?_
              refine Eq.trans (cell_far (p := ⟨gb145, 3, none⟩) (z3_) _) ?_
              refine Eq.trans (cell_far (p := ⟨gb145, 2, none⟩) (z3_) _) ?_
              refine Eq.trans (cell_far (p := ⟨gb145, 1, none⟩) (z3_) _) ?_
              refine Eq.trans (cell_far (p := ⟨gb145, 0, none⟩) (z3_) _) ?_
              exact hHeld.2.2.2.1
             ·have e0_ := Kd.own_blk (Kd.R_ne HO_5.out BK145.out (by decide))
              refine Eq.trans (cell_far (p := ⟨gb145, 5, none⟩) (z3_) _) ?_
              refine Eq.trans (cell_far (p := ⟨gb145, 4, none⟩) (z3_) _) ?_
              refine Eq.trans (cell_far (p := ⟨gb145, 3, none⟩) (z3_) _) ?_
              refine Eq.trans (cell_far (p := ⟨gb145, 2, none⟩) (z3_) _) ?_
              refine Eq.trans (cell_far (p := ⟨gb145, 1, none⟩) (z3_) _) ?_
              refine Eq.trans (cell_far (p := ⟨gb145, 0, none⟩) (z3_) _) ?_
              exact hHeld.2.2.2.2.1
             ·have e0_ := Kd.own_blk (Kd.R_ne HO_5.out BK145.out (by decide))
              refine Eq.trans (cell_far (p := ⟨gb145, 5, none⟩) (z3_) _) ?_
              refine Eq.trans (cell_far (p := ⟨gb145, 4, none⟩) (z3_) _) ?_
              refine Eq.trans (cell_far (p := ⟨gb145, 3, none⟩) (z3_) _) ?_
              refine Eq.trans (cell_far (p := ⟨gb145, 2, none⟩) (z3_) _) ?_
              refine Eq.trans (cell_far (p := ⟨gb145, 1, none⟩) (z3_) _) ?_
              refine Eq.trans (cell_far (p := ⟨gb145, 0, none⟩) (z3_) _) ?_
              exact hHeld.2.2.2.2.2
             clear hK K
             refine done_ (done_of HT_.out (z11_)) ?_
             try clear hHeld
             have nA_ : Aside0 (((((((w25.setCell ⟨gb145, 0, none⟩ (.string (rdOf ByteArray.empty t131 0))).setCell ⟨gb145, 1, none⟩ (.int .i64 (rd t135 0))).setCell ⟨gb145, 2, none⟩ (.int .i64 (rd t135 1))).setCell ⟨gb145, 3, none⟩ (.int .i64 (rd t135 2))).setCell ⟨gb145, 4, none⟩ (.int .i64 (rd t135 3))).setCell ⟨gb145, 5, none⟩ (.int .i64 (rd t135 4))).heap[gb145]? = some (.cells #[.string (rdOf ByteArray.empty t131 0), .int .i64 (rd t135 0), .int .i64 (rd t135 1), .int .i64 (rd t135 2), .int .i64 (rd t135 3), .int .i64 (rd t135 4)] 36 (0, 0))) := ⟨z25_⟩
             have nB_ : Aside0 (((((((w25.setCell ⟨gb145, 0, none⟩ (.string (rdOf ByteArray.empty t131 0))).setCell ⟨gb145, 1, none⟩ (.int .i64 (rd t135 0))).setCell ⟨gb145, 2, none⟩ (.int .i64 (rd t135 1))).setCell ⟨gb145, 3, none⟩ (.int .i64 (rd t135 2))).setCell ⟨gb145, 4, none⟩ (.int .i64 (rd t135 3))).setCell ⟨gb145, 5, none⟩ (.int .i64 (rd t135 4))).heap[gb130]? = some (.cells #[.string (⟨#[]⟩ : ByteArray), .int .i64 0, .int .i64 0, .int .i64 0, .int .i64 0, .int .i64 0] 36 (0, 0))) := ⟨z125_⟩
             have nC_ : Aside0 (Below w.heap.size w ((((((w25.setCell ⟨gb145, 0, none⟩ (.string (rdOf ByteArray.empty t131 0))).setCell ⟨gb145, 1, none⟩ (.int .i64 (rd t135 0))).setCell ⟨gb145, 2, none⟩ (.int .i64 (rd t135 1))).setCell ⟨gb145, 3, none⟩ (.int .i64 (rd t135 2))).setCell ⟨gb145, 4, none⟩ (.int .i64 (rd t135 3))).setCell ⟨gb145, 5, none⟩ (.int .i64 (rd t135 4)))) := ⟨z142_⟩
             generalize ((((((w25.setCell ⟨gb145, 0, none⟩ (.string (rdOf ByteArray.empty t131 0))).setCell ⟨gb145, 1, none⟩ (.int .i64 (rd t135 0))).setCell ⟨gb145, 2, none⟩ (.int .i64 (rd t135 1))).setCell ⟨gb145, 3, none⟩ (.int .i64 (rd t135 2))).setCell ⟨gb145, 4, none⟩ (.int .i64 (rd t135 3))).setCell ⟨gb145, 5, none⟩ (.int .i64 (rd t135 4))) = wz484 at nA_ nB_ nC_ ⊢
             clear BK145 BK130 HB
             have BK145 := nA_
             have BK130 := nB_
             have HB := nC_
             clear nA_ nB_ nC_
             try go_wp2_with (first | ((with_reducible refine gate_callee (f := 35) rfl ?_); refine goesL_ (some 48) rfl rfl Tryz.func35 (z11_) rfl #[.pointer (some ⟨gb145, 0, none⟩)] rfl (z1_) ?_; (with_reducible refine (spec_l03Ok.calls ⟨gb145, 0, none⟩ (rdOf ByteArray.empty t131 0) (rd t135 0) (rd t135 1) (rd t135 2) (rd t135 3) (rd t135 4) true _ ?side1 ?side2 ?side3 ?side4 ?side5 ?side6 A21.out).mono ?_); (case side1 => exact (blk_cell (z165_) 0).trans rfl); (case side2 => exact (blk_cell (z165_) 1).trans rfl); (case side3 => exact (blk_cell (z165_) 2).trans rfl); (case side4 => exact (blk_cell (z165_) 3).trans rfl); (case side5 => exact (blk_cell (z165_) 4).trans rfl); (case side6 => exact (blk_cell (z165_) 5).trans rfl); rintro e w' ⟨rfl, ⟨nd, rfl⟩⟩; refine ⟨_, rfl, ?_⟩; have hnb32 := NB145_130.out; have hnc32 := NB130_145.out; have hcz33_0 := bc0_ wz484 BK145.out; have hcz33_1 := bc1_ wz484 BK145.out; have hcz33_2 := bc2_ wz484 BK145.out; have hcz33_3 := bc3_ wz484 BK145.out; have hcz33_4 := bc4_ wz484 BK145.out; have hcz33_5 := bc5_ wz484 BK145.out; have hfz33_0 := blk_frozen BK145.out 0; have hfz33_1 := blk_frozen BK145.out 1; have hfz33_2 := blk_frozen BK145.out 2; have hfz33_3 := blk_frozen BK145.out 3; have hfz33_4 := blk_frozen BK145.out 4; have hfz33_5 := blk_frozen BK145.out 5; have hcz34_0 := bc0_ wz484 BK130.out; have hcz34_1 := bc1_ wz484 BK130.out; have hcz34_2 := bc2_ wz484 BK130.out; have hcz34_3 := bc3_ wz484 BK130.out; have hcz34_4 := bc4_ wz484 BK130.out; have hcz34_5 := bc5_ wz484 BK130.out; have hfz34_0 := blk_frozen BK130.out 0; have hfz34_1 := blk_frozen BK130.out 1; have hfz34_2 := blk_frozen BK130.out 2; have hfz34_3 := blk_frozen BK130.out 3; have hfz34_4 := blk_frozen BK130.out 4; have hfz34_5 := blk_frozen BK130.out 5))
             refine bodyPost_ret (results_ct rfl _ _ gb130 36 #[.string (rdOf ByteArray.empty t131 0), .int .i64 (rd t135 0), .int .i64 (rd t135 1), .int .i64 (rd t135 2), .int .i64 (rd t135 3), .int .i64 (rd t135 4)] (0, 0) _ rfl (by (with_reducible repeat (first | refine bN ?_ _|refine bW ?_|refine bA ?_ _)); refine blk_put (cs := #[.string (rdOf ByteArray.empty t131 0), .int .i64 (rd t135 0), .int .i64 (rd t135 1), .int .i64 (rd t135 2), .int .i64 (rd t135 3), .int .i64 0]) ?_ 5 _ rfl; (with_reducible repeat (first | refine bN ?_ _|refine bW ?_|refine bA ?_ _)); refine blk_put (cs := #[.string (rdOf ByteArray.empty t131 0), .int .i64 (rd t135 0), .int .i64 (rd t135 1), .int .i64 (rd t135 2), .int .i64 0, .int .i64 0]) ?_ 4 _ rfl; (with_reducible repeat (first | refine bN ?_ _|refine bW ?_|refine bA ?_ _)); refine blk_put (cs := #[.string (rdOf ByteArray.empty t131 0), .int .i64 (rd t135 0), .int .i64 (rd t135 1), .int .i64 0, .int .i64 0, .int .i64 0]) ?_ 3 _ rfl; (with_reducible repeat (first | refine bN ?_ _|refine bW ?_|refine bA ?_ _)); refine blk_put (cs := #[.string (rdOf ByteArray.empty t131 0), .int .i64 (rd t135 0), .int .i64 0, .int .i64 0, .int .i64 0, .int .i64 0]) ?_ 2 _ rfl; (with_reducible repeat (first | refine bN ?_ _|refine bW ?_|refine bA ?_ _)); refine blk_put (cs := #[.string (rdOf ByteArray.empty t131 0), .int .i64 0, .int .i64 0, .int .i64 0, .int .i64 0, .int .i64 0]) ?_ 1 _ rfl; (with_reducible repeat (first | refine bN ?_ _|refine bW ?_|refine bA ?_ _)); refine blk_put (cs := #[.string (⟨#[]⟩ : ByteArray), .int .i64 0, .int .i64 0, .int .i64 0, .int .i64 0, .int .i64 0]) ?_ 0 _ rfl; (with_reducible repeat (first | refine bN ?_ _|refine bW ?_|refine bA ?_ _)); exact BK130.out) Tryz.underlying36 rfl (z11_)) rfl ?_
             exact ⟨z6_, z148_⟩
            ·replace c22 := Bool.eq_false_iff.mpr c22
             subst c22
             rw [if_neg (show ¬ (false = true) by decide)] at H
             simp only [Option.some.injEq, Prod.mk.injEq] at H
             obtain ⟨rfl, rfl, rfl, rfl, rfl, rfl, rfl⟩ := H
             try go_wp2
             have n0_ := Aside0.mk (Kd.R_drew HO_4.out)
             have n1_ := Aside0.mk (Kd.R_drew HO_5.out)
             have n2_ := Aside0.mk (blk_drew BK130.out)
             have n3_ := Aside0.mk (below_drew1 HB.out)
             clear HO_4
             clear HO_5
             clear BK130
             clear HB
             have HO_4 := n0_
             have HO_5 := n1_
             have BK130 := n2_
             have HB := n3_
             clear n0_ n1_ n2_ n3_
             have p139 : 0 ≤ (0 : Int) := (by omega)
             have q139 : 0 < (t131.length : Int) := of_decide_eq_true (z2_)
             obtain ⟨ad139, e139, hx139_0⟩ := Kd.at_string (Kd.R_reads' HO_4.out).2.2 0 p139 q139
             obtain rfl : ad134 = ad139 := (by injection e139)
             have qi139 : (0 < t131.length) = True := eq_true (by omega)
             (try rw [show ((0 : Int)).toNat = 0 from rfl] at hx139_0)
             (try rw [Addr.add_zero'] at hx139_0)
             replace p139 := eq_true p139
             replace q139 := eq_true q139
             obtain ⟨Ao36, co36, eo36⟩ := Kd.R_slice HO_5.out
             (first | subst eo36 | (injection eo36 with f1_ f2_ f3_; have f4_ := f1_.symm; have f5_ := f3_.symm; clear f1_ f2_ f3_; subst f4_; subst f5_))
             have p140 : 0 ≤ (0 : Int) := (by omega)
             have q140 : 0 < (t135.length : Int) := of_decide_eq_true (z2_)
             obtain ⟨ad140, e140, hx140_0⟩ := Kd.at_int (Kd.R_reads' HO_5.out).2.2 0 p140 q140
             cases e140
             have qi140 : (0 < t135.length) = True := eq_true (by omega)
             (try rw [show ((0 : Int)).toNat = 0 from rfl] at hx140_0)
             (try rw [Addr.add_zero'] at hx140_0)
             replace p140 := eq_true p140
             replace q140 := eq_true q140
             have p141 : 0 ≤ (1 : Int) := (by omega)
             have q141 : 1 < (t135.length : Int) := of_decide_eq_true (z2_)
             obtain ⟨ad141, e141, hx141_0⟩ := Kd.at_int (Kd.R_reads' HO_5.out).2.2 1 p141 q141
             obtain rfl : ad140 = ad141 := (by injection e141)
             (try simp only [show (1 : Int).toNat = 1 from rfl, Nat.reduceMul, Nat.reduceEqDiff, Go.Addr.add, ↓reduceIte] at hx141_0)
             have qi141 : (1 < t135.length) = True := eq_true (by omega)
             (try rw [show ((1 : Int)).toNat = 1 from rfl] at hx141_0)
             replace p141 := eq_true p141
             replace q141 := eq_true q141
             have p142 : 0 ≤ (2 : Int) := (by omega)
             have q142 : 2 < (t135.length : Int) := of_decide_eq_true (z2_)
             obtain ⟨ad142, e142, hx142_0⟩ := Kd.at_int (Kd.R_reads' HO_5.out).2.2 2 p142 q142
             obtain rfl : ad140 = ad142 := (by injection e142)
             (try simp only [show (2 : Int).toNat = 2 from rfl, Nat.reduceMul, Nat.reduceEqDiff, Go.Addr.add, ↓reduceIte] at hx142_0)
             have qi142 : (2 < t135.length) = True := eq_true (by omega)
             (try rw [show ((2 : Int)).toNat = 2 from rfl] at hx142_0)
             replace p142 := eq_true p142
             replace q142 := eq_true q142
             have p143 : 0 ≤ (3 : Int) := (by omega)
             have q143 : 3 < (t135.length : Int) := of_decide_eq_true (z2_)
             obtain ⟨ad143, e143, hx143_0⟩ := Kd.at_int (Kd.R_reads' HO_5.out).2.2 3 p143 q143
             obtain rfl : ad140 = ad143 := (by injection e143)
             (try simp only [show (3 : Int).toNat = 3 from rfl, Nat.reduceMul, Nat.reduceEqDiff, Go.Addr.add, ↓reduceIte] at hx143_0)
             have qi143 : (3 < t135.length) = True := eq_true (by omega)
             (try rw [show ((3 : Int)).toNat = 3 from rfl] at hx143_0)
             replace p143 := eq_true p143
             replace q143 := eq_true q143
             have p144 : 0 ≤ (4 : Int) := (by omega)
             have q144 : 4 < (t135.length : Int) := of_decide_eq_true (z2_)
             obtain ⟨ad144, e144, hx144_0⟩ := Kd.at_int (Kd.R_reads' HO_5.out).2.2 4 p144 q144
             obtain rfl : ad140 = ad144 := (by injection e144)
             (try simp only [show (4 : Int).toNat = 4 from rfl, Nat.reduceMul, Nat.reduceEqDiff, Go.Addr.add, ↓reduceIte] at hx144_0)
             have qi144 : (4 < t135.length) = True := eq_true (by omega)
             (try rw [show ((4 : Int)).toNat = 4 from rfl] at hx144_0)
             replace p144 := eq_true p144
             replace q144 := eq_true q144
             refine start_ (n := 21) (S := fun w' => w'.cell? ad134 = some (.string (rdOf ByteArray.empty t131 0)) ∧ w'.cell? ad140 = some (.int .i64 (rd t135 0)) ∧ w'.cell? ⟨ad140.block, ad140.off + 1, none⟩ = some (.int .i64 (rd t135 1)) ∧ w'.cell? ⟨ad140.block, ad140.off + 2, none⟩ = some (.int .i64 (rd t135 2)) ∧ w'.cell? ⟨ad140.block, ad140.off + 3, none⟩ = some (.int .i64 (rd t135 3)) ∧ w'.cell? ⟨ad140.block, ad140.off + 4, none⟩ = some (.int .i64 (rd t135 4))) (ds := []) #[J,J,J,J,J,J,J,J,J,J,J,J,J,J,J,J,J,J,J,J,J] (z11_) rfl rfl ⟨hx139_0, hx140_0, hx141_0, hx142_0, hx143_0, hx144_0⟩ (fun hHeld => ?_); refine with_tabW spec_l03Read.tab7 spec_l03Read.bits7 (fun HT_ HW_ => ?_)
             generalize wc.drew = w35 at HO_4 HO_5 BK130 HB hx139_0 hx140_0 hx141_0 hx142_0 hx143_0 hx144_0 hHeld ⊢
             refine pz_ 0 29 #[Y,J,J,J,J,J,J,J,J,J,J,J,J,J,J,J,J,J,J,J,J] HT_ ?_
             refine pz_ 1 30 #[Y,Y,J,J,J,J,J,J,J,J,J,J,J,J,J,J,J,J,J,J,J] HT_ ?_
             refine pz_ 3 32 #[Y,Y,J,Y,J,J,J,J,J,J,J,J,J,J,J,J,J,J,J,J,J] HT_ ?_
             refine pz_ 4 33 #[Y,Y,J,Y,Y,J,J,J,J,J,J,J,J,J,J,J,J,J,J,J,J] HT_ ?_
             refine pz_ 6 35 #[Y,Y,J,Y,Y,J,Y,J,J,J,J,J,J,J,J,J,J,J,J,J,J] HT_ ?_
             refine pz_ 7 36 #[Y,Y,J,Y,Y,J,Y,Y,J,J,J,J,J,J,J,J,J,J,J,J,J] HT_ ?_
             refine pz_ 9 38 #[Y,Y,J,Y,Y,J,Y,Y,J,Y,J,J,J,J,J,J,J,J,J,J,J] HT_ ?_
             refine pz_ 10 39 #[Y,Y,J,Y,Y,J,Y,Y,J,Y,Y,J,J,J,J,J,J,J,J,J,J] HT_ ?_
             refine pz_ 12 41 #[Y,Y,J,Y,Y,J,Y,Y,J,Y,Y,J,Y,J,J,J,J,J,J,J,J] HT_ ?_
             refine pz_ 13 42 #[Y,Y,J,Y,Y,J,Y,Y,J,Y,Y,J,Y,Y,J,J,J,J,J,J,J] HT_ ?_
             refine pz_ 15 44 #[Y,Y,J,Y,Y,J,Y,Y,J,Y,Y,J,Y,Y,J,Y,J,J,J,J,J] HT_ ?_
             refine pz_ 16 45 #[Y,Y,J,Y,Y,J,Y,Y,J,Y,Y,J,Y,Y,J,Y,Y,J,J,J,J] HT_ ?_
             refine take_ (i := 2) (N := some 31) (v := ?_) (a' := ?_) #[Y,Y,Y,Y,Y,J,Y,Y,J,Y,Y,J,Y,Y,J,Y,Y,J,J,J,J] rfl rfl (take_ofW HT_.out HW_.out (z11_)) (fun _ _ _ h => h) (Or.inl ⟨by rfl, ?_⟩) hHeld ?_ ?_; rotate_left
             ·rintro w' ⟨s0, s1, s2, s3, s4, s5⟩; go_simp; with_reducible rfl
             rotate_left
             ·simp only [pU,pN,sB,sZ,sS,i64_w,i32_w]; rfl
             refine take_ (i := 5) (N := some 34) (v := ?_) (a' := ?_) #[Y,Y,Y,Y,Y,Y,Y,Y,J,Y,Y,J,Y,Y,J,Y,Y,J,J,J,J] rfl rfl (take_ofW HT_.out HW_.out (z11_)) (fun _ _ _ h => h) (Or.inl ⟨by rfl, ?_⟩) hHeld ?_ ?_; rotate_left
             ·rintro w' ⟨s0, s1, s2, s3, s4, s5⟩; go_simp; with_reducible rfl
             rotate_left
             ·simp only [pU,pN,sB,sZ,sS,i64_w,i32_w]; rfl
             refine take_ (i := 8) (N := some 37) (v := ?_) (a' := ?_) #[Y,Y,Y,Y,Y,Y,Y,Y,Y,Y,Y,J,Y,Y,J,Y,Y,J,J,J,J] rfl rfl (take_ofW HT_.out HW_.out (z11_)) (fun _ _ _ h => h) (Or.inl ⟨by rfl, ?_⟩) hHeld ?_ ?_; rotate_left
             ·rintro w' ⟨s0, s1, s2, s3, s4, s5⟩; go_simp; with_reducible rfl
             rotate_left
             ·simp only [pU,pN,sB,sZ,sS,i64_w,i32_w]; rfl
             refine take_ (i := 11) (N := some 40) (v := ?_) (a' := ?_) #[Y,Y,Y,Y,Y,Y,Y,Y,Y,Y,Y,Y,Y,Y,J,Y,Y,J,J,J,J] rfl rfl (take_ofW HT_.out HW_.out (z11_)) (fun _ _ _ h => h) (Or.inl ⟨by rfl, ?_⟩) hHeld ?_ ?_; rotate_left
             ·rintro w' ⟨s0, s1, s2, s3, s4, s5⟩; go_simp; with_reducible rfl
             rotate_left
             ·simp only [pU,pN,sB,sZ,sS,i64_w,i32_w]; rfl
             refine take_ (i := 14) (N := some 43) (v := ?_) (a' := ?_) #[Y,Y,Y,Y,Y,Y,Y,Y,Y,Y,Y,Y,Y,Y,Y,Y,Y,J,J,J,J] rfl rfl (take_ofW HT_.out HW_.out (z11_)) (fun _ _ _ h => h) (Or.inl ⟨by rfl, ?_⟩) hHeld ?_ ?_; rotate_left
             ·rintro w' ⟨s0, s1, s2, s3, s4, s5⟩; go_simp; with_reducible rfl
             rotate_left
             ·simp only [pU,pN,sB,sZ,sS,i64_w,i32_w]; rfl
             refine take_ (i := 17) (N := some 46) (v := ?_) (a' := ?_) #[Y,Y,Y,Y,Y,Y,Y,Y,Y,Y,Y,Y,Y,Y,Y,Y,Y,Y,J,J,J] rfl rfl (take_ofW HT_.out HW_.out (z11_)) (fun _ _ _ h => h) (Or.inl ⟨by rfl, ?_⟩) hHeld ?_ ?_; rotate_left
             ·rintro w' ⟨s0, s1, s2, s3, s4, s5⟩; go_simp; with_reducible rfl
             rotate_left
             ·simp only [pU,pN,sB,sZ,sS,i64_w,i32_w]; rfl
             refine pz_ 18 47 #[Y,Y,Y,Y,Y,Y,Y,Y,Y,Y,Y,Y,Y,Y,Y,Y,Y,Y,Y,J,J] HT_ ?_
             refine one_ (i := 19) (N := some 7) #[Y,Y,Y,Y,Y,Y,Y,Y,Y,Y,Y,Y,Y,Y,Y,Y,Y,Y,Y,Y,J] rfl rfl (one_of HT_.out (z11_)) (by decide) (fun K hK => ?_)
             refine box_step ?hg (N := 7) ?hd (cs := #[.string (⟨#[]⟩ : ByteArray), .int .i64 0, .int .i64 0, .int .i64 0, .int .i64 0, .int .i64 0]) (t := 36) ?hr ?_; (case hd => rfl); (case hg => rfl); (case hr => first | (go_simp; done) | (go_simp; rfl))
             intro gb145 hg w37 hbox hb
             have HS0_ := (hb.cell (World.block_lt_of_cell? _ _ (hHeld.1))).trans (hHeld.1)
             have HS1_ := (hb.cell (World.block_lt_of_cell? _ _ (hHeld.2.1))).trans (hHeld.2.1)
             have HS2_ := (hb.cell (World.block_lt_of_cell? _ _ (hHeld.2.2.1))).trans (hHeld.2.2.1)
             have HS3_ := (hb.cell (World.block_lt_of_cell? _ _ (hHeld.2.2.2.1))).trans (hHeld.2.2.2.1)
             have HS4_ := (hb.cell (World.block_lt_of_cell? _ _ (hHeld.2.2.2.2.1))).trans (hHeld.2.2.2.2.1)
             have HS5_ := (hb.cell (World.block_lt_of_cell? _ _ (hHeld.2.2.2.2.2))).trans (hHeld.2.2.2.2.2)
             have n0_ := Aside0.mk (Kd.R_below (z35_) hb)
             have n1_ := Aside0.mk (Kd.R_below (z97_) hb)
             have n2_ := Aside0.mk (blk_below (g := gb130) (o := .cells #[.string (⟨#[]⟩ : ByteArray), .int .i64 0, .int .i64 0, .int .i64 0, .int .i64 0, .int .i64 0] 36 (0, 0)) (z53_) hb)
             have n3_ := Aside0.mk (below_step (z21_) hb)
             have n4_ := Aside0.mk (hbox)
             have n5_ := Aside0.mk ((z102_ : w.heap.size ≤ gb145))
             have n6_ := Aside0.mk ((z102_ : w.heap.size ≤ gb145))
             have n7_ := Aside0.mk ((z108_ : gb130 ≠ gb145))
             have n8_ := Aside0.mk ((z109_ : gb145 ≠ gb130))
             clear HO_4
             clear HO_5
             clear BK130
             clear HB
             have HO_4 := n0_
             have HO_5 := n1_
             have BK130 := n2_
             have HB := n3_
             have BK145 := n4_
             have GW145 := n5_
             have GE145 := n6_
             have NB130_145 := n7_
             have NB145_130 := n8_
             clear n0_ n1_ n2_ n3_ n4_ n5_ n6_ n7_ n8_
             clear hb hbox hg
             refine hK.out _ _ ⟨HS0_, HS1_, HS2_, HS3_, HS4_, HS5_⟩ (fun hHeld => ?_)
             clear hK K
             refine norm_ (a' := ?_) ?_ ?_
             rotate_left
             ·show Act.put _ (some 7) _ = _
              simp only [pU,pN,sB,sZ,sS,i64_w,i32_w]
              rfl
             refine one_ (i := 20) (N := none) #[Y,Y,Y,Y,Y,Y,Y,Y,Y,Y,Y,Y,Y,Y,Y,Y,Y,Y,Y,Y,Y] rfl rfl (one_of HT_.out (z11_)) (by decide) (fun K hK => ?_)
             have hs38 := bc0_ w37 BK145.out
             have hfs38 := blk_frozen BK145.out 0
             have hns38_0 := NB130_145.out
             have hms38_0 := NB145_130.out
             have hs39 := bc1_ w37 BK145.out
             have hfs39 := blk_frozen BK145.out 1
             have hns39_0 := NB130_145.out
             have hms39_0 := NB145_130.out
             have hs40 := bc2_ w37 BK145.out
             have hfs40 := blk_frozen BK145.out 2
             have hns40_0 := NB130_145.out
             have hms40_0 := NB145_130.out
             have hs41 := bc3_ w37 BK145.out
             have hfs41 := blk_frozen BK145.out 3
             have hns41_0 := NB130_145.out
             have hms41_0 := NB145_130.out
             have hs42 := bc4_ w37 BK145.out
             have hfs42 := blk_frozen BK145.out 4
             have hns42_0 := NB130_145.out
             have hms42_0 := NB145_130.out
             have hs43 := bc5_ w37 BK145.out
             have hfs43 := blk_frozen BK145.out 5
             have hns43_0 := NB130_145.out
             have hms43_0 := NB145_130.out
             refine skip_ (w1 := ?_) (by rfl) rfl ?_ ?_
             rotate_left
             ·go_simp
              rfl
             refine hK.out _ _ ⟨?_, ?_, ?_, ?_, ?_, ?_⟩ (fun hHeld => ?_)
             ·have e0_ := Kd.own_blk (Kd.R_ne HO_4.out BK145.out (by decide))
              refine Eq.trans (cell_far (p := ⟨gb145, 5, none⟩) (z3_) _) ?_
              refine Eq.trans (cell_far (p := ⟨gb145, 4, none⟩) (z3_) _) ?_
              refine Eq.trans (cell_far (p := ⟨gb145, 3, none⟩) (z3_) _) ?_
              refine Eq.trans (cell_far (p := ⟨gb145, 2, none⟩) (z3_) _) ?_
              refine Eq.trans (cell_far (p := ⟨gb145, 1, none⟩) (z3_) _) ?_
              refine Eq.trans (cell_far (p := ⟨gb145, 0, none⟩) (z3_) _) ?_
              exact hHeld.1
             ·have e0_ := Kd.own_blk (Kd.R_ne HO_5.out BK145.out (by decide))
              refine Eq.trans (cell_far (p := ⟨gb145, 5, none⟩) (z3_) _) ?_
              refine Eq.trans (cell_far (p := ⟨gb145, 4, none⟩) (z3_) _) ?_
              refine Eq.trans (cell_far (p := ⟨gb145, 3, none⟩) (z3_) _) ?_
              refine Eq.trans (cell_far (p := ⟨gb145, 2, none⟩) (z3_) _) ?_
              refine Eq.trans (cell_far (p := ⟨gb145, 1, none⟩) (z3_) _) ?_
              refine Eq.trans (cell_far (p := ⟨gb145, 0, none⟩) (z3_) _) ?_
              exact hHeld.2.1
             ·have e0_ := Kd.own_blk (Kd.R_ne HO_5.out BK145.out (by decide))
              refine Eq.trans (cell_far (p := ⟨gb145, 5, none⟩) (z3_) _) ?_
              refine Eq.trans (cell_far (p := ⟨gb145, 4, none⟩) (z3_) _) ?_
              refine Eq.trans (cell_far (p := ⟨gb145, 3, none⟩) (z3_) _) ?_
              refine Eq.trans (cell_far (p := ⟨gb145, 2, none⟩) (z3_) _) ?_
              refine Eq.trans (cell_far (p := ⟨gb145, 1, none⟩) (z3_) _) ?_
              refine Eq.trans (cell_far (p := ⟨gb145, 0, none⟩) (z3_) _) ?_
              exact hHeld.2.2.1
             ·have e0_ := Kd.own_blk (Kd.R_ne HO_5.out BK145.out (by decide))
              refine Eq.trans (cell_far (p := ⟨gb145, 5, none⟩) (z3_) _) ?_
              refine Eq.trans (cell_far (p := ⟨gb145, 4, none⟩) (z3_) _) ?_
              refine Eq.trans (cell_far (p := ⟨gb145, 3, none⟩) (z3_) _) ?_
              refine Eq.trans (cell_far (p := ⟨gb145, 2, none⟩) (z3_) _) ?_
              refine Eq.trans (cell_far (p := ⟨gb145, 1, none⟩) (z3_) _) ?_
              refine Eq.trans (cell_far (p := ⟨gb145, 0, none⟩) (z3_) _) ?_
              exact hHeld.2.2.2.1
             ·have e0_ := Kd.own_blk (Kd.R_ne HO_5.out BK145.out (by decide))
              refine Eq.trans (cell_far (p := ⟨gb145, 5, none⟩) (z3_) _) ?_
              refine Eq.trans (cell_far (p := ⟨gb145, 4, none⟩) (z3_) _) ?_
              refine Eq.trans (cell_far (p := ⟨gb145, 3, none⟩) (z3_) _) ?_
              refine Eq.trans (cell_far (p := ⟨gb145, 2, none⟩) (z3_) _) ?_
              refine Eq.trans (cell_far (p := ⟨gb145, 1, none⟩) (z3_) _) ?_
              refine Eq.trans (cell_far (p := ⟨gb145, 0, none⟩) (z3_) _) ?_
              exact hHeld.2.2.2.2.1
             ·have e0_ := Kd.own_blk (Kd.R_ne HO_5.out BK145.out (by decide))
              refine Eq.trans (cell_far (p := ⟨gb145, 5, none⟩) (z3_) _) ?_
              refine Eq.trans (cell_far (p := ⟨gb145, 4, none⟩) (z3_) _) ?_
              refine Eq.trans (cell_far (p := ⟨gb145, 3, none⟩) (z3_) _) ?_
              refine Eq.trans (cell_far (p := ⟨gb145, 2, none⟩) (z3_) _) ?_
              refine Eq.trans (cell_far (p := ⟨gb145, 1, none⟩) (z3_) _) ?_
              refine Eq.trans (cell_far (p := ⟨gb145, 0, none⟩) (z3_) _) ?_
              exact hHeld.2.2.2.2.2
             clear hK K
             refine done_ (done_of HT_.out (z11_)) ?_
             try clear hHeld
             have nA_ : Aside0 (((((((w37.setCell ⟨gb145, 0, none⟩ (.string (rdOf ByteArray.empty t131 0))).setCell ⟨gb145, 1, none⟩ (.int .i64 (rd t135 0))).setCell ⟨gb145, 2, none⟩ (.int .i64 (rd t135 1))).setCell ⟨gb145, 3, none⟩ (.int .i64 (rd t135 2))).setCell ⟨gb145, 4, none⟩ (.int .i64 (rd t135 3))).setCell ⟨gb145, 5, none⟩ (.int .i64 (rd t135 4))).heap[gb145]? = some (.cells #[.string (rdOf ByteArray.empty t131 0), .int .i64 (rd t135 0), .int .i64 (rd t135 1), .int .i64 (rd t135 2), .int .i64 (rd t135 3), .int .i64 (rd t135 4)] 36 (0, 0))) := ⟨z25_⟩
             have nB_ : Aside0 (((((((w37.setCell ⟨gb145, 0, none⟩ (.string (rdOf ByteArray.empty t131 0))).setCell ⟨gb145, 1, none⟩ (.int .i64 (rd t135 0))).setCell ⟨gb145, 2, none⟩ (.int .i64 (rd t135 1))).setCell ⟨gb145, 3, none⟩ (.int .i64 (rd t135 2))).setCell ⟨gb145, 4, none⟩ (.int .i64 (rd t135 3))).setCell ⟨gb145, 5, none⟩ (.int .i64 (rd t135 4))).heap[gb130]? = some (.cells #[.string (⟨#[]⟩ : ByteArray), .int .i64 0, .int .i64 0, .int .i64 0, .int .i64 0, .int .i64 0] 36 (0, 0))) := ⟨z125_⟩
             have nC_ : Aside0 (Below w.heap.size w ((((((w37.setCell ⟨gb145, 0, none⟩ (.string (rdOf ByteArray.empty t131 0))).setCell ⟨gb145, 1, none⟩ (.int .i64 (rd t135 0))).setCell ⟨gb145, 2, none⟩ (.int .i64 (rd t135 1))).setCell ⟨gb145, 3, none⟩ (.int .i64 (rd t135 2))).setCell ⟨gb145, 4, none⟩ (.int .i64 (rd t135 3))).setCell ⟨gb145, 5, none⟩ (.int .i64 (rd t135 4)))) := ⟨z142_⟩
             generalize ((((((w37.setCell ⟨gb145, 0, none⟩ (.string (rdOf ByteArray.empty t131 0))).setCell ⟨gb145, 1, none⟩ (.int .i64 (rd t135 0))).setCell ⟨gb145, 2, none⟩ (.int .i64 (rd t135 1))).setCell ⟨gb145, 3, none⟩ (.int .i64 (rd t135 2))).setCell ⟨gb145, 4, none⟩ (.int .i64 (rd t135 3))).setCell ⟨gb145, 5, none⟩ (.int .i64 (rd t135 4))) = wz763 at nA_ nB_ nC_ ⊢
             clear BK145 BK130 HB
             have BK145 := nA_
             have BK130 := nB_
             have HB := nC_
             clear nA_ nB_ nC_
             try go_wp2_with (first | ((with_reducible refine gate_callee (f := 35) rfl ?_); refine goesL_ (some 48) rfl rfl Tryz.func35 (z11_) rfl #[.pointer (some ⟨gb145, 0, none⟩)] rfl (z1_) ?_; (with_reducible refine (spec_l03Ok.calls ⟨gb145, 0, none⟩ (rdOf ByteArray.empty t131 0) (rd t135 0) (rd t135 1) (rd t135 2) (rd t135 3) (rd t135 4) false _ ?side1 ?side2 ?side3 ?side4 ?side5 ?side6 A21.out).mono ?_); (case side1 => exact (blk_cell (z165_) 0).trans rfl); (case side2 => exact (blk_cell (z165_) 1).trans rfl); (case side3 => exact (blk_cell (z165_) 2).trans rfl); (case side4 => exact (blk_cell (z165_) 3).trans rfl); (case side5 => exact (blk_cell (z165_) 4).trans rfl); (case side6 => exact (blk_cell (z165_) 5).trans rfl); rintro e w' ⟨rfl, ⟨nd, rfl⟩⟩; refine ⟨_, rfl, ?_⟩; have hnb44 := NB130_145.out; have hnc44 := NB145_130.out; have hcz45_0 := bc0_ wz763 BK130.out; have hcz45_1 := bc1_ wz763 BK130.out; have hcz45_2 := bc2_ wz763 BK130.out; have hcz45_3 := bc3_ wz763 BK130.out; have hcz45_4 := bc4_ wz763 BK130.out; have hcz45_5 := bc5_ wz763 BK130.out; have hfz45_0 := blk_frozen BK130.out 0; have hfz45_1 := blk_frozen BK130.out 1; have hfz45_2 := blk_frozen BK130.out 2; have hfz45_3 := blk_frozen BK130.out 3; have hfz45_4 := blk_frozen BK130.out 4; have hfz45_5 := blk_frozen BK130.out 5))
             refine bodyPost_ret (results_ct rfl _ _ gb130 36 #[.string (⟨#[]⟩ : ByteArray), .int .i64 0, .int .i64 0, .int .i64 0, .int .i64 0, .int .i64 0] (0, 0) _ rfl (z9_) Tryz.underlying36 rfl (z11_)) rfl ?_
             exact ⟨z6_, z148_⟩
           ·rw [if_neg c20] at H
            exact absurd H (by simp)
          ·rw [if_neg c19] at H
           exact absurd H (by simp)
         ·rw [if_neg c18] at H
          exact absurd H (by simp)
        ·rw [if_neg c17] at H
         exact absurd H (by simp)
       ·rw [if_neg c16] at H
        exact absurd H (by simp)
      ·rw [if_neg c15] at H
       exact absurd H (by simp)
  ·rw [if_neg c4] at H
   exact absurd H (by simp)
 ·rw [if_neg c3] at H
  have c3b0 : ((t131.length : Int) == 2) = false := beq_eq_false_iff_ne.mpr c3
  have c3b1 : ((t131.length : Int) != 2) = true := bne_iff_ne.mpr c3
  simp only [Option.some.injEq, Prod.mk.injEq] at H
  obtain ⟨rfl, rfl, rfl, rfl, rfl, rfl, rfl⟩ := H
  go_enter Tryz.func22, Tryz.ntmps22
  go_wp2_with (first | ((with_reducible refine gate_dst (N := 2) rfl ?_); (try (refine gate_guard (by rfl) ?_; dsimp only)); refine box_event ?hg (N := 2) ?hd (cs := #[.string (⟨#[]⟩ : ByteArray), .int .i64 0, .int .i64 0, .int .i64 0, .int .i64 0, .int .i64 0]) (t := 36) ?hr ?_; (case hd => rfl); (case hg => rfl); (case hr => first | (go_simp; done) | (go_simp; rfl)); intro gb130 hg w46 hbox hb; have n0_ := Aside0.mk (below_step (z0_) hb); have n1_ := Aside0.mk (hbox); have n2_ := Aside0.mk ((z4_ : w.heap.size ≤ gb130)); have n3_ := Aside0.mk ((z4_ : w.heap.size ≤ gb130)); clear HB; have HB := n0_; have BK130 := n1_; have GW130 := n2_; have GE130 := n3_; clear n0_ n1_ n2_ n3_; clear hb hbox hg) | ((with_reducible refine gate_callee (f := 20) rfl ?_); refine goesL_ (some 9) rfl rfl Tryz.func20 (z11_) rfl #[.string a0, .int .u8 32] rfl (z1_) ?_; (with_reducible refine (spec_l01Split.calls k a0 32 t131 _ A2.out).mono ?_); rintro e w47 ⟨v132, rfl, ho0, hb⟩; refine ⟨_, rfl, ?_⟩; have n0_ := Aside0.mk (Kd.R_lower ho0 (below_size (z21_))); have n1_ := Aside0.mk (blk_below (g := gb130) (o := .cells #[.string (⟨#[]⟩ : ByteArray), .int .i64 0, .int .i64 0, .int .i64 0, .int .i64 0, .int .i64 0] 36 (0, 0)) (z53_) hb); have n2_ := Aside0.mk (below_step (z21_) hb); clear BK130; clear HB; have HO133 := n0_; have BK130 := n1_; have HB := n2_; clear n0_ n1_ n2_; (try clear hb); (try clear hb2); (try clear hk); (try clear hi); (try clear ho0); obtain ⟨Ao48, co48, eo48⟩ := Kd.R_slice HO133.out; subst eo48; have hcz49_0 := bc0_ w47 BK130.out; have hcz49_1 := bc1_ w47 BK130.out; have hcz49_2 := bc2_ w47 BK130.out; have hcz49_3 := bc3_ w47 BK130.out; have hcz49_4 := bc4_ w47 BK130.out; have hcz49_5 := bc5_ w47 BK130.out; have hfz49_0 := blk_frozen BK130.out 0; have hfz49_1 := blk_frozen BK130.out 1; have hfz49_2 := blk_frozen BK130.out 2; have hfz49_3 := blk_frozen BK130.out 3; have hfz49_4 := blk_frozen BK130.out 4; have hfz49_5 := blk_frozen BK130.out 5))
  refine bodyPost_ret (results_ct rfl _ _ gb130 36 #[.string (⟨#[]⟩ : ByteArray), .int .i64 0, .int .i64 0, .int .i64 0, .int .i64 0, .int .i64 0] (0, 0) _ rfl (z9_) Tryz.underlying36 rfl (z11_)) rfl ?_
  exact ⟨z6_, z21_⟩


/-! ### spec_l04Fits: function 36 -/
open Go.Proofs.YtabgkdejpkpejaaGreatDoorM
/-- Whether a pipe fits in a network of so many nodes. -/
def fitsOk (n : Nat) (p : S36) : Bool := pipeOk p.f0 p.f1 p.f2 p.f3 p.f4 p.f5 && (decide (p.f1 < (n : Int)) && decide (p.f2 < (n : Int)))
set_option maxHeartbeats 4000000 in
set_option maxRecDepth 100000 in
theorem l04Fits_core (b o : Nat) (q : Addr) (s : ByteArray) (f t l d x : Int) (N : Option Addr) (n cn : Nat) (W : World) (b1 b2 b3 : Bool)
    (H1 : Aside0 (∀ V : World, Below W.heap.size W V → Calls Tryz.prog 35 #[.pointer (some q)] V fun e w' => e = .returned (.bool b1) ∧ Drawn0 V w')) (h2 : decide (f < (n : Int)) = b2) (h3 : decide (t < (n : Int)) = b3)
    (cN : W.cell? ⟨b, o, none⟩ = some (.slice N n cn)) (c1 : W.cell? ⟨q.block, q.off + 1, none⟩ = some (.int .i64 f)) (c2 : W.cell? ⟨q.block, q.off + 2, none⟩ = some (.int .i64 t)) :
    Calls Tryz.prog 36 #[.pointer (some ⟨b, o, none⟩), .pointer (some q)] W fun e w' => e = .returned (.bool (b1 && (b2 && b3))) ∧ Drawn0 W w' := by
  cases b1
  · go_enter Tryz.func36, Tryz.ntmps36
    go_wp2_with fail
    go_quiet ((go_at_call 35; refine Calls.quiet_of (v := .bool false) ?_; (with_reducible refine (H1.out _ (z140_)).mono ?_); exact fun e w' hd => ⟨hd.1, hd.2.out⟩))
    go_wp2
    go_ret
    exact ⟨z159_, z8_⟩
  cases b2
  · go_enter Tryz.func36, Tryz.ntmps36
    go_wp2_with fail
    go_quiet ((go_at_call 35; refine Calls.quiet_of (v := .bool true) ?_; (with_reducible refine (H1.out _ (z140_)).mono ?_); exact fun e w' hd => ⟨hd.1, hd.2.out⟩))
    go_wp2
    go_ret
    exact ⟨z159_, z8_⟩
  · go_enter Tryz.func36, Tryz.ntmps36
    go_wp2_with fail
    go_quiet ((go_at_call 35; refine Calls.quiet_of (v := .bool true) ?_; (with_reducible refine (H1.out _ (z140_)).mono ?_); exact fun e w' hd => ⟨hd.1, hd.2.out⟩))
    go_wp2
    go_ret
    exact ⟨z159_, z8_⟩
theorem l04Fits_any (b o : Nat) (q : Addr) (p : S36) (N : Option Addr) (n cn : Nat) (W : World) (hs : p.f0.size ≤ 9000000000000000000) (cN : W.cell? ⟨b, o, none⟩ = some (.slice N n cn))
    (c0 : W.cell? q = some (.string p.f0)) (c1 : W.cell? ⟨q.block, q.off + 1, none⟩ = some (.int .i64 p.f1)) (c2 : W.cell? ⟨q.block, q.off + 2, none⟩ = some (.int .i64 p.f2)) (c3 : W.cell? ⟨q.block, q.off + 3, none⟩ = some (.int .i64 p.f3)) (c4 : W.cell? ⟨q.block, q.off + 4, none⟩ = some (.int .i64 p.f4)) (c5 : W.cell? ⟨q.block, q.off + 5, none⟩ = some (.int .i64 p.f5)) :
    Calls Tryz.prog 36 #[.pointer (some ⟨b, o, none⟩), .pointer (some q)] W fun e w' => e = .returned (.bool (fitsOk n p)) ∧ Drawn0 W w' :=
  l04Fits_core b o q p.f0 p.f1 p.f2 p.f3 p.f4 p.f5 N n cn W _ _ _ ⟨fun V hb => l03Ok_addr q p.f0 p.f1 p.f2 p.f3 p.f4 p.f5 V hs (pw_cell_below hb c0) (pw_cell_below hb c1) (pw_cell_below hb c2) (pw_cell_below hb c3) (pw_cell_below hb c4) (pw_cell_below hb c5)⟩ rfl rfl cN c1 c2
def spec_l04Fits.f (l0_0 : List Int) (l0_1 : List S36) (a1_0 : ByteArray) (a1_1 a1_2 a1_3 a1_4 a1_5 : Int) : Option Bool := if a1_0.size ≤ 9000000000000000000 then some (fitsOk l0_0.length ⟨a1_0, a1_1, a1_2, a1_3, a1_4, a1_5⟩) else none
theorem spec_l04Fits.calls (gr0 : Nat) (A0_0 : Option Addr) (c0_0 : Nat) (l0_0 : List Int) (A0_1 : Option Addr) (c0_1 : Nat) (l0_1 : List S36) (gr1 : Addr) (a1_0 : ByteArray) (a1_1 a1_2 a1_3 a1_4 a1_5 : Int) (r : Bool) (w : World) (hb0 : w.heap[gr0]? = some (.cells #[.slice A0_0 l0_0.length c0_0, .slice A0_1 l0_1.length c0_1] 25 (0, 0))) (hr0_0 : Kd.C (Kd.int .i64) w A0_0 l0_0.length l0_0) (hc0_0 : l0_0.length ≤ c0_0) (hr0_1 : Kd.C k36 w A0_1 l0_1.length l0_1) (hc0_1 : l0_1.length ≤ c0_1) (c0 : w.cell? gr1 = some (.string a1_0)) (c1 : w.cell? ⟨gr1.block, gr1.off + 1, none⟩ = some (.int .i64 a1_1)) (c2 : w.cell? ⟨gr1.block, gr1.off + 2, none⟩ = some (.int .i64 a1_2)) (c3 : w.cell? ⟨gr1.block, gr1.off + 3, none⟩ = some (.int .i64 a1_3)) (c4 : w.cell? ⟨gr1.block, gr1.off + 4, none⟩ = some (.int .i64 a1_4)) (c5 : w.cell? ⟨gr1.block, gr1.off + 5, none⟩ = some (.int .i64 a1_5)) (h : spec_l04Fits.f l0_0 l0_1 a1_0 a1_1 a1_2 a1_3 a1_4 a1_5 = some r) :
    Calls Tryz.prog 36 #[.pointer (some ⟨gr0, 0, none⟩), .pointer (some gr1)] w fun e w' => e = .returned (.bool r) ∧ Drawn0 w w' := by
  unfold spec_l04Fits.f at h
  split at h
  · rename_i hs
    obtain rfl := Option.some.inj h
    exact l04Fits_any gr0 0 gr1 ⟨a1_0, a1_1, a1_2, a1_3, a1_4, a1_5⟩ A0_0 l0_0.length c0_0 w hs ((blk_cell hb0 0).trans rfl) c0 c1 c2 c3 c4 c5
  · exact absurd h (by simp)

end Go.Proofs.YtabgkdejpkpejaaGreatDoor.PFnExactReadNetwork
