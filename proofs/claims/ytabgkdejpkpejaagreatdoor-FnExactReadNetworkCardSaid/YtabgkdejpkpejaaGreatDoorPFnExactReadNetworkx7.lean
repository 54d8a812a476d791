-- Printed by a program of this session (wip/hprint.sh: the kit's print with hand-proved contracts put in); not by print.sh itself.
import Derived.Test.YtabgkdejpkpejaaGreatDoorPFnExactReadNetworkx0
import Derived.Test.YtabgkdejpkpejaaGreatDoorPFnExactReadNetworkx5
import Derived.Test.YtabgkdejpkpejaaGreatDoorPFnExactReadNetworkx6
namespace Go.Proofs.YtabgkdejpkpejaaGreatDoor.PFnExactReadNetwork
open Go.RowKit Go.Proofs.YtabgkdejpkpejaaGreatDoorW.PrintWords Go.Proofs.YtabgkdejpkpejaaGreatDoorW.PrintLast Go.Proofs.YtabgkdejpkpejaaGreatDoorW.PrintMore Go.Proofs.YtabgkdejpkpejaaGreatDoorM
attribute [local go_sem] max2_int min2_int max_two min_two max_three min_three max_four min_four   -- for this text's walks alone
set_option linter.unusedVariables false
set_option linter.unusedSimpArgs false

/-! ### impl_ReadPipe: function 12 -/
def impl_ReadPipe.f (k : Nat) (a0 : ByteArray) : Option (ByteArray × Int × Int × Int × Int × Int × Bool) := (impl_readWithId.f k a0 5).bind fun bt238 => (if 0 < (bt238.2.1.length : Int) then (if 1 < (bt238.2.1.length : Int) then (if 2 < (bt238.2.1.length : Int) then (if 3 < (bt238.2.1.length : Int) then (if 4 < (bt238.2.1.length : Int) then (if bt238.2.2 = true then ((impl_PipeText.f k bt238.1 (rd bt238.2.1 0) (rd bt238.2.1 1) (rd bt238.2.1 2) (rd bt238.2.1 3) (rd bt238.2.1 4)).bind fun t249 => (if t249.toList = a0.toList then (some (bt238.1, rd bt238.2.1 0, rd bt238.2.1 1, rd bt238.2.1 2, rd bt238.2.1 3, rd bt238.2.1 4, true)) else (some ((⟨#[]⟩ : ByteArray), 0, 0, 0, 0, 0, false)))) else (some ((⟨#[]⟩ : ByteArray), 0, 0, 0, 0, 0, false))) else (none)) else (none)) else (none)) else (none)) else (none))
theorem impl_ReadPipe.mono : ∀ a0 k, LeO (impl_ReadPipe.f k a0) (impl_ReadPipe.f (k + 1) a0) := by
 intro a0 k
 unfold impl_ReadPipe.f
 repeat' first|(with_reducible first|exact impl_PipeText.mono _ _ _ _ _ _ _|exact impl_readWithId.mono _ _ _|exact LeO.refl _|exact LeO.none _|refine LeO.ite ?_ ?_|refine LeO.bind ?_ (fun _ => ?_))|exact impl_PipeText.mono _ _ _ _ _ _ _|exact impl_readWithId.mono _ _ _|exact LeO.none _|refine LeO.ite ?_ ?_|refine LeO.bind ?_ (fun _ => ?_)
def impl_ReadPipe.T2 : Bool × List (List Nat × List Nat) := (true, [([], []), ([], []), ([1], [1]), ([2], [2]), ([], []), ([4], [4]), ([5], [5]), ([], []), ([7], [7]), ([8], [8]), ([], []), ([10], [10]), ([11], [11]), ([], []), ([13], [13]), ([14], [14]), ([0, 3, 6, 9, 12, 15], [0, 3, 6, 9, 12, 15]), ([], []), ([17, 16, 0, 1, 2, 3, 4, 5, 6, 7, 8, 9, 10, 11, 12, 13, 14, 15, 16, 17], [16, 17])])
def impl_ReadPipe.B2 : List Nat := [0, 0, 2, 6, 0, 16, 48, 0, 128, 384, 0, 1024, 3072, 0, 8192, 24576, 65535, 0, 262143]
theorem impl_ReadPipe.tab2 : rtab .any (opsOf Tryz.f12 2) = impl_ReadPipe.T2 := by kernel_rfl
theorem impl_ReadPipe.bits2 : waitsOk impl_ReadPipe.T2.2 impl_ReadPipe.B2 = true := by kernel_rfl
set_option maxHeartbeats 8000000 in
set_option maxRecDepth 100000 in
theorem impl_ReadPipe.calls (k : Nat) (a0 : ByteArray) (r1 : ByteArray) (r2 : Int) (r3 : Int) (r4 : Int) (r5 : Int) (r6 : Int) (r7 : Bool) (w : World) (ht : Tabs true true true w) (h : impl_ReadPipe.f k a0 = some (r1, r2, r3, r4, r5, r6, r7)) :
  Calls Tryz.prog 12 #[.string a0] w fun e w' => e = .returned (.tuple #[.agg #[.string r1, .int .i64 r2, .int .i64 r3, .int .i64 r4, .int .i64 r5, .int .i64 r6], .bool r7]) ∧ Below w.heap.size w w' := by
 have HT := Aside0.mk ht
 clear ht
 have hu36 := Tryz.underlying36
 have HB := Aside0.mk (Below.refl w.heap.size w)
 have H : ((impl_readWithId.f k a0 5).bind fun bt238 => (if 0 < (bt238.2.1.length : Int) then (if 1 < (bt238.2.1.length : Int) then (if 2 < (bt238.2.1.length : Int) then (if 3 < (bt238.2.1.length : Int) then (if 4 < (bt238.2.1.length : Int) then (if bt238.2.2 = true then ((impl_PipeText.f k bt238.1 (rd bt238.2.1 0) (rd bt238.2.1 1) (rd bt238.2.1 2) (rd bt238.2.1 3) (rd bt238.2.1 4)).bind fun t249 => (if t249.toList = a0.toList then (some (bt238.1, rd bt238.2.1 0, rd bt238.2.1 1, rd bt238.2.1 2, rd bt238.2.1 3, rd bt238.2.1 4, true)) else (some ((⟨#[]⟩ : ByteArray), 0, 0, 0, 0, 0, false)))) else (some ((⟨#[]⟩ : ByteArray), 0, 0, 0, 0, 0, false))) else (none)) else (none)) else (none)) else (none)) else (none))) = some (r1, r2, r3, r4, r5, r6, r7) := h
 clear h
 replace H := Option.bind_eq_some_iff.mp H
 obtain ⟨⟨t238, t239, t240⟩, A20, H⟩ := H
 replace H : (if 0 < (t239.length : Int) then (if 1 < (t239.length : Int) then (if 2 < (t239.length : Int) then (if 3 < (t239.length : Int) then (if 4 < (t239.length : Int) then (if t240 = true then ((impl_PipeText.f k t238 (rd t239 0) (rd t239 1) (rd t239 2) (rd t239 3) (rd t239 4)).bind fun t249 => (if t249.toList = a0.toList then (some (t238, rd t239 0, rd t239 1, rd t239 2, rd t239 3, rd t239 4, true)) else (some ((⟨#[]⟩ : ByteArray), 0, 0, 0, 0, 0, false)))) else (some ((⟨#[]⟩ : ByteArray), 0, 0, 0, 0, 0, false))) else (none)) else (none)) else (none)) else (none)) else (none)) = some (r1, r2, r3, r4, r5, r6, r7) := H
 have A2 := Aside0.mk A20
 clear A20
 by_cases c3 : 0 < (t239.length : Int)
 ·rw [if_pos c3] at H
  have c3b0 := decide_eq_true c3
  have c3b1 : decide (0 < t239.length) = true := decide_eq_true (by omega)
  clear c3
  by_cases c4 : 1 < (t239.length : Int)
  ·rw [if_pos c4] at H
   have c4b0 := decide_eq_true c4
   have c4b1 : decide (1 < t239.length) = true := decide_eq_true (by omega)
   clear c4
   by_cases c5 : 2 < (t239.length : Int)
   ·rw [if_pos c5] at H
    have c5b0 := decide_eq_true c5
    have c5b1 : decide (2 < t239.length) = true := decide_eq_true (by omega)
    clear c5
    by_cases c6 : 3 < (t239.length : Int)
    ·rw [if_pos c6] at H
     have c6b0 := decide_eq_true c6
     have c6b1 : decide (3 < t239.length) = true := decide_eq_true (by omega)
     clear c6
     by_cases c7 : 4 < (t239.length : Int)
     ·rw [if_pos c7] at H
      have c7b0 := decide_eq_true c7
      have c7b1 : decide (4 < t239.length) = true := decide_eq_true (by omega)
      clear c7
      by_cases c8 : t240 = true
      ·subst c8
       rw [if_pos rfl] at H
       replace H := Option.bind_eq_some_iff.mp H
       obtain ⟨t249, A90, H⟩ := H
       have A9 := Aside0.mk A90
       clear A90
       by_cases c10 : t249.toList = a0.toList
       ·rw [if_pos c10] at H
        have c10b0 : (t249.toList == a0.toList) = true := beq_iff_eq.mpr c10
        have c10b1 : (t249.toList != a0.toList) = false := bne_eq_false_iff_eq.mpr c10
        clear c10
        simp only [Option.some.injEq, Prod.mk.injEq] at H
        obtain ⟨rfl, rfl, rfl, rfl, rfl, rfl, rfl⟩ := H
        go_enter Tryz.func12, Tryz.ntmps12
        try go_wp2_with (first | ((with_reducible refine gate_dst (N := 2) rfl ?_); refine box_event ?hg (N := 2) ?hd (cs := #[.string (⟨#[]⟩ : ByteArray), .int .i64 0, .int .i64 0, .int .i64 0, .int .i64 0, .int .i64 0]) (t := 36) ?hr ?_; (case hd => rfl); (case hg => rfl); (case hr => first | (go_simp; done) | (go_simp; rfl)); intro gb237 hg w11 hbox hb; have n0_ := Aside0.mk (below_step (z0_) hb); have n1_ := Aside0.mk (hbox); have n2_ := Aside0.mk ((z4_ : w.heap.size ≤ gb237)); have n3_ := Aside0.mk ((z4_ : w.heap.size ≤ gb237)); clear HB; have HB := n0_; have BK237 := n1_; have GW237 := n2_; have GE237 := n3_; clear n0_ n1_ n2_ n3_; clear hb hbox hg) | ((with_reducible refine gate_callee (f := 27) rfl ?_); refine goesL_ (some 10) rfl rfl Tryz.func27 (z11_) rfl #[.string a0, .int .i64 5] rfl (z1_) ?_; (with_reducible refine (impl_readWithId.calls k a0 5 t238 t239 true _ ?sideT A2.out).mono ?_); (case sideT => exact HT.out.now (z22_)); rintro e w12 ⟨v241, rfl, ho0, hb⟩; refine ⟨_, rfl, ?_⟩; have n0_ := Aside0.mk (Kd.R_lower ho0 (below_size (z22_))); have n1_ := Aside0.mk (blk_below (g := gb237) (o := .cells #[.string (⟨#[]⟩ : ByteArray), .int .i64 0, .int .i64 0, .int .i64 0, .int .i64 0, .int .i64 0] 36 (0, 0)) (z34_) hb); have n2_ := Aside0.mk (below_step (z22_) hb); clear BK237; clear HB; have HO242 := n0_; have BK237 := n1_; have HB := n2_; clear n0_ n1_ n2_; (try clear hb); (try clear hb2); (try clear hk); (try clear hi); (try clear ho0)))
        have n0_ := Aside0.mk (Kd.R_drew HO242.out)
        have n1_ := Aside0.mk (blk_drew BK237.out)
        have n2_ := Aside0.mk (below_drew1 HB.out)
        clear HO242
        clear BK237
        clear HB
        have HO242 := n0_
        have BK237 := n1_
        have HB := n2_
        clear n0_ n1_ n2_
        obtain ⟨Ao14, co14, eo14⟩ := Kd.R_slice HO242.out
        (first | subst eo14 | (injection eo14 with f1_ f2_ f3_; have f4_ := f1_.symm; have f5_ := f3_.symm; clear f1_ f2_ f3_; subst f4_; subst f5_))
        have p243 : 0 ≤ (0 : Int) := (by omega)
        have q243 : 0 < (t239.length : Int) := of_decide_eq_true (z2_)
        obtain ⟨ad243, e243, hx243_0⟩ := Kd.at_int (Kd.R_reads' HO242.out).2.2 0 p243 q243
        cases e243
        have qi243 : (0 < t239.length) = True := eq_true (by omega)
        (try rw [show ((0 : Int)).toNat = 0 from rfl] at hx243_0)
        (try rw [Addr.add_zero'] at hx243_0)
        replace p243 := eq_true p243
        replace q243 := eq_true q243
        have p244 : 0 ≤ (1 : Int) := (by omega)
        have q244 : 1 < (t239.length : Int) := of_decide_eq_true (z2_)
        obtain ⟨ad244, e244, hx244_0⟩ := Kd.at_int (Kd.R_reads' HO242.out).2.2 1 p244 q244
        obtain rfl : ad243 = ad244 := (by injection e244)
        (try simp only [show (1 : Int).toNat = 1 from rfl, Nat.reduceMul, Nat.reduceEqDiff, Go.Addr.add, ↓reduceIte] at hx244_0)
        have qi244 : (1 < t239.length) = True := eq_true (by omega)
        (try rw [show ((1 : Int)).toNat = 1 from rfl] at hx244_0)
        replace p244 := eq_true p244
        replace q244 := eq_true q244
        have p245 : 0 ≤ (2 : Int) := (by omega)
        have q245 : 2 < (t239.length : Int) := of_decide_eq_true (z2_)
        obtain ⟨ad245, e245, hx245_0⟩ := Kd.at_int (Kd.R_reads' HO242.out).2.2 2 p245 q245
        obtain rfl : ad243 = ad245 := (by injection e245)
        (try simp only [show (2 : Int).toNat = 2 from rfl, Nat.reduceMul, Nat.reduceEqDiff, Go.Addr.add, ↓reduceIte] at hx245_0)
        have qi245 : (2 < t239.length) = True := eq_true (by omega)
        (try rw [show ((2 : Int)).toNat = 2 from rfl] at hx245_0)
        replace p245 := eq_true p245
        replace q245 := eq_true q245
        have p246 : 0 ≤ (3 : Int) := (by omega)
        have q246 : 3 < (t239.length : Int) := of_decide_eq_true (z2_)
        obtain ⟨ad246, e246, hx246_0⟩ := Kd.at_int (Kd.R_reads' HO242.out).2.2 3 p246 q246
        obtain rfl : ad243 = ad246 := (by injection e246)
        (try simp only [show (3 : Int).toNat = 3 from rfl, Nat.reduceMul, Nat.reduceEqDiff, Go.Addr.add, ↓reduceIte] at hx246_0)
        have qi246 : (3 < t239.length) = True := eq_true (by omega)
        (try rw [show ((3 : Int)).toNat = 3 from rfl] at hx246_0)
        replace p246 := eq_true p246
        replace q246 := eq_true q246
        have p247 : 0 ≤ (4 : Int) := (by omega)
        have q247 : 4 < (t239.length : Int) := of_decide_eq_true (z2_)
        obtain ⟨ad247, e247, hx247_0⟩ := Kd.at_int (Kd.R_reads' HO242.out).2.2 4 p247 q247
        obtain rfl : ad243 = ad247 := (by injection e247)
        (try simp only [show (4 : Int).toNat = 4 from rfl, Nat.reduceMul, Nat.reduceEqDiff, Go.Addr.add, ↓reduceIte] at hx247_0)
        have qi247 : (4 < t239.length) = True := eq_true (by omega)
        (try rw [show ((4 : Int)).toNat = 4 from rfl] at hx247_0)
        replace p247 := eq_true p247
        replace q247 := eq_true q247
        refine start_ (n := 19) (S := fun w' => w'.cell? ad243 = some (.int .i64 (rd t239 0)) ∧ w'.cell? ⟨ad243.block, ad243.off + 1, none⟩ = some (.int .i64 (rd t239 1)) ∧ w'.cell? ⟨ad243.block, ad243.off + 2, none⟩ = some (.int .i64 (rd t239 2)) ∧ w'.cell? ⟨ad243.block, ad243.off + 3, none⟩ = some (.int .i64 (rd t239 3)) ∧ w'.cell? ⟨ad243.block, ad243.off + 4, none⟩ = some (.int .i64 (rd t239 4))) (ds := []) #[J,J,J,J,J,J,J,J,J,J,J,J,J,J,J,J,J,J,J] (z11_) rfl rfl ⟨hx243_0, hx244_0, hx245_0, hx246_0, hx247_0⟩ (fun hHeld => ?_); refine with_tabW impl_ReadPipe.tab2 impl_ReadPipe.bits2 (fun HT_ HW_ => ?_)
        generalize w12.drew = w13 at HO242 BK237 HB hx243_0 hx244_0 hx245_0 hx246_0 hx247_0 hHeld ⊢
        refine pz_ 0 14 #[Y,J,J,J,J,J,J,J,J,J,J,J,J,J,J,J,J,J,J] HT_ ?_
        refine pz_ 1 15 #[Y,Y,J,J,J,J,J,J,J,J,J,J,J,J,J,J,J,J,J] HT_ ?_
        refine pz_ 2 16 #[Y,Y,Y,J,J,J,J,J,J,J,J,J,J,J,J,J,J,J,J] HT_ ?_
        refine pz_ 4 18 #[Y,Y,Y,J,Y,J,J,J,J,J,J,J,J,J,J,J,J,J,J] HT_ ?_
        refine pz_ 5 19 #[Y,Y,Y,J,Y,Y,J,J,J,J,J,J,J,J,J,J,J,J,J] HT_ ?_
        refine pz_ 7 21 #[Y,Y,Y,J,Y,Y,J,Y,J,J,J,J,J,J,J,J,J,J,J] HT_ ?_
        refine pz_ 8 22 #[Y,Y,Y,J,Y,Y,J,Y,Y,J,J,J,J,J,J,J,J,J,J] HT_ ?_
        refine pz_ 10 24 #[Y,Y,Y,J,Y,Y,J,Y,Y,J,Y,J,J,J,J,J,J,J,J] HT_ ?_
        refine pz_ 11 25 #[Y,Y,Y,J,Y,Y,J,Y,Y,J,Y,Y,J,J,J,J,J,J,J] HT_ ?_
        refine pz_ 13 27 #[Y,Y,Y,J,Y,Y,J,Y,Y,J,Y,Y,J,Y,J,J,J,J,J] HT_ ?_
        refine pz_ 14 28 #[Y,Y,Y,J,Y,Y,J,Y,Y,J,Y,Y,J,Y,Y,J,J,J,J] HT_ ?_
        refine take_ (i := 3) (N := some 17) (v := ?_) (a' := ?_) #[Y,Y,Y,Y,Y,Y,J,Y,Y,J,Y,Y,J,Y,Y,J,J,J,J] rfl rfl (take_ofW HT_.out HW_.out (z11_)) (fun _ _ _ h => h) (Or.inl ⟨by rfl, ?_⟩) hHeld ?_ ?_; rotate_left
        ·rintro w' ⟨s0, s1, s2, s3, s4⟩; go_simp; with_reducible rfl
        rotate_left
        ·simp only [pU,pN,sB,sZ,sS,i64_w,i32_w]; rfl
        refine take_ (i := 6) (N := some 20) (v := ?_) (a' := ?_) #[Y,Y,Y,Y,Y,Y,Y,Y,Y,J,Y,Y,J,Y,Y,J,J,J,J] rfl rfl (take_ofW HT_.out HW_.out (z11_)) (fun _ _ _ h => h) (Or.inl ⟨by rfl, ?_⟩) hHeld ?_ ?_; rotate_left
        ·rintro w' ⟨s0, s1, s2, s3, s4⟩; go_simp; with_reducible rfl
        rotate_left
        ·simp only [pU,pN,sB,sZ,sS,i64_w,i32_w]; rfl
        refine take_ (i := 9) (N := some 23) (v := ?_) (a' := ?_) #[Y,Y,Y,Y,Y,Y,Y,Y,Y,Y,Y,Y,J,Y,Y,J,J,J,J] rfl rfl (take_ofW HT_.out HW_.out (z11_)) (fun _ _ _ h => h) (Or.inl ⟨by rfl, ?_⟩) hHeld ?_ ?_; rotate_left
        ·rintro w' ⟨s0, s1, s2, s3, s4⟩; go_simp; with_reducible rfl
        rotate_left
        ·simp only [pU,pN,sB,sZ,sS,i64_w,i32_w]; rfl
        refine take_ (i := 12) (N := some 26) (v := ?_) (a' := ?_) #[Y,Y,Y,Y,Y,Y,Y,Y,Y,Y,Y,Y,Y,Y,Y,J,J,J,J] rfl rfl (take_ofW HT_.out HW_.out (z11_)) (fun _ _ _ h => h) (Or.inl ⟨by rfl, ?_⟩) hHeld ?_ ?_; rotate_left
        ·rintro w' ⟨s0, s1, s2, s3, s4⟩; go_simp; with_reducible rfl
        rotate_left
        ·simp only [pU,pN,sB,sZ,sS,i64_w,i32_w]; rfl
        refine take_ (i := 15) (N := some 29) (v := ?_) (a' := ?_) #[Y,Y,Y,Y,Y,Y,Y,Y,Y,Y,Y,Y,Y,Y,Y,Y,J,J,J] rfl rfl (take_ofW HT_.out HW_.out (z11_)) (fun _ _ _ h => h) (Or.inl ⟨by rfl, ?_⟩) hHeld ?_ ?_; rotate_left
        ·rintro w' ⟨s0, s1, s2, s3, s4⟩; go_simp; with_reducible rfl
        rotate_left
        ·simp only [pU,pN,sB,sZ,sS,i64_w,i32_w]; rfl
        refine pz_ 16 30 #[Y,Y,Y,Y,Y,Y,Y,Y,Y,Y,Y,Y,Y,Y,Y,Y,Y,J,J] HT_ ?_
        refine one_ (i := 17) (N := some 7) #[Y,Y,Y,Y,Y,Y,Y,Y,Y,Y,Y,Y,Y,Y,Y,Y,Y,Y,J] rfl rfl (one_of HT_.out (z11_)) (by decide) (fun K hK => ?_)
        refine box_step ?hg (N := 7) ?hd (cs := #[.string (⟨#[]⟩ : ByteArray), .int .i64 0, .int .i64 0, .int .i64 0, .int .i64 0, .int .i64 0]) (t := 36) ?hr ?_; (case hd => rfl); (case hg => rfl); (case hr => first | (go_simp; done) | (go_simp; rfl))
        intro gb248 hg w15 hbox hb
        have HS0_ := (hb.cell (World.block_lt_of_cell? _ _ (hHeld.1))).trans (hHeld.1)
        have HS1_ := (hb.cell (World.block_lt_of_cell? _ _ (hHeld.2.1))).trans (hHeld.2.1)
        have HS2_ := (hb.cell (World.block_lt_of_cell? _ _ (hHeld.2.2.1))).trans (hHeld.2.2.1)
        have HS3_ := (hb.cell (World.block_lt_of_cell? _ _ (hHeld.2.2.2.1))).trans (hHeld.2.2.2.1)
        have HS4_ := (hb.cell (World.block_lt_of_cell? _ _ (hHeld.2.2.2.2))).trans (hHeld.2.2.2.2)
        have n0_ := Aside0.mk (Kd.R_below (z156_) hb)
        have n1_ := Aside0.mk (blk_below (g := gb237) (o := .cells #[.string (⟨#[]⟩ : ByteArray), .int .i64 0, .int .i64 0, .int .i64 0, .int .i64 0, .int .i64 0] 36 (0, 0)) (z34_) hb)
        have n2_ := Aside0.mk (below_step (z22_) hb)
        have n3_ := Aside0.mk (hbox)
        have n4_ := Aside0.mk ((z58_ : w.heap.size ≤ gb248))
        have n5_ := Aside0.mk ((z58_ : w.heap.size ≤ gb248))
        have n6_ := Aside0.mk ((z71_ : gb237 ≠ gb248))
        have n7_ := Aside0.mk ((z72_ : gb248 ≠ gb237))
        clear HO242
        clear BK237
        clear HB
        have HO242 := n0_
        have BK237 := n1_
        have HB := n2_
        have BK248 := n3_
        have GW248 := n4_
        have GE248 := n5_
        have NB237_248 := n6_
        have NB248_237 := n7_
        clear n0_ n1_ n2_ n3_ n4_ n5_ n6_ n7_
        clear hb hbox hg
        refine hK.out _ _ ⟨HS0_, HS1_, HS2_, HS3_, HS4_⟩ (fun hHeld => ?_)
        clear hK K
        refine norm_ (a' := ?_) ?_ ?_
        rotate_left
        ·show Act.put _ (some 7) _ = _
         simp only [pU,pN,sB,sZ,sS,i64_w,i32_w]
         rfl
        refine one_ (i := 18) (N := none) #[Y,Y,Y,Y,Y,Y,Y,Y,Y,Y,Y,Y,Y,Y,Y,Y,Y,Y,Y] rfl rfl (one_of HT_.out (z11_)) (by decide) (fun K hK => ?_)
        have hs16 := bc0_ w15 BK248.out
        have hfs16 := blk_frozen BK248.out 0
        have hns16_0 := NB237_248.out
        have hms16_0 := NB248_237.out
        have hs17 := bc1_ w15 BK248.out
        have hfs17 := blk_frozen BK248.out 1
        have hns17_0 := NB237_248.out
        have hms17_0 := NB248_237.out
        have hs18 := bc2_ w15 BK248.out
        have hfs18 := blk_frozen BK248.out 2
        have hns18_0 := NB237_248.out
        have hms18_0 := NB248_237.out
        have hs19 := bc3_ w15 BK248.out
        have hfs19 := blk_frozen BK248.out 3
        have hns19_0 := NB237_248.out
        have hms19_0 := NB248_237.out
        have hs20 := bc4_ w15 BK248.out
        have hfs20 := blk_frozen BK248.out 4
        have hns20_0 := NB237_248.out
        have hms20_0 := NB248_237.out
        have hs21 := bc5_ w15 BK248.out
        have hfs21 := blk_frozen BK248.out 5
        have hns21_0 := NB237_248.out
        have hms21_0 := NB248_237.out
        refine skip_ (w1 := ?_) (by rfl) rfl ?_ ?_
        rotate_left
        ·go_simp
         rfl
        refine hK.out _ _ ⟨?_, ?_, ?_, ?_, ?_⟩ (fun hHeld => ?_)
        ·have e0_ := Kd.own_blk (Kd.R_ne HO242.out BK248.out (by decide))
         refine Eq.trans (cell_far (p := ⟨gb248, 5, none⟩) (z3_) _) ?_
         refine Eq.trans (cell_far (p := ⟨gb248, 4, none⟩) (z3_) _) ?_
         refine Eq.trans (cell_far (p := ⟨gb248, 3, none⟩) (z3_) _) ?_
         refine Eq.trans (cell_far (p := ⟨gb248, 2, none⟩) (z3_) _) ?_
         refine Eq.trans (cell_far (p := ⟨gb248, 1, none⟩) (z3_) _) ?_
         refine Eq.trans (cell_far (p := ⟨gb248, 0, none⟩) (z3_) _) ?_
         exact hHeld.1
        ·have e0_ := Kd.own_blk (Kd.R_ne HO242.out BK248.out (by decide))
         refine Eq.trans (cell_far (p := ⟨gb248, 5, none⟩) (z3_) _) ?_
         refine Eq.trans (cell_far (p := ⟨gb248, 4, none⟩) (z3_) _) ?_
         refine Eq.trans (cell_far (p := ⟨gb248, 3, none⟩) (z3_) _) ?_
         refine Eq.trans (cell_far (p := ⟨gb248, 2, none⟩) (z3_) _) ?_
         refine Eq.trans (cell_far (p := ⟨gb248, 1, none⟩) (z3_) _) ?_
         refine Eq.trans (cell_far (p := ⟨gb248, 0, none⟩) (z3_) _) ?_
         exact hHeld.2.1
        ·have e0_ := Kd.own_blk (Kd.R_ne HO242.out BK248.out (by decide))
         refine Eq.trans (cell_far (p := ⟨gb248, 5, none⟩) (z3_) _) ?_
         refine Eq.trans (cell_far (p := ⟨gb248, 4, none⟩) (z3_) _) ?_
         refine Eq.trans (cell_far (p := ⟨gb248, 3, none⟩) (z3_) _) ?_
         refine Eq.trans (cell_far (p := ⟨gb248, 2, none⟩) (z3_) _) ?_
         refine Eq.trans (cell_far (p := ⟨gb248, 1, none⟩) (z3_) _) ?_
         refine Eq.trans (cell_far (p := ⟨gb248, 0, none⟩) (z3_) _) ?_
         exact hHeld.2.2.1
        ·have e0_ := Kd.own_blk (Kd.R_ne HO242.out BK248.out (by decide))
         refine Eq.trans (cell_far (p := ⟨gb248, 5, none⟩) (z3_) _) ?_
         refine Eq.trans (cell_far (p := ⟨gb248, 4, none⟩) (z3_) _) ?_
         refine Eq.trans (cell_far (p := ⟨gb248, 3, none⟩) (z3_) _) ?_
         refine Eq.trans (cell_far (p := ⟨gb248, 2, none⟩) (z3_) _) ?_
         refine Eq.trans (cell_far (p := ⟨gb248, 1, none⟩) (z3_) _) ?_
         refine Eq.trans (cell_far (p := ⟨gb248, 0, none⟩) (z3_) _) ?_
         exact hHeld.2.2.2.1
        ·have e0_ := Kd.own_blk (Kd.R_ne HO242.out BK248.out (by decide))
         refine Eq.trans (cell_far (p := ⟨gb248, 5, none⟩) (z3_) _) ?_
         refine Eq.trans (cell_far (p := ⟨gb248, 4, none⟩) (z3_) _) ?_
         refine Eq.trans (cell_far (p := ⟨gb248, 3, none⟩) (z3_) _) ?_
         refine Eq.trans (cell_far (p := ⟨gb248, 2, none⟩) (z3_) _) ?_
         refine Eq.trans (cell_far (p := ⟨gb248, 1, none⟩) (z3_) _) ?_
         refine Eq.trans (cell_far (p := ⟨gb248, 0, none⟩) (z3_) _) ?_
         exact hHeld.2.2.2.2
        clear hK K
        refine done_ (done_of HT_.out (z11_)) ?_
        try clear hHeld
        have nA_ : Aside0 (((((((w15.setCell ⟨gb248, 0, none⟩ (.string t238)).setCell ⟨gb248, 1, none⟩ (.int .i64 (rd t239 0))).setCell ⟨gb248, 2, none⟩ (.int .i64 (rd t239 1))).setCell ⟨gb248, 3, none⟩ (.int .i64 (rd t239 2))).setCell ⟨gb248, 4, none⟩ (.int .i64 (rd t239 3))).setCell ⟨gb248, 5, none⟩ (.int .i64 (rd t239 4))).heap[gb248]? = some (.cells #[.string t238, .int .i64 (rd t239 0), .int .i64 (rd t239 1), .int .i64 (rd t239 2), .int .i64 (rd t239 3), .int .i64 (rd t239 4)] 36 (0, 0))) := ⟨z29_⟩
        have nB_ : Aside0 (((((((w15.setCell ⟨gb248, 0, none⟩ (.string t238)).setCell ⟨gb248, 1, none⟩ (.int .i64 (rd t239 0))).setCell ⟨gb248, 2, none⟩ (.int .i64 (rd t239 1))).setCell ⟨gb248, 3, none⟩ (.int .i64 (rd t239 2))).setCell ⟨gb248, 4, none⟩ (.int .i64 (rd t239 3))).setCell ⟨gb248, 5, none⟩ (.int .i64 (rd t239 4))).heap[gb237]? = some (.cells #[.string (⟨#[]⟩ : ByteArray), .int .i64 0, .int .i64 0, .int .i64 0, .int .i64 0, .int .i64 0] 36 (0, 0))) := ⟨z126_⟩
        have nC_ : Aside0 (Below w.heap.size w ((((((w15.setCell ⟨gb248, 0, none⟩ (.string t238)).setCell ⟨gb248, 1, none⟩ (.int .i64 (rd t239 0))).setCell ⟨gb248, 2, none⟩ (.int .i64 (rd t239 1))).setCell ⟨gb248, 3, none⟩ (.int .i64 (rd t239 2))).setCell ⟨gb248, 4, none⟩ (.int .i64 (rd t239 3))).setCell ⟨gb248, 5, none⟩ (.int .i64 (rd t239 4)))) := ⟨z143_⟩
        generalize ((((((w15.setCell ⟨gb248, 0, none⟩ (.string t238)).setCell ⟨gb248, 1, none⟩ (.int .i64 (rd t239 0))).setCell ⟨gb248, 2, none⟩ (.int .i64 (rd t239 1))).setCell ⟨gb248, 3, none⟩ (.int .i64 (rd t239 2))).setCell ⟨gb248, 4, none⟩ (.int .i64 (rd t239 3))).setCell ⟨gb248, 5, none⟩ (.int .i64 (rd t239 4))) = wz340 at nA_ nB_ nC_ ⊢
        clear BK248 BK237 HB
        have BK248 := nA_
        have BK237 := nB_
        have HB := nC_
        clear nA_ nB_ nC_
        have hnb22 := NB248_237.out
        have hnc22 := NB237_248.out
        have hcz23_0 := bc0_ wz340 BK248.out
        have hcz23_1 := bc1_ wz340 BK248.out
        have hcz23_2 := bc2_ wz340 BK248.out
        have hcz23_3 := bc3_ wz340 BK248.out
        have hcz23_4 := bc4_ wz340 BK248.out
        have hcz23_5 := bc5_ wz340 BK248.out
        have hfz23_0 := blk_frozen BK248.out 0
        have hfz23_1 := blk_frozen BK248.out 1
        have hfz23_2 := blk_frozen BK248.out 2
        have hfz23_3 := blk_frozen BK248.out 3
        have hfz23_4 := blk_frozen BK248.out 4
        have hfz23_5 := blk_frozen BK248.out 5
        try go_wp2_with (first | (go_at_call 28; (with_reducible refine (impl_PipeText.calls k t238 (rd t239 0) (rd t239 1) (rd t239 2) (rd t239 3) (rd t239 4) t249 _ ?sideT A9.out).mono ?_); (case sideT => exact HT.out.now (z36_)); rintro e w24 ⟨rfl, hb⟩; have n0_ := trivial; have n1_ := Aside0.mk (blk_below (g := gb237) (o := .cells #[.string (⟨#[]⟩ : ByteArray), .int .i64 0, .int .i64 0, .int .i64 0, .int .i64 0, .int .i64 0] 36 (0, 0)) (z34_) hb); have n2_ := Aside0.mk (blk_below (g := gb248) (o := .cells #[.string t238, .int .i64 (rd t239 0), .int .i64 (rd t239 1), .int .i64 (rd t239 2), .int .i64 (rd t239 3), .int .i64 (rd t239 4)] 36 (0, 0)) (by (with_reducible repeat (first | refine bN ?_ _|refine bW ?_|refine bA ?_ _)); exact BK248.out) hb); have n3_ := Aside0.mk (below_step (z36_) hb); clear HO242; clear BK237; clear BK248; clear HB; have HO242 := n0_; have BK237 := n1_; have BK248 := n2_; have HB := n3_; clear n0_ n1_ n2_ n3_; (try clear hb); (try clear hb2); (try clear hk); (try clear hi); have hcz25_0 := bc0_ w24 BK248.out; have hcz25_1 := bc1_ w24 BK248.out; have hcz25_2 := bc2_ w24 BK248.out; have hcz25_3 := bc3_ w24 BK248.out; have hcz25_4 := bc4_ w24 BK248.out; have hcz25_5 := bc5_ w24 BK248.out; have hfz25_0 := blk_frozen BK248.out 0; have hfz25_1 := blk_frozen BK248.out 1; have hfz25_2 := blk_frozen BK248.out 2; have hfz25_3 := blk_frozen BK248.out 3; have hfz25_4 := blk_frozen BK248.out 4; have hfz25_5 := blk_frozen BK248.out 5; have hcz26_0 := bc0_ w24 BK237.out; have hcz26_1 := bc1_ w24 BK237.out; have hcz26_2 := bc2_ w24 BK237.out; have hcz26_3 := bc3_ w24 BK237.out; have hcz26_4 := bc4_ w24 BK237.out; have hcz26_5 := bc5_ w24 BK237.out; have hfz26_0 := blk_frozen BK237.out 0; have hfz26_1 := blk_frozen BK237.out 1; have hfz26_2 := blk_frozen BK237.out 2; have hfz26_3 := blk_frozen BK237.out 3; have hfz26_4 := blk_frozen BK237.out 4; have hfz26_5 := blk_frozen BK237.out 5))
        refine bodyPost_ret (results_ct rfl _ _ gb237 36 #[.string t238, .int .i64 (rd t239 0), .int .i64 (rd t239 1), .int .i64 (rd t239 2), .int .i64 (rd t239 3), .int .i64 (rd t239 4)] (0, 0) _ rfl (by (with_reducible repeat (first | refine bN ?_ _|refine bW ?_|refine bA ?_ _)); refine blk_put (cs := #[.string t238, .int .i64 (rd t239 0), .int .i64 (rd t239 1), .int .i64 (rd t239 2), .int .i64 (rd t239 3), .int .i64 0]) ?_ 5 _ rfl; (with_reducible repeat (first | refine bN ?_ _|refine bW ?_|refine bA ?_ _)); refine blk_put (cs := #[.string t238, .int .i64 (rd t239 0), .int .i64 (rd t239 1), .int .i64 (rd t239 2), .int .i64 0, .int .i64 0]) ?_ 4 _ rfl; (with_reducible repeat (first | refine bN ?_ _|refine bW ?_|refine bA ?_ _)); refine blk_put (cs := #[.string t238, .int .i64 (rd t239 0), .int .i64 (rd t239 1), .int .i64 0, .int .i64 0, .int .i64 0]) ?_ 3 _ rfl; (with_reducible repeat (first | refine bN ?_ _|refine bW ?_|refine bA ?_ _)); refine blk_put (cs := #[.string t238, .int .i64 (rd t239 0), .int .i64 0, .int .i64 0, .int .i64 0, .int .i64 0]) ?_ 2 _ rfl; (with_reducible repeat (first | refine bN ?_ _|refine bW ?_|refine bA ?_ _)); refine blk_put (cs := #[.string t238, .int .i64 0, .int .i64 0, .int .i64 0, .int .i64 0, .int .i64 0]) ?_ 1 _ rfl; (with_reducible repeat (first | refine bN ?_ _|refine bW ?_|refine bA ?_ _)); refine blk_put (cs := #[.string (⟨#[]⟩ : ByteArray), .int .i64 0, .int .i64 0, .int .i64 0, .int .i64 0, .int .i64 0]) ?_ 0 _ rfl; (with_reducible repeat (first | refine bN ?_ _|refine bW ?_|refine bA ?_ _)); exact BK237.out) Tryz.underlying36 rfl (z11_)) rfl ?_
        exact ⟨z6_, z36_⟩
       ·rw [if_neg c10] at H
        have c10b0 : (t249.toList == a0.toList) = false := beq_eq_false_iff_ne.mpr c10
        have c10b1 : (t249.toList != a0.toList) = true := bne_iff_ne.mpr c10
        simp only [Option.some.injEq, Prod.mk.injEq] at H
        obtain ⟨rfl, rfl, rfl, rfl, rfl, rfl, rfl⟩ := H
        go_enter Tryz.func12, Tryz.ntmps12
        try go_wp2_with (first | ((with_reducible refine gate_dst (N := 2) rfl ?_); refine box_event ?hg (N := 2) ?hd (cs := #[.string (⟨#[]⟩ : ByteArray), .int .i64 0, .int .i64 0, .int .i64 0, .int .i64 0, .int .i64 0]) (t := 36) ?hr ?_; (case hd => rfl); (case hg => rfl); (case hr => first | (go_simp; done) | (go_simp; rfl)); intro gb237 hg w27 hbox hb; have n0_ := Aside0.mk (below_step (z0_) hb); have n1_ := Aside0.mk (hbox); have n2_ := Aside0.mk ((z4_ : w.heap.size ≤ gb237)); have n3_ := Aside0.mk ((z4_ : w.heap.size ≤ gb237)); clear HB; have HB := n0_; have BK237 := n1_; have GW237 := n2_; have GE237 := n3_; clear n0_ n1_ n2_ n3_; clear hb hbox hg) | ((with_reducible refine gate_callee (f := 27) rfl ?_); refine goesL_ (some 10) rfl rfl Tryz.func27 (z11_) rfl #[.string a0, .int .i64 5] rfl (z1_) ?_; (with_reducible refine (impl_readWithId.calls k a0 5 t238 t239 true _ ?sideT A2.out).mono ?_); (case sideT => exact HT.out.now (z36_)); rintro e w28 ⟨v241, rfl, ho0, hb⟩; refine ⟨_, rfl, ?_⟩; have n0_ := Aside0.mk (Kd.R_lower ho0 (below_size (z22_))); have n1_ := Aside0.mk (blk_below (g := gb237) (o := .cells #[.string (⟨#[]⟩ : ByteArray), .int .i64 0, .int .i64 0, .int .i64 0, .int .i64 0, .int .i64 0] 36 (0, 0)) (z34_) hb); have n2_ := Aside0.mk (below_step (z22_) hb); clear BK237; clear HB; have HO242 := n0_; have BK237 := n1_; have HB := n2_; clear n0_ n1_ n2_; (try clear hb); (try clear hb2); (try clear hk); (try clear hi); (try clear ho0)))
        have n0_ := Aside0.mk (Kd.R_drew HO242.out)
        have n1_ := Aside0.mk (blk_drew BK237.out)
        have n2_ := Aside0.mk (below_drew1 HB.out)
        clear HO242
        clear BK237
        clear HB
        have HO242 := n0_
        have BK237 := n1_
        have HB := n2_
        clear n0_ n1_ n2_
        obtain ⟨Ao30, co30, eo30⟩ := Kd.R_slice HO242.out
        (first | subst eo30 | (injection eo30 with f1_ f2_ f3_; have f4_ := f1_.symm; have f5_ := f3_.symm; clear f1_ f2_ f3_; subst f4_; subst f5_))
        have p243 : 0 ≤ (0 : Int) := (by omega)
        have q243 : 0 < (t239.length : Int) := of_decide_eq_true (z2_)
        obtain ⟨ad243, e243, hx243_0⟩ := Kd.at_int (Kd.R_reads' HO242.out).2.2 0 p243 q243
        cases e243
        have qi243 : (0 < t239.length) = True := eq_true (by omega)
        (try rw [show ((0 : Int)).toNat = 0 from rfl] at hx243_0)
        (try rw [Addr.add_zero'] at hx243_0)
        replace p243 := eq_true p243
        replace q243 := eq_true q243
        have p244 : 0 ≤ (1 : Int) := (by omega)
        have q244 : 1 < (t239.length : Int) := of_decide_eq_true (z2_)
        obtain ⟨ad244, e244, hx244_0⟩ := Kd.at_int (Kd.R_reads' HO242.out).2.2 1 p244 q244
        obtain rfl : ad243 = ad244 := (by injection e244)
        (try simp only [show (1 : Int).toNat = 1 from rfl, Nat.reduceMul, Nat.reduceEqDiff, Go.Addr.add, ↓reduceIte] at hx244_0)
        have qi244 : (1 < t239.length) = True := eq_true (by omega)
        (try rw [show ((1 : Int)).toNat = 1 from rfl] at hx244_0)
        replace p244 := eq_true p244
        replace q244 := eq_true q244
        have p245 : 0 ≤ (2 : Int) := (by omega)
        have q245 : 2 < (t239.length : Int) := of_decide_eq_true (z2_)
        obtain ⟨ad245, e245, hx245_0⟩ := Kd.at_int (Kd.R_reads' HO242.out).2.2 2 p245 q245
        obtain rfl : ad243 = ad245 := (by injection e245)
        (try simp only [show (2 : Int).toNat = 2 from rfl, Nat.reduceMul, Nat.reduceEqDiff, Go.Addr.add, ↓reduceIte] at hx245_0)
        have qi245 : (2 < t239.length) = True := eq_true (by omega)
        (try rw [show ((2 : Int)).toNat = 2 from rfl] at hx245_0)
        replace p245 := eq_true p245
        replace q245 := eq_true q245
        have p246 : 0 ≤ (3 : Int) := (by omega)
        have q246 : 3 < (t239.length : Int) := of_decide_eq_true (z2_)
        obtain ⟨ad246, e246, hx246_0⟩ := Kd.at_int (Kd.R_reads' HO242.out).2.2 3 p246 q246
        obtain rfl : ad243 = ad246 := (by injection e246)
        (try simp only [show (3 : Int).toNat = 3 from rfl, Nat.reduceMul, Nat.reduceEqDiff, Go.Addr.add, ↓reduceIte] at hx246_0)
        have qi246 : (3 < t239.length) = True := eq_true (by omega)
        (try rw [show ((3 : Int)).toNat = 3 from rfl] at hx246_0)
        replace p246 := eq_true p246
        replace q246 := eq_true q246
        have p247 : 0 ≤ (4 : Int) := (by omega)
        have q247 : 4 < (t239.length : Int) := of_decide_eq_true (z2_)
        obtain ⟨ad247, e247, hx247_0⟩ := Kd.at_int (Kd.R_reads' HO242.out).2.2 4 p247 q247
        obtain rfl : ad243 = ad247 := (by injection e247)
        (try simp only [show (4 : Int).toNat = 4 from rfl, Nat.reduceMul, Nat.reduceEqDiff, Go.Addr.add, ↓reduceIte] at hx247_0)
        have qi247 : (4 < t239.length) = True := eq_true (by omega)
        (try rw [show ((4 : Int)).toNat = 4 from rfl] at hx247_0)
        replace p247 := eq_true p247
        replace q247 := eq_true q247
        refine start_ (n := 19) (S := fun w' => w'.cell? ad243 = some (.int .i64 (rd t239 0)) ∧ w'.cell? ⟨ad243.block, ad243.off + 1, none⟩ = some (.int .i64 (rd t239 1)) ∧ w'.cell? ⟨ad243.block, ad243.off + 2, none⟩ = some (.int .i64 (rd t239 2)) ∧ w'.cell? ⟨ad243.block, ad243.off + 3, none⟩ = some (.int .i64 (rd t239 3)) ∧ w'.cell? ⟨ad243.block, ad243.off + 4, none⟩ = some (.int .i64 (rd t239 4))) (ds := []) #[J,J,J,J,J,J,J,J,J,J,J,J,J,J,J,J,J,J,J] (z11_) rfl rfl ⟨hx243_0, hx244_0, hx245_0, hx246_0, hx247_0⟩ (fun hHeld => ?_); refine with_tabW impl_ReadPipe.tab2 impl_ReadPipe.bits2 (fun HT_ HW_ => ?_)
        generalize w28.drew = w29 at HO242 BK237 HB hx243_0 hx244_0 hx245_0 hx246_0 hx247_0 hHeld ⊢
        refine pz_ 0 14 #[Y,J,J,J,J,J,J,J,J,J,J,J,J,J,J,J,J,J,J] HT_ ?_
        refine pz_ 1 15 #[Y,Y,J,J,J,J,J,J,J,J,J,J,J,J,J,J,J,J,J] HT_ ?_
        refine pz_ 2 16 #[Y,Y,Y,J,J,J,J,J,J,J,J,J,J,J,J,J,J,J,J] HT_ ?_
        refine pz_ 4 18 #[Y,Y,Y,J,Y,J,J,J,J,J,J,J,J,J,J,J,J,J,J] HT_ ?_
        refine pz_ 5 19 #[Y,Y,Y,J,Y,Y,J,J,J,J,J,J,J,J,J,J,J,J,J] HT_ ?_
        refine pz_ 7 21 #[Y,Y,Y,J,Y,Y,J,Y,J,J,J,J,J,J,J,J,J,J,J] HT_ ?_
        refine pz_ 8 22 #[Y,Y,Y,J,Y,Y,J,Y,Y,J,J,J,J,J,J,J,J,J,J] HT_ ?_
        refine pz_ 10 24 #[Y,Y,Y,J,Y,Y,J,Y,Y,J,Y,J,J,J,J,J,J,J,J] HT_ ?_
        refine pz_ 11 25 #[Y,Y,Y,J,Y,Y,J,Y,Y,J,Y,Y,J,J,J,J,J,J,J] HT_ ?_
        refine pz_ 13 27 #[Y,Y,Y,J,Y,Y,J,Y,Y,J,Y,Y,J,Y,J,J,J,J,J] HT_ ?_
        refine pz_ 14 28 #[Y,Y,Y,J,Y,Y,J,Y,Y,J,Y,Y,J,Y,Y,J,J,J,J] HT_ ?_
        refine take_ (i := 3) (N := some 17) (v := ?_) (a' := ?_) #[Y,Y,Y,Y,Y,Y,J,Y,Y,J,Y,Y,J,Y,Y,J,J,J,J] rfl rfl (take_ofW HT_.out HW_.out (z11_)) (fun _ _ _ h => h) (Or.inl ⟨by rfl, ?_⟩) hHeld ?_ ?_; rotate_left
        ·rintro w' ⟨s0, s1, s2, s3, s4⟩; go_simp; with_reducible rfl
        rotate_left
        ·simp only [pU,pN,sB,sZ,sS,i64_w,i32_w]; rfl
        refine take_ (i := 6) (N := some 20) (v := ?_) (a' := ?_) #[Y,Y,Y,Y,Y,Y,Y,Y,Y,J,Y,Y,J,Y,Y,J,J,J,J] rfl rfl (take_ofW HT_.out HW_.out (z11_)) (fun _ _ _ h => h) (Or.inl ⟨by rfl, ?_⟩) hHeld ?_ ?_; rotate_left
        ·rintro w' ⟨s0, s1, s2, s3, s4⟩; go_simp; with_reducible rfl
        rotate_left
        ·simp only [pU,pN,sB,sZ,sS,i64_w,i32_w]; rfl
        refine take_ (i := 9) (N := some 23) (v := ?_) (a' := ?_) #[Y,Y,Y,Y,Y,Y,Y,Y,Y,Y,Y,Y,J,Y,Y,J,J,J,J] rfl rfl (take_ofW HT_.out HW_.out (z11_)) (fun _ _ _ h => h) (Or.inl ⟨by rfl, ?_⟩) hHeld ?_ ?_; rotate_left
        ·rintro w' ⟨s0, s1, s2, s3, s4⟩; go_simp; with_reducible rfl
        rotate_left
        ·simp only [pU,pN,sB,sZ,sS,i64_w,i32_w]; rfl
        refine take_ (i := 12) (N := some 26) (v := ?_) (a' := ?_) #[Y,Y,Y,Y,Y,Y,Y,Y,Y,Y,Y,Y,Y,Y,Y,J,J,J,J] rfl rfl (take_ofW HT_.out HW_.out (z11_)) (fun _ _ _ h => h) (Or.inl ⟨by rfl, ?_⟩) hHeld ?_ ?_; rotate_left
        ·rintro w' ⟨s0, s1, s2, s3, s4⟩; go_simp; with_reducible rfl
        rotate_left
        ·simp only [pU,pN,sB,sZ,sS,i64_w,i32_w]; rfl
        refine take_ (i := 15) (N := some 29) (v := ?_) (a' := ?_) #[Y,Y,Y,Y,Y,Y,Y,Y,Y,Y,Y,Y,Y,Y,Y,Y,J,J,J] rfl rfl (take_ofW HT_.out HW_.out (z11_)) (fun _ _ _ h => h) (Or.inl ⟨by rfl, ?_⟩) hHeld ?_ ?_; rotate_left
        ·rintro w' ⟨s0, s1, s2, s3, s4⟩; go_simp; with_reducible rfl
        rotate_left
        ·simp only [pU,pN,sB,sZ,sS,i64_w,i32_w]; rfl
        refine pz_ 16 30 #[Y,Y,Y,Y,Y,Y,Y,Y,Y,Y,Y,Y,Y,Y,Y,Y,Y,J,J] HT_ ?_
        refine one_ (i := 17) (N := some 7) #[Y,Y,Y,Y,Y,Y,Y,Y,Y,Y,Y,Y,Y,Y,Y,Y,Y,Y,J] rfl rfl (one_of HT_.out (z11_)) (by decide) (fun K hK => ?_)
        refine box_step ?hg (N := 7) ?hd (cs := #[.string (⟨#[]⟩ : ByteArray), .int .i64 0, .int .i64 0, .int .i64 0, .int .i64 0, .int .i64 0]) (t := 36) ?hr ?_; (case hd => rfl); (case hg => rfl); (case hr => first | (go_simp; done) | (go_simp; rfl))
        intro gb248 hg w31 hbox hb
        have HS0_ := (hb.cell (World.block_lt_of_cell? _ _ (hHeld.1))).trans (hHeld.1)
        have HS1_ := (hb.cell (World.block_lt_of_cell? _ _ (hHeld.2.1))).trans (hHeld.2.1)
        have HS2_ := (hb.cell (World.block_lt_of_cell? _ _ (hHeld.2.2.1))).trans (hHeld.2.2.1)
        have HS3_ := (hb.cell (World.block_lt_of_cell? _ _ (hHeld.2.2.2.1))).trans (hHeld.2.2.2.1)
        have HS4_ := (hb.cell (World.block_lt_of_cell? _ _ (hHeld.2.2.2.2))).trans (hHeld.2.2.2.2)
        have n0_ := Aside0.mk (Kd.R_below (z156_) hb)
        have n1_ := Aside0.mk (blk_below (g := gb237) (o := .cells #[.string (⟨#[]⟩ : ByteArray), .int .i64 0, .int .i64 0, .int .i64 0, .int .i64 0, .int .i64 0] 36 (0, 0)) (z34_) hb)
        have n2_ := Aside0.mk (below_step (z22_) hb)
        have n3_ := Aside0.mk (hbox)
        have n4_ := Aside0.mk ((z58_ : w.heap.size ≤ gb248))
        have n5_ := Aside0.mk ((z58_ : w.heap.size ≤ gb248))
        have n6_ := Aside0.mk ((z71_ : gb237 ≠ gb248))
        have n7_ := Aside0.mk ((z72_ : gb248 ≠ gb237))
        clear HO242
        clear BK237
        clear HB
        have HO242 := n0_
        have BK237 := n1_
        have HB := n2_
        have BK248 := n3_
        have GW248 := n4_
        have GE248 := n5_
        have NB237_248 := n6_
        have NB248_237 := n7_
        clear n0_ n1_ n2_ n3_ n4_ n5_ n6_ n7_
        clear hb hbox hg
        refine hK.out _ _ ⟨HS0_, HS1_, HS2_, HS3_, HS4_⟩ (fun hHeld => ?_)
        clear hK K
        refine norm_ (a' := ?_) ?_ ?_
        rotate_left
        ·show Act.put _ (some 7) _ = _
         simp only [pU,pN,sB,sZ,sS,i64_w,i32_w]
         rfl
        refine one_ (i := 18) (N := none) #[Y,Y,Y,Y,Y,Y,Y,Y,Y,Y,Y,Y,Y,Y,Y,Y,Y,Y,Y] rfl rfl (one_of HT_.out (z11_)) (by decide) (fun K hK => ?_)
        have hs32 := bc0_ w31 BK248.out
        have hfs32 := blk_frozen BK248.out 0
        have hns32_0 := NB237_248.out
        have hms32_0 := NB248_237.out
        have hs33 := bc1_ w31 BK248.out
        have hfs33 := blk_frozen BK248.out 1
        have hns33_0 := NB237_248.out
        have hms33_0 := NB248_237.out
        have hs34 := bc2_ w31 BK248.out
        have hfs34 := blk_frozen BK248.out 2
        have hns34_0 := NB237_248.out
        have hms34_0 := NB248_237.out
        have hs35 := bc3_ w31 BK248.out
        have hfs35 := blk_frozen BK248.out 3
        have hns35_0 := NB237_248.out
        have hms35_0 := NB248_237.out
        have hs36 := bc4_ w31 BK248.out
        have hfs36 := blk_frozen BK248.out 4
        have hns36_0 := NB237_248.out
        have hms36_0 := NB248_237.out
        have hs37 := bc5_ w31 BK248.out
        have hfs37 := blk_frozen BK248.out 5
        have hns37_0 := NB237_248.out
        have hms37_0 := NB248_237.out
        refine skip_ (w1 := ?_) (by rfl) rfl ?_ ?_
        rotate_left
        ·go_simp
         rfl
        refine hK.out _ _ ⟨?_, ?_, ?_, ?_, ?_⟩ (fun hHeld => ?_)
        ·have e0_ := Kd.own_blk (Kd.R_ne HO242.out BK248.out (by decide))
         refine Eq.trans (cell_far (p := ⟨gb248, 5, none⟩) (z3_) _) ?_
         refine Eq.trans (cell_far (p := ⟨gb248, 4, none⟩) (z3_) _) ?_
         refine Eq.trans (cell_far (p := ⟨gb248, 3, none⟩) (z3_) _) ?_
         refine Eq.trans (cell_far (p := ⟨gb248, 2, none⟩) (z3_) _) ?_
         refine Eq.trans (cell_far (p := ⟨gb248, 1, none⟩) (z3_) _) ?_
         refine Eq.trans (cell_far (p := ⟨gb248, 0, none⟩) (z3_) _) ?_
         exact hHeld.1
        ·have e0_ := Kd.own_blk (Kd.R_ne HO242.out BK248.out (by decide))
         refine Eq.trans (cell_far (p := ⟨gb248, 5, none⟩) (z3_) _) ?_
         refine Eq.trans (cell_far (p := ⟨gb248, 4, none⟩) (z3_) _) ?_
         refine Eq.trans (cell_far (p := ⟨gb248, 3, none⟩) (z3_) _) ?_
         refine Eq.trans (cell_far (p := ⟨gb248, 2, none⟩) (z3_) _) ?_
         refine Eq.trans (cell_far (p := ⟨gb248, 1, none⟩) (z3_) _) ?_
         refine Eq.trans (cell_far (p := ⟨gb248, 0, none⟩) (z3_) _) ?_
         exact hHeld.2.1
        ·have e0_ := Kd.own_blk (Kd.R_ne HO242.out BK248.out (by decide))
         refine Eq.trans (cell_far (p := ⟨gb248, 5, none⟩) (z3_) _) ?_
         refine Eq.trans (cell_far (p := ⟨gb248, 4, none⟩) (z3_) _) ?_
         refine Eq.trans (cell_far (p := ⟨gb248, 3, none⟩) (z3_) _) ?_
         refine Eq.trans (cell_far (p := ⟨gb248, 2, none⟩) (z3_) _) ?_
         refine Eq.trans (cell_far (p := ⟨gb248, 1, none⟩) (z3_) _) ?_
         refine Eq.trans (cell_far (p := ⟨gb248, 0, none⟩) (z3_) _) ?_
         exact hHeld.2.2.1
        ·have e0_ := Kd.own_blk (Kd.R_ne HO242.out BK248.out (by decide))
         refine Eq.trans (cell_far (p := ⟨gb248, 5, none⟩) (z3_) _) ?_
         refine Eq.trans (cell_far (p := ⟨gb248, 4, none⟩) (z3_) _) ?_
         refine Eq.trans (cell_far (p := ⟨gb248, 3, none⟩) (z3_) _) ?_
         refine Eq.trans (cell_far (p := ⟨gb248, 2, none⟩) (z3_) _) ?_
         refine Eq.trans (cell_far (p := ⟨gb248, 1, none⟩) (z3_) _) ?_
         refine Eq.trans (cell_far (p := ⟨gb248, 0, none⟩) (z3_) _) ?_
         exact hHeld.2.2.2.1
        ·have e0_ := Kd.own_blk (Kd.R_ne HO242.out BK248.out (by decide))
         refine Eq.trans (cell_far (p := ⟨gb248, 5, none⟩) (z3_) _) ?_
         refine Eq.trans (cell_far (p := ⟨gb248, 4, none⟩) (z3_) _) ?_
         refine Eq.trans (cell_far (p := ⟨gb248, 3, none⟩) (z3_) _) ?_
         refine Eq.trans (cell_far (p := ⟨gb248, 2, none⟩) (z3_) _) ?_
         refine Eq.trans (cell_far (p := ⟨gb248, 1, none⟩) (z3_) _) ?_
         refine Eq.trans (cell_far (p := ⟨gb248, 0, none⟩) (z3_) _) ?_
         exact hHeld.2.2.2.2
        clear hK K
        refine done_ (done_of HT_.out (z11_)) ?_
        try clear hHeld
        have nA_ : Aside0 (((((((w31.setCell ⟨gb248, 0, none⟩ (.string t238)).setCell ⟨gb248, 1, none⟩ (.int .i64 (rd t239 0))).setCell ⟨gb248, 2, none⟩ (.int .i64 (rd t239 1))).setCell ⟨gb248, 3, none⟩ (.int .i64 (rd t239 2))).setCell ⟨gb248, 4, none⟩ (.int .i64 (rd t239 3))).setCell ⟨gb248, 5, none⟩ (.int .i64 (rd t239 4))).heap[gb248]? = some (.cells #[.string t238, .int .i64 (rd t239 0), .int .i64 (rd t239 1), .int .i64 (rd t239 2), .int .i64 (rd t239 3), .int .i64 (rd t239 4)] 36 (0, 0))) := ⟨z29_⟩
        have nB_ : Aside0 (((((((w31.setCell ⟨gb248, 0, none⟩ (.string t238)).setCell ⟨gb248, 1, none⟩ (.int .i64 (rd t239 0))).setCell ⟨gb248, 2, none⟩ (.int .i64 (rd t239 1))).setCell ⟨gb248, 3, none⟩ (.int .i64 (rd t239 2))).setCell ⟨gb248, 4, none⟩ (.int .i64 (rd t239 3))).setCell ⟨gb248, 5, none⟩ (.int .i64 (rd t239 4))).heap[gb237]? = some (.cells #[.string (⟨#[]⟩ : ByteArray), .int .i64 0, .int .i64 0, .int .i64 0, .int .i64 0, .int .i64 0] 36 (0, 0))) := ⟨z126_⟩
        have nC_ : Aside0 (Below w.heap.size w ((((((w31.setCell ⟨gb248, 0, none⟩ (.string t238)).setCell ⟨gb248, 1, none⟩ (.int .i64 (rd t239 0))).setCell ⟨gb248, 2, none⟩ (.int .i64 (rd t239 1))).setCell ⟨gb248, 3, none⟩ (.int .i64 (rd t239 2))).setCell ⟨gb248, 4, none⟩ (.int .i64 (rd t239 3))).setCell ⟨gb248, 5, none⟩ (.int .i64 (rd t239 4)))) := ⟨z143_⟩
        generalize ((((((w31.setCell ⟨gb248, 0, none⟩ (.string t238)).setCell ⟨gb248, 1, none⟩ (.int .i64 (rd t239 0))).setCell ⟨gb248, 2, none⟩ (.int .i64 (rd t239 1))).setCell ⟨gb248, 3, none⟩ (.int .i64 (rd t239 2))).setCell ⟨gb248, 4, none⟩ (.int .i64 (rd t239 3))).setCell ⟨gb248, 5, none⟩ (.int .i64 (rd t239 4))) = wz599 at nA_ nB_ nC_ ⊢
        clear BK248 BK237 HB
        have BK248 := nA_
        have BK237 := nB_
        have HB := nC_
        clear nA_ nB_ nC_
        have hnb38 := NB248_237.out
        have hnc38 := NB237_248.out
        have hcz39_0 := bc0_ wz599 BK248.out
        have hcz39_1 := bc1_ wz599 BK248.out
        have hcz39_2 := bc2_ wz599 BK248.out
        have hcz39_3 := bc3_ wz599 BK248.out
        have hcz39_4 := bc4_ wz599 BK248.out
        have hcz39_5 := bc5_ wz599 BK248.out
        have hfz39_0 := blk_frozen BK248.out 0
        have hfz39_1 := blk_frozen BK248.out 1
        have hfz39_2 := blk_frozen BK248.out 2
        have hfz39_3 := blk_frozen BK248.out 3
        have hfz39_4 := blk_frozen BK248.out 4
        have hfz39_5 := blk_frozen BK248.out 5
        try go_wp2_with (first | (go_at_call 28; (with_reducible refine (impl_PipeText.calls k t238 (rd t239 0) (rd t239 1) (rd t239 2) (rd t239 3) (rd t239 4) t249 _ ?sideT A9.out).mono ?_); (case sideT => exact HT.out.now (z36_)); rintro e w40 ⟨rfl, hb⟩; have n0_ := trivial; have n1_ := Aside0.mk (blk_below (g := gb237) (o := .cells #[.string (⟨#[]⟩ : ByteArray), .int .i64 0, .int .i64 0, .int .i64 0, .int .i64 0, .int .i64 0] 36 (0, 0)) (z34_) hb); have n2_ := Aside0.mk (blk_below (g := gb248) (o := .cells #[.string t238, .int .i64 (rd t239 0), .int .i64 (rd t239 1), .int .i64 (rd t239 2), .int .i64 (rd t239 3), .int .i64 (rd t239 4)] 36 (0, 0)) (by (with_reducible repeat (first | refine bN ?_ _|refine bW ?_|refine bA ?_ _)); exact BK248.out) hb); have n3_ := Aside0.mk (below_step (z36_) hb); clear HO242; clear BK237; clear BK248; clear HB; have HO242 := n0_; have BK237 := n1_; have BK248 := n2_; have HB := n3_; clear n0_ n1_ n2_ n3_; (try clear hb); (try clear hb2); (try clear hk); (try clear hi); have hcz41_0 := bc0_ w40 BK237.out; have hcz41_1 := bc1_ w40 BK237.out; have hcz41_2 := bc2_ w40 BK237.out; have hcz41_3 := bc3_ w40 BK237.out; have hcz41_4 := bc4_ w40 BK237.out; have hcz41_5 := bc5_ w40 BK237.out; have hfz41_0 := blk_frozen BK237.out 0; have hfz41_1 := blk_frozen BK237.out 1; have hfz41_2 := blk_frozen BK237.out 2; have hfz41_3 := blk_frozen BK237.out 3; have hfz41_4 := blk_frozen BK237.out 4; have hfz41_5 := blk_frozen BK237.out 5))
        refine bodyPost_ret (results_ct rfl _ _ gb237 36 #[.string (⟨#[]⟩ : ByteArray), .int .i64 0, .int .i64 0, .int .i64 0, .int .i64 0, .int .i64 0] (0, 0) _ rfl (by (with_reducible repeat (first | refine bN ?_ _|refine bW ?_|refine bA ?_ _)); refine blk_put (cs := #[.string (⟨#[]⟩ : ByteArray), .int .i64 0, .int .i64 0, .int .i64 0, .int .i64 0, .int .i64 0]) ?_ 5 _ rfl; (with_reducible repeat (first | refine bN ?_ _|refine bW ?_|refine bA ?_ _)); refine blk_put (cs := #[.string (⟨#[]⟩ : ByteArray), .int .i64 0, .int .i64 0, .int .i64 0, .int .i64 0, .int .i64 0]) ?_ 4 _ rfl; (with_reducible repeat (first | refine bN ?_ _|refine bW ?_|refine bA ?_ _)); refine blk_put (cs := #[.string (⟨#[]⟩ : ByteArray), .int .i64 0, .int .i64 0, .int .i64 0, .int .i64 0, .int .i64 0]) ?_ 3 _ rfl; (with_reducible repeat (first | refine bN ?_ _|refine bW ?_|refine bA ?_ _)); refine blk_put (cs := #[.string (⟨#[]⟩ : ByteArray), .int .i64 0, .int .i64 0, .int .i64 0, .int .i64 0, .int .i64 0]) ?_ 2 _ rfl; (with_reducible repeat (first | refine bN ?_ _|refine bW ?_|refine bA ?_ _)); refine blk_put (cs := #[.string (⟨#[]⟩ : ByteArray), .int .i64 0, .int .i64 0, .int .i64 0, .int .i64 0, .int .i64 0]) ?_ 1 _ rfl; (with_reducible repeat (first | refine bN ?_ _|refine bW ?_|refine bA ?_ _)); refine blk_put (cs := #[.string (⟨#[]⟩ : ByteArray), .int .i64 0, .int .i64 0, .int .i64 0, .int .i64 0, .int .i64 0]) ?_ 0 _ rfl; (with_reducible repeat (first | refine bN ?_ _|refine bW ?_|refine bA ?_ _)); exact BK237.out) Tryz.underlying36 rfl (z11_)) rfl ?_
        exact ⟨z6_, z36_⟩
      ·replace c8 := Bool.eq_false_iff.mpr c8
       subst c8
       rw [if_neg (show ¬ (false = true) by decide)] at H
       simp only [Option.some.injEq, Prod.mk.injEq] at H
       obtain ⟨rfl, rfl, rfl, rfl, rfl, rfl, rfl⟩ := H
       go_enter Tryz.func12, Tryz.ntmps12
       try go_wp2_with (first | ((with_reducible refine gate_dst (N := 2) rfl ?_); refine box_event ?hg (N := 2) ?hd (cs := #[.string (⟨#[]⟩ : ByteArray), .int .i64 0, .int .i64 0, .int .i64 0, .int .i64 0, .int .i64 0]) (t := 36) ?hr ?_; (case hd => rfl); (case hg => rfl); (case hr => first | (go_simp; done) | (go_simp; rfl)); intro gb237 hg w42 hbox hb; have n0_ := Aside0.mk (below_step (z0_) hb); have n1_ := Aside0.mk (hbox); have n2_ := Aside0.mk ((z4_ : w.heap.size ≤ gb237)); have n3_ := Aside0.mk ((z4_ : w.heap.size ≤ gb237)); clear HB; have HB := n0_; have BK237 := n1_; have GW237 := n2_; have GE237 := n3_; clear n0_ n1_ n2_ n3_; clear hb hbox hg) | ((with_reducible refine gate_callee (f := 27) rfl ?_); refine goesL_ (some 10) rfl rfl Tryz.func27 (z11_) rfl #[.string a0, .int .i64 5] rfl (z1_) ?_; (with_reducible refine (impl_readWithId.calls k a0 5 t238 t239 false _ ?sideT A2.out).mono ?_); (case sideT => exact HT.out.now (z36_)); rintro e w43 ⟨v241, rfl, ho0, hb⟩; refine ⟨_, rfl, ?_⟩; have n0_ := Aside0.mk (Kd.R_lower ho0 (below_size (z22_))); have n1_ := Aside0.mk (blk_below (g := gb237) (o := .cells #[.string (⟨#[]⟩ : ByteArray), .int .i64 0, .int .i64 0, .int .i64 0, .int .i64 0, .int .i64 0] 36 (0, 0)) (z34_) hb); have n2_ := Aside0.mk (below_step (z22_) hb); clear BK237; clear HB; have HO242 := n0_; have BK237 := n1_; have HB := n2_; clear n0_ n1_ n2_; (try clear hb); (try clear hb2); (try clear hk); (try clear hi); (try clear ho0)))
       have n0_ := Aside0.mk (Kd.R_drew HO242.out)
       have n1_ := Aside0.mk (blk_drew BK237.out)
       have n2_ := Aside0.mk (below_drew1 HB.out)
       clear HO242
       clear BK237
       clear HB
       have HO242 := n0_
       have BK237 := n1_
       have HB := n2_
       clear n0_ n1_ n2_
       obtain ⟨Ao45, co45, eo45⟩ := Kd.R_slice HO242.out
       (first | subst eo45 | (injection eo45 with f1_ f2_ f3_; have f4_ := f1_.symm; have f5_ := f3_.symm; clear f1_ f2_ f3_; subst f4_; subst f5_))
       have p243 : 0 ≤ (0 : Int) := (by omega)
       have q243 : 0 < (t239.length : Int) := of_decide_eq_true (z2_)
       obtain ⟨ad243, e243, hx243_0⟩ := Kd.at_int (Kd.R_reads' HO242.out).2.2 0 p243 q243
       cases e243
       have qi243 : (0 < t239.length) = True := eq_true (by omega)
       (try rw [show ((0 : Int)).toNat = 0 from rfl] at hx243_0)
       (try rw [Addr.add_zero'] at hx243_0)
       replace p243 := eq_true p243
       replace q243 := eq_true q243
       have p244 : 0 ≤ (1 : Int) := (by omega)
       have q244 : 1 < (t239.length : Int) := of_decide_eq_true (z2_)
       obtain ⟨ad244, e244, hx244_0⟩ := Kd.at_int (Kd.R_reads' HO242.out).2.2 1 p244 q244
       obtain rfl : ad243 = ad244 := (by injection e244)
       (try simp only [show (1 : Int).toNat = 1 from rfl, Nat.reduceMul, Nat.reduceEqDiff, Go.Addr.add, ↓reduceIte] at hx244_0)
       have qi244 : (1 < t239.length) = True := eq_true (by omega)
       (try rw [show ((1 : Int)).toNat = 1 from rfl] at hx244_0)
       replace p244 := eq_true p244
       replace q244 := eq_true q244
       have p245 : 0 ≤ (2 : Int) := (by omega)
       have q245 : 2 < (t239.length : Int) := of_decide_eq_true (z2_)
       obtain ⟨ad245, e245, hx245_0⟩ := Kd.at_int (Kd.R_reads' HO242.out).2.2 2 p245 q245
       obtain rfl : ad243 = ad245 := (by injection e245)
       (try simp only [show (2 : Int).toNat = 2 from rfl, Nat.reduceMul, Nat.reduceEqDiff, Go.Addr.add, ↓reduceIte] at hx245_0)
       have qi245 : (2 < t239.length) = True := eq_true (by omega)
       (try rw [show ((2 : Int)).toNat = 2 from rfl] at hx245_0)
       replace p245 := eq_true p245
       replace q245 := eq_true q245
       have p246 : 0 ≤ (3 : Int) := (by omega)
       have q246 : 3 < (t239.length : Int) := of_decide_eq_true (z2_)
       obtain ⟨ad246, e246, hx246_0⟩ := Kd.at_int (Kd.R_reads' HO242.out).2.2 3 p246 q246
       obtain rfl : ad243 = ad246 := (by injection e246)
       (try simp only [show (3 : Int).toNat = 3 from rfl, Nat.reduceMul, Nat.reduceEqDiff, Go.Addr.add, ↓reduceIte] at hx246_0)
       have qi246 : (3 < t239.length) = True := eq_true (by omega)
       (try rw [show ((3 : Int)).toNat = 3 from rfl] at hx246_0)
       replace p246 := eq_true p246
       replace q246 := eq_true q246
       have p247 : 0 ≤ (4 : Int) := (by omega)
       have q247 : 4 < (t239.length : Int) := of_decide_eq_true (z2_)
       obtain ⟨ad247, e247, hx247_0⟩ := Kd.at_int (Kd.R_reads' HO242.out).2.2 4 p247 q247
       obtain rfl : ad243 = ad247 := (by injection e247)
       (try simp only [show (4 : Int).toNat = 4 from rfl, Nat.reduceMul, Nat.reduceEqDiff, Go.Addr.add, ↓reduceIte] at hx247_0)
       have qi247 : (4 < t239.length) = True := eq_true (by omega)
       (try rw [show ((4 : Int)).toNat = 4 from rfl] at hx247_0)
       replace p247 := eq_true p247
       replace q247 := eq_true q247
       refine start_ (n := 19) (S := fun w' => w'.cell? ad243 = some (.int .i64 (rd t239 0)) ∧ w'.cell? ⟨ad243.block, ad243.off + 1, none⟩ = some (.int .i64 (rd t239 1)) ∧ w'.cell? ⟨ad243.block, ad243.off + 2, none⟩ = some (.int .i64 (rd t239 2)) ∧ w'.cell? ⟨ad243.block, ad243.off + 3, none⟩ = some (.int .i64 (rd t239 3)) ∧ w'.cell? ⟨ad243.block, ad243.off + 4, none⟩ = some (.int .i64 (rd t239 4))) (ds := []) #[J,J,J,J,J,J,J,J,J,J,J,J,J,J,J,J,J,J,J] (z11_) rfl rfl ⟨hx243_0, hx244_0, hx245_0, hx246_0, hx247_0⟩ (fun hHeld => ?_); refine with_tabW impl_ReadPipe.tab2 impl_ReadPipe.bits2 (fun HT_ HW_ => ?_)
       generalize w43.drew = w44 at HO242 BK237 HB hx243_0 hx244_0 hx245_0 hx246_0 hx247_0 hHeld ⊢
       refine pz_ 0 14 #[Y,J,J,J,J,J,J,J,J,J,J,J,J,J,J,J,J,J,J] HT_ ?_
       refine pz_ 1 15 #[Y,Y,J,J,J,J,J,J,J,J,J,J,J,J,J,J,J,J,J] HT_ ?_
       refine pz_ 2 16 #[Y,Y,Y,J,J,J,J,J,J,J,J,J,J,J,J,J,J,J,J] HT_ ?_
       refine pz_ 4 18 #[Y,Y,Y,J,Y,J,J,J,J,J,J,J,J,J,J,J,J,J,J] HT_ ?_
       refine pz_ 5 19 #[Y,Y,Y,J,Y,Y,J,J,J,J,J,J,J,J,J,J,J,J,J] HT_ ?_
       refine pz_ 7 21 #[Y,Y,Y,J,Y,Y,J,Y,J,J,J,J,J,J,J,J,J,J,J] HT_ ?_
       refine pz_ 8 22 #[Y,Y,Y,J,Y,Y,J,Y,Y,J,J,J,J,J,J,J,J,J,J] HT_ ?_
       refine pz_ 10 24 #[Y,Y,Y,J,Y,Y,J,Y,Y,J,Y,J,J,J,J,J,J,J,J] HT_ ?_
       refine pz_ 11 25 #[Y,Y,Y,J,Y,Y,J,Y,Y,J,Y,Y,J,J,J,J,J,J,J] HT_ ?_
       refine pz_ 13 27 #[Y,Y,Y,J,Y,Y,J,Y,Y,J,Y,Y,J,Y,J,J,J,J,J] HT_ ?_
       refine pz_ 14 28 #[Y,Y,Y,J,Y,Y,J,Y,Y,J,Y,Y,J,Y,Y,J,J,J,J] HT_ ?_
       refine take_ (i := 3) (N := some 17) (v := ?_) (a' := ?_) #[Y,Y,Y,Y,Y,Y,J,Y,Y,J,Y,Y,J,Y,Y,J,J,J,J] rfl rfl (take_ofW HT_.out HW_.out (z11_)) (fun _ _ _ h => h) (Or.inl ⟨by rfl, ?_⟩) hHeld ?_ ?_; rotate_left
       ·rintro w' ⟨s0, s1, s2, s3, s4⟩; go_simp; with_reducible rfl
       rotate_left
       ·simp only [pU,pN,sB,sZ,sS,i64_w,i32_w]; rfl
       refine take_ (i := 6) (N := some 20) (v := ?_) (a' := ?_) #[Y,Y,Y,Y,Y,Y,Y,Y,Y,J,Y,Y,J,Y,Y,J,J,J,J] rfl rfl (take_ofW HT_.out HW_.out (z11_)) (fun _ _ _ h => h) (Or.inl ⟨by rfl, ?_⟩) hHeld ?_ ?_; rotate_left
       ·rintro w' ⟨s0, s1, s2, s3, s4⟩; go_simp; with_reducible rfl
       rotate_left
       ·simp only [pU,pN,sB,sZ,sS,i64_w,i32_w]; rfl
       refine take_ (i := 9) (N := some 23) (v := ?_) (a' := ?_) #[Y,Y,Y,Y,Y,Y,Y,Y,Y,Y,Y,Y,J,Y,Y,J,J,J,J] rfl rfl (take_ofW HT_.out HW_.out (z11_)) (fun _ _ _ h => h) (Or.inl ⟨by rfl, ?_⟩) hHeld ?_ ?_; rotate_left
       ·rintro w' ⟨s0, s1, s2, s3, s4⟩; go_simp; with_reducible rfl
       rotate_left
       ·simp only [pU,pN,sB,sZ,sS,i64_w,i32_w]; rfl
       refine take_ (i := 12) (N := some 26) (v := ?_) (a' := ?_) #[Y,Y,Y,Y,Y,Y,Y,Y,Y,Y,Y,Y,Y,Y,Y,J,J,J,J] rfl rfl (take_ofW HT_.out HW_.out (z11_)) (fun _ _ _ h => h) (Or.inl ⟨by rfl, ?_⟩) hHeld ?_ ?_; rotate_left
       ·rintro w' ⟨s0, s1, s2, s3, s4⟩; go_simp; with_reducible rfl
       rotate_left
       ·simp only [pU,pN,sB,sZ,sS,i64_w,i32_w]; rfl
       refine take_ (i := 15) (N := some 29) (v := ?_) (a' := ?_) #[Y,Y,Y,Y,Y,Y,Y,Y,Y,Y,Y,Y,Y,Y,Y,Y,J,J,J] rfl rfl (take_ofW HT_.out HW_.out (z11_)) (fun _ _ _ h => h) (Or.inl ⟨by rfl, ?_⟩) hHeld ?_ ?_; rotate_left
       ·rintro w' ⟨s0, s1, s2, s3, s4⟩; go_simp; with_reducible rfl
       rotate_left
       ·simp only [pU,pN,sB,sZ,sS,i64_w,i32_w]; rfl
       refine pz_ 16 30 #[Y,Y,Y,Y,Y,Y,Y,Y,Y,Y,Y,Y,Y,Y,Y,Y,Y,J,J] HT_ ?_
       refine one_ (i := 17) (N := some 7) #[Y,Y,Y,Y,Y,Y,Y,Y,Y,Y,Y,Y,Y,Y,Y,Y,Y,Y,J] rfl rfl (one_of HT_.out (z11_)) (by decide) (fun K hK => ?_)
       refine box_step ?hg (N := 7) ?hd (cs := #[.string (⟨#[]⟩ : ByteArray), .int .i64 0, .int .i64 0, .int .i64 0, .int .i64 0, .int .i64 0]) (t := 36) ?hr ?_; (case hd => rfl); (case hg => rfl); (case hr => first | (go_simp; done) | (go_simp; rfl))
       intro gb248 hg w46 hbox hb
       have HS0_ := (hb.cell (World.block_lt_of_cell? _ _ (hHeld.1))).trans (hHeld.1)
       have HS1_ := (hb.cell (World.block_lt_of_cell? _ _ (hHeld.2.1))).trans (hHeld.2.1)
       have HS2_ := (hb.cell (World.block_lt_of_cell? _ _ (hHeld.2.2.1))).trans (hHeld.2.2.1)
       have HS3_ := (hb.cell (World.block_lt_of_cell? _ _ (hHeld.2.2.2.1))).trans (hHeld.2.2.2.1)
       have HS4_ := (hb.cell (World.block_lt_of_cell? _ _ (hHeld.2.2.2.2))).trans (hHeld.2.2.2.2)
       have n0_ := Aside0.mk (Kd.R_below (z156_) hb)
       have n1_ := Aside0.mk (blk_below (g := gb237) (o := .cells #[.string (⟨#[]⟩ : ByteArray), .int .i64 0, .int .i64 0, .int .i64 0, .int .i64 0, .int .i64 0] 36 (0, 0)) (z34_) hb)
       have n2_ := Aside0.mk (below_step (z22_) hb)
       have n3_ := Aside0.mk (hbox)
       have n4_ := Aside0.mk ((z58_ : w.heap.size ≤ gb248))
       have n5_ := Aside0.mk ((z58_ : w.heap.size ≤ gb248))
       have n6_ := Aside0.mk ((z71_ : gb237 ≠ gb248))
       have n7_ := Aside0.mk ((z72_ : gb248 ≠ gb237))
       clear HO242
       clear BK237
       clear HB
       have HO242 := n0_
       have BK237 := n1_
       have HB := n2_
       have BK248 := n3_
       have GW248 := n4_
       have GE248 := n5_
       have NB237_248 := n6_
       have NB248_237 := n7_
       clear n0_ n1_ n2_ n3_ n4_ n5_ n6_ n7_
       clear hb hbox hg
       refine hK.out _ _ ⟨HS0_, HS1_, HS2_, HS3_, HS4_⟩ (fun hHeld => ?_)
       clear hK K
       refine norm_ (a' := ?_) ?_ ?_
       rotate_left
       ·show Act.put _ (some 7) _ = _
        simp only [pU,pN,sB,sZ,sS,i64_w,i32_w]
        rfl
       refine one_ (i := 18) (N := none) #[Y,Y,Y,Y,Y,Y,Y,Y,Y,Y,Y,Y,Y,Y,Y,Y,Y,Y,Y] rfl rfl (one_of HT_.out (z11_)) (by decide) (fun K hK => ?_)
       have hs47 := bc0_ w46 BK248.out
       have hfs47 := blk_frozen BK248.out 0
       have hns47_0 := NB237_248.out
       have hms47_0 := NB248_237.out
       have hs48 := bc1_ w46 BK248.out
       have hfs48 := blk_frozen BK248.out 1
       have hns48_0 := NB237_248.out
       have hms48_0 := NB248_237.out
       have hs49 := bc2_ w46 BK248.out
       have hfs49 := blk_frozen BK248.out 2
       have hns49_0 := NB237_248.out
       have hms49_0 := NB248_237.out
       have hs50 := bc3_ w46 BK248.out
       have hfs50 := blk_frozen BK248.out 3
       have hns50_0 := NB237_248.out
       have hms50_0 := NB248_237.out
       have hs51 := bc4_ w46 BK248.out
       have hfs51 := blk_frozen BK248.out 4
       have hns51_0 := NB237_248.out
       have hms51_0 := NB248_237.out
       have hs52 := bc5_ w46 BK248.out
       have hfs52 := blk_frozen BK248.out 5
       have hns52_0 := NB237_248.out
       have hms52_0 := NB248_237.out
       refine skip_ (w1 := ?_) (by rfl) rfl ?_ ?_
       rotate_left
       ·go_simp
        rfl
       refine hK.out _ _ ⟨?_, ?_, ?_, ?_, ?_⟩ (fun hHeld => ?_)
       ·have e0_ := Kd.own_blk (Kd.R_ne HO242.out BK248.out (by decide))
        refine Eq.trans (cell_far (p := ⟨gb248, 5, none⟩) (z3_) _) ?_
        refine Eq.trans (cell_far (p := ⟨gb248, 4, none⟩) (z3_) _) ?_
        refine Eq.trans (cell_far (p := ⟨gb248, 3, none⟩) (z3_) _) ?_
        refine Eq.trans (cell_far (p := ⟨gb248, 2, none⟩) (z3_) _) ?_
        refine Eq.trans (cell_far (p := ⟨gb248, 1, none⟩) (z3_) _) ?_
        refine Eq.trans (cell_far (p := ⟨gb248, 0, none⟩) (z3_) _) ?_
        exact hHeld.1
       ·have e0_ := Kd.own_blk (Kd.R_ne HO242.out BK248.out (by decide))
        refine Eq.trans (cell_far (p := ⟨gb248, 5, none⟩) (z3_) _) ?_
        refine Eq.trans (cell_far (p := ⟨gb248, 4, none⟩) (z3_) _) ?_
        refine Eq.trans (cell_far (p := ⟨gb248, 3, none⟩) (z3_) _) ?_
        refine Eq.trans (cell_far (p := ⟨gb248, 2, none⟩) (z3_) _) ?_
        refine Eq.trans (cell_far (p := ⟨gb248, 1, none⟩) (z3_) _) ?_
        refine Eq.trans (cell_far (p := ⟨gb248, 0, none⟩) (z3_) _) ?_
        exact hHeld.2.1
       ·have e0_ := Kd.own_blk (Kd.R_ne HO242.out BK248.out (by decide))
        refine Eq.trans (cell_far (p := ⟨gb248, 5, none⟩) (z3_) _) ?_
        refine Eq.trans (cell_far (p := ⟨gb248, 4, none⟩) (z3_) _) ?_
        refine Eq.trans (cell_far (p := ⟨gb248, 3, none⟩) (z3_) _) ?_
        refine Eq.trans (cell_far (p := ⟨gb248, 2, none⟩) (z3_) _) ?_
        refine Eq.trans (cell_far (p := ⟨gb248, 1, none⟩) (z3_) _) ?_
        refine Eq.trans (cell_far (p := ⟨gb248, 0, none⟩) (z3_) _) ?_
        exact hHeld.2.2.1
       ·have e0_ := Kd.own_blk (Kd.R_ne HO242.out BK248.out (by decide))
        refine Eq.trans (cell_far (p := ⟨gb248, 5, none⟩) (z3_) _) ?_
        refine Eq.trans (cell_far (p := ⟨gb248, 4, none⟩) (z3_) _) ?_
        refine Eq.trans (cell_far (p := ⟨gb248, 3, none⟩) (z3_) _) ?_
        refine Eq.trans (cell_far (p := ⟨gb248, 2, none⟩) (z3_) _) ?_
        refine Eq.trans (cell_far (p := ⟨gb248, 1, none⟩) (z3_) _) ?_
        refine Eq.trans (cell_far (p := ⟨gb248, 0, none⟩) (z3_) _) ?_
        exact hHeld.2.2.2.1
       ·have e0_ := Kd.own_blk (Kd.R_ne HO242.out BK248.out (by decide))
        refine Eq.trans (cell_far (p := ⟨gb248, 5, none⟩) (z3_) _) ?_
        refine Eq.trans (cell_far (p := ⟨gb248, 4, none⟩) (z3_) _) ?_
        refine Eq.trans (cell_far (p := ⟨gb248, 3, none⟩) (z3_) _) ?_
        refine Eq.trans (cell_far (p := ⟨gb248, 2, none⟩) (z3_) _) ?_
        refine Eq.trans (cell_far (p := ⟨gb248, 1, none⟩) (z3_) _) ?_
        refine Eq.trans (cell_far (p := ⟨gb248, 0, none⟩) (z3_) _) ?_
        exact hHeld.2.2.2.2
       clear hK K
       refine done_ (done_of HT_.out (z11_)) ?_
       have hnb53 := NB237_248.out
       have hnc53 := NB248_237.out
       have hcz54_0 := bc0_ w46 BK237.out
       have hcz54_1 := bc1_ w46 BK237.out
       have hcz54_2 := bc2_ w46 BK237.out
       have hcz54_3 := bc3_ w46 BK237.out
       have hcz54_4 := bc4_ w46 BK237.out
       have hcz54_5 := bc5_ w46 BK237.out
       have hfz54_0 := blk_frozen BK237.out 0
       have hfz54_1 := blk_frozen BK237.out 1
       have hfz54_2 := blk_frozen BK237.out 2
       have hfz54_3 := blk_frozen BK237.out 3
       have hfz54_4 := blk_frozen BK237.out 4
       have hfz54_5 := blk_frozen BK237.out 5
       try go_wp2
       refine bodyPost_ret (results_ct rfl _ _ gb237 36 #[.string (⟨#[]⟩ : ByteArray), .int .i64 0, .int .i64 0, .int .i64 0, .int .i64 0, .int .i64 0] (0, 0) _ rfl (by (with_reducible repeat (first | refine bN ?_ _|refine bW ?_|refine bA ?_ _)); refine blk_put (cs := #[.string (⟨#[]⟩ : ByteArray), .int .i64 0, .int .i64 0, .int .i64 0, .int .i64 0, .int .i64 0]) ?_ 5 _ rfl; (with_reducible repeat (first | refine bN ?_ _|refine bW ?_|refine bA ?_ _)); refine blk_put (cs := #[.string (⟨#[]⟩ : ByteArray), .int .i64 0, .int .i64 0, .int .i64 0, .int .i64 0, .int .i64 0]) ?_ 4 _ rfl; (with_reducible repeat (first | refine bN ?_ _|refine bW ?_|refine bA ?_ _)); refine blk_put (cs := #[.string (⟨#[]⟩ : ByteArray), .int .i64 0, .int .i64 0, .int .i64 0, .int .i64 0, .int .i64 0]) ?_ 3 _ rfl; (with_reducible repeat (first | refine bN ?_ _|refine bW ?_|refine bA ?_ _)); refine blk_put (cs := #[.string (⟨#[]⟩ : ByteArray), .int .i64 0, .int .i64 0, .int .i64 0, .int .i64 0, .int .i64 0]) ?_ 2 _ rfl; (with_reducible repeat (first | refine bN ?_ _|refine bW ?_|refine bA ?_ _)); refine blk_put (cs := #[.string (⟨#[]⟩ : ByteArray), .int .i64 0, .int .i64 0, .int .i64 0, .int .i64 0, .int .i64 0]) ?_ 1 _ rfl; (with_reducible repeat (first | refine bN ?_ _|refine bW ?_|refine bA ?_ _)); refine blk_put (cs := #[.string (⟨#[]⟩ : ByteArray), .int .i64 0, .int .i64 0, .int .i64 0, .int .i64 0, .int .i64 0]) ?_ 0 _ rfl; (with_reducible repeat (first | refine bN ?_ _|refine bW ?_|refine bA ?_ _)); refine blk_far ?_ NB237_248.out _; (with_reducible repeat (first | refine bN ?_ _|refine bW ?_|refine bA ?_ _)); refine blk_far ?_ NB237_248.out _; (with_reducible repeat (first | refine bN ?_ _|refine bW ?_|refine bA ?_ _)); refine blk_far ?_ NB237_248.out _; (with_reducible repeat (first | refine bN ?_ _|refine bW ?_|refine bA ?_ _)); refine blk_far ?_ NB237_248.out _; (with_reducible repeat (first | refine bN ?_ _|refine bW ?_|refine bA ?_ _)); refine blk_far ?_ NB237_248.out _; (with_reducible repeat (first | refine bN ?_ _|refine bW ?_|refine bA ?_ _)); refine blk_far ?_ NB237_248.out _; (with_reducible repeat (first | refine bN ?_ _|refine bW ?_|refine bA ?_ _)); exact BK237.out) Tryz.underlying36 rfl (z11_)) rfl ?_
       exact ⟨z6_, z36_⟩
     ·rw [if_neg c7] at H
      exact absurd H (by simp)
    ·rw [if_neg c6] at H
     exact absurd H (by simp)
   ·rw [if_neg c5] at H
    exact absurd H (by simp)
  ·rw [if_neg c4] at H
   exact absurd H (by simp)
 ·rw [if_neg c3] at H
  exact absurd H (by simp)


/-! ### slices_IndexFunc_int64_int64: function 84 -/
open Go.Proofs.YtabgkdejpkpejaaGreatDoorM
/-- Where the first element with a property lies; -1. -/
def firstIdx (p : Int → Bool) (l : List Int) : Int := if l.any p = true then (l.findIdx p : Nat) else -1
theorem firstIdx_at (p : Int → Bool) (l : List Int) (k : Nat) (hk : k < l.length) (h0 : ∀ j, j < k → p (l.getD j 0) = false) (h1 : p (l.getD k 0) = true) : firstIdx p l = k := by
  have e : ∀ j (h : j < l.length), l.getD j 0 = l[j] := fun j h => by simp [List.getD_eq_getElem?_getD, List.getElem?_eq_getElem h]
  unfold firstIdx
  rw [if_pos (List.any_eq_true.2 ⟨l[k], List.getElem_mem hk, by rw [← e k hk]; exact h1⟩)]
  congr 1
  refine (List.findIdx_eq hk).2 ⟨by rw [← e k hk]; exact h1, fun j hj => ?_⟩
  have := h0 j hj
  rw [e j (by omega)] at this
  simpa using this
theorem firstIdx_none (p : Int → Bool) (l : List Int) (h0 : ∀ j, j < l.length → p (l.getD j 0) = false) : firstIdx p l = -1 := by
  unfold firstIdx
  rw [if_neg]
  intro h
  obtain ⟨x, hx, hp⟩ := List.any_eq_true.1 h
  obtain ⟨j, hj, rfl⟩ := List.getElem_of_mem hx
  have := h0 j hj
  rw [List.getD_eq_getElem?_getD, List.getElem?_eq_getElem hj] at this
  simp only [Option.getD_some] at this
  rw [this] at hp
  cases hp
set_option maxHeartbeats 4000000 in
set_option maxRecDepth 100000 in
theorem indexFunc_any (g : Nat) (cb : Array Value) (A : Option Addr) (c : Nat) (l : List Int) (p : Int → Bool) (w : World) (eg : Enters Tryz.prog g) (hr : Kd.C (Kd.int .i64) w A l.length l) (hl : l.length ≤ 4611686018427387904)
    (hf : ∀ (W : World) (j : Nat), Below w.heap.size w W → j < l.length → Calls Tryz.prog g (#[.int .i64 (l.getD j 0)] ++ cb) W fun e w' => e = .returned (.bool (p (l.getD j 0))) ∧ Below W.heap.size W w') :
    Calls Tryz.prog 84 #[.slice A l.length c, .func (.func g) #[] cb] w fun e w' => e = .returned (.int .i64 (firstIdx p l)) ∧ Below w.heap.size w w' := by
  have HR := Aside0.mk hr
  have HF := Aside0.mk hf
  clear hr hf
  have eg' : ∀ args w, (callFunc g args).run Tryz.prog w = .ok (.enter g args) w := eg
  clear eg
  obtain ⟨r, hr0⟩ : ∃ r, firstIdx p l = r := ⟨_, rfl⟩
  rw [hr0]
  have R := Aside0.mk hr0
  clear hr0
  go_enter Tryz.func84, Tryz.ntmps84
  go_wp2
  go_loopw [8, 5] (fun v _ wr => ∃ k : Nat, k ≤ l.length ∧ v = .int .i64 k ∧ Aside0 (Below w.heap.size w wr) ∧ Aside0 (∀ j, j < k → p (l.getD j 0) = false)) (fun v _ _ => l.length - (intOf v).toNat)
  case atStart => exact ⟨0, by omega, rfl, ⟨Below.refl _ _⟩, ⟨fun j hj => by omega⟩⟩
  case round =>
    obtain ⟨k, hk, rfl, HB, I⟩ := hrel
    by_cases hlt : k < l.length
    · have hc := HF.out wr k HB.out hlt
      have i0 : (0 : Int) ≤ (k : Int) := by omega
      have i1 : (k : Int) < (l.length : Int) := by omega
      obtain ⟨ad, ead, hx⟩ := Kd.at_int (Kd.C_below HR.out HB.out) (k : Int) i0 i1
      cases ead
      have ex : rd l (k : Int) = l.getD k 0 := by unfold rd; rw [Int.toNat_natCast]
      rw [ex, Int.toNat_natCast] at hx
      clear ex
      cases hp : p (l.getD k 0) <;> rw [hp] at hc
      · have P0 := Aside0.mk hp
        clear hp
        generalize l.getD k 0 = x at hc hx
        go_wp2_with (go_at_fn g; refine hc.mono ?_; rintro e w' ⟨rfl, hb⟩)
        go_roundw
        case rel => exact ⟨k + 1, by omega, by go_num, ⟨below_then HB.out HB.out.size hb⟩, ⟨fun j hj => by
          by_cases e : j = k
          · subst e; exact P0.out
          · exact I.out j (by omega)⟩⟩
        case measure => simp [intOf]; omega
      · have P0 := Aside0.mk hp
        clear hp
        have E := Aside0.mk (firstIdx_at p l k hlt I.out P0.out)
        generalize l.getD k 0 = x at hc hx
        go_wp2_with (go_at_fn g; refine hc.mono ?_; rintro e w' ⟨rfl, hb⟩)
        go_ret
        exact ⟨by rw [← R.out, E.out]; rfl, below_then HB.out HB.out.size hb⟩
    · have E := Aside0.mk (firstIdx_none p l (fun j hj => I.out j (by omega)))
      go_wp2
      go_ret
      exact ⟨by rw [← R.out, E.out]; rfl, HB.out⟩


/-! ### slices_ContainsFunc_int64_int64: function 65 -/
theorem firstIdx_any (p : Int → Bool) (l : List Int) : decide (0 ≤ firstIdx p l) = l.any p := by
  unfold firstIdx
  cases h : l.any p
  · simp
  · simp
set_option maxHeartbeats 1000000 in
set_option maxRecDepth 100000 in
theorem containsFunc_any (g : Nat) (cb : Array Value) (A : Option Addr) (c : Nat) (l : List Int) (p : Int → Bool) (w : World) (eg : Enters Tryz.prog g) (hr : Kd.C (Kd.int .i64) w A l.length l) (hl : l.length ≤ 4611686018427387904)
    (hf : ∀ (W : World) (j : Nat), Below w.heap.size w W → j < l.length → Calls Tryz.prog g (#[.int .i64 (l.getD j 0)] ++ cb) W fun e w' => e = .returned (.bool (p (l.getD j 0))) ∧ Below W.heap.size W w') :
    Calls Tryz.prog 65 #[.slice A l.length c, .func (.func g) #[] cb] w fun e w' => e = .returned (.bool (l.any p)) ∧ Below w.heap.size w w' := by
  have hS := indexFunc_any g cb A c l p w eg hr hl hf
  have hd := firstIdx_any p l
  generalize firstIdx p l = k at hS hd
  have HS := Aside0.mk hS
  have HD := Aside0.mk hd
  clear hS hd hr hf eg
  rw [← HD.out]
  go_enter Tryz.func65, Tryz.ntmps65
  go_wp2_with (go_at_call 84; refine HS.out.mono ?_; rintro e w' ⟨rfl, hb⟩)
  go_ret
  exact ⟨rfl, hb⟩


/-! ### impl_allWithin: function 47 -/
open Go.Proofs.YtabgkdejpkpejaaGreatDoorM
def allIn (lo hi : Int) (l : List Int) : Bool := l.all fun x => decide (lo ≤ x ∧ x ≤ hi)
def impl_allWithin.f (l0 : List Int) (a1 a2 : Int) : Option Bool := if l0.length ≤ 4611686018427387904 then some (allIn a1 a2 l0) else none
set_option maxHeartbeats 1000000 in
set_option maxRecDepth 100000 in
theorem allWithin_closure (B0 B1 : Nat) (lo hi x : Int) (W : World) (c0 : W.cell? ⟨B0, 0, none⟩ = some (.int .i64 lo)) (c1 : W.cell? ⟨B1, 0, none⟩ = some (.int .i64 hi)) :
    Calls Tryz.prog 66 (#[.int .i64 x] ++ #[.pointer (some ⟨B0, 0, none⟩), .pointer (some ⟨B1, 0, none⟩)]) W fun e w' => e = .returned (.bool (!decide (lo ≤ x ∧ x ≤ hi))) ∧ Below W.heap.size W w' := by
  have E : Aside0 (impl_within_.f x lo hi = some (decide (lo ≤ x ∧ x ≤ hi))) := ⟨rfl⟩
  generalize decide (lo ≤ x ∧ x ≤ hi) = b at E
  go_enter Tryz.func66, Tryz.ntmps66
  go_wp2_with (go_at_call 43; (with_reducible refine (impl_within_.calls x lo hi b _ E.out).mono ?_); rintro e w' ⟨rfl, ⟨nd, rfl⟩⟩)
  go_ret
  exact ⟨rfl, z140_⟩
theorem all_not_any (lo hi : Int) (l : List Int) : (!(l.any fun x => !decide (lo ≤ x ∧ x ≤ hi))) = allIn lo hi l := by
  unfold allIn
  induction l with
  | nil => rfl
  | cons a l ih => simp only [List.any_cons, List.all_cons, Bool.not_or, Bool.not_not, ih]
set_option maxHeartbeats 1000000 in
set_option maxRecDepth 100000 in
theorem impl_allWithin.calls (A0 : Option Addr) (c0 : Nat) (l0 : List Int) (a1 a2 : Int) (r : Bool) (w : World) (hr0 : Kd.C (Kd.int .i64) w A0 l0.length l0) (hc0 : l0.length ≤ c0) (h : impl_allWithin.f l0 a1 a2 = some r) :
    Calls Tryz.prog 47 #[.slice A0 l0.length c0, .int .i64 a1, .int .i64 a2] w fun e w' => e = .returned (.bool r) ∧ Below w.heap.size w w' := by
  unfold impl_allWithin.f at h
  split at h
  · rename_i hl
    have hb1 := below_alloc (Below.refl w.heap.size w) (.cells #[.int .i64 a1] 2)
    have hb2 := below_alloc hb1 (.cells #[.int .i64 a2] 2)
    have d0 : ((w.alloc (.cells #[.int .i64 a1] 2)).alloc (.cells #[.int .i64 a2] 2)).cell? ⟨w.heap.size, 0, none⟩ = some (.int .i64 a1) := cell_kept _ (cell_new1 w _ _)
    have d1 : ((w.alloc (.cells #[.int .i64 a1] 2)).alloc (.cells #[.int .i64 a2] 2)).cell? ⟨w.heap.size + 1, 0, none⟩ = some (.int .i64 a2) := by have := cell_new1 (w.alloc (.cells #[.int .i64 a1] 2)) (.int .i64 a2) 2; rwa [World.size_alloc] at this
    have hs : ((w.alloc (.cells #[.int .i64 a1] 2)).alloc (.cells #[.int .i64 a2] 2)).heap.size = w.heap.size + 1 + 1 := by simp
    have hS := containsFunc_any 66 #[.pointer (some ⟨w.heap.size, 0, none⟩), .pointer (some ⟨w.heap.size + 1, 0, none⟩)] A0 c0 l0 (fun x => !decide (a1 ≤ x ∧ x ≤ a2)) _ (enters_of Tryz.func66 (z11_) rfl) (Kd.C_below hr0 hb2) hl
      (fun W j hb hj => allWithin_closure w.heap.size (w.heap.size + 1) a1 a2 _ W ((hb.cell (p := ⟨w.heap.size, 0, none⟩) (by rw [hs]; show w.heap.size < _; omega)).trans d0) ((hb.cell (p := ⟨w.heap.size + 1, 0, none⟩) (by rw [hs]; show w.heap.size + 1 < _; omega)).trans d1))
    have ha : (!(l0.any fun x => !decide (a1 ≤ x ∧ x ≤ a2))) = r := by rw [all_not_any]; exact Option.some.inj h
    generalize (l0.any fun x => !decide (a1 ≤ x ∧ x ≤ a2)) = b at hS ha
    subst ha
    have HS := Aside0.mk hS
    have HB := Aside0.mk hb2
    clear hS hb1 hb2 d0 d1 hs h hl hr0 hc0
    go_enter Tryz.func47, Tryz.ntmps47
    go_wp2_with (go_at_call 65; refine HS.out.mono ?_; rintro e w' ⟨rfl, hb⟩)
    go_ret
    exact ⟨rfl, below_then HB.out HB.out.size hb⟩
  · exact absurd h (by simp)

end Go.Proofs.YtabgkdejpkpejaaGreatDoor.PFnExactReadNetwork
