-- Printed by a program of this session (wip/hprint.sh: the kit's print with hand-proved contracts put in); not by print.sh itself.
import Derived.Test.YtabgkdejpkpejaaDoorPFnExactReadPipex0
import Derived.Test.YtabgkdejpkpejaaDoorPFnExactReadPipex5
namespace Go.Proofs.YtabgkdejpkpejaaDoor.PFnExactReadPipe
open Go.RowKit Go.Proofs.YtabgkdejpkpejaaDoorW.PrintWords Go.Proofs.YtabgkdejpkpejaaDoorW.PrintLast Go.Proofs.YtabgkdejpkpejaaDoorW.PrintMore Go.Proofs.YtabgkdejpkpejaaDoorM
attribute [local go_sem] max2_int min2_int max_two min_two max_three min_three max_four min_four   -- for this text's walks alone
set_option linter.unusedVariables false
set_option linter.unusedSimpArgs false

/-! ### impl_ReadPipe: function 39 -/
def impl_ReadPipe.f (k : Nat) (a0 : ByteArray) : Option (ByteArray × Int × Int × Int × Int × Int × Bool) := (impl_readWithId.f k a0 5).bind fun bt206 => (if 0 < (bt206.2.1.length : Int) then (if 1 < (bt206.2.1.length : Int) then (if 2 < (bt206.2.1.length : Int) then (if 3 < (bt206.2.1.length : Int) then (if 4 < (bt206.2.1.length : Int) then (if bt206.2.2 = true then ((impl_PipeText.f k bt206.1 (rd bt206.2.1 0) (rd bt206.2.1 1) (rd bt206.2.1 2) (rd bt206.2.1 3) (rd bt206.2.1 4)).bind fun t217 => (if t217.toList = a0.toList then (some (bt206.1, rd bt206.2.1 0, rd bt206.2.1 1, rd bt206.2.1 2, rd bt206.2.1 3, rd bt206.2.1 4, true)) else (some ((⟨#[]⟩ : ByteArray), 0, 0, 0, 0, 0, false)))) else (some ((⟨#[]⟩ : ByteArray), 0, 0, 0, 0, 0, false))) else (none)) else (none)) else (none)) else (none)) else (none))
theorem impl_ReadPipe.mono : ∀ a0 k, LeO (impl_ReadPipe.f k a0) (impl_ReadPipe.f (k + 1) a0) := by
 intro a0 k
 unfold impl_ReadPipe.f
 repeat' first
   | (with_reducible exact impl_PipeText.mono _ _ _ _ _ _ _)
   | (with_reducible exact impl_readWithId.mono _ _ _)
   | (with_reducible exact LeO.refl _)
   | (with_reducible exact LeO.none _)
   | (with_reducible refine LeO.ite ?_ ?_)
   | (with_reducible refine LeO.bind ?_ (fun _ => ?_))
   | exact impl_PipeText.mono _ _ _ _ _ _ _
   | exact impl_readWithId.mono _ _ _
   | exact LeO.none _
   | refine LeO.ite ?_ ?_
   | refine LeO.bind ?_ (fun _ => ?_)
def impl_ReadPipe.T2 : Bool × List (List Nat × List Nat) := (true, [([], []), ([], []), ([1], [1]), ([2], [2]), ([], []), ([4], [4]), ([5], [5]), ([], []), ([7], [7]), ([8], [8]), ([], []), ([10], [10]), ([11], [11]), ([], []), ([13], [13]), ([14], [14]), ([0, 3, 6, 9, 12, 15], [0, 3, 6, 9, 12, 15]), ([], []), ([17, 16, 0, 1, 2, 3, 4, 5, 6, 7, 8, 9, 10, 11, 12, 13, 14, 15, 16, 17], [16, 17])])
def impl_ReadPipe.B2 : List Nat := [0, 0, 2, 6, 0, 16, 48, 0, 128, 384, 0, 1024, 3072, 0, 8192, 24576, 65535, 0, 262143]
theorem impl_ReadPipe.tab2 : rtab .any (opsOf Tryd.f39 2) = impl_ReadPipe.T2 := by kernel_rfl
theorem impl_ReadPipe.bits2 : waitsOk impl_ReadPipe.T2.2 impl_ReadPipe.B2 = true := by kernel_rfl
set_option maxHeartbeats 8000000 in
set_option maxRecDepth 100000 in
theorem impl_ReadPipe.calls (k : Nat) (a0 : ByteArray) (r1 : ByteArray) (r2 : Int) (r3 : Int) (r4 : Int) (r5 : Int) (r6 : Int) (r7 : Bool) (w : World) (ht : Tabs true true true w) (h : impl_ReadPipe.f k a0 = some (r1, r2, r3, r4, r5, r6, r7)) :
  Calls Tryd.prog 39 #[.string a0] w fun e w' => e = .returned (.tuple #[.agg #[.string r1, .int .i64 r2, .int .i64 r3, .int .i64 r4, .int .i64 r5, .int .i64 r6], .bool r7]) ∧ Below w.heap.size w w' := by
 have HT := Aside0.mk ht
 clear ht
 have hu43 := Tryd.underlying43
 have HB := Aside0.mk (Below.refl w.heap.size w)
 have H : ((impl_readWithId.f k a0 5).bind fun bt206 => (if 0 < (bt206.2.1.length : Int) then (if 1 < (bt206.2.1.length : Int) then (if 2 < (bt206.2.1.length : Int) then (if 3 < (bt206.2.1.length : Int) then (if 4 < (bt206.2.1.length : Int) then (if bt206.2.2 = true then ((impl_PipeText.f k bt206.1 (rd bt206.2.1 0) (rd bt206.2.1 1) (rd bt206.2.1 2) (rd bt206.2.1 3) (rd bt206.2.1 4)).bind fun t217 => (if t217.toList = a0.toList then (some (bt206.1, rd bt206.2.1 0, rd bt206.2.1 1, rd bt206.2.1 2, rd bt206.2.1 3, rd bt206.2.1 4, true)) else (some ((⟨#[]⟩ : ByteArray), 0, 0, 0, 0, 0, false)))) else (some ((⟨#[]⟩ : ByteArray), 0, 0, 0, 0, 0, false))) else (none)) else (none)) else (none)) else (none)) else (none))) = some (r1, r2, r3, r4, r5, r6, r7) := h
 clear h
 replace H := Option.bind_eq_some_iff.mp H
 obtain ⟨⟨t206, t207, t208⟩, A20, H⟩ := H
 replace H : (if 0 < (t207.length : Int) then (if 1 < (t207.length : Int) then (if 2 < (t207.length : Int) then (if 3 < (t207.length : Int) then (if 4 < (t207.length : Int) then (if t208 = true then ((impl_PipeText.f k t206 (rd t207 0) (rd t207 1) (rd t207 2) (rd t207 3) (rd t207 4)).bind fun t217 => (if t217.toList = a0.toList then (some (t206, rd t207 0, rd t207 1, rd t207 2, rd t207 3, rd t207 4, true)) else (some ((⟨#[]⟩ : ByteArray), 0, 0, 0, 0, 0, false)))) else (some ((⟨#[]⟩ : ByteArray), 0, 0, 0, 0, 0, false))) else (none)) else (none)) else (none)) else (none)) else (none)) = some (r1, r2, r3, r4, r5, r6, r7) := H
 have A2 := Aside0.mk A20
 clear A20
 by_cases c3 : 0 < (t207.length : Int)
 ·rw [if_pos c3] at H
  have c3b0 : decide (0 < (t207.length : Int)) = true := decide_eq_true c3
  have c3b1 : decide (0 < t207.length) = true := decide_eq_true (by omega)
  clear c3
  by_cases c4 : 1 < (t207.length : Int)
  ·rw [if_pos c4] at H
   have c4b0 : decide (1 < (t207.length : Int)) = true := decide_eq_true c4
   have c4b1 : decide (1 < t207.length) = true := decide_eq_true (by omega)
   clear c4
   by_cases c5 : 2 < (t207.length : Int)
   ·rw [if_pos c5] at H
    have c5b0 : decide (2 < (t207.length : Int)) = true := decide_eq_true c5
    have c5b1 : decide (2 < t207.length) = true := decide_eq_true (by omega)
    clear c5
    by_cases c6 : 3 < (t207.length : Int)
    ·rw [if_pos c6] at H
     have c6b0 : decide (3 < (t207.length : Int)) = true := decide_eq_true c6
     have c6b1 : decide (3 < t207.length) = true := decide_eq_true (by omega)
     clear c6
     by_cases c7 : 4 < (t207.length : Int)
     ·rw [if_pos c7] at H
      have c7b0 : decide (4 < (t207.length : Int)) = true := decide_eq_true c7
      have c7b1 : decide (4 < t207.length) = true := decide_eq_true (by omega)
      clear c7
      by_cases c8 : t208 = true
      ·subst c8
       have H1 : ((impl_PipeText.f k t206 (rd t207 0) (rd t207 1) (rd t207 2) (rd t207 3) (rd t207 4)).bind fun t217 => (if t217.toList = a0.toList then (some (t206, rd t207 0, rd t207 1, rd t207 2, rd t207 3, rd t207 4, true)) else (some ((⟨#[]⟩ : ByteArray), 0, 0, 0, 0, 0, false)))) = some (r1, r2, r3, r4, r5, r6, r7) := by rw [if_pos rfl] at H; exact H
       clear H
       have H := H1
       clear H1
       replace H := Option.bind_eq_some_iff.mp H
       obtain ⟨t217, A90, H⟩ := H
       replace H : (if t217.toList = a0.toList then (some (t206, rd t207 0, rd t207 1, rd t207 2, rd t207 3, rd t207 4, true)) else (some ((⟨#[]⟩ : ByteArray), 0, 0, 0, 0, 0, false))) = some (r1, r2, r3, r4, r5, r6, r7) := H
       have A9 := Aside0.mk A90
       clear A90
       by_cases c10 : t217.toList = a0.toList
       ·rw [if_pos c10] at H
        have c10b0 : (t217.toList == a0.toList) = true := beq_iff_eq.mpr c10
        have c10b1 : (t217.toList != a0.toList) = false := bne_eq_false_iff_eq.mpr c10
        clear c10
        simp only [Option.some.injEq, Prod.mk.injEq] at H
        obtain ⟨rfl, rfl, rfl, rfl, rfl, rfl, rfl⟩ := H
        go_enter Tryd.func39, Tryd.ntmps39
        try go_wp2_with (first | ((with_reducible refine gate_dst (N := 2) rfl ?_); refine box_event ?hg (N := 2) ?hd (cs := #[.string (⟨#[]⟩ : ByteArray), .int .i64 0, .int .i64 0, .int .i64 0, .int .i64 0, .int .i64 0]) (t := 43) ?hr ?_; (case hd => rfl); (case hg => rfl); (case hr => first | (go_simp; done) | (go_simp; rfl)); intro gb205 hg w11 hbox hb; have n0_ := Aside0.mk (below_step (by repeat (first | (with_reducible first | exact HB.out|apply wA|apply wN|apply wD) | exact HB.out)) hb); have n1_ := Aside0.mk (hbox); have n2_ := Aside0.mk ((by rw [hg]; exact (below_size (by repeat (first | (with_reducible first | exact HB.out|apply wA|apply wN|apply wD) | exact HB.out))) : w.heap.size ≤ gb205)); have n3_ := Aside0.mk ((by rw [hg]; exact (below_size (by repeat (first | (with_reducible first | exact HB.out|apply wA|apply wN|apply wD) | exact HB.out))) : w.heap.size ≤ gb205)); clear HB; have HB := n0_; have BK205 := n1_; have GW205 := n2_; have GE205 := n3_; clear n0_ n1_ n2_ n3_; clear hb hbox hg) | ((with_reducible refine gate_callee (f := 72) rfl ?_); refine goesL_ (some 10) rfl rfl Tryd.func72 (by kernel_rfl) rfl #[.string a0, .int .i64 5] rfl (by (try simp only [List.map_toArray, List.map_cons, List.map_nil]); first | done | rfl | (simp only [List.length_drop, List.length_take]; rfl)) ?_; (with_reducible refine (impl_readWithId.calls k a0 5 t206 t207 true _ ?sideT A2.out).mono ?_); (case sideT => exact HT.out.now (by repeat (first | (with_reducible first | exact HB.out|apply wA|apply wN|apply wD |refine wS ?_ GE205.out) | exact HB.out))); rintro e w12 ⟨v209, rfl, ho0, hb⟩; refine ⟨_, rfl, ?_⟩; have n0_ := Aside0.mk (Kd.R_lower ho0 (below_size (by repeat (first | (with_reducible first | exact HB.out|apply wA|apply wN|apply wD |refine wS ?_ GE205.out) | exact HB.out)))); have n1_ := Aside0.mk (blk_below (g := gb205) (o := .cells #[.string (⟨#[]⟩ : ByteArray), .int .i64 0, .int .i64 0, .int .i64 0, .int .i64 0, .int .i64 0] 43 (0, 0)) (by (with_reducible repeat (first | refine bN ?_ _|refine bW ?_|refine bA ?_ _)); exact BK205.out) hb); have n2_ := Aside0.mk (below_step (by repeat (first | (with_reducible first | exact HB.out|apply wA|apply wN|apply wD |refine wS ?_ GE205.out) | exact HB.out)) hb); clear BK205; clear HB; have HO210 := n0_; have BK205 := n1_; have HB := n2_; clear n0_ n1_ n2_; (try clear hb); (try clear hb2); (try clear hk); (try clear hi); (try clear ho0)))
        have n0_ := Aside0.mk (Kd.R_drew HO210.out)
        have n1_ := Aside0.mk (blk_drew BK205.out)
        have n2_ := Aside0.mk (below_drew1 HB.out)
        clear HO210
        clear BK205
        clear HB
        have HO210 := n0_
        have BK205 := n1_
        have HB := n2_
        clear n0_ n1_ n2_
        obtain ⟨Ao14, co14, eo14⟩ := Kd.R_slice HO210.out
        (first | subst eo14 | (injection eo14 with f1_ f2_ f3_; have f4_ := f1_.symm; have f5_ := f3_.symm; clear f1_ f2_ f3_; subst f4_; subst f5_))
        have p211 : 0 ≤ (0 : Int) := (by omega)
        have q211 : 0 < (t207.length : Int) := of_decide_eq_true (by first | (with_reducible assumption) | assumption)
        obtain ⟨ad211, e211, hx211_0⟩ := Kd.at_int (Kd.R_reads' HO210.out).2.2 0 p211 q211
        cases e211
        have qi211 : (0 < t207.length) = True := eq_true (by omega)
        (try rw [show ((0 : Int)).toNat = 0 from rfl] at hx211_0)
        (try rw [Addr.add_zero'] at hx211_0)
        replace p211 := eq_true p211
        replace q211 := eq_true q211
        have p212 : 0 ≤ (1 : Int) := (by omega)
        have q212 : 1 < (t207.length : Int) := of_decide_eq_true (by first | (with_reducible assumption) | assumption)
        obtain ⟨ad212, e212, hx212_0⟩ := Kd.at_int (Kd.R_reads' HO210.out).2.2 1 p212 q212
        obtain rfl : ad211 = ad212 := (by injection e212)
        (try simp only [show (1 : Int).toNat = 1 from rfl, Nat.reduceMul, Nat.reduceEqDiff, Go.Addr.add, ↓reduceIte] at hx212_0)
        have qi212 : (1 < t207.length) = True := eq_true (by omega)
        (try rw [show ((1 : Int)).toNat = 1 from rfl] at hx212_0)
        replace p212 := eq_true p212
        replace q212 := eq_true q212
        have p213 : 0 ≤ (2 : Int) := (by omega)
        have q213 : 2 < (t207.length : Int) := of_decide_eq_true (by first | (with_reducible assumption) | assumption)
        obtain ⟨ad213, e213, hx213_0⟩ := Kd.at_int (Kd.R_reads' HO210.out).2.2 2 p213 q213
        obtain rfl : ad211 = ad213 := (by injection e213)
        (try simp only [show (2 : Int).toNat = 2 from rfl, Nat.reduceMul, Nat.reduceEqDiff, Go.Addr.add, ↓reduceIte] at hx213_0)
        have qi213 : (2 < t207.length) = True := eq_true (by omega)
        (try rw [show ((2 : Int)).toNat = 2 from rfl] at hx213_0)
        replace p213 := eq_true p213
        replace q213 := eq_true q213
        have p214 : 0 ≤ (3 : Int) := (by omega)
        have q214 : 3 < (t207.length : Int) := of_decide_eq_true (by first | (with_reducible assumption) | assumption)
        obtain ⟨ad214, e214, hx214_0⟩ := Kd.at_int (Kd.R_reads' HO210.out).2.2 3 p214 q214
        obtain rfl : ad211 = ad214 := (by injection e214)
        (try simp only [show (3 : Int).toNat = 3 from rfl, Nat.reduceMul, Nat.reduceEqDiff, Go.Addr.add, ↓reduceIte] at hx214_0)
        have qi214 : (3 < t207.length) = True := eq_true (by omega)
        (try rw [show ((3 : Int)).toNat = 3 from rfl] at hx214_0)
        replace p214 := eq_true p214
        replace q214 := eq_true q214
        have p215 : 0 ≤ (4 : Int) := (by omega)
        have q215 : 4 < (t207.length : Int) := of_decide_eq_true (by first | (with_reducible assumption) | assumption)
        obtain ⟨ad215, e215, hx215_0⟩ := Kd.at_int (Kd.R_reads' HO210.out).2.2 4 p215 q215
        obtain rfl : ad211 = ad215 := (by injection e215)
        (try simp only [show (4 : Int).toNat = 4 from rfl, Nat.reduceMul, Nat.reduceEqDiff, Go.Addr.add, ↓reduceIte] at hx215_0)
        have qi215 : (4 < t207.length) = True := eq_true (by omega)
        (try rw [show ((4 : Int)).toNat = 4 from rfl] at hx215_0)
        replace p215 := eq_true p215
        replace q215 := eq_true q215
        refine start_ (n := 19) (S := fun w' => w'.cell? ad211 = some (.int .i64 (rd t207 0)) ∧ w'.cell? ⟨ad211.block, ad211.off + 1, none⟩ = some (.int .i64 (rd t207 1)) ∧ w'.cell? ⟨ad211.block, ad211.off + 2, none⟩ = some (.int .i64 (rd t207 2)) ∧ w'.cell? ⟨ad211.block, ad211.off + 3, none⟩ = some (.int .i64 (rd t207 3)) ∧ w'.cell? ⟨ad211.block, ad211.off + 4, none⟩ = some (.int .i64 (rd t207 4))) (ds := []) #[J,J,J,J,J,J,J,J,J,J,J,J,J,J,J,J,J,J,J] (by kernel_rfl) rfl rfl ⟨hx211_0, hx212_0, hx213_0, hx214_0, hx215_0⟩ (fun hHeld => ?_); refine with_tabW impl_ReadPipe.tab2 impl_ReadPipe.bits2 (fun HT_ HW_ => ?_)
        generalize w12.drew = w13 at HO210 BK205 HB hx211_0 hx212_0 hx213_0 hx214_0 hx215_0 hHeld ⊢
        refine pure_ (i := 0) (N := some 14) (v := ?_) (a' := ?_) #[Y,J,J,J,J,J,J,J,J,J,J,J,J,J,J,J,J,J,J] rfl rfl (any_of HT_.out (by kernel_rfl)) (fun _ _ _ h => h) (Or.inl ⟨by rfl, ?_⟩) ?_ ?_; rotate_left
        ·intro w'; go_simp; with_reducible rfl
        rotate_left
        ·simp only [pU,pN,sB,sZ,sS,i64_w,i32_w]; rfl
        refine pure_ (i := 1) (N := some 15) (v := ?_) (a' := ?_) #[Y,Y,J,J,J,J,J,J,J,J,J,J,J,J,J,J,J,J,J] rfl rfl (any_of HT_.out (by kernel_rfl)) (fun _ _ _ h => h) (Or.inl ⟨by rfl, ?_⟩) ?_ ?_; rotate_left
        ·intro w'; go_simp; with_reducible rfl
        rotate_left
        ·simp only [pU,pN,sB,sZ,sS,i64_w,i32_w]; rfl
        refine pure_ (i := 2) (N := some 16) (v := ?_) (a' := ?_) #[Y,Y,Y,J,J,J,J,J,J,J,J,J,J,J,J,J,J,J,J] rfl rfl (any_of HT_.out (by kernel_rfl)) (fun _ _ _ h => h) (Or.inl ⟨by rfl, ?_⟩) ?_ ?_; rotate_left
        ·intro w'; go_simp; with_reducible rfl
        rotate_left
        ·simp only [pU,pN,sB,sZ,sS,i64_w,i32_w]; rfl
        refine pure_ (i := 4) (N := some 18) (v := ?_) (a' := ?_) #[Y,Y,Y,J,Y,J,J,J,J,J,J,J,J,J,J,J,J,J,J] rfl rfl (any_of HT_.out (by kernel_rfl)) (fun _ _ _ h => h) (Or.inl ⟨by rfl, ?_⟩) ?_ ?_; rotate_left
        ·intro w'; go_simp; with_reducible rfl
        rotate_left
        ·simp only [pU,pN,sB,sZ,sS,i64_w,i32_w]; rfl
        refine pure_ (i := 5) (N := some 19) (v := ?_) (a' := ?_) #[Y,Y,Y,J,Y,Y,J,J,J,J,J,J,J,J,J,J,J,J,J] rfl rfl (any_of HT_.out (by kernel_rfl)) (fun _ _ _ h => h) (Or.inl ⟨by rfl, ?_⟩) ?_ ?_; rotate_left
        ·intro w'; go_simp; with_reducible rfl
        rotate_left
        ·simp only [pU,pN,sB,sZ,sS,i64_w,i32_w]; rfl
        refine pure_ (i := 7) (N := some 21) (v := ?_) (a' := ?_) #[Y,Y,Y,J,Y,Y,J,Y,J,J,J,J,J,J,J,J,J,J,J] rfl rfl (any_of HT_.out (by kernel_rfl)) (fun _ _ _ h => h) (Or.inl ⟨by rfl, ?_⟩) ?_ ?_; rotate_left
        ·intro w'; go_simp; with_reducible rfl
        rotate_left
        ·simp only [pU,pN,sB,sZ,sS,i64_w,i32_w]; rfl
        refine pure_ (i := 8) (N := some 22) (v := ?_) (a' := ?_) #[Y,Y,Y,J,Y,Y,J,Y,Y,J,J,J,J,J,J,J,J,J,J] rfl rfl (any_of HT_.out (by kernel_rfl)) (fun _ _ _ h => h) (Or.inl ⟨by rfl, ?_⟩) ?_ ?_; rotate_left
        ·intro w'; go_simp; with_reducible rfl
        rotate_left
        ·simp only [pU,pN,sB,sZ,sS,i64_w,i32_w]; rfl
        refine pure_ (i := 10) (N := some 24) (v := ?_) (a' := ?_) #[Y,Y,Y,J,Y,Y,J,Y,Y,J,Y,J,J,J,J,J,J,J,J] rfl rfl (any_of HT_.out (by kernel_rfl)) (fun _ _ _ h => h) (Or.inl ⟨by rfl, ?_⟩) ?_ ?_; rotate_left
        ·intro w'; go_simp; with_reducible rfl
        rotate_left
        ·simp only [pU,pN,sB,sZ,sS,i64_w,i32_w]; rfl
        refine pure_ (i := 11) (N := some 25) (v := ?_) (a' := ?_) #[Y,Y,Y,J,Y,Y,J,Y,Y,J,Y,Y,J,J,J,J,J,J,J] rfl rfl (any_of HT_.out (by kernel_rfl)) (fun _ _ _ h => h) (Or.inl ⟨by rfl, ?_⟩) ?_ ?_; rotate_left
        ·intro w'; go_simp; with_reducible rfl
        rotate_left
        ·simp only [pU,pN,sB,sZ,sS,i64_w,i32_w]; rfl
        refine pure_ (i := 13) (N := some 27) (v := ?_) (a' := ?_) #[Y,Y,Y,J,Y,Y,J,Y,Y,J,Y,Y,J,Y,J,J,J,J,J] rfl rfl (any_of HT_.out (by kernel_rfl)) (fun _ _ _ h => h) (Or.inl ⟨by rfl, ?_⟩) ?_ ?_; rotate_left
        ·intro w'; go_simp; with_reducible rfl
        rotate_left
        ·simp only [pU,pN,sB,sZ,sS,i64_w,i32_w]; rfl
        refine pure_ (i := 14) (N := some 28) (v := ?_) (a' := ?_) #[Y,Y,Y,J,Y,Y,J,Y,Y,J,Y,Y,J,Y,Y,J,J,J,J] rfl rfl (any_of HT_.out (by kernel_rfl)) (fun _ _ _ h => h) (Or.inl ⟨by rfl, ?_⟩) ?_ ?_; rotate_left
        ·intro w'; go_simp; with_reducible rfl
        rotate_left
        ·simp only [pU,pN,sB,sZ,sS,i64_w,i32_w]; rfl
        refine take_ (i := 3) (N := some 17) (v := ?_) (a' := ?_) #[Y,Y,Y,Y,Y,Y,J,Y,Y,J,Y,Y,J,Y,Y,J,J,J,J] rfl rfl (take_ofW HT_.out HW_.out (by kernel_rfl)) (fun _ _ _ h => h) (Or.inl ⟨by rfl, ?_⟩) hHeld ?_ ?_; rotate_left
        ·rintro w' ⟨s0, s1, s2, s3, s4⟩; go_simp; with_reducible rfl
        rotate_left
        ·simp only [pU,pN,sB,sZ,sS,i64_w,i32_w]; rfl
        refine take_ (i := 6) (N := some 20) (v := ?_) (a' := ?_) #[Y,Y,Y,Y,Y,Y,Y,Y,Y,J,Y,Y,J,Y,Y,J,J,J,J] rfl rfl (take_ofW HT_.out HW_.out (by kernel_rfl)) (fun _ _ _ h => h) (Or.inl ⟨by rfl, ?_⟩) hHeld ?_ ?_; rotate_left
        ·rintro w' ⟨s0, s1, s2, s3, s4⟩; go_simp; with_reducible rfl
        rotate_left
        ·simp only [pU,pN,sB,sZ,sS,i64_w,i32_w]; rfl
        refine take_ (i := 9) (N := some 23) (v := ?_) (a' := ?_) #[Y,Y,Y,Y,Y,Y,Y,Y,Y,Y,Y,Y,J,Y,Y,J,J,J,J] rfl rfl (take_ofW HT_.out HW_.out (by kernel_rfl)) (fun _ _ _ h => h) (Or.inl ⟨by rfl, ?_⟩) hHeld ?_ ?_; rotate_left
        ·rintro w' ⟨s0, s1, s2, s3, s4⟩; go_simp; with_reducible rfl
        rotate_left
        ·simp only [pU,pN,sB,sZ,sS,i64_w,i32_w]; rfl
        refine take_ (i := 12) (N := some 26) (v := ?_) (a' := ?_) #[Y,Y,Y,Y,Y,Y,Y,Y,Y,Y,Y,Y,Y,Y,Y,J,J,J,J] rfl rfl (take_ofW HT_.out HW_.out (by kernel_rfl)) (fun _ _ _ h => h) (Or.inl ⟨by rfl, ?_⟩) hHeld ?_ ?_; rotate_left
        ·rintro w' ⟨s0, s1, s2, s3, s4⟩; go_simp; with_reducible rfl
        rotate_left
        ·simp only [pU,pN,sB,sZ,sS,i64_w,i32_w]; rfl
        refine take_ (i := 15) (N := some 29) (v := ?_) (a' := ?_) #[Y,Y,Y,Y,Y,Y,Y,Y,Y,Y,Y,Y,Y,Y,Y,Y,J,J,J] rfl rfl (take_ofW HT_.out HW_.out (by kernel_rfl)) (fun _ _ _ h => h) (Or.inl ⟨by rfl, ?_⟩) hHeld ?_ ?_; rotate_left
        ·rintro w' ⟨s0, s1, s2, s3, s4⟩; go_simp; with_reducible rfl
        rotate_left
        ·simp only [pU,pN,sB,sZ,sS,i64_w,i32_w]; rfl
        refine pure_ (i := 16) (N := some 30) (v := ?_) (a' := ?_) #[Y,Y,Y,Y,Y,Y,Y,Y,Y,Y,Y,Y,Y,Y,Y,Y,Y,J,J] rfl rfl (any_of HT_.out (by kernel_rfl)) (fun _ _ _ h => h) (Or.inl ⟨by rfl, ?_⟩) ?_ ?_; rotate_left
        ·intro w'; go_simp; with_reducible rfl
        rotate_left
        ·simp only [pU,pN,sB,sZ,sS,i64_w,i32_w]; rfl
        refine one_ (i := 17) (N := some 7) #[Y,Y,Y,Y,Y,Y,Y,Y,Y,Y,Y,Y,Y,Y,Y,Y,Y,Y,J] rfl rfl (one_of HT_.out (by kernel_rfl)) (by decide) (fun K hK => ?_)
        refine box_step ?hg (N := 7) ?hd (cs := #[.string (⟨#[]⟩ : ByteArray), .int .i64 0, .int .i64 0, .int .i64 0, .int .i64 0, .int .i64 0]) (t := 43) ?hr ?_; (case hd => rfl); (case hg => rfl); (case hr => first | (go_simp; done) | (go_simp; rfl))
        intro gb216 hg w15 hbox hb
        have HS0_ := (hb.cell (World.block_lt_of_cell? _ _ (hHeld.1))).trans (hHeld.1)
        have HS1_ := (hb.cell (World.block_lt_of_cell? _ _ (hHeld.2.1))).trans (hHeld.2.1)
        have HS2_ := (hb.cell (World.block_lt_of_cell? _ _ (hHeld.2.2.1))).trans (hHeld.2.2.1)
        have HS3_ := (hb.cell (World.block_lt_of_cell? _ _ (hHeld.2.2.2.1))).trans (hHeld.2.2.2.1)
        have HS4_ := (hb.cell (World.block_lt_of_cell? _ _ (hHeld.2.2.2.2))).trans (hHeld.2.2.2.2)
        have n0_ := Aside0.mk (Kd.R_below (by (with_reducible repeat (first | apply rA|apply rN|apply rW)); exact HO210.out) hb)
        have n1_ := Aside0.mk (blk_below (g := gb205) (o := .cells #[.string (⟨#[]⟩ : ByteArray), .int .i64 0, .int .i64 0, .int .i64 0, .int .i64 0, .int .i64 0] 43 (0, 0)) (by (with_reducible repeat (first | refine bN ?_ _|refine bW ?_|refine bA ?_ _)); exact BK205.out) hb)
        have n2_ := Aside0.mk (below_step (by repeat (first | (with_reducible first | exact HB.out|apply wA|apply wN|apply wD |refine wS ?_ GE205.out) | exact HB.out)) hb)
        have n3_ := Aside0.mk (hbox)
        have n4_ := Aside0.mk ((by rw [hg]; exact (below_size (by repeat (first | (with_reducible first | exact HB.out|apply wA|apply wN|apply wD |refine wS ?_ GE205.out) | exact HB.out))) : w.heap.size ≤ gb216))
        have n5_ := Aside0.mk ((by rw [hg]; exact (below_size (by repeat (first | (with_reducible first | exact HB.out|apply wA|apply wN|apply wD |refine wS ?_ GE205.out) | exact HB.out))) : w.heap.size ≤ gb216))
        have n6_ := Aside0.mk ((by rw [hg]; exact Nat.ne_of_lt (blk_lt (g := gb205) (o := .cells #[.string (⟨#[]⟩ : ByteArray), .int .i64 0, .int .i64 0, .int .i64 0, .int .i64 0, .int .i64 0] 43 (0, 0)) (by (with_reducible repeat (first | refine bN ?_ _|refine bW ?_|refine bA ?_ _)); exact BK205.out)) : gb205 ≠ gb216))
        have n7_ := Aside0.mk ((by rw [hg]; exact Nat.ne_of_gt (blk_lt (g := gb205) (o := .cells #[.string (⟨#[]⟩ : ByteArray), .int .i64 0, .int .i64 0, .int .i64 0, .int .i64 0, .int .i64 0] 43 (0, 0)) (by (with_reducible repeat (first | refine bN ?_ _|refine bW ?_|refine bA ?_ _)); exact BK205.out)) : gb216 ≠ gb205))
        clear HO210
        clear BK205
        clear HB
        have HO210 := n0_
        have BK205 := n1_
        have HB := n2_
        have BK216 := n3_
        have GW216 := n4_
        have GE216 := n5_
        have NB205_216 := n6_
        have NB216_205 := n7_
        clear n0_ n1_ n2_ n3_ n4_ n5_ n6_ n7_
        clear hb hbox hg
        refine hK.out _ _ ⟨HS0_, HS1_, HS2_, HS3_, HS4_⟩ (fun hHeld => ?_)
        clear hK K
        refine norm_ (a' := ?_) ?_ ?_
        rotate_left
        ·show Act.put _ (some 7) _ = _
         simp only [pU,pN,sB,sZ,sS,i64_w,i32_w]
         rfl
        refine one_ (i := 18) (N := none) #[Y,Y,Y,Y,Y,Y,Y,Y,Y,Y,Y,Y,Y,Y,Y,Y,Y,Y,Y] rfl rfl (one_of HT_.out (by kernel_rfl)) (by decide) (fun K hK => ?_)
        have hs16 : w15.cell? ⟨gb216, 0, none⟩ = some (.string (⟨#[]⟩ : ByteArray)) := (blk_cell BK216.out 0).trans rfl
        have hfs16 := blk_frozen BK216.out 0
        have hns16_0 := NB205_216.out
        have hms16_0 := NB216_205.out
        have hs17 : w15.cell? ⟨gb216, 1, none⟩ = some (.int .i64 0) := (blk_cell BK216.out 1).trans rfl
        have hfs17 := blk_frozen BK216.out 1
        have hns17_0 := NB205_216.out
        have hms17_0 := NB216_205.out
        have hs18 : w15.cell? ⟨gb216, 2, none⟩ = some (.int .i64 0) := (blk_cell BK216.out 2).trans rfl
        have hfs18 := blk_frozen BK216.out 2
        have hns18_0 := NB205_216.out
        have hms18_0 := NB216_205.out
        have hs19 : w15.cell? ⟨gb216, 3, none⟩ = some (.int .i64 0) := (blk_cell BK216.out 3).trans rfl
        have hfs19 := blk_frozen BK216.out 3
        have hns19_0 := NB205_216.out
        have hms19_0 := NB216_205.out
        have hs20 : w15.cell? ⟨gb216, 4, none⟩ = some (.int .i64 0) := (blk_cell BK216.out 4).trans rfl
        have hfs20 := blk_frozen BK216.out 4
        have hns20_0 := NB205_216.out
        have hms20_0 := NB216_205.out
        have hs21 : w15.cell? ⟨gb216, 5, none⟩ = some (.int .i64 0) := (blk_cell BK216.out 5).trans rfl
        have hfs21 := blk_frozen BK216.out 5
        have hns21_0 := NB205_216.out
        have hms21_0 := NB216_205.out
        refine skip_ (w1 := ?_) (by rfl) rfl ?_ ?_
        rotate_left
        ·go_simp
         rfl
        refine hK.out _ _ ⟨?_, ?_, ?_, ?_, ?_⟩ (fun hHeld => ?_)
        ·have e0_ := Kd.own_blk (Kd.R_ne HO210.out BK216.out (by decide))
         refine Eq.trans (cell_far (p := ⟨gb216, 5, none⟩) (by first | (with_reducible exact e0_) | exact e0_ | (rw [add_block]; exact e0_)) _) ?_
         refine Eq.trans (cell_far (p := ⟨gb216, 4, none⟩) (by first | (with_reducible exact e0_) | exact e0_ | (rw [add_block]; exact e0_)) _) ?_
         refine Eq.trans (cell_far (p := ⟨gb216, 3, none⟩) (by first | (with_reducible exact e0_) | exact e0_ | (rw [add_block]; exact e0_)) _) ?_
         refine Eq.trans (cell_far (p := ⟨gb216, 2, none⟩) (by first | (with_reducible exact e0_) | exact e0_ | (rw [add_block]; exact e0_)) _) ?_
         refine Eq.trans (cell_far (p := ⟨gb216, 1, none⟩) (by first | (with_reducible exact e0_) | exact e0_ | (rw [add_block]; exact e0_)) _) ?_
         refine Eq.trans (cell_far (p := ⟨gb216, 0, none⟩) (by first | (with_reducible exact e0_) | exact e0_ | (rw [add_block]; exact e0_)) _) ?_
         exact hHeld.1
        ·have e0_ := Kd.own_blk (Kd.R_ne HO210.out BK216.out (by decide))
         refine Eq.trans (cell_far (p := ⟨gb216, 5, none⟩) (by first | (with_reducible exact e0_) | exact e0_ | (rw [add_block]; exact e0_)) _) ?_
         refine Eq.trans (cell_far (p := ⟨gb216, 4, none⟩) (by first | (with_reducible exact e0_) | exact e0_ | (rw [add_block]; exact e0_)) _) ?_
         refine Eq.trans (cell_far (p := ⟨gb216, 3, none⟩) (by first | (with_reducible exact e0_) | exact e0_ | (rw [add_block]; exact e0_)) _) ?_
         refine Eq.trans (cell_far (p := ⟨gb216, 2, none⟩) (by first | (with_reducible exact e0_) | exact e0_ | (rw [add_block]; exact e0_)) _) ?_
         refine Eq.trans (cell_far (p := ⟨gb216, 1, none⟩) (by first | (with_reducible exact e0_) | exact e0_ | (rw [add_block]; exact e0_)) _) ?_
         refine Eq.trans (cell_far (p := ⟨gb216, 0, none⟩) (by first | (with_reducible exact e0_) | exact e0_ | (rw [add_block]; exact e0_)) _) ?_
         exact hHeld.2.1
        ·have e0_ := Kd.own_blk (Kd.R_ne HO210.out BK216.out (by decide))
         refine Eq.trans (cell_far (p := ⟨gb216, 5, none⟩) (by first | (with_reducible exact e0_) | exact e0_ | (rw [add_block]; exact e0_)) _) ?_
         refine Eq.trans (cell_far (p := ⟨gb216, 4, none⟩) (by first | (with_reducible exact e0_) | exact e0_ | (rw [add_block]; exact e0_)) _) ?_
         refine Eq.trans (cell_far (p := ⟨gb216, 3, none⟩) (by first | (with_reducible exact e0_) | exact e0_ | (rw [add_block]; exact e0_)) _) ?_
         refine Eq.trans (cell_far (p := ⟨gb216, 2, none⟩) (by first | (with_reducible exact e0_) | exact e0_ | (rw [add_block]; exact e0_)) _) ?_
         refine Eq.trans (cell_far (p := ⟨gb216, 1, none⟩) (by first | (with_reducible exact e0_) | exact e0_ | (rw [add_block]; exact e0_)) _) ?_
         refine Eq.trans (cell_far (p := ⟨gb216, 0, none⟩) (by first | (with_reducible exact e0_) | exact e0_ | (rw [add_block]; exact e0_)) _) ?_
         exact hHeld.2.2.1
        ·have e0_ := Kd.own_blk (Kd.R_ne HO210.out BK216.out (by decide))
         refine Eq.trans (cell_far (p := ⟨gb216, 5, none⟩) (by first | (with_reducible exact e0_) | exact e0_ | (rw [add_block]; exact e0_)) _) ?_
         refine Eq.trans (cell_far (p := ⟨gb216, 4, none⟩) (by first | (with_reducible exact e0_) | exact e0_ | (rw [add_block]; exact e0_)) _) ?_
         refine Eq.trans (cell_far (p := ⟨gb216, 3, none⟩) (by first | (with_reducible exact e0_) | exact e0_ | (rw [add_block]; exact e0_)) _) ?_
         refine Eq.trans (cell_far (p := ⟨gb216, 2, none⟩) (by first | (with_reducible exact e0_) | exact e0_ | (rw [add_block]; exact e0_)) _) ?_
         refine Eq.trans (cell_far (p := ⟨gb216, 1, none⟩) (by first | (with_reducible exact e0_) | exact e0_ | (rw [add_block]; exact e0_)) _) ?_
         refine Eq.trans (cell_far (p := ⟨gb216, 0, none⟩) (by first | (with_reducible exact e0_) | exact e0_ | (rw [add_block]; exact e0_)) _) ?_
         exact hHeld.2.2.2.1
        ·have e0_ := Kd.own_blk (Kd.R_ne HO210.out BK216.out (by decide))
         refine Eq.trans (cell_far (p := ⟨gb216, 5, none⟩) (by first | (with_reducible exact e0_) | exact e0_ | (rw [add_block]; exact e0_)) _) ?_
         refine Eq.trans (cell_far (p := ⟨gb216, 4, none⟩) (by first | (with_reducible exact e0_) | exact e0_ | (rw [add_block]; exact e0_)) _) ?_
         refine Eq.trans (cell_far (p := ⟨gb216, 3, none⟩) (by first | (with_reducible exact e0_) | exact e0_ | (rw [add_block]; exact e0_)) _) ?_
         refine Eq.trans (cell_far (p := ⟨gb216, 2, none⟩) (by first | (with_reducible exact e0_) | exact e0_ | (rw [add_block]; exact e0_)) _) ?_
         refine Eq.trans (cell_far (p := ⟨gb216, 1, none⟩) (by first | (with_reducible exact e0_) | exact e0_ | (rw [add_block]; exact e0_)) _) ?_
         refine Eq.trans (cell_far (p := ⟨gb216, 0, none⟩) (by first | (with_reducible exact e0_) | exact e0_ | (rw [add_block]; exact e0_)) _) ?_
         exact hHeld.2.2.2.2
        clear hK K
        refine done_ (done_of HT_.out (by kernel_rfl)) ?_
        try clear hHeld
        have nA_ : Aside0 (((((((w15.setCell ⟨gb216, 0, none⟩ (.string t206)).setCell ⟨gb216, 1, none⟩ (.int .i64 (rd t207 0))).setCell ⟨gb216, 2, none⟩ (.int .i64 (rd t207 1))).setCell ⟨gb216, 3, none⟩ (.int .i64 (rd t207 2))).setCell ⟨gb216, 4, none⟩ (.int .i64 (rd t207 3))).setCell ⟨gb216, 5, none⟩ (.int .i64 (rd t207 4))).heap[gb216]? = some (.cells #[.string t206, .int .i64 (rd t207 0), .int .i64 (rd t207 1), .int .i64 (rd t207 2), .int .i64 (rd t207 3), .int .i64 (rd t207 4)] 43 (0, 0))) := ⟨by refine blk_put (cs := #[.string t206, .int .i64 (rd t207 0), .int .i64 (rd t207 1), .int .i64 (rd t207 2), .int .i64 (rd t207 3), .int .i64 0]) ?_ 5 _ rfl; refine blk_put (cs := #[.string t206, .int .i64 (rd t207 0), .int .i64 (rd t207 1), .int .i64 (rd t207 2), .int .i64 0, .int .i64 0]) ?_ 4 _ rfl; refine blk_put (cs := #[.string t206, .int .i64 (rd t207 0), .int .i64 (rd t207 1), .int .i64 0, .int .i64 0, .int .i64 0]) ?_ 3 _ rfl; refine blk_put (cs := #[.string t206, .int .i64 (rd t207 0), .int .i64 0, .int .i64 0, .int .i64 0, .int .i64 0]) ?_ 2 _ rfl; refine blk_put (cs := #[.string t206, .int .i64 0, .int .i64 0, .int .i64 0, .int .i64 0, .int .i64 0]) ?_ 1 _ rfl; refine blk_put (cs := #[.string (⟨#[]⟩ : ByteArray), .int .i64 0, .int .i64 0, .int .i64 0, .int .i64 0, .int .i64 0]) ?_ 0 _ rfl; exact BK216.out⟩
        have nB_ : Aside0 (((((((w15.setCell ⟨gb216, 0, none⟩ (.string t206)).setCell ⟨gb216, 1, none⟩ (.int .i64 (rd t207 0))).setCell ⟨gb216, 2, none⟩ (.int .i64 (rd t207 1))).setCell ⟨gb216, 3, none⟩ (.int .i64 (rd t207 2))).setCell ⟨gb216, 4, none⟩ (.int .i64 (rd t207 3))).setCell ⟨gb216, 5, none⟩ (.int .i64 (rd t207 4))).heap[gb205]? = some (.cells #[.string (⟨#[]⟩ : ByteArray), .int .i64 0, .int .i64 0, .int .i64 0, .int .i64 0, .int .i64 0] 43 (0, 0))) := ⟨by refine blk_far ?_ NB205_216.out _; refine blk_far ?_ NB205_216.out _; refine blk_far ?_ NB205_216.out _; refine blk_far ?_ NB205_216.out _; refine blk_far ?_ NB205_216.out _; refine blk_far ?_ NB205_216.out _; exact BK205.out⟩
        have nC_ : Aside0 (Below w.heap.size w ((((((w15.setCell ⟨gb216, 0, none⟩ (.string t206)).setCell ⟨gb216, 1, none⟩ (.int .i64 (rd t207 0))).setCell ⟨gb216, 2, none⟩ (.int .i64 (rd t207 1))).setCell ⟨gb216, 3, none⟩ (.int .i64 (rd t207 2))).setCell ⟨gb216, 4, none⟩ (.int .i64 (rd t207 3))).setCell ⟨gb216, 5, none⟩ (.int .i64 (rd t207 4)))) := ⟨by refine wS ?_ GE216.out; refine wS ?_ GE216.out; refine wS ?_ GE216.out; refine wS ?_ GE216.out; refine wS ?_ GE216.out; refine wS ?_ GE216.out; exact HB.out⟩
        generalize ((((((w15.setCell ⟨gb216, 0, none⟩ (.string t206)).setCell ⟨gb216, 1, none⟩ (.int .i64 (rd t207 0))).setCell ⟨gb216, 2, none⟩ (.int .i64 (rd t207 1))).setCell ⟨gb216, 3, none⟩ (.int .i64 (rd t207 2))).setCell ⟨gb216, 4, none⟩ (.int .i64 (rd t207 3))).setCell ⟨gb216, 5, none⟩ (.int .i64 (rd t207 4))) = wz339 at nA_ nB_ nC_ ⊢
        clear BK216 BK205 HB
        have BK216 := nA_
        have BK205 := nB_
        have HB := nC_
        clear nA_ nB_ nC_
        have hnb22 := NB216_205.out
        have hnc22 := NB205_216.out
        have hcz23_0 : wz339.cell? ⟨gb216, 0, none⟩ = some (.string t206) := (blk_cell BK216.out 0).trans rfl
        have hcz23_1 : wz339.cell? ⟨gb216, 1, none⟩ = some (.int .i64 (rd t207 0)) := (blk_cell BK216.out 1).trans rfl
        have hcz23_2 : wz339.cell? ⟨gb216, 2, none⟩ = some (.int .i64 (rd t207 1)) := (blk_cell BK216.out 2).trans rfl
        have hcz23_3 : wz339.cell? ⟨gb216, 3, none⟩ = some (.int .i64 (rd t207 2)) := (blk_cell BK216.out 3).trans rfl
        have hcz23_4 : wz339.cell? ⟨gb216, 4, none⟩ = some (.int .i64 (rd t207 3)) := (blk_cell BK216.out 4).trans rfl
        have hcz23_5 : wz339.cell? ⟨gb216, 5, none⟩ = some (.int .i64 (rd t207 4)) := (blk_cell BK216.out 5).trans rfl
        have hfz23_0 := blk_frozen BK216.out 0
        have hfz23_1 := blk_frozen BK216.out 1
        have hfz23_2 := blk_frozen BK216.out 2
        have hfz23_3 := blk_frozen BK216.out 3
        have hfz23_4 := blk_frozen BK216.out 4
        have hfz23_5 := blk_frozen BK216.out 5
        try go_wp2_with (first | (go_at_call 37; (with_reducible refine (impl_PipeText.calls k t206 (rd t207 0) (rd t207 1) (rd t207 2) (rd t207 3) (rd t207 4) t217 _ ?sideT A9.out).mono ?_); (case sideT => exact HT.out.now (by repeat (first | (with_reducible first | exact HB.out|apply wA|apply wN|apply wD |refine wS ?_ GE205.out |refine wS ?_ GE216.out) | exact HB.out))); rintro e w24 ⟨rfl, hb⟩; have n0_ := trivial; have n1_ := Aside0.mk (blk_below (g := gb205) (o := .cells #[.string (⟨#[]⟩ : ByteArray), .int .i64 0, .int .i64 0, .int .i64 0, .int .i64 0, .int .i64 0] 43 (0, 0)) (by (with_reducible repeat (first | refine bN ?_ _|refine bW ?_|refine bA ?_ _)); exact BK205.out) hb); have n2_ := Aside0.mk (blk_below (g := gb216) (o := .cells #[.string t206, .int .i64 (rd t207 0), .int .i64 (rd t207 1), .int .i64 (rd t207 2), .int .i64 (rd t207 3), .int .i64 (rd t207 4)] 43 (0, 0)) (by (with_reducible repeat (first | refine bN ?_ _|refine bW ?_|refine bA ?_ _)); exact BK216.out) hb); have n3_ := Aside0.mk (below_step (by repeat (first | (with_reducible first | exact HB.out|apply wA|apply wN|apply wD |refine wS ?_ GE205.out |refine wS ?_ GE216.out) | exact HB.out)) hb); clear HO210; clear BK205; clear BK216; clear HB; have HO210 := n0_; have BK205 := n1_; have BK216 := n2_; have HB := n3_; clear n0_ n1_ n2_ n3_; (try clear hb); (try clear hb2); (try clear hk); (try clear hi); have hcz25_0 : w24.cell? ⟨gb216, 0, none⟩ = some (.string t206) := (blk_cell BK216.out 0).trans rfl; have hcz25_1 : w24.cell? ⟨gb216, 1, none⟩ = some (.int .i64 (rd t207 0)) := (blk_cell BK216.out 1).trans rfl; have hcz25_2 : w24.cell? ⟨gb216, 2, none⟩ = some (.int .i64 (rd t207 1)) := (blk_cell BK216.out 2).trans rfl; have hcz25_3 : w24.cell? ⟨gb216, 3, none⟩ = some (.int .i64 (rd t207 2)) := (blk_cell BK216.out 3).trans rfl; have hcz25_4 : w24.cell? ⟨gb216, 4, none⟩ = some (.int .i64 (rd t207 3)) := (blk_cell BK216.out 4).trans rfl; have hcz25_5 : w24.cell? ⟨gb216, 5, none⟩ = some (.int .i64 (rd t207 4)) := (blk_cell BK216.out 5).trans rfl; have hfz25_0 := blk_frozen BK216.out 0; have hfz25_1 := blk_frozen BK216.out 1; have hfz25_2 := blk_frozen BK216.out 2; have hfz25_3 := blk_frozen BK216.out 3; have hfz25_4 := blk_frozen BK216.out 4; have hfz25_5 := blk_frozen BK216.out 5; have hcz26_0 : w24.cell? ⟨gb205, 0, none⟩ = some (.string (⟨#[]⟩ : ByteArray)) := (blk_cell BK205.out 0).trans rfl; have hcz26_1 : w24.cell? ⟨gb205, 1, none⟩ = some (.int .i64 0) := (blk_cell BK205.out 1).trans rfl; have hcz26_2 : w24.cell? ⟨gb205, 2, none⟩ = some (.int .i64 0) := (blk_cell BK205.out 2).trans rfl; have hcz26_3 : w24.cell? ⟨gb205, 3, none⟩ = some (.int .i64 0) := (blk_cell BK205.out 3).trans rfl; have hcz26_4 : w24.cell? ⟨gb205, 4, none⟩ = some (.int .i64 0) := (blk_cell BK205.out 4).trans rfl; have hcz26_5 : w24.cell? ⟨gb205, 5, none⟩ = some (.int .i64 0) := (blk_cell BK205.out 5).trans rfl; have hfz26_0 := blk_frozen BK205.out 0; have hfz26_1 := blk_frozen BK205.out 1; have hfz26_2 := blk_frozen BK205.out 2; have hfz26_3 := blk_frozen BK205.out 3; have hfz26_4 := blk_frozen BK205.out 4; have hfz26_5 := blk_frozen BK205.out 5))
        refine bodyPost_ret (results_ct rfl _ _ gb205 43 #[.string t206, .int .i64 (rd t207 0), .int .i64 (rd t207 1), .int .i64 (rd t207 2), .int .i64 (rd t207 3), .int .i64 (rd t207 4)] (0, 0) _ rfl (by (with_reducible repeat (first | refine bN ?_ _|refine bW ?_|refine bA ?_ _)); refine blk_put (cs := #[.string t206, .int .i64 (rd t207 0), .int .i64 (rd t207 1), .int .i64 (rd t207 2), .int .i64 (rd t207 3), .int .i64 0]) ?_ 5 _ rfl; (with_reducible repeat (first | refine bN ?_ _|refine bW ?_|refine bA ?_ _)); refine blk_put (cs := #[.string t206, .int .i64 (rd t207 0), .int .i64 (rd t207 1), .int .i64 (rd t207 2), .int .i64 0, .int .i64 0]) ?_ 4 _ rfl; (with_reducible repeat (first | refine bN ?_ _|refine bW ?_|refine bA ?_ _)); refine blk_put (cs := #[.string t206, .int .i64 (rd t207 0), .int .i64 (rd t207 1), .int .i64 0, .int .i64 0, .int .i64 0]) ?_ 3 _ rfl; (with_reducible repeat (first | refine bN ?_ _|refine bW ?_|refine bA ?_ _)); refine blk_put (cs := #[.string t206, .int .i64 (rd t207 0), .int .i64 0, .int .i64 0, .int .i64 0, .int .i64 0]) ?_ 2 _ rfl; (with_reducible repeat (first | refine bN ?_ _|refine bW ?_|refine bA ?_ _)); refine blk_put (cs := #[.string t206, .int .i64 0, .int .i64 0, .int .i64 0, .int .i64 0, .int .i64 0]) ?_ 1 _ rfl; (with_reducible repeat (first | refine bN ?_ _|refine bW ?_|refine bA ?_ _)); refine blk_put (cs := #[.string (⟨#[]⟩ : ByteArray), .int .i64 0, .int .i64 0, .int .i64 0, .int .i64 0, .int .i64 0]) ?_ 0 _ rfl; (with_reducible repeat (first | refine bN ?_ _|refine bW ?_|refine bA ?_ _)); exact BK205.out) Tryd.underlying43 rfl (by kernel_rfl)) rfl ?_
        exact ⟨by first | rfl | (simp [errW_none, errW_some] <;> rfl) | (simp [*, errW_none, errW_some] <;> rfl), by repeat (first | (with_reducible first | exact HB.out|apply wA|apply wN|apply wD |refine wS ?_ GE205.out |refine wS ?_ GE216.out) | exact HB.out)⟩
       ·rw [if_neg c10] at H
        have c10b0 : (t217.toList == a0.toList) = false := beq_eq_false_iff_ne.mpr c10
        have c10b1 : (t217.toList != a0.toList) = true := bne_iff_ne.mpr c10
        simp only [Option.some.injEq, Prod.mk.injEq] at H
        obtain ⟨rfl, rfl, rfl, rfl, rfl, rfl, rfl⟩ := H
        go_enter Tryd.func39, Tryd.ntmps39
        try go_wp2_with (first | ((with_reducible refine gate_dst (N := 2) rfl ?_); refine box_event ?hg (N := 2) ?hd (cs := #[.string (⟨#[]⟩ : ByteArray), .int .i64 0, .int .i64 0, .int .i64 0, .int .i64 0, .int .i64 0]) (t := 43) ?hr ?_; (case hd => rfl); (case hg => rfl); (case hr => first | (go_simp; done) | (go_simp; rfl)); intro gb205 hg w27 hbox hb; have n0_ := Aside0.mk (below_step (by repeat (first | (with_reducible first | exact HB.out|apply wA|apply wN|apply wD) | exact HB.out)) hb); have n1_ := Aside0.mk (hbox); have n2_ := Aside0.mk ((by rw [hg]; exact (below_size (by repeat (first | (with_reducible first | exact HB.out|apply wA|apply wN|apply wD) | exact HB.out))) : w.heap.size ≤ gb205)); have n3_ := Aside0.mk ((by rw [hg]; exact (below_size (by repeat (first | (with_reducible first | exact HB.out|apply wA|apply wN|apply wD) | exact HB.out))) : w.heap.size ≤ gb205)); clear HB; have HB := n0_; have BK205 := n1_; have GW205 := n2_; have GE205 := n3_; clear n0_ n1_ n2_ n3_; clear hb hbox hg) | ((with_reducible refine gate_callee (f := 72) rfl ?_); refine goesL_ (some 10) rfl rfl Tryd.func72 (by kernel_rfl) rfl #[.string a0, .int .i64 5] rfl (by (try simp only [List.map_toArray, List.map_cons, List.map_nil]); first | done | rfl | (simp only [List.length_drop, List.length_take]; rfl)) ?_; (with_reducible refine (impl_readWithId.calls k a0 5 t206 t207 true _ ?sideT A2.out).mono ?_); (case sideT => exact HT.out.now (by repeat (first | (with_reducible first | exact HB.out|apply wA|apply wN|apply wD |refine wS ?_ GE205.out |refine wS ?_ GE216.out) | exact HB.out))); rintro e w28 ⟨v209, rfl, ho0, hb⟩; refine ⟨_, rfl, ?_⟩; have n0_ := Aside0.mk (Kd.R_lower ho0 (below_size (by repeat (first | (with_reducible first | exact HB.out|apply wA|apply wN|apply wD |refine wS ?_ GE205.out) | exact HB.out)))); have n1_ := Aside0.mk (blk_below (g := gb205) (o := .cells #[.string (⟨#[]⟩ : ByteArray), .int .i64 0, .int .i64 0, .int .i64 0, .int .i64 0, .int .i64 0] 43 (0, 0)) (by (with_reducible repeat (first | refine bN ?_ _|refine bW ?_|refine bA ?_ _)); exact BK205.out) hb); have n2_ := Aside0.mk (below_step (by repeat (first | (with_reducible first | exact HB.out|apply wA|apply wN|apply wD |refine wS ?_ GE205.out) | exact HB.out)) hb); clear BK205; clear HB; have HO210 := n0_; have BK205 := n1_; have HB := n2_; clear n0_ n1_ n2_; (try clear hb); (try clear hb2); (try clear hk); (try clear hi); (try clear ho0)))
        have n0_ := Aside0.mk (Kd.R_drew HO210.out)
        have n1_ := Aside0.mk (blk_drew BK205.out)
        have n2_ := Aside0.mk (below_drew1 HB.out)
        clear HO210
        clear BK205
        clear HB
        have HO210 := n0_
        have BK205 := n1_
        have HB := n2_
        clear n0_ n1_ n2_
        obtain ⟨Ao30, co30, eo30⟩ := Kd.R_slice HO210.out
        (first | subst eo30 | (injection eo30 with f1_ f2_ f3_; have f4_ := f1_.symm; have f5_ := f3_.symm; clear f1_ f2_ f3_; subst f4_; subst f5_))
        have p211 : 0 ≤ (0 : Int) := (by omega)
        have q211 : 0 < (t207.length : Int) := of_decide_eq_true (by first | (with_reducible assumption) | assumption)
        obtain ⟨ad211, e211, hx211_0⟩ := Kd.at_int (Kd.R_reads' HO210.out).2.2 0 p211 q211
        cases e211
        have qi211 : (0 < t207.length) = True := eq_true (by omega)
        (try rw [show ((0 : Int)).toNat = 0 from rfl] at hx211_0)
        (try rw [Addr.add_zero'] at hx211_0)
        replace p211 := eq_true p211
        replace q211 := eq_true q211
        have p212 : 0 ≤ (1 : Int) := (by omega)
        have q212 : 1 < (t207.length : Int) := of_decide_eq_true (by first | (with_reducible assumption) | assumption)
        obtain ⟨ad212, e212, hx212_0⟩ := Kd.at_int (Kd.R_reads' HO210.out).2.2 1 p212 q212
        obtain rfl : ad211 = ad212 := (by injection e212)
        (try simp only [show (1 : Int).toNat = 1 from rfl, Nat.reduceMul, Nat.reduceEqDiff, Go.Addr.add, ↓reduceIte] at hx212_0)
        have qi212 : (1 < t207.length) = True := eq_true (by omega)
        (try rw [show ((1 : Int)).toNat = 1 from rfl] at hx212_0)
        replace p212 := eq_true p212
        replace q212 := eq_true q212
        have p213 : 0 ≤ (2 : Int) := (by omega)
        have q213 : 2 < (t207.length : Int) := of_decide_eq_true (by first | (with_reducible assumption) | assumption)
        obtain ⟨ad213, e213, hx213_0⟩ := Kd.at_int (Kd.R_reads' HO210.out).2.2 2 p213 q213
        obtain rfl : ad211 = ad213 := (by injection e213)
        (try simp only [show (2 : Int).toNat = 2 from rfl, Nat.reduceMul, Nat.reduceEqDiff, Go.Addr.add, ↓reduceIte] at hx213_0)
        have qi213 : (2 < t207.length) = True := eq_true (by omega)
        (try rw [show ((2 : Int)).toNat = 2 from rfl] at hx213_0)
        replace p213 := eq_true p213
        replace q213 := eq_true q213
        have p214 : 0 ≤ (3 : Int) := (by omega)
        have q214 : 3 < (t207.length : Int) := of_decide_eq_true (by first | (with_reducible assumption) | assumption)
        obtain ⟨ad214, e214, hx214_0⟩ := Kd.at_int (Kd.R_reads' HO210.out).2.2 3 p214 q214
        obtain rfl : ad211 = ad214 := (by injection e214)
        (try simp only [show (3 : Int).toNat = 3 from rfl, Nat.reduceMul, Nat.reduceEqDiff, Go.Addr.add, ↓reduceIte] at hx214_0)
        have qi214 : (3 < t207.length) = True := eq_true (by omega)
        (try rw [show ((3 : Int)).toNat = 3 from rfl] at hx214_0)
        replace p214 := eq_true p214
        replace q214 := eq_true q214
        have p215 : 0 ≤ (4 : Int) := (by omega)
        have q215 : 4 < (t207.length : Int) := of_decide_eq_true (by first | (with_reducible assumption) | assumption)
        obtain ⟨ad215, e215, hx215_0⟩ := Kd.at_int (Kd.R_reads' HO210.out).2.2 4 p215 q215
        obtain rfl : ad211 = ad215 := (by injection e215)
        (try simp only [show (4 : Int).toNat = 4 from rfl, Nat.reduceMul, Nat.reduceEqDiff, Go.Addr.add, ↓reduceIte] at hx215_0)
        have qi215 : (4 < t207.length) = True := eq_true (by omega)
        (try rw [show ((4 : Int)).toNat = 4 from rfl] at hx215_0)
        replace p215 := eq_true p215
        replace q215 := eq_true q215
        refine start_ (n := 19) (S := fun w' => w'.cell? ad211 = some (.int .i64 (rd t207 0)) ∧ w'.cell? ⟨ad211.block, ad211.off + 1, none⟩ = some (.int .i64 (rd t207 1)) ∧ w'.cell? ⟨ad211.block, ad211.off + 2, none⟩ = some (.int .i64 (rd t207 2)) ∧ w'.cell? ⟨ad211.block, ad211.off + 3, none⟩ = some (.int .i64 (rd t207 3)) ∧ w'.cell? ⟨ad211.block, ad211.off + 4, none⟩ = some (.int .i64 (rd t207 4))) (ds := []) #[J,J,J,J,J,J,J,J,J,J,J,J,J,J,J,J,J,J,J] (by kernel_rfl) rfl rfl ⟨hx211_0, hx212_0, hx213_0, hx214_0, hx215_0⟩ (fun hHeld => ?_); refine with_tabW impl_ReadPipe.tab2 impl_ReadPipe.bits2 (fun HT_ HW_ => ?_)
        generalize w28.drew = w29 at HO210 BK205 HB hx211_0 hx212_0 hx213_0 hx214_0 hx215_0 hHeld ⊢
        refine pure_ (i := 0) (N := some 14) (v := ?_) (a' := ?_) #[Y,J,J,J,J,J,J,J,J,J,J,J,J,J,J,J,J,J,J] rfl rfl (any_of HT_.out (by kernel_rfl)) (fun _ _ _ h => h) (Or.inl ⟨by rfl, ?_⟩) ?_ ?_; rotate_left
        ·intro w'; go_simp; with_reducible rfl
        rotate_left
        ·simp only [pU,pN,sB,sZ,sS,i64_w,i32_w]; rfl
        refine pure_ (i := 1) (N := some 15) (v := ?_) (a' := ?_) #[Y,Y,J,J,J,J,J,J,J,J,J,J,J,J,J,J,J,J,J] rfl rfl (any_of HT_.out (by kernel_rfl)) (fun _ _ _ h => h) (Or.inl ⟨by rfl, ?_⟩) ?_ ?_; rotate_left
        ·intro w'; go_simp; with_reducible rfl
        rotate_left
        ·simp only [pU,pN,sB,sZ,sS,i64_w,i32_w]; rfl
        refine pure_ (i := 2) (N := some 16) (v := ?_) (a' := ?_) #[Y,Y,Y,J,J,J,J,J,J,J,J,J,J,J,J,J,J,J,J] rfl rfl (any_of HT_.out (by kernel_rfl)) (fun _ _ _ h => h) (Or.inl ⟨by rfl, ?_⟩) ?_ ?_; rotate_left
        ·intro w'; go_simp; with_reducible rfl
        rotate_left
        ·simp only [pU,pN,sB,sZ,sS,i64_w,i32_w]; rfl
        refine pure_ (i := 4) (N := some 18) (v := ?_) (a' := ?_) #[Y,Y,Y,J,Y,J,J,J,J,J,J,J,J,J,J,J,J,J,J] rfl rfl (any_of HT_.out (by kernel_rfl)) (fun _ _ _ h => h) (Or.inl ⟨by rfl, ?_⟩) ?_ ?_; rotate_left
        ·intro w'; go_simp; with_reducible rfl
        rotate_left
        ·simp only [pU,pN,sB,sZ,sS,i64_w,i32_w]; rfl
        refine pure_ (i := 5) (N := some 19) (v := ?_) (a' := ?_) #[Y,Y,Y,J,Y,Y,J,J,J,J,J,J,J,J,J,J,J,J,J] rfl rfl (any_of HT_.out (by kernel_rfl)) (fun _ _ _ h => h) (Or.inl ⟨by rfl, ?_⟩) ?_ ?_; rotate_left
        ·intro w'; go_simp; with_reducible rfl
        rotate_left
        ·simp only [pU,pN,sB,sZ,sS,i64_w,i32_w]; rfl
        refine pure_ (i := 7) (N := some 21) (v := ?_) (a' := ?_) #[Y,Y,Y,J,Y,Y,J,Y,J,J,J,J,J,J,J,J,J,J,J] rfl rfl (any_of HT_.out (by kernel_rfl)) (fun _ _ _ h => h) (Or.inl ⟨by rfl, ?_⟩) ?_ ?_; rotate_left
        ·intro w'; go_simp; with_reducible rfl
        rotate_left
        ·simp only [pU,pN,sB,sZ,sS,i64_w,i32_w]; rfl
        refine pure_ (i := 8) (N := some 22) (v := ?_) (a' := ?_) #[Y,Y,Y,J,Y,Y,J,Y,Y,J,J,J,J,J,J,J,J,J,J] rfl rfl (any_of HT_.out (by kernel_rfl)) (fun _ _ _ h => h) (Or.inl ⟨by rfl, ?_⟩) ?_ ?_; rotate_left
        ·intro w'; go_simp; with_reducible rfl
        rotate_left
        ·simp only [pU,pN,sB,sZ,sS,i64_w,i32_w]; rfl
        refine pure_ (i := 10) (N := some 24) (v := ?_) (a' := ?_) #[Y,Y,Y,J,Y,Y,J,Y,Y,J,Y,J,J,J,J,J,J,J,J] rfl rfl (any_of HT_.out (by kernel_rfl)) (fun _ _ _ h => h) (Or.inl ⟨by rfl, ?_⟩) ?_ ?_; rotate_left
        ·intro w'; go_simp; with_reducible rfl
        rotate_left
        ·simp only [pU,pN,sB,sZ,sS,i64_w,i32_w]; rfl
        refine pure_ (i := 11) (N := some 25) (v := ?_) (a' := ?_) #[Y,Y,Y,J,Y,Y,J,Y,Y,J,Y,Y,J,J,J,J,J,J,J] rfl rfl (any_of HT_.out (by kernel_rfl)) (fun _ _ _ h => h) (Or.inl ⟨by rfl, ?_⟩) ?_ ?_; rotate_left
        ·intro w'; go_simp; with_reducible rfl
        rotate_left
        ·simp only [pU,pN,sB,sZ,sS,i64_w,i32_w]; rfl
        refine pure_ (i := 13) (N := some 27) (v := ?_) (a' := ?_) #[Y,Y,Y,J,Y,Y,J,Y,Y,J,Y,Y,J,Y,J,J,J,J,J] rfl rfl (any_of HT_.out (by kernel_rfl)) (fun _ _ _ h => h) (Or.inl ⟨by rfl, ?_⟩) ?_ ?_; rotate_left
        ·intro w'; go_simp; with_reducible rfl
        rotate_left
        ·simp only [pU,pN,sB,sZ,sS,i64_w,i32_w]; rfl
        refine pure_ (i := 14) (N := some 28) (v := ?_) (a' := ?_) #[Y,Y,Y,J,Y,Y,J,Y,Y,J,Y,Y,J,Y,Y,J,J,J,J] rfl rfl (any_of HT_.out (by kernel_rfl)) (fun _ _ _ h => h) (Or.inl ⟨by rfl, ?_⟩) ?_ ?_; rotate_left
        ·intro w'; go_simp; with_reducible rfl
        rotate_left
        ·simp only [pU,pN,sB,sZ,sS,i64_w,i32_w]; rfl
        refine take_ (i := 3) (N := some 17) (v := ?_) (a' := ?_) #[Y,Y,Y,Y,Y,Y,J,Y,Y,J,Y,Y,J,Y,Y,J,J,J,J] rfl rfl (take_ofW HT_.out HW_.out (by kernel_rfl)) (fun _ _ _ h => h) (Or.inl ⟨by rfl, ?_⟩) hHeld ?_ ?_; rotate_left
        ·rintro w' ⟨s0, s1, s2, s3, s4⟩; go_simp; with_reducible rfl
        rotate_left
        ·simp only [pU,pN,sB,sZ,sS,i64_w,i32_w]; rfl
        refine take_ (i := 6) (N := some 20) (v := ?_) (a' := ?_) #[Y,Y,Y,Y,Y,Y,Y,Y,Y,J,Y,Y,J,Y,Y,J,J,J,J] rfl rfl (take_ofW HT_.out HW_.out (by kernel_rfl)) (fun _ _ _ h => h) (Or.inl ⟨by rfl, ?_⟩) hHeld ?_ ?_; rotate_left
        ·rintro w' ⟨s0, s1, s2, s3, s4⟩; go_simp; with_reducible rfl
        rotate_left
        ·simp only [pU,pN,sB,sZ,sS,i64_w,i32_w]; rfl
        refine take_ (i := 9) (N := some 23) (v := ?_) (a' := ?_) #[Y,Y,Y,Y,Y,Y,Y,Y,Y,Y,Y,Y,J,Y,Y,J,J,J,J] rfl rfl (take_ofW HT_.out HW_.out (by kernel_rfl)) (fun _ _ _ h => h) (Or.inl ⟨by rfl, ?_⟩) hHeld ?_ ?_; rotate_left
        ·rintro w' ⟨s0, s1, s2, s3, s4⟩; go_simp; with_reducible rfl
        rotate_left
        ·simp only [pU,pN,sB,sZ,sS,i64_w,i32_w]; rfl
        refine take_ (i := 12) (N := some 26) (v := ?_) (a' := ?_) #[Y,Y,Y,Y,Y,Y,Y,Y,Y,Y,Y,Y,Y,Y,Y,J,J,J,J] rfl rfl (take_ofW HT_.out HW_.out (by kernel_rfl)) (fun _ _ _ h => h) (Or.inl ⟨by rfl, ?_⟩) hHeld ?_ ?_; rotate_left
        ·rintro w' ⟨s0, s1, s2, s3, s4⟩; go_simp; with_reducible rfl
        rotate_left
        ·simp only [pU,pN,sB,sZ,sS,i64_w,i32_w]; rfl
        refine take_ (i := 15) (N := some 29) (v := ?_) (a' := ?_) #[Y,Y,Y,Y,Y,Y,Y,Y,Y,Y,Y,Y,Y,Y,Y,Y,J,J,J] rfl rfl (take_ofW HT_.out HW_.out (by kernel_rfl)) (fun _ _ _ h => h) (Or.inl ⟨by rfl, ?_⟩) hHeld ?_ ?_; rotate_left
        ·rintro w' ⟨s0, s1, s2, s3, s4⟩; go_simp; with_reducible rfl
        rotate_left
        ·simp only [pU,pN,sB,sZ,sS,i64_w,i32_w]; rfl
        refine pure_ (i := 16) (N := some 30) (v := ?_) (a' := ?_) #[Y,Y,Y,Y,Y,Y,Y,Y,Y,Y,Y,Y,Y,Y,Y,Y,Y,J,J] rfl rfl (any_of HT_.out (by kernel_rfl)) (fun _ _ _ h => h) (Or.inl ⟨by rfl, ?_⟩) ?_ ?_; rotate_left
        ·intro w'; go_simp; with_reducible rfl
        rotate_left
        ·simp only [pU,pN,sB,sZ,sS,i64_w,i32_w]; rfl
        refine one_ (i := 17) (N := some 7) #[Y,Y,Y,Y,Y,Y,Y,Y,Y,Y,Y,Y,Y,Y,Y,Y,Y,Y,J] rfl rfl (one_of HT_.out (by kernel_rfl)) (by decide) (fun K hK => ?_)
        refine box_step ?hg (N := 7) ?hd (cs := #[.string (⟨#[]⟩ : ByteArray), .int .i64 0, .int .i64 0, .int .i64 0, .int .i64 0, .int .i64 0]) (t := 43) ?hr ?_; (case hd => rfl); (case hg => rfl); (case hr => first | (go_simp; done) | (go_simp; rfl))
        intro gb216 hg w31 hbox hb
        have HS0_ := (hb.cell (World.block_lt_of_cell? _ _ (hHeld.1))).trans (hHeld.1)
        have HS1_ := (hb.cell (World.block_lt_of_cell? _ _ (hHeld.2.1))).trans (hHeld.2.1)
        have HS2_ := (hb.cell (World.block_lt_of_cell? _ _ (hHeld.2.2.1))).trans (hHeld.2.2.1)
        have HS3_ := (hb.cell (World.block_lt_of_cell? _ _ (hHeld.2.2.2.1))).trans (hHeld.2.2.2.1)
        have HS4_ := (hb.cell (World.block_lt_of_cell? _ _ (hHeld.2.2.2.2))).trans (hHeld.2.2.2.2)
        have n0_ := Aside0.mk (Kd.R_below (by (with_reducible repeat (first | apply rA|apply rN|apply rW)); exact HO210.out) hb)
        have n1_ := Aside0.mk (blk_below (g := gb205) (o := .cells #[.string (⟨#[]⟩ : ByteArray), .int .i64 0, .int .i64 0, .int .i64 0, .int .i64 0, .int .i64 0] 43 (0, 0)) (by (with_reducible repeat (first | refine bN ?_ _|refine bW ?_|refine bA ?_ _)); exact BK205.out) hb)
        have n2_ := Aside0.mk (below_step (by repeat (first | (with_reducible first | exact HB.out|apply wA|apply wN|apply wD |refine wS ?_ GE205.out) | exact HB.out)) hb)
        have n3_ := Aside0.mk (hbox)
        have n4_ := Aside0.mk ((by rw [hg]; exact (below_size (by repeat (first | (with_reducible first | exact HB.out|apply wA|apply wN|apply wD |refine wS ?_ GE205.out) | exact HB.out))) : w.heap.size ≤ gb216))
        have n5_ := Aside0.mk ((by rw [hg]; exact (below_size (by repeat (first | (with_reducible first | exact HB.out|apply wA|apply wN|apply wD |refine wS ?_ GE205.out) | exact HB.out))) : w.heap.size ≤ gb216))
        have n6_ := Aside0.mk ((by rw [hg]; exact Nat.ne_of_lt (blk_lt (g := gb205) (o := .cells #[.string (⟨#[]⟩ : ByteArray), .int .i64 0, .int .i64 0, .int .i64 0, .int .i64 0, .int .i64 0] 43 (0, 0)) (by (with_reducible repeat (first | refine bN ?_ _|refine bW ?_|refine bA ?_ _)); exact BK205.out)) : gb205 ≠ gb216))
        have n7_ := Aside0.mk ((by rw [hg]; exact Nat.ne_of_gt (blk_lt (g := gb205) (o := .cells #[.string (⟨#[]⟩ : ByteArray), .int .i64 0, .int .i64 0, .int .i64 0, .int .i64 0, .int .i64 0] 43 (0, 0)) (by (with_reducible repeat (first | refine bN ?_ _|refine bW ?_|refine bA ?_ _)); exact BK205.out)) : gb216 ≠ gb205))
        clear HO210
        clear BK205
        clear HB
        have HO210 := n0_
        have BK205 := n1_
        have HB := n2_
        have BK216 := n3_
        have GW216 := n4_
        have GE216 := n5_
        have NB205_216 := n6_
        have NB216_205 := n7_
        clear n0_ n1_ n2_ n3_ n4_ n5_ n6_ n7_
        clear hb hbox hg
        refine hK.out _ _ ⟨HS0_, HS1_, HS2_, HS3_, HS4_⟩ (fun hHeld => ?_)
        clear hK K
        refine norm_ (a' := ?_) ?_ ?_
        rotate_left
        ·show Act.put _ (some 7) _ = _
         simp only [pU,pN,sB,sZ,sS,i64_w,i32_w]
         rfl
        refine one_ (i := 18) (N := none) #[Y,Y,Y,Y,Y,Y,Y,Y,Y,Y,Y,Y,Y,Y,Y,Y,Y,Y,Y] rfl rfl (one_of HT_.out (by kernel_rfl)) (by decide) (fun K hK => ?_)
        have hs32 : w31.cell? ⟨gb216, 0, none⟩ = some (.string (⟨#[]⟩ : ByteArray)) := (blk_cell BK216.out 0).trans rfl
        have hfs32 := blk_frozen BK216.out 0
        have hns32_0 := NB205_216.out
        have hms32_0 := NB216_205.out
        have hs33 : w31.cell? ⟨gb216, 1, none⟩ = some (.int .i64 0) := (blk_cell BK216.out 1).trans rfl
        have hfs33 := blk_frozen BK216.out 1
        have hns33_0 := NB205_216.out
        have hms33_0 := NB216_205.out
        have hs34 : w31.cell? ⟨gb216, 2, none⟩ = some (.int .i64 0) := (blk_cell BK216.out 2).trans rfl
        have hfs34 := blk_frozen BK216.out 2
        have hns34_0 := NB205_216.out
        have hms34_0 := NB216_205.out
        have hs35 : w31.cell? ⟨gb216, 3, none⟩ = some (.int .i64 0) := (blk_cell BK216.out 3).trans rfl
        have hfs35 := blk_frozen BK216.out 3
        have hns35_0 := NB205_216.out
        have hms35_0 := NB216_205.out
        have hs36 : w31.cell? ⟨gb216, 4, none⟩ = some (.int .i64 0) := (blk_cell BK216.out 4).trans rfl
        have hfs36 := blk_frozen BK216.out 4
        have hns36_0 := NB205_216.out
        have hms36_0 := NB216_205.out
        have hs37 : w31.cell? ⟨gb216, 5, none⟩ = some (.int .i64 0) := (blk_cell BK216.out 5).trans rfl
        have hfs37 := blk_frozen BK216.out 5
        have hns37_0 := NB205_216.out
        have hms37_0 := NB216_205.out
        refine skip_ (w1 := ?_) (by rfl) rfl ?_ ?_
        rotate_left
        ·go_simp
         rfl
        refine hK.out _ _ ⟨?_, ?_, ?_, ?_, ?_⟩ (fun hHeld => ?_)
        ·have e0_ := Kd.own_blk (Kd.R_ne HO210.out BK216.out (by decide))
         refine Eq.trans (cell_far (p := ⟨gb216, 5, none⟩) (by first | (with_reducible exact e0_) | exact e0_ | (rw [add_block]; exact e0_)) _) ?_
         refine Eq.trans (cell_far (p := ⟨gb216, 4, none⟩) (by first | (with_reducible exact e0_) | exact e0_ | (rw [add_block]; exact e0_)) _) ?_
         refine Eq.trans (cell_far (p := ⟨gb216, 3, none⟩) (by first | (with_reducible exact e0_) | exact e0_ | (rw [add_block]; exact e0_)) _) ?_
         refine Eq.trans (cell_far (p := ⟨gb216, 2, none⟩) (by first | (with_reducible exact e0_) | exact e0_ | (rw [add_block]; exact e0_)) _) ?_
         refine Eq.trans (cell_far (p := ⟨gb216, 1, none⟩) (by first | (with_reducible exact e0_) | exact e0_ | (rw [add_block]; exact e0_)) _) ?_
         refine Eq.trans (cell_far (p := ⟨gb216, 0, none⟩) (by first | (with_reducible exact e0_) | exact e0_ | (rw [add_block]; exact e0_)) _) ?_
         exact hHeld.1
        ·have e0_ := Kd.own_blk (Kd.R_ne HO210.out BK216.out (by decide))
         refine Eq.trans (cell_far (p := ⟨gb216, 5, none⟩) (by first | (with_reducible exact e0_) | exact e0_ | (rw [add_block]; exact e0_)) _) ?_
         refine Eq.trans (cell_far (p := ⟨gb216, 4, none⟩) (by first | (with_reducible exact e0_) | exact e0_ | (rw [add_block]; exact e0_)) _) ?_
         refine Eq.trans (cell_far (p := ⟨gb216, 3, none⟩) (by first | (with_reducible exact e0_) | exact e0_ | (rw [add_block]; exact e0_)) _) ?_
         refine Eq.trans (cell_far (p := ⟨gb216, 2, none⟩) (by first | (with_reducible exact e0_) | exact e0_ | (rw [add_block]; exact e0_)) _) ?_
         refine Eq.trans (cell_far (p := ⟨gb216, 1, none⟩) (by first | (with_reducible exact e0_) | exact e0_ | (rw [add_block]; exact e0_)) _) ?_
         refine Eq.trans (cell_far (p := ⟨gb216, 0, none⟩) (by first | (with_reducible exact e0_) | exact e0_ | (rw [add_block]; exact e0_)) _) ?_
         exact hHeld.2.1
        ·have e0_ := Kd.own_blk (Kd.R_ne HO210.out BK216.out (by decide))
         refine Eq.trans (cell_far (p := ⟨gb216, 5, none⟩) (by first | (with_reducible exact e0_) | exact e0_ | (rw [add_block]; exact e0_)) _) ?_
         refine Eq.trans (cell_far (p := ⟨gb216, 4, none⟩) (by first | (with_reducible exact e0_) | exact e0_ | (rw [add_block]; exact e0_)) _) ?_
         refine Eq.trans (cell_far (p := ⟨gb216, 3, none⟩) (by first | (with_reducible exact e0_) | exact e0_ | (rw [add_block]; exact e0_)) _) ?_
         refine Eq.trans (cell_far (p := ⟨gb216, 2, none⟩) (by first | (with_reducible exact e0_) | exact e0_ | (rw [add_block]; exact e0_)) _) ?_
         refine Eq.trans (cell_far (p := ⟨gb216, 1, none⟩) (by first | (with_reducible exact e0_) | exact e0_ | (rw [add_block]; exact e0_)) _) ?_
         refine Eq.trans (cell_far (p := ⟨gb216, 0, none⟩) (by first | (with_reducible exact e0_) | exact e0_ | (rw [add_block]; exact e0_)) _) ?_
         exact hHeld.2.2.1
        ·have e0_ := Kd.own_blk (Kd.R_ne HO210.out BK216.out (by decide))
         refine Eq.trans (cell_far (p := ⟨gb216, 5, none⟩) (by first | (with_reducible exact e0_) | exact e0_ | (rw [add_block]; exact e0_)) _) ?_
         refine Eq.trans (cell_far (p := ⟨gb216, 4, none⟩) (by first | (with_reducible exact e0_) | exact e0_ | (rw [add_block]; exact e0_)) _) ?_
         refine Eq.trans (cell_far (p := ⟨gb216, 3, none⟩) (by first | (with_reducible exact e0_) | exact e0_ | (rw [add_block]; exact e0_)) _) ?_
         refine Eq.trans (cell_far (p := ⟨gb216, 2, none⟩) (by first | (with_reducible exact e0_) | exact e0_ | (rw [add_block]; exact e0_)) _) ?_
         refine Eq.trans (cell_far (p := ⟨gb216, 1, none⟩) (by first | (with_reducible exact e0_) | exact e0_ | (rw [add_block]; exact e0_)) _) ?_
         refine Eq.trans (cell_far (p := ⟨gb216, 0, none⟩) (by first | (with_reducible exact e0_) | exact e0_ | (rw [add_block]; exact e0_)) _) ?_
         exact hHeld.2.2.2.1
        ·have e0_ := Kd.own_blk (Kd.R_ne HO210.out BK216.out (by decide))
         refine Eq.trans (cell_far (p := ⟨gb216, 5, none⟩) (by first | (with_reducible exact e0_) | exact e0_ | (rw [add_block]; exact e0_)) _) ?_
         refine Eq.trans (cell_far (p := ⟨gb216, 4, none⟩) (by first | (with_reducible exact e0_) | exact e0_ | (rw [add_block]; exact e0_)) _) ?_
         refine Eq.trans (cell_far (p := ⟨gb216, 3, none⟩) (by first | (with_reducible exact e0_) | exact e0_ | (rw [add_block]; exact e0_)) _) ?_
         refine Eq.trans (cell_far (p := ⟨gb216, 2, none⟩) (by first | (with_reducible exact e0_) | exact e0_ | (rw [add_block]; exact e0_)) _) ?_
         refine Eq.trans (cell_far (p := ⟨gb216, 1, none⟩) (by first | (with_reducible exact e0_) | exact e0_ | (rw [add_block]; exact e0_)) _) ?_
         refine Eq.trans (cell_far (p := ⟨gb216, 0, none⟩) (by first | (with_reducible exact e0_) | exact e0_ | (rw [add_block]; exact e0_)) _) ?_
         exact hHeld.2.2.2.2
        clear hK K
        refine done_ (done_of HT_.out (by kernel_rfl)) ?_
        try clear hHeld
        have nA_ : Aside0 (((((((w31.setCell ⟨gb216, 0, none⟩ (.string t206)).setCell ⟨gb216, 1, none⟩ (.int .i64 (rd t207 0))).setCell ⟨gb216, 2, none⟩ (.int .i64 (rd t207 1))).setCell ⟨gb216, 3, none⟩ (.int .i64 (rd t207 2))).setCell ⟨gb216, 4, none⟩ (.int .i64 (rd t207 3))).setCell ⟨gb216, 5, none⟩ (.int .i64 (rd t207 4))).heap[gb216]? = some (.cells #[.string t206, .int .i64 (rd t207 0), .int .i64 (rd t207 1), .int .i64 (rd t207 2), .int .i64 (rd t207 3), .int .i64 (rd t207 4)] 43 (0, 0))) := ⟨by refine blk_put (cs := #[.string t206, .int .i64 (rd t207 0), .int .i64 (rd t207 1), .int .i64 (rd t207 2), .int .i64 (rd t207 3), .int .i64 0]) ?_ 5 _ rfl; refine blk_put (cs := #[.string t206, .int .i64 (rd t207 0), .int .i64 (rd t207 1), .int .i64 (rd t207 2), .int .i64 0, .int .i64 0]) ?_ 4 _ rfl; refine blk_put (cs := #[.string t206, .int .i64 (rd t207 0), .int .i64 (rd t207 1), .int .i64 0, .int .i64 0, .int .i64 0]) ?_ 3 _ rfl; refine blk_put (cs := #[.string t206, .int .i64 (rd t207 0), .int .i64 0, .int .i64 0, .int .i64 0, .int .i64 0]) ?_ 2 _ rfl; refine blk_put (cs := #[.string t206, .int .i64 0, .int .i64 0, .int .i64 0, .int .i64 0, .int .i64 0]) ?_ 1 _ rfl; refine blk_put (cs := #[.string (⟨#[]⟩ : ByteArray), .int .i64 0, .int .i64 0, .int .i64 0, .int .i64 0, .int .i64 0]) ?_ 0 _ rfl; exact BK216.out⟩
        have nB_ : Aside0 (((((((w31.setCell ⟨gb216, 0, none⟩ (.string t206)).setCell ⟨gb216, 1, none⟩ (.int .i64 (rd t207 0))).setCell ⟨gb216, 2, none⟩ (.int .i64 (rd t207 1))).setCell ⟨gb216, 3, none⟩ (.int .i64 (rd t207 2))).setCell ⟨gb216, 4, none⟩ (.int .i64 (rd t207 3))).setCell ⟨gb216, 5, none⟩ (.int .i64 (rd t207 4))).heap[gb205]? = some (.cells #[.string (⟨#[]⟩ : ByteArray), .int .i64 0, .int .i64 0, .int .i64 0, .int .i64 0, .int .i64 0] 43 (0, 0))) := ⟨by refine blk_far ?_ NB205_216.out _; refine blk_far ?_ NB205_216.out _; refine blk_far ?_ NB205_216.out _; refine blk_far ?_ NB205_216.out _; refine blk_far ?_ NB205_216.out _; refine blk_far ?_ NB205_216.out _; exact BK205.out⟩
        have nC_ : Aside0 (Below w.heap.size w ((((((w31.setCell ⟨gb216, 0, none⟩ (.string t206)).setCell ⟨gb216, 1, none⟩ (.int .i64 (rd t207 0))).setCell ⟨gb216, 2, none⟩ (.int .i64 (rd t207 1))).setCell ⟨gb216, 3, none⟩ (.int .i64 (rd t207 2))).setCell ⟨gb216, 4, none⟩ (.int .i64 (rd t207 3))).setCell ⟨gb216, 5, none⟩ (.int .i64 (rd t207 4)))) := ⟨by refine wS ?_ GE216.out; refine wS ?_ GE216.out; refine wS ?_ GE216.out; refine wS ?_ GE216.out; refine wS ?_ GE216.out; refine wS ?_ GE216.out; exact HB.out⟩
        generalize ((((((w31.setCell ⟨gb216, 0, none⟩ (.string t206)).setCell ⟨gb216, 1, none⟩ (.int .i64 (rd t207 0))).setCell ⟨gb216, 2, none⟩ (.int .i64 (rd t207 1))).setCell ⟨gb216, 3, none⟩ (.int .i64 (rd t207 2))).setCell ⟨gb216, 4, none⟩ (.int .i64 (rd t207 3))).setCell ⟨gb216, 5, none⟩ (.int .i64 (rd t207 4))) = wz598 at nA_ nB_ nC_ ⊢
        clear BK216 BK205 HB
        have BK216 := nA_
        have BK205 := nB_
        have HB := nC_
        clear nA_ nB_ nC_
        have hnb38 := NB216_205.out
        have hnc38 := NB205_216.out
        have hcz39_0 : wz598.cell? ⟨gb216, 0, none⟩ = some (.string t206) := (blk_cell BK216.out 0).trans rfl
        have hcz39_1 : wz598.cell? ⟨gb216, 1, none⟩ = some (.int .i64 (rd t207 0)) := (blk_cell BK216.out 1).trans rfl
        have hcz39_2 : wz598.cell? ⟨gb216, 2, none⟩ = some (.int .i64 (rd t207 1)) := (blk_cell BK216.out 2).trans rfl
        have hcz39_3 : wz598.cell? ⟨gb216, 3, none⟩ = some (.int .i64 (rd t207 2)) := (blk_cell BK216.out 3).trans rfl
        have hcz39_4 : wz598.cell? ⟨gb216, 4, none⟩ = some (.int .i64 (rd t207 3)) := (blk_cell BK216.out 4).trans rfl
        have hcz39_5 : wz598.cell? ⟨gb216, 5, none⟩ = some (.int .i64 (rd t207 4)) := (blk_cell BK216.out 5).trans rfl
        have hfz39_0 := blk_frozen BK216.out 0
        have hfz39_1 := blk_frozen BK216.out 1
        have hfz39_2 := blk_frozen BK216.out 2
        have hfz39_3 := blk_frozen BK216.out 3
        have hfz39_4 := blk_frozen BK216.out 4
        have hfz39_5 := blk_frozen BK216.out 5
        try go_wp2_with (first | (go_at_call 37; (with_reducible refine (impl_PipeText.calls k t206 (rd t207 0) (rd t207 1) (rd t207 2) (rd t207 3) (rd t207 4) t217 _ ?sideT A9.out).mono ?_); (case sideT => exact HT.out.now (by repeat (first | (with_reducible first | exact HB.out|apply wA|apply wN|apply wD |refine wS ?_ GE205.out |refine wS ?_ GE216.out) | exact HB.out))); rintro e w40 ⟨rfl, hb⟩; have n0_ := trivial; have n1_ := Aside0.mk (blk_below (g := gb205) (o := .cells #[.string (⟨#[]⟩ : ByteArray), .int .i64 0, .int .i64 0, .int .i64 0, .int .i64 0, .int .i64 0] 43 (0, 0)) (by (with_reducible repeat (first | refine bN ?_ _|refine bW ?_|refine bA ?_ _)); exact BK205.out) hb); have n2_ := Aside0.mk (blk_below (g := gb216) (o := .cells #[.string t206, .int .i64 (rd t207 0), .int .i64 (rd t207 1), .int .i64 (rd t207 2), .int .i64 (rd t207 3), .int .i64 (rd t207 4)] 43 (0, 0)) (by (with_reducible repeat (first | refine bN ?_ _|refine bW ?_|refine bA ?_ _)); exact BK216.out) hb); have n3_ := Aside0.mk (below_step (by repeat (first | (with_reducible first | exact HB.out|apply wA|apply wN|apply wD |refine wS ?_ GE205.out |refine wS ?_ GE216.out) | exact HB.out)) hb); clear HO210; clear BK205; clear BK216; clear HB; have HO210 := n0_; have BK205 := n1_; have BK216 := n2_; have HB := n3_; clear n0_ n1_ n2_ n3_; (try clear hb); (try clear hb2); (try clear hk); (try clear hi); have hcz41_0 : w40.cell? ⟨gb205, 0, none⟩ = some (.string (⟨#[]⟩ : ByteArray)) := (blk_cell BK205.out 0).trans rfl; have hcz41_1 : w40.cell? ⟨gb205, 1, none⟩ = some (.int .i64 0) := (blk_cell BK205.out 1).trans rfl; have hcz41_2 : w40.cell? ⟨gb205, 2, none⟩ = some (.int .i64 0) := (blk_cell BK205.out 2).trans rfl; have hcz41_3 : w40.cell? ⟨gb205, 3, none⟩ = some (.int .i64 0) := (blk_cell BK205.out 3).trans rfl; have hcz41_4 : w40.cell? ⟨gb205, 4, none⟩ = some (.int .i64 0) := (blk_cell BK205.out 4).trans rfl; have hcz41_5 : w40.cell? ⟨gb205, 5, none⟩ = some (.int .i64 0) := (blk_cell BK205.out 5).trans rfl; have hfz41_0 := blk_frozen BK205.out 0; have hfz41_1 := blk_frozen BK205.out 1; have hfz41_2 := blk_frozen BK205.out 2; have hfz41_3 := blk_frozen BK205.out 3; have hfz41_4 := blk_frozen BK205.out 4; have hfz41_5 := blk_frozen BK205.out 5))
        refine bodyPost_ret (results_ct rfl _ _ gb205 43 #[.string (⟨#[]⟩ : ByteArray), .int .i64 0, .int .i64 0, .int .i64 0, .int .i64 0, .int .i64 0] (0, 0) _ rfl (by (with_reducible repeat (first | refine bN ?_ _|refine bW ?_|refine bA ?_ _)); refine blk_put (cs := #[.string (⟨#[]⟩ : ByteArray), .int .i64 0, .int .i64 0, .int .i64 0, .int .i64 0, .int .i64 0]) ?_ 5 _ rfl; (with_reducible repeat (first | refine bN ?_ _|refine bW ?_|refine bA ?_ _)); refine blk_put (cs := #[.string (⟨#[]⟩ : ByteArray), .int .i64 0, .int .i64 0, .int .i64 0, .int .i64 0, .int .i64 0]) ?_ 4 _ rfl; (with_reducible repeat (first | refine bN ?_ _|refine bW ?_|refine bA ?_ _)); refine blk_put (cs := #[.string (⟨#[]⟩ : ByteArray), .int .i64 0, .int .i64 0, .int .i64 0, .int .i64 0, .int .i64 0]) ?_ 3 _ rfl; (with_reducible repeat (first | refine bN ?_ _|refine bW ?_|refine bA ?_ _)); refine blk_put (cs := #[.string (⟨#[]⟩ : ByteArray), .int .i64 0, .int .i64 0, .int .i64 0, .int .i64 0, .int .i64 0]) ?_ 2 _ rfl; (with_reducible repeat (first | refine bN ?_ _|refine bW ?_|refine bA ?_ _)); refine blk_put (cs := #[.string (⟨#[]⟩ : ByteArray), .int .i64 0, .int .i64 0, .int .i64 0, .int .i64 0, .int .i64 0]) ?_ 1 _ rfl; (with_reducible repeat (first | refine bN ?_ _|refine bW ?_|refine bA ?_ _)); refine blk_put (cs := #[.string (⟨#[]⟩ : ByteArray), .int .i64 0, .int .i64 0, .int .i64 0, .int .i64 0, .int .i64 0]) ?_ 0 _ rfl; (with_reducible repeat (first | refine bN ?_ _|refine bW ?_|refine bA ?_ _)); exact BK205.out) Tryd.underlying43 rfl (by kernel_rfl)) rfl ?_
        exact ⟨by first | rfl | (simp [errW_none, errW_some] <;> rfl) | (simp [*, errW_none, errW_some] <;> rfl), by repeat (first | (with_reducible first | exact HB.out|apply wA|apply wN|apply wD |refine wS ?_ GE205.out |refine wS ?_ GE216.out) | exact HB.out)⟩
      ·replace c8 := Bool.eq_false_iff.mpr c8
       subst c8
       have H1 : (some ((⟨#[]⟩ : ByteArray), 0, 0, 0, 0, 0, false)) = some (r1, r2, r3, r4, r5, r6, r7) := by rw [if_neg (show ¬ (false = true) by decide)] at H; exact H
       clear H
       have H := H1
       clear H1
       simp only [Option.some.injEq, Prod.mk.injEq] at H
       obtain ⟨rfl, rfl, rfl, rfl, rfl, rfl, rfl⟩ := H
       go_enter Tryd.func39, Tryd.ntmps39
       try go_wp2_with (first | ((with_reducible refine gate_dst (N := 2) rfl ?_); refine box_event ?hg (N := 2) ?hd (cs := #[.string (⟨#[]⟩ : ByteArray), .int .i64 0, .int .i64 0, .int .i64 0, .int .i64 0, .int .i64 0]) (t := 43) ?hr ?_; (case hd => rfl); (case hg => rfl); (case hr => first | (go_simp; done) | (go_simp; rfl)); intro gb205 hg w42 hbox hb; have n0_ := Aside0.mk (below_step (by repeat (first | (with_reducible first | exact HB.out|apply wA|apply wN|apply wD) | exact HB.out)) hb); have n1_ := Aside0.mk (hbox); have n2_ := Aside0.mk ((by rw [hg]; exact (below_size (by repeat (first | (with_reducible first | exact HB.out|apply wA|apply wN|apply wD) | exact HB.out))) : w.heap.size ≤ gb205)); have n3_ := Aside0.mk ((by rw [hg]; exact (below_size (by repeat (first | (with_reducible first | exact HB.out|apply wA|apply wN|apply wD) | exact HB.out))) : w.heap.size ≤ gb205)); clear HB; have HB := n0_; have BK205 := n1_; have GW205 := n2_; have GE205 := n3_; clear n0_ n1_ n2_ n3_; clear hb hbox hg) | ((with_reducible refine gate_callee (f := 72) rfl ?_); refine goesL_ (some 10) rfl rfl Tryd.func72 (by kernel_rfl) rfl #[.string a0, .int .i64 5] rfl (by (try simp only [List.map_toArray, List.map_cons, List.map_nil]); first | done | rfl | (simp only [List.length_drop, List.length_take]; rfl)) ?_; (with_reducible refine (impl_readWithId.calls k a0 5 t206 t207 false _ ?sideT A2.out).mono ?_); (case sideT => exact HT.out.now (by repeat (first | (with_reducible first | exact HB.out|apply wA|apply wN|apply wD |refine wS ?_ GE205.out |refine wS ?_ GE216.out) | exact HB.out))); rintro e w43 ⟨v209, rfl, ho0, hb⟩; refine ⟨_, rfl, ?_⟩; have n0_ := Aside0.mk (Kd.R_lower ho0 (below_size (by repeat (first | (with_reducible first | exact HB.out|apply wA|apply wN|apply wD |refine wS ?_ GE205.out) | exact HB.out)))); have n1_ := Aside0.mk (blk_below (g := gb205) (o := .cells #[.string (⟨#[]⟩ : ByteArray), .int .i64 0, .int .i64 0, .int .i64 0, .int .i64 0, .int .i64 0] 43 (0, 0)) (by (with_reducible repeat (first | refine bN ?_ _|refine bW ?_|refine bA ?_ _)); exact BK205.out) hb); have n2_ := Aside0.mk (below_step (by repeat (first | (with_reducible first | exact HB.out|apply wA|apply wN|apply wD |refine wS ?_ GE205.out) | exact HB.out)) hb); clear BK205; clear HB; have HO210 := n0_; have BK205 := n1_; have HB := n2_; clear n0_ n1_ n2_; (try clear hb); (try clear hb2); (try clear hk); (try clear hi); (try clear ho0)))
       have n0_ := Aside0.mk (Kd.R_drew HO210.out)
       have n1_ := Aside0.mk (blk_drew BK205.out)
       have n2_ := Aside0.mk (below_drew1 HB.out)
       clear HO210
       clear BK205
       clear HB
       have HO210 := n0_
       have BK205 := n1_
       have HB := n2_
       clear n0_ n1_ n2_
       obtain ⟨Ao45, co45, eo45⟩ := Kd.R_slice HO210.out
       (first | subst eo45 | (injection eo45 with f1_ f2_ f3_; have f4_ := f1_.symm; have f5_ := f3_.symm; clear f1_ f2_ f3_; subst f4_; subst f5_))
       have p211 : 0 ≤ (0 : Int) := (by omega)
       have q211 : 0 < (t207.length : Int) := of_decide_eq_true (by first | (with_reducible assumption) | assumption)
       obtain ⟨ad211, e211, hx211_0⟩ := Kd.at_int (Kd.R_reads' HO210.out).2.2 0 p211 q211
       cases e211
       have qi211 : (0 < t207.length) = True := eq_true (by omega)
       (try rw [show ((0 : Int)).toNat = 0 from rfl] at hx211_0)
       (try rw [Addr.add_zero'] at hx211_0)
       replace p211 := eq_true p211
       replace q211 := eq_true q211
       have p212 : 0 ≤ (1 : Int) := (by omega)
       have q212 : 1 < (t207.length : Int) := of_decide_eq_true (by first | (with_reducible assumption) | assumption)
       obtain ⟨ad212, e212, hx212_0⟩ := Kd.at_int (Kd.R_reads' HO210.out).2.2 1 p212 q212
       obtain rfl : ad211 = ad212 := (by injection e212)
       (try simp only [show (1 : Int).toNat = 1 from rfl, Nat.reduceMul, Nat.reduceEqDiff, Go.Addr.add, ↓reduceIte] at hx212_0)
       have qi212 : (1 < t207.length) = True := eq_true (by omega)
       (try rw [show ((1 : Int)).toNat = 1 from rfl] at hx212_0)
       replace p212 := eq_true p212
       replace q212 := eq_true q212
       have p213 : 0 ≤ (2 : Int) := (by omega)
       have q213 : 2 < (t207.length : Int) := of_decide_eq_true (by first | (with_reducible assumption) | assumption)
       obtain ⟨ad213, e213, hx213_0⟩ := Kd.at_int (Kd.R_reads' HO210.out).2.2 2 p213 q213
       obtain rfl : ad211 = ad213 := (by injection e213)
       (try simp only [show (2 : Int).toNat = 2 from rfl, Nat.reduceMul, Nat.reduceEqDiff, Go.Addr.add, ↓reduceIte] at hx213_0)
       have qi213 : (2 < t207.length) = True := eq_true (by omega)
       (try rw [show ((2 : Int)).toNat = 2 from rfl] at hx213_0)
       replace p213 := eq_true p213
       replace q213 := eq_true q213
       have p214 : 0 ≤ (3 : Int) := (by omega)
       have q214 : 3 < (t207.length : Int) := of_decide_eq_true (by first | (with_reducible assumption) | assumption)
       obtain ⟨ad214, e214, hx214_0⟩ := Kd.at_int (Kd.R_reads' HO210.out).2.2 3 p214 q214
       obtain rfl : ad211 = ad214 := (by injection e214)
       (try simp only [show (3 : Int).toNat = 3 from rfl, Nat.reduceMul, Nat.reduceEqDiff, Go.Addr.add, ↓reduceIte] at hx214_0)
       have qi214 : (3 < t207.length) = True := eq_true (by omega)
       (try rw [show ((3 : Int)).toNat = 3 from rfl] at hx214_0)
       replace p214 := eq_true p214
       replace q214 := eq_true q214
       have p215 : 0 ≤ (4 : Int) := (by omega)
       have q215 : 4 < (t207.length : Int) := of_decide_eq_true (by first | (with_reducible assumption) | assumption)
       obtain ⟨ad215, e215, hx215_0⟩ := Kd.at_int (Kd.R_reads' HO210.out).2.2 4 p215 q215
       obtain rfl : ad211 = ad215 := (by injection e215)
       (try simp only [show (4 : Int).toNat = 4 from rfl, Nat.reduceMul, Nat.reduceEqDiff, Go.Addr.add, ↓reduceIte] at hx215_0)
       have qi215 : (4 < t207.length) = True := eq_true (by omega)
       (try rw [show ((4 : Int)).toNat = 4 from rfl] at hx215_0)
       replace p215 := eq_true p215
       replace q215 := eq_true q215
       refine start_ (n := 19) (S := fun w' => w'.cell? ad211 = some (.int .i64 (rd t207 0)) ∧ w'.cell? ⟨ad211.block, ad211.off + 1, none⟩ = some (.int .i64 (rd t207 1)) ∧ w'.cell? ⟨ad211.block, ad211.off + 2, none⟩ = some (.int .i64 (rd t207 2)) ∧ w'.cell? ⟨ad211.block, ad211.off + 3, none⟩ = some (.int .i64 (rd t207 3)) ∧ w'.cell? ⟨ad211.block, ad211.off + 4, none⟩ = some (.int .i64 (rd t207 4))) (ds := []) #[J,J,J,J,J,J,J,J,J,J,J,J,J,J,J,J,J,J,J] (by kernel_rfl) rfl rfl ⟨hx211_0, hx212_0, hx213_0, hx214_0, hx215_0⟩ (fun hHeld => ?_); refine with_tabW impl_ReadPipe.tab2 impl_ReadPipe.bits2 (fun HT_ HW_ => ?_)
       generalize w43.drew = w44 at HO210 BK205 HB hx211_0 hx212_0 hx213_0 hx214_0 hx215_0 hHeld ⊢
       refine pure_ (i := 0) (N := some 14) (v := ?_) (a' := ?_) #[Y,J,J,J,J,J,J,J,J,J,J,J,J,J,J,J,J,J,J] rfl rfl (any_of HT_.out (by kernel_rfl)) (fun _ _ _ h => h) (Or.inl ⟨by rfl, ?_⟩) ?_ ?_; rotate_left
       ·intro w'; go_simp; with_reducible rfl
       rotate_left
       ·simp only [pU,pN,sB,sZ,sS,i64_w,i32_w]; rfl
       refine pure_ (i := 1) (N := some 15) (v := ?_) (a' := ?_) #[Y,Y,J,J,J,J,J,J,J,J,J,J,J,J,J,J,J,J,J] rfl rfl (any_of HT_.out (by kernel_rfl)) (fun _ _ _ h => h) (Or.inl ⟨by rfl, ?_⟩) ?_ ?_; rotate_left
       ·intro w'; go_simp; with_reducible rfl
       rotate_left
       ·simp only [pU,pN,sB,sZ,sS,i64_w,i32_w]; rfl
       refine pure_ (i := 2) (N := some 16) (v := ?_) (a' := ?_) #[Y,Y,Y,J,J,J,J,J,J,J,J,J,J,J,J,J,J,J,J] rfl rfl (any_of HT_.out (by kernel_rfl)) (fun _ _ _ h => h) (Or.inl ⟨by rfl, ?_⟩) ?_ ?_; rotate_left
       ·intro w'; go_simp; with_reducible rfl
       rotate_left
       ·simp only [pU,pN,sB,sZ,sS,i64_w,i32_w]; rfl
       refine pure_ (i := 4) (N := some 18) (v := ?_) (a' := ?_) #[Y,Y,Y,J,Y,J,J,J,J,J,J,J,J,J,J,J,J,J,J] rfl rfl (any_of HT_.out (by kernel_rfl)) (fun _ _ _ h => h) (Or.inl ⟨by rfl, ?_⟩) ?_ ?_; rotate_left
       ·intro w'; go_simp; with_reducible rfl
       rotate_left
       ·simp only [pU,pN,sB,sZ,sS,i64_w,i32_w]; rfl
       refine pure_ (i := 5) (N := some 19) (v := ?_) (a' := ?_) #[Y,Y,Y,J,Y,Y,J,J,J,J,J,J,J,J,J,J,J,J,J] rfl rfl (any_of HT_.out (by kernel_rfl)) (fun _ _ _ h => h) (Or.inl ⟨by rfl, ?_⟩) ?_ ?_; rotate_left
       ·intro w'; go_simp; with_reducible rfl
       rotate_left
       ·simp only [pU,pN,sB,sZ,sS,i64_w,i32_w]; rfl
       refine pure_ (i := 7) (N := some 21) (v := ?_) (a' := ?_) #[Y,Y,Y,J,Y,Y,J,Y,J,J,J,J,J,J,J,J,J,J,J] rfl rfl (any_of HT_.out (by kernel_rfl)) (fun _ _ _ h => h) (Or.inl ⟨by rfl, ?_⟩) ?_ ?_; rotate_left
       ·intro w'; go_simp; with_reducible rfl
       rotate_left
       ·simp only [pU,pN,sB,sZ,sS,i64_w,i32_w]; rfl
       refine pure_ (i := 8) (N := some 22) (v := ?_) (a' := ?_) #[Y,Y,Y,J,Y,Y,J,Y,Y,J,J,J,J,J,J,J,J,J,J] rfl rfl (any_of HT_.out (by kernel_rfl)) (fun _ _ _ h => h) (Or.inl ⟨by rfl, ?_⟩) ?_ ?_; rotate_left
       ·intro w'; go_simp; with_reducible rfl
       rotate_left
       ·simp only [pU,pN,sB,sZ,sS,i64_w,i32_w]; rfl
       refine pure_ (i := 10) (N := some 24) (v := ?_) (a' := ?_) #[Y,Y,Y,J,Y,Y,J,Y,Y,J,Y,J,J,J,J,J,J,J,J] rfl rfl (any_of HT_.out (by kernel_rfl)) (fun _ _ _ h => h) (Or.inl ⟨by rfl, ?_⟩) ?_ ?_; rotate_left
       ·intro w'; go_simp; with_reducible rfl
       rotate_left
       ·simp only [pU,pN,sB,sZ,sS,i64_w,i32_w]; rfl
       refine pure_ (i := 11) (N := some 25) (v := ?_) (a' := ?_) #[Y,Y,Y,J,Y,Y,J,Y,Y,J,Y,Y,J,J,J,J,J,J,J] rfl rfl (any_of HT_.out (by kernel_rfl)) (fun _ _ _ h => h) (Or.inl ⟨by rfl, ?_⟩) ?_ ?_; rotate_left
       ·intro w'; go_simp; with_reducible rfl
       rotate_left
       ·simp only [pU,pN,sB,sZ,sS,i64_w,i32_w]; rfl
       refine pure_ (i := 13) (N := some 27) (v := ?_) (a' := ?_) #[Y,Y,Y,J,Y,Y,J,Y,Y,J,Y,Y,J,Y,J,J,J,J,J] rfl rfl (any_of HT_.out (by kernel_rfl)) (fun _ _ _ h => h) (Or.inl ⟨by rfl, ?_⟩) ?_ ?_; rotate_left
       ·intro w'; go_simp; with_reducible rfl
       rotate_left
       ·simp only [pU,pN,sB,sZ,sS,i64_w,i32_w]; rfl
       refine pure_ (i := 14) (N := some 28) (v := ?_) (a' := ?_) #[Y,Y,Y,J,Y,Y,J,Y,Y,J,Y,Y,J,Y,Y,J,J,J,J] rfl rfl (any_of HT_.out (by kernel_rfl)) (fun _ _ _ h => h) (Or.inl ⟨by rfl, ?_⟩) ?_ ?_; rotate_left
       ·intro w'; go_simp; with_reducible rfl
       rotate_left
       ·simp only [pU,pN,sB,sZ,sS,i64_w,i32_w]; rfl
       refine take_ (i := 3) (N := some 17) (v := ?_) (a' := ?_) #[Y,Y,Y,Y,Y,Y,J,Y,Y,J,Y,Y,J,Y,Y,J,J,J,J] rfl rfl (take_ofW HT_.out HW_.out (by kernel_rfl)) (fun _ _ _ h => h) (Or.inl ⟨by rfl, ?_⟩) hHeld ?_ ?_; rotate_left
       ·rintro w' ⟨s0, s1, s2, s3, s4⟩; go_simp; with_reducible rfl
       rotate_left
       ·simp only [pU,pN,sB,sZ,sS,i64_w,i32_w]; rfl
       refine take_ (i := 6) (N := some 20) (v := ?_) (a' := ?_) #[Y,Y,Y,Y,Y,Y,Y,Y,Y,J,Y,Y,J,Y,Y,J,J,J,J] rfl rfl (take_ofW HT_.out HW_.out (by kernel_rfl)) (fun _ _ _ h => h) (Or.inl ⟨by rfl, ?_⟩) hHeld ?_ ?_; rotate_left
       ·rintro w' ⟨s0, s1, s2, s3, s4⟩; go_simp; with_reducible rfl
       rotate_left
       ·simp only [pU,pN,sB,sZ,sS,i64_w,i32_w]; rfl
       refine take_ (i := 9) (N := some 23) (v := ?_) (a' := ?_) #[Y,Y,Y,Y,Y,Y,Y,Y,Y,Y,Y,Y,J,Y,Y,J,J,J,J] rfl rfl (take_ofW HT_.out HW_.out (by kernel_rfl)) (fun _ _ _ h => h) (Or.inl ⟨by rfl, ?_⟩) hHeld ?_ ?_; rotate_left
       ·rintro w' ⟨s0, s1, s2, s3, s4⟩; go_simp; with_reducible rfl
       rotate_left
       ·simp only [pU,pN,sB,sZ,sS,i64_w,i32_w]; rfl
       refine take_ (i := 12) (N := some 26) (v := ?_) (a' := ?_) #[Y,Y,Y,Y,Y,Y,Y,Y,Y,Y,Y,Y,Y,Y,Y,J,J,J,J] rfl rfl (take_ofW HT_.out HW_.out (by kernel_rfl)) (fun _ _ _ h => h) (Or.inl ⟨by rfl, ?_⟩) hHeld ?_ ?_; rotate_left
       ·rintro w' ⟨s0, s1, s2, s3, s4⟩; go_simp; with_reducible rfl
       rotate_left
       ·simp only [pU,pN,sB,sZ,sS,i64_w,i32_w]; rfl
       refine take_ (i := 15) (N := some 29) (v := ?_) (a' := ?_) #[Y,Y,Y,Y,Y,Y,Y,Y,Y,Y,Y,Y,Y,Y,Y,Y,J,J,J] rfl rfl (take_ofW HT_.out HW_.out (by kernel_rfl)) (fun _ _ _ h => h) (Or.inl ⟨by rfl, ?_⟩) hHeld ?_ ?_; rotate_left
       ·rintro w' ⟨s0, s1, s2, s3, s4⟩; go_simp; with_reducible rfl
       rotate_left
       ·simp only [pU,pN,sB,sZ,sS,i64_w,i32_w]; rfl
       refine pure_ (i := 16) (N := some 30) (v := ?_) (a' := ?_) #[Y,Y,Y,Y,Y,Y,Y,Y,Y,Y,Y,Y,Y,Y,Y,Y,Y,J,J] rfl rfl (any_of HT_.out (by kernel_rfl)) (fun _ _ _ h => h) (Or.inl ⟨by rfl, ?_⟩) ?_ ?_; rotate_left
       ·intro w'; go_simp; with_reducible rfl
       rotate_left
       ·simp only [pU,pN,sB,sZ,sS,i64_w,i32_w]; rfl
       refine one_ (i := 17) (N := some 7) #[Y,Y,Y,Y,Y,Y,Y,Y,Y,Y,Y,Y,Y,Y,Y,Y,Y,Y,J] rfl rfl (one_of HT_.out (by kernel_rfl)) (by decide) (fun K hK => ?_)
       refine box_step ?hg (N := 7) ?hd (cs := #[.string (⟨#[]⟩ : ByteArray), .int .i64 0, .int .i64 0, .int .i64 0, .int .i64 0, .int .i64 0]) (t := 43) ?hr ?_; (case hd => rfl); (case hg => rfl); (case hr => first | (go_simp; done) | (go_simp; rfl))
       intro gb216 hg w46 hbox hb
       have HS0_ := (hb.cell (World.block_lt_of_cell? _ _ (hHeld.1))).trans (hHeld.1)
       have HS1_ := (hb.cell (World.block_lt_of_cell? _ _ (hHeld.2.1))).trans (hHeld.2.1)
       have HS2_ := (hb.cell (World.block_lt_of_cell? _ _ (hHeld.2.2.1))).trans (hHeld.2.2.1)
       have HS3_ := (hb.cell (World.block_lt_of_cell? _ _ (hHeld.2.2.2.1))).trans (hHeld.2.2.2.1)
       have HS4_ := (hb.cell (World.block_lt_of_cell? _ _ (hHeld.2.2.2.2))).trans (hHeld.2.2.2.2)
       have n0_ := Aside0.mk (Kd.R_below (by (with_reducible repeat (first | apply rA|apply rN|apply rW)); exact HO210.out) hb)
       have n1_ := Aside0.mk (blk_below (g := gb205) (o := .cells #[.string (⟨#[]⟩ : ByteArray), .int .i64 0, .int .i64 0, .int .i64 0, .int .i64 0, .int .i64 0] 43 (0, 0)) (by (with_reducible repeat (first | refine bN ?_ _|refine bW ?_|refine bA ?_ _)); exact BK205.out) hb)
       have n2_ := Aside0.mk (below_step (by repeat (first | (with_reducible first | exact HB.out|apply wA|apply wN|apply wD |refine wS ?_ GE205.out) | exact HB.out)) hb)
       have n3_ := Aside0.mk (hbox)
       have n4_ := Aside0.mk ((by rw [hg]; exact (below_size (by repeat (first | (with_reducible first | exact HB.out|apply wA|apply wN|apply wD |refine wS ?_ GE205.out) | exact HB.out))) : w.heap.size ≤ gb216))
       have n5_ := Aside0.mk ((by rw [hg]; exact (below_size (by repeat (first | (with_reducible first | exact HB.out|apply wA|apply wN|apply wD |refine wS ?_ GE205.out) | exact HB.out))) : w.heap.size ≤ gb216))
       have n6_ := Aside0.mk ((by rw [hg]; exact Nat.ne_of_lt (blk_lt (g := gb205) (o := .cells #[.string (⟨#[]⟩ : ByteArray), .int .i64 0, .int .i64 0, .int .i64 0, .int .i64 0, .int .i64 0] 43 (0, 0)) (by (with_reducible repeat (first | refine bN ?_ _|refine bW ?_|refine bA ?_ _)); exact BK205.out)) : gb205 ≠ gb216))
       have n7_ := Aside0.mk ((by rw [hg]; exact Nat.ne_of_gt (blk_lt (g := gb205) (o := .cells #[.string (⟨#[]⟩ : ByteArray), .int .i64 0, .int .i64 0, .int .i64 0, .int .i64 0, .int .i64 0] 43 (0, 0)) (by (with_reducible repeat (first | refine bN ?_ _|refine bW ?_|refine bA ?_ _)); exact BK205.out)) : gb216 ≠ gb205))
       clear HO210
       clear BK205
       clear HB
       have HO210 := n0_
       have BK205 := n1_
       have HB := n2_
       have BK216 := n3_
       have GW216 := n4_
       have GE216 := n5_
       have NB205_216 := n6_
       have NB216_205 := n7_
       clear n0_ n1_ n2_ n3_ n4_ n5_ n6_ n7_
       clear hb hbox hg
       refine hK.out _ _ ⟨HS0_, HS1_, HS2_, HS3_, HS4_⟩ (fun hHeld => ?_)
       clear hK K
       refine norm_ (a' := ?_) ?_ ?_
       rotate_left
       ·show Act.put _ (some 7) _ = _
        simp only [pU,pN,sB,sZ,sS,i64_w,i32_w]
        rfl
       refine one_ (i := 18) (N := none) #[Y,Y,Y,Y,Y,Y,Y,Y,Y,Y,Y,Y,Y,Y,Y,Y,Y,Y,Y] rfl rfl (one_of HT_.out (by kernel_rfl)) (by decide) (fun K hK => ?_)
       have hs47 : w46.cell? ⟨gb216, 0, none⟩ = some (.string (⟨#[]⟩ : ByteArray)) := (blk_cell BK216.out 0).trans rfl
       have hfs47 := blk_frozen BK216.out 0
       have hns47_0 := NB205_216.out
       have hms47_0 := NB216_205.out
       have hs48 : w46.cell? ⟨gb216, 1, none⟩ = some (.int .i64 0) := (blk_cell BK216.out 1).trans rfl
       have hfs48 := blk_frozen BK216.out 1
       have hns48_0 := NB205_216.out
       have hms48_0 := NB216_205.out
       have hs49 : w46.cell? ⟨gb216, 2, none⟩ = some (.int .i64 0) := (blk_cell BK216.out 2).trans rfl
       have hfs49 := blk_frozen BK216.out 2
       have hns49_0 := NB205_216.out
       have hms49_0 := NB216_205.out
       have hs50 : w46.cell? ⟨gb216, 3, none⟩ = some (.int .i64 0) := (blk_cell BK216.out 3).trans rfl
       have hfs50 := blk_frozen BK216.out 3
       have hns50_0 := NB205_216.out
       have hms50_0 := NB216_205.out
       have hs51 : w46.cell? ⟨gb216, 4, none⟩ = some (.int .i64 0) := (blk_cell BK216.out 4).trans rfl
       have hfs51 := blk_frozen BK216.out 4
       have hns51_0 := NB205_216.out
       have hms51_0 := NB216_205.out
       have hs52 : w46.cell? ⟨gb216, 5, none⟩ = some (.int .i64 0) := (blk_cell BK216.out 5).trans rfl
       have hfs52 := blk_frozen BK216.out 5
       have hns52_0 := NB205_216.out
       have hms52_0 := NB216_205.out
       refine skip_ (w1 := ?_) (by rfl) rfl ?_ ?_
       rotate_left
       ·go_simp
        rfl
       refine hK.out _ _ ⟨?_, ?_, ?_, ?_, ?_⟩ (fun hHeld => ?_)
       ·have e0_ := Kd.own_blk (Kd.R_ne HO210.out BK216.out (by decide))
        refine Eq.trans (cell_far (p := ⟨gb216, 5, none⟩) (by first | (with_reducible exact e0_) | exact e0_ | (rw [add_block]; exact e0_)) _) ?_
        refine Eq.trans (cell_far (p := ⟨gb216, 4, none⟩) (by first | (with_reducible exact e0_) | exact e0_ | (rw [add_block]; exact e0_)) _) ?_
        refine Eq.trans (cell_far (p := ⟨gb216, 3, none⟩) (by first | (with_reducible exact e0_) | exact e0_ | (rw [add_block]; exact e0_)) _) ?_
        refine Eq.trans (cell_far (p := ⟨gb216, 2, none⟩) (by first | (with_reducible exact e0_) | exact e0_ | (rw [add_block]; exact e0_)) _) ?_
        refine Eq.trans (cell_far (p := ⟨gb216, 1, none⟩) (by first | (with_reducible exact e0_) | exact e0_ | (rw [add_block]; exact e0_)) _) ?_
        refine Eq.trans (cell_far (p := ⟨gb216, 0, none⟩) (by first | (with_reducible exact e0_) | exact e0_ | (rw [add_block]; exact e0_)) _) ?_
        exact hHeld.1
       ·have e0_ := Kd.own_blk (Kd.R_ne HO210.out BK216.out (by decide))
        refine Eq.trans (cell_far (p := ⟨gb216, 5, none⟩) (by first | (with_reducible exact e0_) | exact e0_ | (rw [add_block]; exact e0_)) _) ?_
        refine Eq.trans (cell_far (p := ⟨gb216, 4, none⟩) (by first | (with_reducible exact e0_) | exact e0_ | (rw [add_block]; exact e0_)) _) ?_
        refine Eq.trans (cell_far (p := ⟨gb216, 3, none⟩) (by first | (with_reducible exact e0_) | exact e0_ | (rw [add_block]; exact e0_)) _) ?_
        refine Eq.trans (cell_far (p := ⟨gb216, 2, none⟩) (by first | (with_reducible exact e0_) | exact e0_ | (rw [add_block]; exact e0_)) _) ?_
        refine Eq.trans (cell_far (p := ⟨gb216, 1, none⟩) (by first | (with_reducible exact e0_) | exact e0_ | (rw [add_block]; exact e0_)) _) ?_
        refine Eq.trans (cell_far (p := ⟨gb216, 0, none⟩) (by first | (with_reducible exact e0_) | exact e0_ | (rw [add_block]; exact e0_)) _) ?_
        exact hHeld.2.1
       ·have e0_ := Kd.own_blk (Kd.R_ne HO210.out BK216.out (by decide))
        refine Eq.trans (cell_far (p := ⟨gb216, 5, none⟩) (by first | (with_reducible exact e0_) | exact e0_ | (rw [add_block]; exact e0_)) _) ?_
        refine Eq.trans (cell_far (p := ⟨gb216, 4, none⟩) (by first | (with_reducible exact e0_) | exact e0_ | (rw [add_block]; exact e0_)) _) ?_
        refine Eq.trans (cell_far (p := ⟨gb216, 3, none⟩) (by first | (with_reducible exact e0_) | exact e0_ | (rw [add_block]; exact e0_)) _) ?_
        refine Eq.trans (cell_far (p := ⟨gb216, 2, none⟩) (by first | (with_reducible exact e0_) | exact e0_ | (rw [add_block]; exact e0_)) _) ?_
        refine Eq.trans (cell_far (p := ⟨gb216, 1, none⟩) (by first | (with_reducible exact e0_) | exact e0_ | (rw [add_block]; exact e0_)) _) ?_
        refine Eq.trans (cell_far (p := ⟨gb216, 0, none⟩) (by first | (with_reducible exact e0_) | exact e0_ | (rw [add_block]; exact e0_)) _) ?_
        exact hHeld.2.2.1
       ·have e0_ := Kd.own_blk (Kd.R_ne HO210.out BK216.out (by decide))
        refine Eq.trans (cell_far (p := ⟨gb216, 5, none⟩) (by first | (with_reducible exact e0_) | exact e0_ | (rw [add_block]; exact e0_)) _) ?_
        refine Eq.trans (cell_far (p := ⟨gb216, 4, none⟩) (by first | (with_reducible exact e0_) | exact e0_ | (rw [add_block]; exact e0_)) _) ?_
        refine Eq.trans (cell_far (p := ⟨gb216, 3, none⟩) (by first | (with_reducible exact e0_) | exact e0_ | (rw [add_block]; exact e0_)) _) ?_
        refine Eq.trans (cell_far (p := ⟨gb216, 2, none⟩) (by first | (with_reducible exact e0_) | exact e0_ | (rw [add_block]; exact e0_)) _) ?_
        refine Eq.trans (cell_far (p := ⟨gb216, 1, none⟩) (by first | (with_reducible exact e0_) | exact e0_ | (rw [add_block]; exact e0_)) _) ?_
        refine Eq.trans (cell_far (p := ⟨gb216, 0, none⟩) (by first | (with_reducible exact e0_) | exact e0_ | (rw [add_block]; exact e0_)) _) ?_
        exact hHeld.2.2.2.1
       ·have e0_ := Kd.own_blk (Kd.R_ne HO210.out BK216.out (by decide))
        refine Eq.trans (cell_far (p := ⟨gb216, 5, none⟩) (by first | (with_reducible exact e0_) | exact e0_ | (rw [add_block]; exact e0_)) _) ?_
        refine Eq.trans (cell_far (p := ⟨gb216, 4, none⟩) (by first | (with_reducible exact e0_) | exact e0_ | (rw [add_block]; exact e0_)) _) ?_
        refine Eq.trans (cell_far (p := ⟨gb216, 3, none⟩) (by first | (with_reducible exact e0_) | exact e0_ | (rw [add_block]; exact e0_)) _) ?_
        refine Eq.trans (cell_far (p := ⟨gb216, 2, none⟩) (by first | (with_reducible exact e0_) | exact e0_ | (rw [add_block]; exact e0_)) _) ?_
        refine Eq.trans (cell_far (p := ⟨gb216, 1, none⟩) (by first | (with_reducible exact e0_) | exact e0_ | (rw [add_block]; exact e0_)) _) ?_
        refine Eq.trans (cell_far (p := ⟨gb216, 0, none⟩) (by first | (with_reducible exact e0_) | exact e0_ | (rw [add_block]; exact e0_)) _) ?_
        exact hHeld.2.2.2.2
       clear hK K
       refine done_ (done_of HT_.out (by kernel_rfl)) ?_
       have hnb53 := NB205_216.out
       have hnc53 := NB216_205.out
       have hcz54_0 : w46.cell? ⟨gb205, 0, none⟩ = some (.string (⟨#[]⟩ : ByteArray)) := (blk_cell BK205.out 0).trans rfl
       have hcz54_1 : w46.cell? ⟨gb205, 1, none⟩ = some (.int .i64 0) := (blk_cell BK205.out 1).trans rfl
       have hcz54_2 : w46.cell? ⟨gb205, 2, none⟩ = some (.int .i64 0) := (blk_cell BK205.out 2).trans rfl
       have hcz54_3 : w46.cell? ⟨gb205, 3, none⟩ = some (.int .i64 0) := (blk_cell BK205.out 3).trans rfl
       have hcz54_4 : w46.cell? ⟨gb205, 4, none⟩ = some (.int .i64 0) := (blk_cell BK205.out 4).trans rfl
       have hcz54_5 : w46.cell? ⟨gb205, 5, none⟩ = some (.int .i64 0) := (blk_cell BK205.out 5).trans rfl
       have hfz54_0 := blk_frozen BK205.out 0
       have hfz54_1 := blk_frozen BK205.out 1
       have hfz54_2 := blk_frozen BK205.out 2
       have hfz54_3 := blk_frozen BK205.out 3
       have hfz54_4 := blk_frozen BK205.out 4
       have hfz54_5 := blk_frozen BK205.out 5
       try go_wp2
       refine bodyPost_ret (results_ct rfl _ _ gb205 43 #[.string (⟨#[]⟩ : ByteArray), .int .i64 0, .int .i64 0, .int .i64 0, .int .i64 0, .int .i64 0] (0, 0) _ rfl (by (with_reducible repeat (first | refine bN ?_ _|refine bW ?_|refine bA ?_ _)); refine blk_put (cs := #[.string (⟨#[]⟩ : ByteArray), .int .i64 0, .int .i64 0, .int .i64 0, .int .i64 0, .int .i64 0]) ?_ 5 _ rfl; (with_reducible repeat (first | refine bN ?_ _|refine bW ?_|refine bA ?_ _)); refine blk_put (cs := #[.string (⟨#[]⟩ : ByteArray), .int .i64 0, .int .i64 0, .int .i64 0, .int .i64 0, .int .i64 0]) ?_ 4 _ rfl; (with_reducible repeat (first | refine bN ?_ _|refine bW ?_|refine bA ?_ _)); refine blk_put (cs := #[.string (⟨#[]⟩ : ByteArray), .int .i64 0, .int .i64 0, .int .i64 0, .int .i64 0, .int .i64 0]) ?_ 3 _ rfl; (with_reducible repeat (first | refine bN ?_ _|refine bW ?_|refine bA ?_ _)); refine blk_put (cs := #[.string (⟨#[]⟩ : ByteArray), .int .i64 0, .int .i64 0, .int .i64 0, .int .i64 0, .int .i64 0]) ?_ 2 _ rfl; (with_reducible repeat (first | refine bN ?_ _|refine bW ?_|refine bA ?_ _)); refine blk_put (cs := #[.string (⟨#[]⟩ : ByteArray), .int .i64 0, .int .i64 0, .int .i64 0, .int .i64 0, .int .i64 0]) ?_ 1 _ rfl; (with_reducible repeat (first | refine bN ?_ _|refine bW ?_|refine bA ?_ _)); refine blk_put (cs := #[.string (⟨#[]⟩ : ByteArray), .int .i64 0, .int .i64 0, .int .i64 0, .int .i64 0, .int .i64 0]) ?_ 0 _ rfl; (with_reducible repeat (first | refine bN ?_ _|refine bW ?_|refine bA ?_ _)); refine blk_far ?_ NB205_216.out _; (with_reducible repeat (first | refine bN ?_ _|refine bW ?_|refine bA ?_ _)); refine blk_far ?_ NB205_216.out _; (with_reducible repeat (first | refine bN ?_ _|refine bW ?_|refine bA ?_ _)); refine blk_far ?_ NB205_216.out _; (with_reducible repeat (first | refine bN ?_ _|refine bW ?_|refine bA ?_ _)); refine blk_far ?_ NB205_216.out _; (with_reducible repeat (first | refine bN ?_ _|refine bW ?_|refine bA ?_ _)); refine blk_far ?_ NB205_216.out _; (with_reducible repeat (first | refine bN ?_ _|refine bW ?_|refine bA ?_ _)); refine blk_far ?_ NB205_216.out _; (with_reducible repeat (first | refine bN ?_ _|refine bW ?_|refine bA ?_ _)); exact BK205.out) Tryd.underlying43 rfl (by kernel_rfl)) rfl ?_
       exact ⟨by first | rfl | (simp [errW_none, errW_some] <;> rfl) | (simp [*, errW_none, errW_some] <;> rfl), by repeat (first | (with_reducible first | exact HB.out|apply wA|apply wN|apply wD |refine wS ?_ GE205.out |refine wS ?_ GE216.out) | exact HB.out)⟩
     ·rw [if_neg c7] at H
      exact absurd H (by simp)
    ·rw [if_neg c6] at H
     exact absurd H (by simp)
   ·rw [if_neg c5] at H
    exact absurd H (by simp)
  ·rw [if_neg c4] at H
   exact absurd H (by simp)
 ·rw [if_neg c3] at H
  exact absurd H (by simp)


/-! ### laws_eqPipe: function 40 -/
open Go.Proofs.YtabgkdejpkpejaaDoorM
def laws_eqPipe.f (a0_0 : ByteArray) (a0_1 a0_2 a0_3 a0_4 a0_5 : Int) (a1_0 : ByteArray) (a1_1 a1_2 a1_3 a1_4 a1_5 : Int) : Option Bool := if a0_0.toList = a1_0.toList then (if a0_1 = a1_1 then (if a0_2 = a1_2 then (if a0_3 = a1_3 then (if a0_4 = a1_4 then (if a0_5 = a1_5 then (some true) else (some false)) else (some false)) else (some false)) else (some false)) else (some false)) else (some false)
theorem if2 {p : Prop} [Decidable p] {r : Bool} {x : Option Bool} (h : (if p then x else some false) = some r) : (p ∧ x = some r) ∨ (¬ p ∧ false = r) := by
  by_cases c : p
  · rw [if_pos c] at h; exact .inl ⟨c, h⟩
  · rw [if_neg c] at h; exact .inr ⟨c, Option.some.inj h⟩
set_option maxHeartbeats 4000000 in
set_option maxRecDepth 100000 in
theorem laws_eqPipe.calls (a0_0 : ByteArray) (a0_1 : Int) (a0_2 : Int) (a0_3 : Int) (a0_4 : Int) (a0_5 : Int) (a1_0 : ByteArray) (a1_1 : Int) (a1_2 : Int) (a1_3 : Int) (a1_4 : Int) (a1_5 : Int) (r : Bool) (w : World) (h : laws_eqPipe.f a0_0 a0_1 a0_2 a0_3 a0_4 a0_5 a1_0 a1_1 a1_2 a1_3 a1_4 a1_5 = some r) :
    Calls Tryd.prog 40 #[.agg #[.string a0_0, .int .i64 a0_1, .int .i64 a0_2, .int .i64 a0_3, .int .i64 a0_4, .int .i64 a0_5], .agg #[.string a1_0, .int .i64 a1_1, .int .i64 a1_2, .int .i64 a1_3, .int .i64 a1_4, .int .i64 a1_5]] w fun e w' => e = .returned (.bool r) ∧ Below w.heap.size w w' := by
  have hu := Tryd.underlying43
  unfold laws_eqPipe.f at h
  rcases if2 h with ⟨c0, h⟩ | ⟨c0, rfl⟩
  case inr =>
    have b0 : (a0_0.toList == a1_0.toList) = false := by simpa using c0
    have n0 : (a0_0.toList != a1_0.toList) = true := by simpa using c0
    clear c0 h
    go_enter Tryd.func40, Tryd.ntmps40
    go_wp2
    go_ret
    exact ⟨rfl, by repeat (first | exact Below.refl _ _ | apply below_alloc | apply pw_below_drewN | apply below_drew1)⟩
  have b0 : (a0_0.toList == a1_0.toList) = true := by simpa using c0
  have n0 : (a0_0.toList != a1_0.toList) = false := by simpa using c0
  clear c0
  rcases if2 h with ⟨c1, h⟩ | ⟨c1, rfl⟩
  case inr =>
    have b1 : (a0_1 == a1_1) = false := by simpa using c1
    have n1 : (a0_1 != a1_1) = true := by simpa using c1
    clear c1 h
    go_enter Tryd.func40, Tryd.ntmps40
    go_wp2
    go_ret
    exact ⟨rfl, by repeat (first | exact Below.refl _ _ | apply below_alloc | apply pw_below_drewN | apply below_drew1)⟩
  have b1 : (a0_1 == a1_1) = true := by simpa using c1
  have n1 : (a0_1 != a1_1) = false := by simpa using c1
  clear c1
  rcases if2 h with ⟨c2, h⟩ | ⟨c2, rfl⟩
  case inr =>
    have b2 : (a0_2 == a1_2) = false := by simpa using c2
    have n2 : (a0_2 != a1_2) = true := by simpa using c2
    clear c2 h
    go_enter Tryd.func40, Tryd.ntmps40
    go_wp2
    go_ret
    exact ⟨rfl, by repeat (first | exact Below.refl _ _ | apply below_alloc | apply pw_below_drewN | apply below_drew1)⟩
  have b2 : (a0_2 == a1_2) = true := by simpa using c2
  have n2 : (a0_2 != a1_2) = false := by simpa using c2
  clear c2
  rcases if2 h with ⟨c3, h⟩ | ⟨c3, rfl⟩
  case inr =>
    have b3 : (a0_3 == a1_3) = false := by simpa using c3
    have n3 : (a0_3 != a1_3) = true := by simpa using c3
    clear c3 h
    go_enter Tryd.func40, Tryd.ntmps40
    go_wp2
    go_ret
    exact ⟨rfl, by repeat (first | exact Below.refl _ _ | apply below_alloc | apply pw_below_drewN | apply below_drew1)⟩
  have b3 : (a0_3 == a1_3) = true := by simpa using c3
  have n3 : (a0_3 != a1_3) = false := by simpa using c3
  clear c3
  rcases if2 h with ⟨c4, h⟩ | ⟨c4, rfl⟩
  case inr =>
    have b4 : (a0_4 == a1_4) = false := by simpa using c4
    have n4 : (a0_4 != a1_4) = true := by simpa using c4
    clear c4 h
    go_enter Tryd.func40, Tryd.ntmps40
    go_wp2
    go_ret
    exact ⟨rfl, by repeat (first | exact Below.refl _ _ | apply below_alloc | apply pw_below_drewN | apply below_drew1)⟩
  have b4 : (a0_4 == a1_4) = true := by simpa using c4
  have n4 : (a0_4 != a1_4) = false := by simpa using c4
  clear c4
  rcases if2 h with ⟨c5, h⟩ | ⟨c5, rfl⟩
  case inr =>
    have b5 : (a0_5 == a1_5) = false := by simpa using c5
    have n5 : (a0_5 != a1_5) = true := by simpa using c5
    clear c5 h
    go_enter Tryd.func40, Tryd.ntmps40
    go_wp2
    go_ret
    exact ⟨rfl, by repeat (first | exact Below.refl _ _ | apply below_alloc | apply pw_below_drewN | apply below_drew1)⟩
  have b5 : (a0_5 == a1_5) = true := by simpa using c5
  have n5 : (a0_5 != a1_5) = false := by simpa using c5
  clear c5
  obtain rfl := Option.some.inj h
  clear h
  go_enter Tryd.func40, Tryd.ntmps40
  go_wp2
  go_ret
  exact ⟨rfl, by repeat (first | exact Below.refl _ _ | apply below_alloc | apply pw_below_drewN | apply below_drew1)⟩

end Go.Proofs.YtabgkdejpkpejaaDoor.PFnExactReadPipe
