-- Printed by a program of this session (wip/hprint.sh: the kit's print with hand-proved contracts put in); not by print.sh itself.
import Derived.Test.YtabgkdejpkpejaaGreatDoorProg
import Derived.Below
import Derived.Deep.Draws
import Derived.Deep.AppendLies
import Derived.Maps.AppendAt
import Derived.OwnWalk
import Derived.Laws.BytesArg
import Derived.Laws.MakeOwn
import Derived.Laws.OwnMore
import Derived.Deep.OwnRows
import Derived.Tactics
import Derived.Lib.ConvBytes
import Derived.Laws.Slices
import Derived.WalkKit
import Derived.KernelRfl
import Derived.RowKit3
import Derived.Deep.LoopGhost
import Derived.Deep.QuietTactic
import Derived.BigQuiet
import Derived.WideLaws
import Derived.Deep.DeepCutAuto
import Derived.Deep.CutBlock
import Derived.Deep.RegionHeld3
import Derived.Laws.Rows
import Derived.Lib.AppendStr
import Derived.ArgAppend
import Derived.Laws.IdiomCopy
import Derived.OrdersHeld
import Derived.Laws.BitsLemmas
import Derived.RowKit
import Derived.OpenShut
import Derived.Calls
import Derived.Shelf.Abstract
import Derived.WalkSpells
import Derived.WalkLawsBesides
import Derived.Lib.SliceRun
import Derived.Great.BuildSlice
import Derived.Deep.RegionLaw
import Derived.Shelf.RegionOpenPlain
import Derived.Test.YtabgkdejpkpejaaGreatDoorMath
import Derived.Test.YtabgkdejpkpejaaGreatDoorMathN
import Derived.Test.YtabgkdejpkpejaaGreatDoorMathP
import Derived.Test.YtabgkdejpkpejaaGreatDoorMathQ
import Derived.Test.YtabgkdejpkpejaaGreatDoorMathR
import Derived.Test.YtabgkdejpkpejaaGreatDoorMathT
import Derived.Test.YtabgkdejpkpejaaGreatDoorMathW
import Derived.Test.YtabgkdejpkpejaaGreatDoorWWords
import Derived.Test.YtabgkdejpkpejaaGreatDoorWLast
import Derived.Test.YtabgkdejpkpejaaGreatDoorWTab
import Derived.Test.YtabgkdejpkpejaaGreatDoorWFour
import Derived.Test.YtabgkdejpkpejaaGreatDoorWQPut
import Derived.Test.YtabgkdejpkpejaaGreatDoorWApart
import Derived.Test.YtabgkdejpkpejaaGreatDoorWArr
import Derived.Test.YtabgkdejpkpejaaGreatDoorWZeros
import Derived.Test.YtabgkdejpkpejaaGreatDoorWFoot
import Derived.Test.YtabgkdejpkpejaaGreatDoorWKept
import Derived.Test.YtabgkdejpkpejaaGreatDoorWShare
import Derived.Test.YtabgkdejpkpejaaGreatDoorWN
import Derived.Test.YtabgkdejpkpejaaGreatDoorWFootNe
import Derived.Test.YtabgkdejpkpejaaGreatDoorWAt
import Derived.Test.YtabgkdejpkpejaaGreatDoorWEqStruct
import Derived.Test.YtabgkdejpkpejaaGreatDoorWRepsOne
import Derived.Test.YtabgkdejpkpejaaGreatDoorWInv
import Derived.Test.YtabgkdejpkpejaaGreatDoorWInvWords
import Derived.Test.YtabgkdejpkpejaaGreatDoorWGuard
import Derived.Test.YtabgkdejpkpejaaGreatDoorWNEv
import Derived.Test.YtabgkdejpkpejaaGreatDoorWMore
namespace Go.Proofs.YtabgkdejpkpejaaGreatDoor.PFnExactReadNetwork
open Go.RowKit Go.Proofs.YtabgkdejpkpejaaGreatDoorW.PrintWords Go.Proofs.YtabgkdejpkpejaaGreatDoorW.PrintLast Go.Proofs.YtabgkdejpkpejaaGreatDoorW.PrintMore Go.Proofs.YtabgkdejpkpejaaGreatDoorM
attribute [local go_sem] max2_int min2_int max_two min_two max_three min_three max_four min_four   -- for this text's walks alone
set_option linter.unusedVariables false
set_option linter.unusedSimpArgs false
theorem pz_ {P : Program} {ops : Array Oper} {Q : Exit → Act → World → Prop} {md : Region.Mode} {S : World → Prop} {ds : List Nat} (i N : Nat) {oi : Oper} {fuel : Nat} {l : Array Bool} {a a' : Act} {w : World} (l' : Array Bool) {T : _} (HT : Aside0 (rtab md ops = T)) {v : Value}
 (h : wpAnyLast P md ops Q S ds fuel l' a' w) (hi : ops[i]? = some oi := by exact rfl) (hN : oi.dst = some N := by exact rfl) (hc : anyT T l.toList l'.toList i = true := by kernel_rfl)
 (hQ : ∀ c a w, Q (.panic c) (a.put oi.dst v) w → Q (.panic c) a w := by exact fun _ _ _ h => h) (hy : Yields P ops oi v a := by (refine Or.inl ⟨by rfl, ?_⟩; intro w'; go_simp; with_reducible rfl)) (ha : a.put (some N) v = a' := by (simp only [pU,pN,sB,sZ,sS,i64_w,i32_w]; rfl)) : wpAnyLast P md ops Q S ds (fuel + 1) l a w :=
 pure_ l' hi hN (any_of HT.out hc) hQ hy ha h
theorem pu_ {P : Program} {ops : Array Oper} {Q : Exit → Act → World → Prop} {md : Region.Mode} {S : World → Prop} {ds : List Nat} (i N : Nat) {oi : Oper} {fuel : Nat} {l : Array Bool} {a a' : Act} {w : World} (l' : Array Bool) {T : _} (HT : Aside0 (rtab md ops = T))
 (h : wpAnyLast P md ops Q S ds fuel l' a' w) (hi : ops[i]? = some oi := by exact rfl) (hN : oi.dst = some N := by exact rfl) (hc : anyT T l.toList l'.toList i = true := by kernel_rfl)
 (hQ : ∀ c a w, Q (.panic c) (a.put oi.dst undef) w → Q (.panic c) a w := by exact fun _ _ _ h => h) (hy : Yields P ops oi undef a := by exact (Or.inr ⟨by rfl, rfl⟩)) (ha : a.put (some N) undef = a' := by (simp only [pU,pN,sB,sZ,sS,i64_w,i32_w]; rfl)) : wpAnyLast P md ops Q S ds (fuel + 1) l a w :=
 pure_ l' hi hN (any_of HT.out hc) hQ hy ha h
theorem bc0_ (w : World) {g : Nat} {t : TypeId} {a0 : Value} {l : List Value} (h : w.heap[g]? = some (.cells (a0 :: l).toArray t (0, 0))) : w.cell? ⟨g, 0, none⟩ = some a0 := (blk_cell h 0).trans rfl
theorem bc1_ (w : World) {g : Nat} {t : TypeId} {a0 a1 : Value} {l : List Value} (h : w.heap[g]? = some (.cells (a0 :: a1 :: l).toArray t (0, 0))) : w.cell? ⟨g, 1, none⟩ = some a1 := (blk_cell h 1).trans rfl
theorem bc2_ (w : World) {g : Nat} {t : TypeId} {a0 a1 a2 : Value} {l : List Value} (h : w.heap[g]? = some (.cells (a0 :: a1 :: a2 :: l).toArray t (0, 0))) : w.cell? ⟨g, 2, none⟩ = some a2 := (blk_cell h 2).trans rfl
theorem bc3_ (w : World) {g : Nat} {t : TypeId} {a0 a1 a2 a3 : Value} {l : List Value} (h : w.heap[g]? = some (.cells (a0 :: a1 :: a2 :: a3 :: l).toArray t (0, 0))) : w.cell? ⟨g, 3, none⟩ = some a3 := (blk_cell h 3).trans rfl
theorem bc4_ (w : World) {g : Nat} {t : TypeId} {a0 a1 a2 a3 a4 : Value} {l : List Value} (h : w.heap[g]? = some (.cells (a0 :: a1 :: a2 :: a3 :: a4 :: l).toArray t (0, 0))) : w.cell? ⟨g, 4, none⟩ = some a4 := (blk_cell h 4).trans rfl
theorem bc5_ (w : World) {g : Nat} {t : TypeId} {a0 a1 a2 a3 a4 a5 : Value} {l : List Value} (h : w.heap[g]? = some (.cells (a0 :: a1 :: a2 :: a3 :: a4 :: a5 :: l).toArray t (0, 0))) : w.cell? ⟨g, 5, none⟩ = some a5 := (blk_cell h 5).trans rfl
theorem z0_ {p : Prop} (h : p := by (repeat (first | (with_reducible first | exact HB.out|apply wA|apply wN|apply wD) | exact HB.out))) : p := h
theorem z1_ {p : Prop} (h : p := by ((try simp only [List.map_toArray, List.map_cons, List.map_nil]); first | done | rfl | (simp only [List.length_drop, List.length_take]; rfl))) : p := h
theorem z2_ {p : Prop} (h : p := by (first | (with_reducible assumption) | assumption)) : p := h
theorem z3_ {p : Prop} (h : p := by (first | (with_reducible exact e0_) | exact e0_ | (rw [add_block]; exact e0_))) : p := h
theorem z4_ {p : Prop} (h : p := by (rw [hg]; exact (below_size (by repeat (first | (with_reducible first | exact HB.out|apply wA|apply wN|apply wD) | exact HB.out))))) : p := h
theorem z5_ {p : Prop} (h : p := by ((with_reducible repeat (first | refine bN ?_ _|refine bW ?_|refine bA ?_ _)); refine blk_put (cs := #[.string ((rd_T36 l0_1 x30_2).f0), .int .i64 ((rd_T36 l0_1 x30_2).f1), .int .i64 ((rd_T36 l0_1 x30_2).f2), .int .i64 ((rd_T36 l0_1 x30_2).f3), .int .i64 ((rd_T36 l0_1 x30_2).f4), .int .i64 0]) ?_ 5 _ rfl; (with_reducible repeat (first | refine bN ?_ _|refine bW ?_|refine bA ?_ _)); refine blk_put (cs := #[.string ((rd_T36 l0_1 x30_2).f0), .int .i64 ((rd_T36 l0_1 x30_2).f1), .int .i64 ((rd_T36 l0_1 x30_2).f2), .int .i64 ((rd_T36 l0_1 x30_2).f3), .int .i64 0, .int .i64 0]) ?_ 4 _ rfl; (with_reducible repeat (first | refine bN ?_ _|refine bW ?_|refine bA ?_ _)); refine blk_put (cs := #[.string ((rd_T36 l0_1 x30_2).f0), .int .i64 ((rd_T36 l0_1 x30_2).f1), .int .i64 ((rd_T36 l0_1 x30_2).f2), .int .i64 0, .int .i64 0, .int .i64 0]) ?_ 3 _ rfl; (with_reducible repeat (first | refine bN ?_ _|refine bW ?_|refine bA ?_ _)); refine blk_put (cs := #[.string ((rd_T36 l0_1 x30_2).f0), .int .i64 ((rd_T36 l0_1 x30_2).f1), .int .i64 0, .int .i64 0, .int .i64 0, .int .i64 0]) ?_ 2 _ rfl; (with_reducible repeat (first | refine bN ?_ _|refine bW ?_|refine bA ?_ _)); refine blk_put (cs := #[.string ((rd_T36 l0_1 x30_2).f0), .int .i64 0, .int .i64 0, .int .i64 0, .int .i64 0, .int .i64 0]) ?_ 1 _ rfl; (with_reducible repeat (first | refine bN ?_ _|refine bW ?_|refine bA ?_ _)); refine blk_put (cs := #[.string (⟨#[]⟩ : ByteArray), .int .i64 0, .int .i64 0, .int .i64 0, .int .i64 0, .int .i64 0]) ?_ 0 _ rfl; (with_reducible repeat (first | refine bN ?_ _|refine bW ?_|refine bA ?_ _)); exact BK259.out)) : p := h
theorem z6_ {p : Prop} (h : p := by (first | rfl | (simp [errW_none, errW_some] <;> rfl) | (simp [*, errW_none, errW_some] <;> rfl))) : p := h
theorem z7_ {p : Prop} (h : p := by (first | rfl | (simp; done) | (simp [*]; done))) : p := h
theorem z8_ {p : Prop} (h : p := by (repeat (first | exact Drawn0.refl _ | apply Drawn0.step))) : p := h
theorem z9_ {p : Prop} (h : p := by ((with_reducible repeat (first | refine bN ?_ _|refine bW ?_|refine bA ?_ _)); refine blk_put (cs := #[.string (⟨#[]⟩ : ByteArray), .int .i64 0, .int .i64 0, .int .i64 0, .int .i64 0, .int .i64 0]) ?_ 5 _ rfl; (with_reducible repeat (first | refine bN ?_ _|refine bW ?_|refine bA ?_ _)); refine blk_put (cs := #[.string (⟨#[]⟩ : ByteArray), .int .i64 0, .int .i64 0, .int .i64 0, .int .i64 0, .int .i64 0]) ?_ 4 _ rfl; (with_reducible repeat (first | refine bN ?_ _|refine bW ?_|refine bA ?_ _)); refine blk_put (cs := #[.string (⟨#[]⟩ : ByteArray), .int .i64 0, .int .i64 0, .int .i64 0, .int .i64 0, .int .i64 0]) ?_ 3 _ rfl; (with_reducible repeat (first | refine bN ?_ _|refine bW ?_|refine bA ?_ _)); refine blk_put (cs := #[.string (⟨#[]⟩ : ByteArray), .int .i64 0, .int .i64 0, .int .i64 0, .int .i64 0, .int .i64 0]) ?_ 2 _ rfl; (with_reducible repeat (first | refine bN ?_ _|refine bW ?_|refine bA ?_ _)); refine blk_put (cs := #[.string (⟨#[]⟩ : ByteArray), .int .i64 0, .int .i64 0, .int .i64 0, .int .i64 0, .int .i64 0]) ?_ 1 _ rfl; (with_reducible repeat (first | refine bN ?_ _|refine bW ?_|refine bA ?_ _)); refine blk_put (cs := #[.string (⟨#[]⟩ : ByteArray), .int .i64 0, .int .i64 0, .int .i64 0, .int .i64 0, .int .i64 0]) ?_ 0 _ rfl; (with_reducible repeat (first | refine bN ?_ _|refine bW ?_|refine bA ?_ _)); exact BK130.out)) : p := h
theorem z10_ {p : Prop} (h : p := by ((with_reducible repeat (first | refine bN ?_ _|refine bW ?_|refine bA ?_ _)); refine blk_far ?_ NB256_259.out _; (with_reducible repeat (first | refine bN ?_ _|refine bW ?_|refine bA ?_ _)); refine blk_far ?_ NB256_259.out _; (with_reducible repeat (first | refine bN ?_ _|refine bW ?_|refine bA ?_ _)); refine blk_far ?_ NB256_259.out _; (with_reducible repeat (first | refine bN ?_ _|refine bW ?_|refine bA ?_ _)); refine blk_far ?_ NB256_259.out _; (with_reducible repeat (first | refine bN ?_ _|refine bW ?_|refine bA ?_ _)); refine blk_far ?_ NB256_259.out _; (with_reducible repeat (first | refine bN ?_ _|refine bW ?_|refine bA ?_ _)); refine blk_far ?_ NB256_259.out _; (with_reducible repeat (first | refine bN ?_ _|refine bW ?_|refine bA ?_ _)); exact BK256.out)) : p := h
theorem z11_ {p : Prop} (h : p := by kernel_rfl) : p := h
theorem z12_ {p : Prop} (h : p := by ((with_reducible repeat (first | refine bN ?_ _|refine bW ?_|refine bA ?_ _)); exact BK256.out)) : p := h
theorem z13_ {p : Prop} (h : p := by (repeat (first | (with_reducible first | exact HB.out|apply wA|apply wN|apply wD |refine wS ?_ GE256.out) | exact HB.out))) : p := h
theorem z14_ {p : Prop} (h : p := by (first | exact Kd.R_nil _ _ _ _ _ | exact Kd.N_nil _ _ _ _ _ | exact Kd.V_nil _ _ _ _ _ | exact Kd.Q_nil _ _ _ _ _ | exact Kd.S_nil _ _ _ _ _)) : p := h
theorem z15_ {p : Prop} (h : p := by (repeat (first | (with_reducible first | exact HB.out|apply wA|apply wN|apply wD |refine wS ?_ GE256.out |refine wS ?_ GE259.out) | exact HB.out))) : p := h
theorem z16_ {p : Prop} (h : p := by (repeat (first | (with_reducible first | exact HB.out|apply wA|apply wN|apply wD |refine wS ?_ GE346.out |refine wS ?_ GE354.out) | exact HB.out))) : p := h
theorem z17_ {p : Prop} (h : p := by ((with_reducible repeat (first | refine bN ?_ _|refine bW ?_|refine bA ?_ _)); refine blk_put (cs := #[.string t167, .int .i64 t168, .int .i64 t169, .int .i64 t170, .int .i64 t171, .int .i64 0]) ?_ 5 _ rfl; (with_reducible repeat (first | refine bN ?_ _|refine bW ?_|refine bA ?_ _)); refine blk_put (cs := #[.string t167, .int .i64 t168, .int .i64 t169, .int .i64 t170, .int .i64 0, .int .i64 0]) ?_ 4 _ rfl; (with_reducible repeat (first | refine bN ?_ _|refine bW ?_|refine bA ?_ _)); refine blk_put (cs := #[.string t167, .int .i64 t168, .int .i64 t169, .int .i64 0, .int .i64 0, .int .i64 0]) ?_ 3 _ rfl; (with_reducible repeat (first | refine bN ?_ _|refine bW ?_|refine bA ?_ _)); refine blk_put (cs := #[.string t167, .int .i64 t168, .int .i64 0, .int .i64 0, .int .i64 0, .int .i64 0]) ?_ 2 _ rfl; (with_reducible repeat (first | refine bN ?_ _|refine bW ?_|refine bA ?_ _)); refine blk_put (cs := #[.string t167, .int .i64 0, .int .i64 0, .int .i64 0, .int .i64 0, .int .i64 0]) ?_ 1 _ rfl; (with_reducible repeat (first | refine bN ?_ _|refine bW ?_|refine bA ?_ _)); refine blk_put (cs := #[.string (⟨#[]⟩ : ByteArray), .int .i64 0, .int .i64 0, .int .i64 0, .int .i64 0, .int .i64 0]) ?_ 0 _ rfl; (with_reducible repeat (first | refine bN ?_ _|refine bW ?_|refine bA ?_ _)); exact BK174.out)) : p := h
theorem z18_ {p : Prop} (h : p := by ((with_reducible repeat (first | refine bN ?_ _|refine bW ?_|refine bA ?_ _)); refine blk_put (cs := #[.string t291, .int .i64 t292, .int .i64 t293, .int .i64 t294, .int .i64 t295, .int .i64 0]) ?_ 5 _ rfl; (with_reducible repeat (first | refine bN ?_ _|refine bW ?_|refine bA ?_ _)); refine blk_put (cs := #[.string t291, .int .i64 t292, .int .i64 t293, .int .i64 t294, .int .i64 0, .int .i64 0]) ?_ 4 _ rfl; (with_reducible repeat (first | refine bN ?_ _|refine bW ?_|refine bA ?_ _)); refine blk_put (cs := #[.string t291, .int .i64 t292, .int .i64 t293, .int .i64 0, .int .i64 0, .int .i64 0]) ?_ 3 _ rfl; (with_reducible repeat (first | refine bN ?_ _|refine bW ?_|refine bA ?_ _)); refine blk_put (cs := #[.string t291, .int .i64 t292, .int .i64 0, .int .i64 0, .int .i64 0, .int .i64 0]) ?_ 2 _ rfl; (with_reducible repeat (first | refine bN ?_ _|refine bW ?_|refine bA ?_ _)); refine blk_put (cs := #[.string t291, .int .i64 0, .int .i64 0, .int .i64 0, .int .i64 0, .int .i64 0]) ?_ 1 _ rfl; (with_reducible repeat (first | refine bN ?_ _|refine bW ?_|refine bA ?_ _)); refine blk_put (cs := #[.string (⟨#[]⟩ : ByteArray), .int .i64 0, .int .i64 0, .int .i64 0, .int .i64 0, .int .i64 0]) ?_ 0 _ rfl; (with_reducible repeat (first | refine bN ?_ _|refine bW ?_|refine bA ?_ _)); exact BK298.out)) : p := h
theorem z19_ {p : Prop} (h : p := by (repeat (first | (with_reducible first | exact HB.out|apply wA|apply wN|apply wD |refine wS ?_ GE276.out |refine wS ?_ GE285.out) | exact HB.out))) : p := h
theorem z20_ {p : Prop} (h : p := by (repeat (first | (with_reducible first | exact HB.out|apply wA|apply wN|apply wD |refine wS ?_ GE346.out |refine wS ?_ GE354.out |refine wS ?_ GE367.out) | exact HB.out))) : p := h
theorem z21_ {p : Prop} (h : p := by (repeat (first | (with_reducible first | exact HB.out|apply wA|apply wN|apply wD |refine wS ?_ GE130.out) | exact HB.out))) : p := h
theorem z22_ {p : Prop} (h : p := by (repeat (first | (with_reducible first | exact HB.out|apply wA|apply wN|apply wD |refine wS ?_ GE237.out) | exact HB.out))) : p := h
theorem z23_ {p : Prop} (h : p := by (repeat (first | (with_reducible first | exact HK.out | apply Kept.alloc | apply Kept.drewN | apply Kept.drew) | exact HK.out))) : p := h
theorem z24_ {p : Prop} (h : p := by (repeat (first | (with_reducible first | exact HB.out|apply wA|apply wN|apply wD |refine wS ?_ GE153.out |refine wS ?_ GE165.out) | exact HB.out))) : p := h
theorem z25_ {p : Prop} (h : p := by (refine blk_put (cs := #[.string (rdOf ByteArray.empty t131 0), .int .i64 (rd t135 0), .int .i64 (rd t135 1), .int .i64 (rd t135 2), .int .i64 (rd t135 3), .int .i64 0]) ?_ 5 _ rfl; refine blk_put (cs := #[.string (rdOf ByteArray.empty t131 0), .int .i64 (rd t135 0), .int .i64 (rd t135 1), .int .i64 (rd t135 2), .int .i64 0, .int .i64 0]) ?_ 4 _ rfl; refine blk_put (cs := #[.string (rdOf ByteArray.empty t131 0), .int .i64 (rd t135 0), .int .i64 (rd t135 1), .int .i64 0, .int .i64 0, .int .i64 0]) ?_ 3 _ rfl; refine blk_put (cs := #[.string (rdOf ByteArray.empty t131 0), .int .i64 (rd t135 0), .int .i64 0, .int .i64 0, .int .i64 0, .int .i64 0]) ?_ 2 _ rfl; refine blk_put (cs := #[.string (rdOf ByteArray.empty t131 0), .int .i64 0, .int .i64 0, .int .i64 0, .int .i64 0, .int .i64 0]) ?_ 1 _ rfl; refine blk_put (cs := #[.string (⟨#[]⟩ : ByteArray), .int .i64 0, .int .i64 0, .int .i64 0, .int .i64 0, .int .i64 0]) ?_ 0 _ rfl; exact BK145.out)) : p := h
theorem z26_ {p : Prop} (h : p := by ((with_reducible repeat (first | refine bN ?_ _|refine bW ?_|refine bA ?_ _)); exact BK153.out)) : p := h
theorem z27_ {p : Prop} (h : p := by (repeat (first | (with_reducible first | exact HB.out|apply wA|apply wN|apply wD |refine wS ?_ GE153.out) | exact HB.out))) : p := h
theorem z28_ {p : Prop} (h : p := by ((with_reducible repeat (first | refine bN ?_ _|refine bW ?_|refine bA ?_ _)); exact BK0.out)) : p := h
theorem z29_ {p : Prop} (h : p := by (refine blk_put (cs := #[.string t238, .int .i64 (rd t239 0), .int .i64 (rd t239 1), .int .i64 (rd t239 2), .int .i64 (rd t239 3), .int .i64 0]) ?_ 5 _ rfl; refine blk_put (cs := #[.string t238, .int .i64 (rd t239 0), .int .i64 (rd t239 1), .int .i64 (rd t239 2), .int .i64 0, .int .i64 0]) ?_ 4 _ rfl; refine blk_put (cs := #[.string t238, .int .i64 (rd t239 0), .int .i64 (rd t239 1), .int .i64 0, .int .i64 0, .int .i64 0]) ?_ 3 _ rfl; refine blk_put (cs := #[.string t238, .int .i64 (rd t239 0), .int .i64 0, .int .i64 0, .int .i64 0, .int .i64 0]) ?_ 2 _ rfl; refine blk_put (cs := #[.string t238, .int .i64 0, .int .i64 0, .int .i64 0, .int .i64 0, .int .i64 0]) ?_ 1 _ rfl; refine blk_put (cs := #[.string (⟨#[]⟩ : ByteArray), .int .i64 0, .int .i64 0, .int .i64 0, .int .i64 0, .int .i64 0]) ?_ 0 _ rfl; exact BK248.out)) : p := h
theorem z30_ {p : Prop} (h : p := by (repeat (first | (with_reducible first | exact HB.out|apply wA|apply wN|apply wD |refine wS ?_ GE263.out) | exact HB.out))) : p := h
theorem z31_ {p : Prop} (h : p := by (rw [hg]; exact (below_size (by repeat (first | (with_reducible first | exact HB.out|apply wA|apply wN|apply wD |refine wS ?_ GE256.out) | exact HB.out))))) : p := h
theorem z32_ {p : Prop} (h : p := by ((with_reducible repeat (first | refine bN ?_ _|refine bW ?_|refine bA ?_ _)); exact BK276.out)) : p := h
theorem z33_ {p : Prop} (h : p := by ((with_reducible repeat (first | refine bN ?_ _|refine bW ?_|refine bA ?_ _)); exact BK346.out)) : p := h
theorem z34_ {p : Prop} (h : p := by ((with_reducible repeat (first | refine bN ?_ _|refine bW ?_|refine bA ?_ _)); exact BK237.out)) : p := h
theorem z35_ {p : Prop} (h : p := by ((with_reducible repeat (first | apply rA|apply rN|apply rW)); exact HO_4.out)) : p := h
theorem z36_ {p : Prop} (h : p := by (repeat (first | (with_reducible first | exact HB.out|apply wA|apply wN|apply wD |refine wS ?_ GE237.out |refine wS ?_ GE248.out) | exact HB.out))) : p := h
theorem z37_ {p : Prop} (h : p := by (repeat (first | (with_reducible first | exact HB.out|apply wA|apply wN|apply wD |refine wS ?_ GE308.out |refine wS ?_ GE309.out) | exact HB.out))) : p := h
theorem z38_ {p : Prop} (h : p := by ((with_reducible repeat (first | apply rA|apply rN|apply rW)); exact (Kd.R_mono (Kd.R_far (p := ⟨gb367, 1, none⟩) (Kd.R_far (p := ⟨gb367, 0, none⟩) (Kd.R_types HO_347000.out BK367.out (by decide)) (fun _ hk => hk.2) (.slice Ao45 t360.length co45)) (fun _ hk => hk.2) (.slice Ao49 t363.length co49)) (fun _ h_ => h_.1)))) : p := h
theorem z39_ {p : Prop} (h : p := by ((with_reducible repeat (first | apply rA|apply rN|apply rW)); exact (Kd.R_mono (Kd.R_far (p := ⟨gb367, 1, none⟩) (Kd.R_far (p := ⟨gb367, 0, none⟩) (Kd.R_types HO_347001.out BK367.out (by decide)) (fun _ hk => hk.2) (.slice Ao45 t360.length co45)) (fun _ hk => hk.2) (.slice Ao49 t363.length co49)) (fun _ h_ => h_.1)))) : p := h
theorem z40_ {p : Prop} (h : p := by ((with_reducible repeat (first | apply rA|apply rN|apply rW)); exact (Kd.R_mono (Kd.R_far (p := ⟨gb354, 1, none⟩) (Kd.R_far (p := ⟨gb354, 0, none⟩) (Kd.R_types HO349.out BK354.out (by decide)) (fun _ hk => hk.2) (.slice Ao14 t347.length co14)) (fun _ hk => hk.2) (.slice Ao17 t350.length co17)) (fun _ h_ => h_.1)))) : p := h
theorem z41_ {p : Prop} (h : p := by ((with_reducible repeat (first | apply rA|apply rN|apply rW)); exact (Kd.R_mono (Kd.R_far (p := ⟨gb354, 1, none⟩) (Kd.R_far (p := ⟨gb354, 0, none⟩) (Kd.R_types HO352.out BK354.out (by decide)) (fun _ hk => hk.2) (.slice Ao14 t347.length co14)) (fun _ hk => hk.2) (.slice Ao17 t350.length co17)) (fun _ h_ => h_.1)))) : p := h
theorem z42_ {p : Prop} (h : p := by ((with_reducible repeat (first | apply rA|apply rN|apply rW)); exact (Kd.R_mono (Kd.R_far (p := ⟨gb354, 1, none⟩) (Kd.R_far (p := ⟨gb354, 0, none⟩) (Kd.R_types HO341.out BK354.out (by decide)) (fun _ hk => hk.2) (.slice Ao14 t347.length co14)) (fun _ hk => hk.2) (.slice Ao17 t350.length co17)) (fun _ h_ => h_.1)))) : p := h
theorem z43_ {p : Prop} (h : p := by ((with_reducible repeat (first | apply rA|apply rN|apply rW)); exact (Kd.R_mono (Kd.R_far (p := ⟨gb354, 1, none⟩) (Kd.R_far (p := ⟨gb354, 0, none⟩) (Kd.R_types HO344.out BK354.out (by decide)) (fun _ hk => hk.2) (.slice Ao14 t347.length co14)) (fun _ hk => hk.2) (.slice Ao17 t350.length co17)) (fun _ h_ => h_.1)))) : p := h
theorem z44_ {p : Prop} (h : p := by ((with_reducible repeat (first | apply rA|apply rN|apply rW)); exact (Kd.R_mono (Kd.R_far (p := ⟨gb367, 1, none⟩) (Kd.R_far (p := ⟨gb367, 0, none⟩) (Kd.R_types HO362.out BK367.out (by decide)) (fun _ hk => hk.2) (.slice Ao45 t360.length co45)) (fun _ hk => hk.2) (.slice Ao49 t363.length co49)) (fun _ h_ => h_.1)))) : p := h
theorem z45_ {p : Prop} (h : p := by ((with_reducible repeat (first | apply rA|apply rN|apply rW)); exact (Kd.R_mono (Kd.R_far (p := ⟨gb367, 1, none⟩) (Kd.R_far (p := ⟨gb367, 0, none⟩) (Kd.R_types HO365.out BK367.out (by decide)) (fun _ hk => hk.2) (.slice Ao45 t360.length co45)) (fun _ hk => hk.2) (.slice Ao49 t363.length co49)) (fun _ h_ => h_.1)))) : p := h
theorem z46_ {p : Prop} (h : p := by ((with_reducible repeat (first | refine bN ?_ _|refine bW ?_|refine bA ?_ _)); exact BK354.out)) : p := h
theorem z47_ {p : Prop} (h : p := by (rw [hg]; exact Nat.ne_of_lt (blk_lt (g := gb256) (o := .cells #[.slice A0_0 l0_0.length c0_0, .slice (some ad258) l0_1.length c0_1] 25 (0, 0)) (by (with_reducible repeat (first | refine bN ?_ _|refine bW ?_|refine bA ?_ _)); exact BK256.out)))) : p := h
theorem z48_ {p : Prop} (h : p := by (rw [hg]; exact Nat.ne_of_gt (blk_lt (g := gb256) (o := .cells #[.slice A0_0 l0_0.length c0_0, .slice (some ad258) l0_1.length c0_1] 25 (0, 0)) (by (with_reducible repeat (first | refine bN ?_ _|refine bW ?_|refine bA ?_ _)); exact BK256.out)))) : p := h
theorem z49_ {p : Prop} (h : p := by ((with_reducible repeat (first | apply rA|apply rN|apply rW)); exact (Kd.R_mono (Kd.R_far (p := ⟨gb174, 5, none⟩) (Kd.R_far (p := ⟨gb174, 4, none⟩) (Kd.R_far (p := ⟨gb174, 3, none⟩) (Kd.R_far (p := ⟨gb174, 2, none⟩) (Kd.R_far (p := ⟨gb174, 1, none⟩) (Kd.R_far (p := ⟨gb174, 0, none⟩) (Kd.R_mono HO_166001.out (fun k_ hk => (⟨hk, hk.2⟩ : _ ∧ k_ ≠ gb174))) (fun _ hk => hk.2) (.string t167)) (fun _ hk => hk.2) (.int .i64 t168)) (fun _ hk => hk.2) (.int .i64 t169)) (fun _ hk => hk.2) (.int .i64 t170)) (fun _ hk => hk.2) (.int .i64 t171)) (fun _ hk => hk.2) (.int .i64 t172)) (fun _ h_ => h_.1)))) : p := h
theorem z50_ {p : Prop} (h : p := by ((with_reducible repeat (first | apply rA|apply rN|apply rW)); exact (Kd.R_mono (Kd.R_far (p := ⟨gb298, 5, none⟩) (Kd.R_far (p := ⟨gb298, 4, none⟩) (Kd.R_far (p := ⟨gb298, 3, none⟩) (Kd.R_far (p := ⟨gb298, 2, none⟩) (Kd.R_far (p := ⟨gb298, 1, none⟩) (Kd.R_far (p := ⟨gb298, 0, none⟩) (Kd.R_mono HO_286001.out (fun k_ hk => (⟨hk, hk.2⟩ : _ ∧ k_ ≠ gb298))) (fun _ hk => hk.2) (.string t291)) (fun _ hk => hk.2) (.int .i64 t292)) (fun _ hk => hk.2) (.int .i64 t293)) (fun _ hk => hk.2) (.int .i64 t294)) (fun _ hk => hk.2) (.int .i64 t295)) (fun _ hk => hk.2) (.int .i64 t296)) (fun _ h_ => h_.1)))) : p := h
theorem z51_ {p : Prop} (h : p := by ((with_reducible repeat (first | refine bN ?_ _|refine bW ?_|refine bA ?_ _)); exact BK165.out)) : p := h
theorem z52_ {p : Prop} (h : p := by (repeat (first | (with_reducible first | exact HB.out|apply wA|apply wN|apply wD |refine wS ?_ GE308.out) | exact HB.out))) : p := h
theorem z53_ {p : Prop} (h : p := by ((with_reducible repeat (first | refine bN ?_ _|refine bW ?_|refine bA ?_ _)); exact BK130.out)) : p := h
theorem z54_ {p : Prop} (h : p := by ((with_reducible repeat (first | refine bN ?_ _|refine bW ?_|refine bA ?_ _)); exact BK263.out)) : p := h
theorem z55_ {p : Prop} (h : p := by ((with_reducible repeat (first | refine bN ?_ _|refine bW ?_|refine bA ?_ _)); exact BK285.out)) : p := h
theorem z56_ {p : Prop} (h : p := by ((with_reducible repeat (first | refine bN ?_ _|refine bW ?_|refine bA ?_ _)); exact BK308.out)) : p := h
theorem z57_ {p : Prop} (h : p := by (repeat (first | (with_reducible first | exact HB.out|apply wA|apply wN|apply wD |refine wS ?_ GE223.out) | exact HB.out))) : p := h
theorem z58_ {p : Prop} (h : p := by (rw [hg]; exact (below_size (by repeat (first | (with_reducible first | exact HB.out|apply wA|apply wN|apply wD |refine wS ?_ GE237.out) | exact HB.out))))) : p := h
theorem z59_ {p : Prop} (h : p := by (rw [hg]; exact (below_size (by repeat (first | (with_reducible first | exact HB.out|apply wA|apply wN|apply wD |refine wS ?_ GE308.out) | exact HB.out))))) : p := h
theorem z60_ {p : Prop} (h : p := by (repeat (first | (with_reducible first | exact HB.out|apply wA|apply wN|apply wD |refine wS ?_ GE263.out |refine wS ?_ GE270.out) | exact HB.out))) : p := h
theorem z61_ {p : Prop} (h : p := by (repeat (first | (with_reducible first | exact HB.out|apply wA|apply wN|apply wD |refine wS ?_ GE263.out |refine wS ?_ GE270.out |refine wS ?_ GE276.out |refine wS ?_ GE285.out |refine wS ?_ GE298.out) | exact HB.out))) : p := h
theorem z62_ {p : Prop} (h : p := by ((with_reducible repeat (first | apply rA|apply rN|apply rW)); exact HO_0.out)) : p := h
theorem z63_ {p : Prop} (h : p := by ((with_reducible repeat (first | refine bN ?_ _|refine bW ?_|refine bA ?_ _)); exact BK252.out)) : p := h
theorem z64_ {p : Prop} (h : p := by ((with_reducible repeat (first | refine bN ?_ _|refine bW ?_|refine bA ?_ _)); exact BK259.out)) : p := h
theorem z65_ {p : Prop} (h : p := by (repeat (first | (with_reducible first | exact HB.out|apply wA|apply wN|apply wD |refine wS ?_ GE231.out) | exact HB.out))) : p := h
theorem z66_ {p : Prop} (h : p := by (repeat (first | (with_reducible first | exact HB.out|apply wA|apply wN|apply wD |refine wS ?_ GE276.out) | exact HB.out))) : p := h
theorem z67_ {p : Prop} (h : p := by (repeat (first | (with_reducible first | exact HB.out|apply wA|apply wN|apply wD |refine wS ?_ GE336.out) | exact HB.out))) : p := h
theorem z68_ {p : Prop} (h : p := by (repeat (first | (with_reducible first | exact HB.out|apply wA|apply wN|apply wD |refine wS ?_ GE346.out) | exact HB.out))) : p := h
theorem z69_ {p : Prop} (h : p := by ((with_reducible repeat (first | refine bN ?_ _|refine bW ?_|refine bA ?_ _)); refine blk_put (cs := #[.slice Ao14 t347.length co14, .slice none 0 0]) ?_ 1 _ rfl; (with_reducible repeat (first | refine bN ?_ _|refine bW ?_|refine bA ?_ _)); refine blk_put (cs := #[.slice none 0 0, .slice none 0 0]) ?_ 0 _ rfl; (with_reducible repeat (first | refine bN ?_ _|refine bW ?_|refine bA ?_ _)); exact BK354.out)) : p := h
theorem z70_ {p : Prop} (h : p := by ((with_reducible repeat (first | refine bN ?_ _|refine bW ?_|refine bA ?_ _)); refine blk_put (cs := #[.slice Ao45 t360.length co45, .slice none 0 0]) ?_ 1 _ rfl; (with_reducible repeat (first | refine bN ?_ _|refine bW ?_|refine bA ?_ _)); refine blk_put (cs := #[.slice none 0 0, .slice none 0 0]) ?_ 0 _ rfl; (with_reducible repeat (first | refine bN ?_ _|refine bW ?_|refine bA ?_ _)); exact BK367.out)) : p := h
theorem z71_ {p : Prop} (h : p := by (rw [hg]; exact Nat.ne_of_lt (blk_lt (g := gb237) (o := .cells #[.string (⟨#[]⟩ : ByteArray), .int .i64 0, .int .i64 0, .int .i64 0, .int .i64 0, .int .i64 0] 36 (0, 0)) (by (with_reducible repeat (first | refine bN ?_ _|refine bW ?_|refine bA ?_ _)); exact BK237.out)))) : p := h
theorem z72_ {p : Prop} (h : p := by (rw [hg]; exact Nat.ne_of_gt (blk_lt (g := gb237) (o := .cells #[.string (⟨#[]⟩ : ByteArray), .int .i64 0, .int .i64 0, .int .i64 0, .int .i64 0, .int .i64 0] 36 (0, 0)) (by (with_reducible repeat (first | refine bN ?_ _|refine bW ?_|refine bA ?_ _)); exact BK237.out)))) : p := h
theorem z73_ {p : Prop} (h : p := by ((with_reducible repeat (first | refine bN ?_ _|refine bW ?_|refine bA ?_ _)); refine blk_put (cs := #[.slice none 0 0, .slice none 0 0]) ?_ 1 _ rfl; (with_reducible repeat (first | refine bN ?_ _|refine bW ?_|refine bA ?_ _)); refine blk_put (cs := #[.slice none 0 0, .slice none 0 0]) ?_ 0 _ rfl; (with_reducible repeat (first | refine bN ?_ _|refine bW ?_|refine bA ?_ _)); exact BK153.out)) : p := h
theorem z74_ {p : Prop} (h : p := by ((with_reducible repeat (first | refine bN ?_ _|refine bW ?_|refine bA ?_ _)); refine blk_put (cs := #[.slice none 0 0, .slice none 0 0]) ?_ 1 _ rfl; (with_reducible repeat (first | refine bN ?_ _|refine bW ?_|refine bA ?_ _)); refine blk_put (cs := #[.slice none 0 0, .slice none 0 0]) ?_ 0 _ rfl; (with_reducible repeat (first | refine bN ?_ _|refine bW ?_|refine bA ?_ _)); exact BK276.out)) : p := h
theorem z75_ {p : Prop} (h : p := by ((with_reducible repeat (first | apply rA|apply rN|apply rW)); exact HO_347000.out)) : p := h
theorem z76_ {p : Prop} (h : p := by ((with_reducible repeat (first | apply rA|apply rN|apply rW)); exact HO_347001.out)) : p := h
theorem z77_ {p : Prop} (h : p := by ((with_reducible repeat (first | apply rA|apply rN|apply rW)); exact HO_355000.out)) : p := h
theorem z78_ {p : Prop} (h : p := by ((with_reducible repeat (first | apply rA|apply rN|apply rW)); exact HO_355001.out)) : p := h
theorem z79_ {p : Prop} (h : p := by (repeat (first | (with_reducible first | exact HB.out|apply wA|apply wN|apply wD |refine wS ?_ GE252.out) | exact HB.out))) : p := h
theorem z80_ {p : Prop} (h : p := by (repeat (first | (with_reducible first | exact HB.out|apply wA|apply wN|apply wD |refine wS ?_ GE252.out |refine wS ?_ GE253.out) | exact HB.out))) : p := h
theorem z81_ {p : Prop} (h : p := by (repeat (first | exact Below.refl _ _ | apply below_alloc | apply pw_below_drewN | apply below_drew1))) : p := h
theorem z82_ {p : Prop} (h : p := by (rw [hg]; exact (below_size (by repeat (first | (with_reducible first | exact HB.out|apply wA|apply wN|apply wD |refine wS ?_ GE153.out |refine wS ?_ GE165.out) | exact HB.out))))) : p := h
theorem z83_ {p : Prop} (h : p := by (rw [hg]; exact (below_size (by repeat (first | (with_reducible first | exact HB.out|apply wA|apply wN|apply wD |refine wS ?_ GE276.out |refine wS ?_ GE285.out) | exact HB.out))))) : p := h
theorem z84_ {p : Prop} (h : p := by (rw [hg]; exact Nat.ne_of_lt (blk_lt (g := gb308) (o := .cells #[.slice A0_0 l0_0.length c0_0, .slice A0_1 l0_1.length c0_1] 25 (0, 0)) (by (with_reducible repeat (first | refine bN ?_ _|refine bW ?_|refine bA ?_ _)); exact BK308.out)))) : p := h
theorem z85_ {p : Prop} (h : p := by (rw [hg]; exact Nat.ne_of_gt (blk_lt (g := gb308) (o := .cells #[.slice A0_0 l0_0.length c0_0, .slice A0_1 l0_1.length c0_1] 25 (0, 0)) (by (with_reducible repeat (first | refine bN ?_ _|refine bW ?_|refine bA ?_ _)); exact BK308.out)))) : p := h
theorem z86_ {p : Prop} (h : p := by (repeat (first | (with_reducible first | exact HB.out|apply wA|apply wN|apply wD |refine wS ?_ GE153.out |refine wS ?_ GE165.out |refine wS ?_ GE174.out) | exact HB.out))) : p := h
theorem z87_ {p : Prop} (h : p := by (repeat (first | (with_reducible first | exact HB.out|apply wA|apply wN|apply wD |refine wS ?_ GE276.out |refine wS ?_ GE285.out |refine wS ?_ GE298.out) | exact HB.out))) : p := h
theorem z88_ {p : Prop} (h : p := by ((with_reducible repeat (first | refine bN ?_ _|refine bW ?_|refine bA ?_ _)); refine blk_far ?_ NB346_354.out _; (with_reducible repeat (first | refine bN ?_ _|refine bW ?_|refine bA ?_ _)); refine blk_far ?_ NB346_354.out _; (with_reducible repeat (first | refine bN ?_ _|refine bW ?_|refine bA ?_ _)); exact BK346.out)) : p := h
theorem z89_ {p : Prop} (h : p := by ((with_reducible repeat (first | refine bN ?_ _|refine bW ?_|refine bA ?_ _)); refine blk_far ?_ NB346_367.out _; (with_reducible repeat (first | refine bN ?_ _|refine bW ?_|refine bA ?_ _)); refine blk_far ?_ NB346_367.out _; (with_reducible repeat (first | refine bN ?_ _|refine bW ?_|refine bA ?_ _)); exact BK346.out)) : p := h
theorem z90_ {p : Prop} (h : p := by ((with_reducible repeat (first | refine bN ?_ _|refine bW ?_|refine bA ?_ _)); refine blk_far ?_ NB354_367.out _; (with_reducible repeat (first | refine bN ?_ _|refine bW ?_|refine bA ?_ _)); refine blk_far ?_ NB354_367.out _; (with_reducible repeat (first | refine bN ?_ _|refine bW ?_|refine bA ?_ _)); exact BK354.out)) : p := h
theorem z91_ {p : Prop} (h : p := by ((with_reducible repeat (first | apply rA|apply rN|apply rW)); exact (Kd.R_mono (Kd.R_far (p := ⟨gb367, 1, none⟩) (Kd.R_far (p := ⟨gb367, 0, none⟩) (Kd.R_types HO_355000.out BK367.out (by decide)) (fun _ hk => hk.2) (.slice Ao45 t360.length co45)) (fun _ hk => hk.2) (.slice Ao49 t363.length co49)) (fun _ h_ => h_.1)))) : p := h
theorem z92_ {p : Prop} (h : p := by ((with_reducible repeat (first | apply rA|apply rN|apply rW)); exact (Kd.R_mono (Kd.R_far (p := ⟨gb367, 1, none⟩) (Kd.R_far (p := ⟨gb367, 0, none⟩) (Kd.R_types HO_355001.out BK367.out (by decide)) (fun _ hk => hk.2) (.slice Ao45 t360.length co45)) (fun _ hk => hk.2) (.slice Ao49 t363.length co49)) (fun _ h_ => h_.1)))) : p := h
theorem z93_ {p : Prop} (h : p := by (rw [hg]; exact Nat.ne_of_lt (blk_lt (g := gb153) (o := .cells #[.slice none 0 0, .slice none 0 0] 25 (0, 0)) (by (with_reducible repeat (first | refine bN ?_ _|refine bW ?_|refine bA ?_ _)); exact BK153.out)))) : p := h
theorem z94_ {p : Prop} (h : p := by (rw [hg]; exact Nat.ne_of_gt (blk_lt (g := gb153) (o := .cells #[.slice none 0 0, .slice none 0 0] 25 (0, 0)) (by (with_reducible repeat (first | refine bN ?_ _|refine bW ?_|refine bA ?_ _)); exact BK153.out)))) : p := h
theorem z95_ {p : Prop} (h : p := by (rw [hg]; exact Nat.ne_of_lt (blk_lt (g := gb276) (o := .cells #[.slice none 0 0, .slice none 0 0] 25 (0, 0)) (by (with_reducible repeat (first | refine bN ?_ _|refine bW ?_|refine bA ?_ _)); exact BK276.out)))) : p := h
theorem z96_ {p : Prop} (h : p := by (rw [hg]; exact Nat.ne_of_gt (blk_lt (g := gb276) (o := .cells #[.slice none 0 0, .slice none 0 0] 25 (0, 0)) (by (with_reducible repeat (first | refine bN ?_ _|refine bW ?_|refine bA ?_ _)); exact BK276.out)))) : p := h
theorem z97_ {p : Prop} (h : p := by ((with_reducible repeat (first | apply rA|apply rN|apply rW)); exact HO_5.out)) : p := h
theorem z98_ {p : Prop} (h : p := by ((try simp only [hl355000_31]); (try simp only [hl355001_31]); (with_reducible repeat (first | refine bN ?_ _|refine bW ?_|refine bA ?_ _)); exact BK346.out)) : p := h
theorem z99_ {p : Prop} (h : p := by ((try simp only [hl355000_31]); (try simp only [hl355001_31]); (with_reducible repeat (first | refine bN ?_ _|refine bW ?_|refine bA ?_ _)); exact BK354.out)) : p := h
theorem z100_ {p : Prop} (h : p := by ((with_reducible repeat (first | apply rA|apply rN|apply rW)); exact (Kd.R_mono (Kd.R_far (p := ⟨gb346, 1, none⟩) (Kd.R_far (p := ⟨gb346, 0, none⟩) (Kd.R_types HO341.out BK346.out (by decide)) (fun _ hk => hk.2) (.slice Ao9 t339.length co9)) (fun _ hk => hk.2) (.slice Ao11 t342.length co11)) (fun _ h_ => h_.1)))) : p := h
theorem z101_ {p : Prop} (h : p := by ((with_reducible repeat (first | apply rA|apply rN|apply rW)); exact (Kd.R_mono (Kd.R_far (p := ⟨gb346, 1, none⟩) (Kd.R_far (p := ⟨gb346, 0, none⟩) (Kd.R_types HO344.out BK346.out (by decide)) (fun _ hk => hk.2) (.slice Ao9 t339.length co9)) (fun _ hk => hk.2) (.slice Ao11 t342.length co11)) (fun _ h_ => h_.1)))) : p := h
theorem z102_ {p : Prop} (h : p := by (rw [hg]; exact (below_size (by repeat (first | (with_reducible first | exact HB.out|apply wA|apply wN|apply wD |refine wS ?_ GE130.out) | exact HB.out))))) : p := h
theorem z103_ {p : Prop} (h : p := by (rw [hg]; exact (below_size (by repeat (first | (with_reducible first | exact HB.out|apply wA|apply wN|apply wD |refine wS ?_ GE252.out) | exact HB.out))))) : p := h
theorem z104_ {p : Prop} (h : p := by ((try simp only [hl355000_31]); (try simp only [hl355001_31]); (with_reducible repeat (first | apply rA|apply rN|apply rW)); exact HO_347000.out)) : p := h
theorem z105_ {p : Prop} (h : p := by ((try simp only [hl355000_31]); (try simp only [hl355001_31]); (with_reducible repeat (first | apply rA|apply rN|apply rW)); exact HO_347001.out)) : p := h
theorem z106_ {p : Prop} (h : p := by ((try simp only [hl355000_31]); (try simp only [hl355001_31]); (with_reducible repeat (first | apply rA|apply rN|apply rW)); exact HO_355000.out)) : p := h
theorem z107_ {p : Prop} (h : p := by ((try simp only [hl355000_31]); (try simp only [hl355001_31]); (with_reducible repeat (first | apply rA|apply rN|apply rW)); exact HO_355001.out)) : p := h
theorem z108_ {p : Prop} (h : p := by (rw [hg]; exact Nat.ne_of_lt (blk_lt (g := gb130) (o := .cells #[.string (⟨#[]⟩ : ByteArray), .int .i64 0, .int .i64 0, .int .i64 0, .int .i64 0, .int .i64 0] 36 (0, 0)) (by (with_reducible repeat (first | refine bN ?_ _|refine bW ?_|refine bA ?_ _)); exact BK130.out)))) : p := h
theorem z109_ {p : Prop} (h : p := by (rw [hg]; exact Nat.ne_of_gt (blk_lt (g := gb130) (o := .cells #[.string (⟨#[]⟩ : ByteArray), .int .i64 0, .int .i64 0, .int .i64 0, .int .i64 0, .int .i64 0] 36 (0, 0)) (by (with_reducible repeat (first | refine bN ?_ _|refine bW ?_|refine bA ?_ _)); exact BK130.out)))) : p := h
theorem z110_ {p : Prop} (h : p := by (repeat (first | (with_reducible first | exact HK.out | apply Kept.alloc | apply Kept.drewN | apply Kept.drew | refine Kept.setCell ?_ (.inr GW323.out) _) | exact HK.out))) : p := h
theorem z111_ {p : Prop} (h : p := by ((with_reducible repeat (first | apply rA|apply rN|apply rW)); exact HO_166000.out)) : p := h
theorem z112_ {p : Prop} (h : p := by ((with_reducible repeat (first | apply rA|apply rN|apply rW)); exact HO_166001.out)) : p := h
theorem z113_ {p : Prop} (h : p := by ((with_reducible repeat (first | apply rA|apply rN|apply rW)); exact HO_286000.out)) : p := h
theorem z114_ {p : Prop} (h : p := by ((with_reducible repeat (first | apply rA|apply rN|apply rW)); exact HO_286001.out)) : p := h
theorem z115_ {p : Prop} (h : p := by (repeat (first | (with_reducible first | exact HB.out|apply wA|apply wN|apply wD |refine wS ?_ GE179.out) | exact HB.out))) : p := h
theorem z116_ {p : Prop} (h : p := by ((with_reducible repeat (first | apply rA|apply rN|apply rW)); exact HO_12.out)) : p := h
theorem z117_ {p : Prop} (h : p := by (have := HK1.out; omega)) : p := h
theorem z118_ {p : Prop} (h : p := by ((with_reducible repeat (first | apply rA|apply rN|apply rW)); exact HO_3.out)) : p := h
theorem z119_ {p : Prop} (h : p := by (rw [hg]; exact Nat.ne_of_lt (blk_lt (g := gb252) (o := .cells #[.slice A0_0 l0_0.length c0_0, .slice A0_1 l0_1.length c0_1] 25 (0, 0)) (by (with_reducible repeat (first | refine bN ?_ _|refine bW ?_|refine bA ?_ _)); exact BK252.out)))) : p := h
theorem z120_ {p : Prop} (h : p := by (rw [hg]; exact Nat.ne_of_gt (blk_lt (g := gb252) (o := .cells #[.slice A0_0 l0_0.length c0_0, .slice A0_1 l0_1.length c0_1] 25 (0, 0)) (by (with_reducible repeat (first | refine bN ?_ _|refine bW ?_|refine bA ?_ _)); exact BK252.out)))) : p := h
theorem z121_ {p : Prop} (h : p := by ((try simp only [hl355000_31]); (try simp only [hl355001_31]); (with_reducible repeat (first | refine bN ?_ _|refine bW ?_|refine bA ?_ _)); exact BK367.out)) : p := h
theorem z122_ {p : Prop} (h : p := by (rw [hg]; exact Nat.ne_of_lt (blk_lt (g := gb346) (o := .cells #[.slice Ao9 t339.length co9, .slice Ao11 t342.length co11] 25 (0, 0)) (by (with_reducible repeat (first | refine bN ?_ _|refine bW ?_|refine bA ?_ _)); exact BK346.out)))) : p := h
theorem z123_ {p : Prop} (h : p := by (rw [hg]; exact Nat.ne_of_gt (blk_lt (g := gb346) (o := .cells #[.slice Ao9 t339.length co9, .slice Ao11 t342.length co11] 25 (0, 0)) (by (with_reducible repeat (first | refine bN ?_ _|refine bW ?_|refine bA ?_ _)); exact BK346.out)))) : p := h
theorem z124_ {p : Prop} (h : p := by (first | omega | exact Nat.le_refl _)) : p := h
theorem z125_ {p : Prop} (h : p := by (refine blk_far ?_ NB130_145.out _; refine blk_far ?_ NB130_145.out _; refine blk_far ?_ NB130_145.out _; refine blk_far ?_ NB130_145.out _; refine blk_far ?_ NB130_145.out _; refine blk_far ?_ NB130_145.out _; exact BK130.out)) : p := h
theorem z126_ {p : Prop} (h : p := by (refine blk_far ?_ NB237_248.out _; refine blk_far ?_ NB237_248.out _; refine blk_far ?_ NB237_248.out _; refine blk_far ?_ NB237_248.out _; refine blk_far ?_ NB237_248.out _; refine blk_far ?_ NB237_248.out _; exact BK237.out)) : p := h
theorem z127_ {p : Prop} (h : p := by (rw [hg]; exact Nat.ne_of_lt (blk_lt (g := gb165) (o := .cells #[.slice Ao13 t158.length co13, u166001] 25 (0, 0)) (by (with_reducible repeat (first | refine bN ?_ _|refine bW ?_|refine bA ?_ _)); exact BK165.out)))) : p := h
theorem z128_ {p : Prop} (h : p := by (rw [hg]; exact Nat.ne_of_gt (blk_lt (g := gb165) (o := .cells #[.slice Ao13 t158.length co13, u166001] 25 (0, 0)) (by (with_reducible repeat (first | refine bN ?_ _|refine bW ?_|refine bA ?_ _)); exact BK165.out)))) : p := h
theorem z129_ {p : Prop} (h : p := by (rw [hg]; exact Nat.ne_of_lt (blk_lt (g := gb285) (o := .cells #[.slice Ao10 t281.length co10, u286001] 25 (0, 0)) (by (with_reducible repeat (first | refine bN ?_ _|refine bW ?_|refine bA ?_ _)); exact BK285.out)))) : p := h
theorem z130_ {p : Prop} (h : p := by (rw [hg]; exact Nat.ne_of_gt (blk_lt (g := gb285) (o := .cells #[.slice Ao10 t281.length co10, u286001] 25 (0, 0)) (by (with_reducible repeat (first | refine bN ?_ _|refine bW ?_|refine bA ?_ _)); exact BK285.out)))) : p := h
theorem z131_ {p : Prop} (h : p := by ((with_reducible repeat (first | apply rA|apply rN|apply rW)); exact HO214.out)) : p := h
theorem z132_ {p : Prop} (h : p := by ((with_reducible repeat (first | apply rA|apply rN|apply rW)); exact HO279.out)) : p := h
theorem z133_ {p : Prop} (h : p := by (repeat (first | (with_reducible first | exact HB.out|apply wA|apply wN|apply wD |refine wS ?_ GE263.out |refine wS ?_ GE270.out |refine wS ?_ GE276.out |refine wS ?_ GE285.out) | exact HB.out))) : p := h
theorem z134_ {p : Prop} (h : p := by ((with_reducible repeat (first | refine bN ?_ _|refine bW ?_|refine bA ?_ _)); exact BK231.out)) : p := h
theorem z135_ {p : Prop} (h : p := by ((try simp only [hl355000_31]); (try simp only [hl355001_31]); (with_reducible repeat (first | apply rA|apply rN|apply rW)); exact Kd.R_mono HO362.out (fun _ hk => ⟨hk.1.2, hk.2⟩))) : p := h
theorem z136_ {p : Prop} (h : p := by ((try simp only [hl355000_31]); (try simp only [hl355001_31]); (with_reducible repeat (first | apply rA|apply rN|apply rW)); exact Kd.R_mono HO365.out (fun _ hk => ⟨hk.1.2, hk.2⟩))) : p := h
theorem z137_ {p : Prop} (h : p := by (have := HJ1.out; have := HJ5.out; first | omega | exact Nat.le_refl _)) : p := h
theorem z138_ {p : Prop} (h : p := by (rw [hg]; exact (below_size (by repeat (first | (with_reducible first | exact HB.out|apply wA|apply wN|apply wD |refine wS ?_ GE346.out |refine wS ?_ GE354.out) | exact HB.out))))) : p := h
theorem z139_ {p : Prop} (h : p := by (rw [← hq_]; exact (by repeat (first | (with_reducible first | exact HB.out|apply wA|apply wN|apply wD |refine wS ?_ GE153.out |refine wS ?_ GE165.out) | exact HB.out)))) : p := h
theorem z140_ {p : Prop} (h : p := by (repeat (first | exact Below.refl _ _ | apply pw_below_drewN | apply below_drew1))) : p := h
theorem z141_ {p : Prop} (h : p := by ((with_reducible repeat (first | apply rA|apply rN|apply rW)); exact HO156.out)) : p := h
theorem z142_ {p : Prop} (h : p := by (refine wS ?_ GE145.out; refine wS ?_ GE145.out; refine wS ?_ GE145.out; refine wS ?_ GE145.out; refine wS ?_ GE145.out; refine wS ?_ GE145.out; exact HB.out)) : p := h
theorem z143_ {p : Prop} (h : p := by (refine wS ?_ GE248.out; refine wS ?_ GE248.out; refine wS ?_ GE248.out; refine wS ?_ GE248.out; refine wS ?_ GE248.out; refine wS ?_ GE248.out; exact HB.out)) : p := h
theorem z144_ {p : Prop} (h : p := by (rw [hg]; exact (below_size (by repeat (first | (with_reducible first | exact HB.out|apply wA|apply wN|apply wD |refine wS ?_ GE153.out) | exact HB.out))))) : p := h
theorem z145_ {p : Prop} (h : p := by (rw [hg]; exact (below_size (by repeat (first | (with_reducible first | exact HB.out|apply wA|apply wN|apply wD |refine wS ?_ GE263.out) | exact HB.out))))) : p := h
theorem z146_ {p : Prop} (h : p := by (rw [hg]; exact (below_size (by repeat (first | (with_reducible first | exact HB.out|apply wA|apply wN|apply wD |refine wS ?_ GE276.out) | exact HB.out))))) : p := h
theorem z147_ {p : Prop} (h : p := by (rw [hg]; exact (below_size (by repeat (first | (with_reducible first | exact HB.out|apply wA|apply wN|apply wD |refine wS ?_ GE346.out) | exact HB.out))))) : p := h
theorem z148_ {p : Prop} (h : p := by (repeat (first | (with_reducible first | exact HB.out|apply wA|apply wN|apply wD |refine wS ?_ GE130.out |refine wS ?_ GE145.out) | exact HB.out))) : p := h
theorem z149_ {p : Prop} (h : p := by ((with_reducible repeat (first | refine bN ?_ _|refine bW ?_|refine bA ?_ _)); exact BK253.out)) : p := h
theorem z150_ {p : Prop} (h : p := by ((with_reducible repeat (first | refine bN ?_ _|refine bW ?_|refine bA ?_ _)); exact BK367.out)) : p := h
theorem z151_ {p : Prop} (h : p := by (rw [hw]; exact below_set (HB.out) GB6.out)) : p := h
theorem z152_ {p : Prop} (h : p := by (have := HJ1.out; have := HJ5.out; have := HJ27.out; have := HJ31.out; have := HJ38.out; first | omega | exact Nat.le_refl _)) : p := h
theorem z153_ {p : Prop} (h : p := by ((with_reducible repeat (first | apply rA|apply rN|apply rW)); exact HO_368000.out)) : p := h
theorem z154_ {p : Prop} (h : p := by ((with_reducible repeat (first | apply rA|apply rN|apply rW)); exact HO_368001.out)) : p := h
theorem z155_ {p : Prop} (h : p := by ((with_reducible repeat (first | apply rA|apply rN|apply rW)); exact HO133.out)) : p := h
theorem z156_ {p : Prop} (h : p := by ((with_reducible repeat (first | apply rA|apply rN|apply rW)); exact HO242.out)) : p := h
theorem z157_ {p : Prop} (h : p := by (rw [← hq_]; exact (by (with_reducible repeat (first | refine bN ?_ _|refine bW ?_|refine bA ?_ _)); exact BK153.out))) : p := h
theorem z158_ {p : Prop} (h : p := by (rw [← hq_]; exact (by (with_reducible repeat (first | refine bN ?_ _|refine bW ?_|refine bA ?_ _)); exact BK165.out))) : p := h
theorem z159_ {p : Prop} (h : p := by (first | rfl | simp)) : p := h
theorem z160_ {p : Prop} (h : p := by (have := HJ1.out; first | omega | exact Nat.le_refl _)) : p := h
theorem z161_ {p : Prop} (h : p := by ((with_reducible repeat (first | apply rA|apply rN|apply rW)); exact Kd.R_mono HO341.out (fun _ hk => hk.2))) : p := h
theorem z162_ {p : Prop} (h : p := by ((with_reducible repeat (first | apply rA|apply rN|apply rW)); exact Kd.R_mono HO344.out (fun _ hk => hk.2))) : p := h
theorem z163_ {p : Prop} (h : p := by ((with_reducible repeat (first | apply rA|apply rN|apply rW)); exact Kd.R_mono HO349.out (fun _ hk => hk.2))) : p := h
theorem z164_ {p : Prop} (h : p := by ((with_reducible repeat (first | apply rA|apply rN|apply rW)); exact Kd.R_mono HO352.out (fun _ hk => hk.2))) : p := h
theorem z165_ {p : Prop} (h : p := by exact BK145.out) : p := h
theorem z166_ {p : Prop} (h : p := by (rw [← hq_]; exact (by (with_reducible repeat (first | apply rA|apply rN|apply rW)); exact HO_166000.out))) : p := h
theorem z167_ {p : Prop} (h : p := by (rw [← hq_]; exact (by (with_reducible repeat (first | apply rA|apply rN|apply rW)); exact HO_166001.out))) : p := h
theorem z168_ {p : Prop} (h : p := by (have hq := hc 0 _ rfl; rwa [Nat.mul_one, Nat.add_zero] at hq)) : p := h
theorem z169_ {p : Prop} (h : p := by (have := HJ1.out; have := HK2.out; omega)) : p := h



def errW : Option Int → Value
  | none => .nilIface
  | some c => .iface 0 (.int .i64 c)
theorem errW_none : errW none = .nilIface := rfl
theorem errW_some (c : Int) : errW (some c) = .iface 0 (.int .i64 c) := rfl

theorem info2 : (Tryz.prog.info? 2).map (fun i => (i.zero, i.size, i.bytes)) = some (some (.int .i64 0), 1, 8) := by kernel_rfl
theorem info5 : (Tryz.prog.info? 5).map (fun i => (i.zero, i.size, i.bytes)) = some (some (.int .u8 0), 1, 1) := by kernel_rfl
theorem info9 : (Tryz.prog.info? 9).map (fun i => (i.zero, i.size, i.bytes)) = some (some (.string ⟨#[]⟩), 1, 16) := by kernel_rfl
theorem info36 : (Tryz.prog.info? 36).map (fun i => (i.zero, i.size, i.bytes)) = some (some (.agg #[(.string ⟨#[]⟩), (.int .i64 0), (.int .i64 0), (.int .i64 0), (.int .i64 0), (.int .i64 0)]), 6, 56) := by kernel_rfl
-- the values' own types
def rd_L3 (xs : List (List Int)) (i : Int) : (List Int) := xs.getD i.toNat ([] : List Int)
theorem at_L3 {w : World} {A : Option Addr} {n : Nat} {xs : List (List Int)} (h : Kd.C (Kd.slice 2 (Kd.int .i64)) w A n xs) (i : Int) (h0 : 0 ≤ i) (h1 : i < n) : ∃ ad A0 c0, A = some ad ∧ w.cell? (ad.add i.toNat) = some (.slice A0 (rd_L3 xs i).length c0) ∧ (rd_L3 xs i).length ≤ c0 ∧ (Kd.int .i64).C w A0 (rd_L3 xs i).length (rd_L3 xs i) := by
  obtain ⟨ad, c, e, _, hK, hc0⟩ := Kd.C_get h ([] : List Int) i h0 h1
  have hc : ∀ j u, c[j]? = some u → w.cell? (ad.add (i.toNat * 1 + j)) = some u := hc0
  obtain ⟨A0, c0, rfl, l0, g0⟩ := hK
  exact ⟨ad, A0, c0, e, z168_, l0, g0⟩

/-! #### struct type 36 -/
structure S36 where
  f0 : ByteArray
  f1 : Int
  f2 : Int
  f3 : Int
  f4 : Int
  f5 : Int
def z36 : S36 := ⟨(⟨#[]⟩ : ByteArray), (0 : Int), (0 : Int), (0 : Int), (0 : Int), (0 : Int)⟩
def k36 : Kd S36 := Kd.iso (Kd.pair Kd.string (Kd.pair (Kd.int .i64) (Kd.pair (Kd.int .i64) (Kd.pair (Kd.int .i64) (Kd.pair (Kd.int .i64) (Kd.int .i64)))))) (fun x : S36 => (x.f0, x.f1, x.f2, x.f3, x.f4, x.f5))
theorem k36_open {w : World} {x : S36} {cs : List Value} (h : k36.K w x cs) : cs = [.string x.f0, .int .i64 x.f1, .int .i64 x.f2, .int .i64 x.f3, .int .i64 x.f4, .int .i64 x.f5] := by
  obtain ⟨_, _, rfl, rfl, ⟨_, _, rfl, rfl, ⟨_, _, rfl, rfl, ⟨_, _, rfl, rfl, ⟨_, _, rfl, rfl, rfl⟩⟩⟩⟩⟩ := h
  exact rfl
theorem k36_openM {w : World} {base : Nat} {ok : Nat → Prop} {x : S36} {cs : List Value} (h : k36.M w base ok x cs) : cs = [.string x.f0, .int .i64 x.f1, .int .i64 x.f2, .int .i64 x.f3, .int .i64 x.f4, .int .i64 x.f5] := by
  obtain ⟨_, _, rfl, rfl, ⟨_, _, rfl, rfl, ⟨_, _, rfl, rfl, ⟨_, _, rfl, rfl, ⟨_, _, rfl, rfl, rfl⟩⟩⟩⟩⟩ := h
  exact rfl
theorem k36_mk (w : World) (x : S36)  : k36.K w x [.string x.f0, .int .i64 x.f1, .int .i64 x.f2, .int .i64 x.f3, .int .i64 x.f4, .int .i64 x.f5] := ⟨[.string x.f0], [.int .i64 x.f1, .int .i64 x.f2, .int .i64 x.f3, .int .i64 x.f4, .int .i64 x.f5], rfl, rfl, ⟨[.int .i64 x.f1], [.int .i64 x.f2, .int .i64 x.f3, .int .i64 x.f4, .int .i64 x.f5], rfl, rfl, ⟨[.int .i64 x.f2], [.int .i64 x.f3, .int .i64 x.f4, .int .i64 x.f5], rfl, rfl, ⟨[.int .i64 x.f3], [.int .i64 x.f4, .int .i64 x.f5], rfl, rfl, ⟨[.int .i64 x.f4], [.int .i64 x.f5], rfl, rfl, rfl⟩⟩⟩⟩⟩
theorem k36_mkM (w : World) (base : Nat) (ok : Nat → Prop) (x : S36)  : k36.M w base ok x [.string x.f0, .int .i64 x.f1, .int .i64 x.f2, .int .i64 x.f3, .int .i64 x.f4, .int .i64 x.f5] := ⟨[.string x.f0], [.int .i64 x.f1, .int .i64 x.f2, .int .i64 x.f3, .int .i64 x.f4, .int .i64 x.f5], rfl, rfl, ⟨[.int .i64 x.f1], [.int .i64 x.f2, .int .i64 x.f3, .int .i64 x.f4, .int .i64 x.f5], rfl, rfl, ⟨[.int .i64 x.f2], [.int .i64 x.f3, .int .i64 x.f4, .int .i64 x.f5], rfl, rfl, ⟨[.int .i64 x.f3], [.int .i64 x.f4, .int .i64 x.f5], rfl, rfl, ⟨[.int .i64 x.f4], [.int .i64 x.f5], rfl, rfl, rfl⟩⟩⟩⟩⟩
def rd_T36 (xs : List S36) (i : Int) : S36 := xs.getD i.toNat z36
theorem at_T36 {w : World} {A : Option Addr} {n : Nat} {xs : List S36} (h : Kd.C k36 w A n xs) (i : Int) (h0 : 0 ≤ i) (h1 : i < n) : ∃ ad , A = some ad ∧ w.cell? (ad.add (i.toNat * 6)) = some (.string (rd_T36 xs i).f0) ∧ w.cell? ⟨(ad.add (i.toNat * 6)).block, (ad.add (i.toNat * 6)).off + 1, none⟩ = some (.int .i64 (rd_T36 xs i).f1) ∧ w.cell? ⟨(ad.add (i.toNat * 6)).block, (ad.add (i.toNat * 6)).off + 2, none⟩ = some (.int .i64 (rd_T36 xs i).f2) ∧ w.cell? ⟨(ad.add (i.toNat * 6)).block, (ad.add (i.toNat * 6)).off + 3, none⟩ = some (.int .i64 (rd_T36 xs i).f3) ∧ w.cell? ⟨(ad.add (i.toNat * 6)).block, (ad.add (i.toNat * 6)).off + 4, none⟩ = some (.int .i64 (rd_T36 xs i).f4) ∧ w.cell? ⟨(ad.add (i.toNat * 6)).block, (ad.add (i.toNat * 6)).off + 5, none⟩ = some (.int .i64 (rd_T36 xs i).f5) := by
  obtain ⟨ad, c, e, _, hK, hc0⟩ := Kd.C_get h z36 i h0 h1
  have hc : ∀ j u, c[j]? = some u → w.cell? (ad.add (i.toNat * 6 + j)) = some u := hc0
  obtain rfl := k36_open hK
  exact ⟨ad, e, hc 0 _ rfl, by rw [← add_field _ _ 1 (by omega)]; exact hc 1 _ rfl, by rw [← add_field _ _ 2 (by omega)]; exact hc 2 _ rfl, by rw [← add_field _ _ 3 (by omega)]; exact hc 3 _ rfl, by rw [← add_field _ _ 4 (by omega)]; exact hc 4 _ rfl, by rw [← add_field _ _ 5 (by omega)]; exact hc 5 _ rfl⟩

def rd_L5 (xs : List (List S36)) (i : Int) : (List S36) := xs.getD i.toNat ([] : List S36)
theorem at_L5 {w : World} {A : Option Addr} {n : Nat} {xs : List (List S36)} (h : Kd.C (Kd.slice 36 k36) w A n xs) (i : Int) (h0 : 0 ≤ i) (h1 : i < n) : ∃ ad A0 c0, A = some ad ∧ w.cell? (ad.add i.toNat) = some (.slice A0 (rd_L5 xs i).length c0) ∧ (rd_L5 xs i).length ≤ c0 ∧ k36.C w A0 (rd_L5 xs i).length (rd_L5 xs i) := by
  obtain ⟨ad, c, e, _, hK, hc0⟩ := Kd.C_get h ([] : List S36) i h0 h1
  have hc : ∀ j u, c[j]? = some u → w.cell? (ad.add (i.toNat * 1 + j)) = some u := hc0
  obtain ⟨A0, c0, rfl, l0, g0⟩ := hK
  exact ⟨ad, A0, c0, e, z168_, l0, g0⟩

def rd_L6 (xs : List (List ByteArray)) (i : Int) : (List ByteArray) := xs.getD i.toNat ([] : List ByteArray)
theorem at_L6 {w : World} {A : Option Addr} {n : Nat} {xs : List (List ByteArray)} (h : Kd.C (Kd.slice 9 Kd.string) w A n xs) (i : Int) (h0 : 0 ≤ i) (h1 : i < n) : ∃ ad A0 c0, A = some ad ∧ w.cell? (ad.add i.toNat) = some (.slice A0 (rd_L6 xs i).length c0) ∧ (rd_L6 xs i).length ≤ c0 ∧ Kd.string.C w A0 (rd_L6 xs i).length (rd_L6 xs i) := by
  obtain ⟨ad, c, e, _, hK, hc0⟩ := Kd.C_get h ([] : List ByteArray) i h0 h1
  have hc : ∀ j u, c[j]? = some u → w.cell? (ad.add (i.toNat * 1 + j)) = some u := hc0
  obtain ⟨A0, c0, rfl, l0, g0⟩ := hK
  exact ⟨ad, A0, c0, e, z168_, l0, g0⟩

end Go.Proofs.YtabgkdejpkpejaaGreatDoor.PFnExactReadNetwork
