-- Printed by a program of this session (wip/hprint.sh: the kit's print with hand-proved contracts put in); not by print.sh itself.
import Derived.Test.YtcnbceiiimmgaaaProg
import Derived.Below
import Derived.Deep.Draws
import Derived.Deep.AppendLies
import Derived.Maps.AppendAt
import Derived.OwnWalk
import Derived.Laws.BytesArg
import Derived.Laws.MakeOwn
import Derived.Laws.OwnMore
import Derived.Deep.OwnRows
import Derived.Tactics
import Derived.Lib.ConvBytes
import Derived.Laws.Slices
import Derived.WalkKit
import Derived.KernelRfl
import Derived.RowKit3
import Derived.Deep.LoopGhost
import Derived.Deep.QuietTactic
import Derived.BigQuiet
import Derived.WideLaws
import Derived.Deep.DeepCutAuto
import Derived.Deep.CutBlock
import Derived.Deep.RegionHeld3
import Derived.Laws.Rows
import Derived.Lib.AppendStr
import Derived.ArgAppend
import Derived.Laws.IdiomCopy
import Derived.OrdersHeld
import Derived.Laws.BitsLemmas
import Derived.RowKit
import Derived.OpenShut
import Derived.Calls
import Derived.Shelf.Abstract
import Derived.WalkSpells
import Derived.WalkLawsBesides
import Derived.Lib.SliceRun
import Derived.Great.BuildSlice
import Derived.Deep.RegionLaw
import Derived.Shelf.RegionOpenPlain
import Derived.Test.YtcnbceiiimmgaaaMath
import Derived.Test.YtcnbceiiimmgaaaMathN
import Derived.Test.YtcnbceiiimmgaaaMathP
import Derived.Test.YtcnbceiiimmgaaaMathQ
import Derived.Test.YtcnbceiiimmgaaaMathR
import Derived.Shelf.Spec.SlicesInsertGrow
import Derived.Test.YtcnbceiiimmgaaaWWords
import Derived.Test.YtcnbceiiimmgaaaWLast
import Derived.Test.YtcnbceiiimmgaaaWTab
import Derived.Test.YtcnbceiiimmgaaaWFour
import Derived.Test.YtcnbceiiimmgaaaWQPut
import Derived.Test.YtcnbceiiimmgaaaWApart
import Derived.Test.YtcnbceiiimmgaaaWArr
import Derived.Test.YtcnbceiiimmgaaaWZeros
import Derived.Test.YtcnbceiiimmgaaaWFoot
import Derived.Test.YtcnbceiiimmgaaaWKept
import Derived.Test.YtcnbceiiimmgaaaWShare
import Derived.Test.YtcnbceiiimmgaaaWN
import Derived.Test.YtcnbceiiimmgaaaWFootNe
import Derived.Test.YtcnbceiiimmgaaaWAt
import Derived.Test.YtcnbceiiimmgaaaWEqStruct
import Derived.Test.YtcnbceiiimmgaaaWRepsOne
import Derived.Test.YtcnbceiiimmgaaaWInv
import Derived.Test.YtcnbceiiimmgaaaWInvWords
import Derived.Test.YtcnbceiiimmgaaaWGuard
import Derived.Test.YtcnbceiiimmgaaaWNEv
import Derived.Test.YtcnbceiiimmgaaaWMore
namespace Go.Proofs.Ytcnbceiiimmgaaa.PFnExactAddPipe
open Go.RowKit Go.Proofs.YtcnbceiiimmgaaaW.PrintWords Go.Proofs.YtcnbceiiimmgaaaW.PrintLast Go.Proofs.YtcnbceiiimmgaaaW.PrintMore Go.Proofs.YtcnbceiiimmgaaaM
attribute [local go_sem] max2_int min2_int max_two min_two max_three min_three max_four min_four   -- for this text's walks alone
set_option linter.unusedVariables false
set_option linter.unusedSimpArgs false
theorem pz_ {P : Program} {ops : Array Oper} {Q : Exit → Act → World → Prop} {md : Region.Mode} {S : World → Prop} {ds : List Nat} (i N : Nat) {oi : Oper} {fuel : Nat} {l : Array Bool} {a a' : Act} {w : World} (l' : Array Bool) {T : _} (HT : Aside0 (rtab md ops = T)) {v : Value}
 (h : wpAnyLast P md ops Q S ds fuel l' a' w) (hi : ops[i]? = some oi := by exact rfl) (hN : oi.dst = some N := by exact rfl) (hc : anyT T l.toList l'.toList i = true := by kernel_rfl)
 (hQ : ∀ c a w, Q (.panic c) (a.put oi.dst v) w → Q (.panic c) a w := by exact fun _ _ _ h => h) (hy : Yields P ops oi v a := by (refine Or.inl ⟨by rfl, ?_⟩; intro w'; go_simp; with_reducible rfl)) (ha : a.put (some N) v = a' := by (simp only [pU,pN,sB,sZ,sS,i64_w,i32_w]; rfl)) : wpAnyLast P md ops Q S ds (fuel + 1) l a w :=
 pure_ l' hi hN (any_of HT.out hc) hQ hy ha h
theorem pu_ {P : Program} {ops : Array Oper} {Q : Exit → Act → World → Prop} {md : Region.Mode} {S : World → Prop} {ds : List Nat} (i N : Nat) {oi : Oper} {fuel : Nat} {l : Array Bool} {a a' : Act} {w : World} (l' : Array Bool) {T : _} (HT : Aside0 (rtab md ops = T))
 (h : wpAnyLast P md ops Q S ds fuel l' a' w) (hi : ops[i]? = some oi := by exact rfl) (hN : oi.dst = some N := by exact rfl) (hc : anyT T l.toList l'.toList i = true := by kernel_rfl)
 (hQ : ∀ c a w, Q (.panic c) (a.put oi.dst undef) w → Q (.panic c) a w := by exact fun _ _ _ h => h) (hy : Yields P ops oi undef a := by exact (Or.inr ⟨by rfl, rfl⟩)) (ha : a.put (some N) undef = a' := by (simp only [pU,pN,sB,sZ,sS,i64_w,i32_w]; rfl)) : wpAnyLast P md ops Q S ds (fuel + 1) l a w :=
 pure_ l' hi hN (any_of HT.out hc) hQ hy ha h
theorem bc0_ (w : World) {g : Nat} {t : TypeId} {a0 : Value} {l : List Value} (h : w.heap[g]? = some (.cells (a0 :: l).toArray t (0, 0))) : w.cell? ⟨g, 0, none⟩ = some a0 := (blk_cell h 0).trans rfl
theorem bc1_ (w : World) {g : Nat} {t : TypeId} {a0 a1 : Value} {l : List Value} (h : w.heap[g]? = some (.cells (a0 :: a1 :: l).toArray t (0, 0))) : w.cell? ⟨g, 1, none⟩ = some a1 := (blk_cell h 1).trans rfl
theorem bc2_ (w : World) {g : Nat} {t : TypeId} {a0 a1 a2 : Value} {l : List Value} (h : w.heap[g]? = some (.cells (a0 :: a1 :: a2 :: l).toArray t (0, 0))) : w.cell? ⟨g, 2, none⟩ = some a2 := (blk_cell h 2).trans rfl
theorem bc3_ (w : World) {g : Nat} {t : TypeId} {a0 a1 a2 a3 : Value} {l : List Value} (h : w.heap[g]? = some (.cells (a0 :: a1 :: a2 :: a3 :: l).toArray t (0, 0))) : w.cell? ⟨g, 3, none⟩ = some a3 := (blk_cell h 3).trans rfl
theorem bc4_ (w : World) {g : Nat} {t : TypeId} {a0 a1 a2 a3 a4 : Value} {l : List Value} (h : w.heap[g]? = some (.cells (a0 :: a1 :: a2 :: a3 :: a4 :: l).toArray t (0, 0))) : w.cell? ⟨g, 4, none⟩ = some a4 := (blk_cell h 4).trans rfl
theorem bc5_ (w : World) {g : Nat} {t : TypeId} {a0 a1 a2 a3 a4 a5 : Value} {l : List Value} (h : w.heap[g]? = some (.cells (a0 :: a1 :: a2 :: a3 :: a4 :: a5 :: l).toArray t (0, 0))) : w.cell? ⟨g, 5, none⟩ = some a5 := (blk_cell h 5).trans rfl
theorem z0_ {p : Prop} (h : p := by ((try simp only [List.map_toArray, List.map_cons, List.map_nil]); first | done | rfl | (simp only [List.length_drop, List.length_take]; rfl))) : p := h
theorem z1_ {p : Prop} (h : p := by (repeat (first | (with_reducible first | exact HB.out|apply wA|apply wN|apply wD) | exact HB.out))) : p := h
theorem z2_ {p : Prop} (h : p := by (first | (with_reducible assumption) | assumption)) : p := h
theorem z3_ {p : Prop} (h : p := by (repeat (first | (with_reducible first | exact HB.out|apply wA|apply wN|apply wD |refine wS ?_ GE270.out |refine wS ?_ GE271.out |refine wS ?_ GE293.out |refine wS ?_ GE300.out |refine wS ?_ GE314.out) | exact HB.out))) : p := h
theorem z4_ {p : Prop} (h : p := by ((with_reducible repeat (first | refine bN ?_ _|refine bW ?_|refine bA ?_ _)); exact BK270.out)) : p := h
theorem z5_ {p : Prop} (h : p := by ((with_reducible repeat (first | refine bN ?_ _|refine bW ?_|refine bA ?_ _)); exact BK271.out)) : p := h
theorem z6_ {p : Prop} (h : p := by (rw [hg]; exact (below_size (by repeat (first | (with_reducible first | exact HB.out|apply wA|apply wN|apply wD) | exact HB.out))))) : p := h
theorem z7_ {p : Prop} (h : p := by ((with_reducible repeat (first | refine bN ?_ _|refine bW ?_|refine bA ?_ _)); refine blk_put (cs := #[.string ((rd_T36 l0_1 x30_2).f0), .int .i64 ((rd_T36 l0_1 x30_2).f1), .int .i64 ((rd_T36 l0_1 x30_2).f2), .int .i64 ((rd_T36 l0_1 x30_2).f3), .int .i64 ((rd_T36 l0_1 x30_2).f4), .int .i64 0]) ?_ 5 _ rfl; (with_reducible repeat (first | refine bN ?_ _|refine bW ?_|refine bA ?_ _)); refine blk_put (cs := #[.string ((rd_T36 l0_1 x30_2).f0), .int .i64 ((rd_T36 l0_1 x30_2).f1), .int .i64 ((rd_T36 l0_1 x30_2).f2), .int .i64 ((rd_T36 l0_1 x30_2).f3), .int .i64 0, .int .i64 0]) ?_ 4 _ rfl; (with_reducible repeat (first | refine bN ?_ _|refine bW ?_|refine bA ?_ _)); refine blk_put (cs := #[.string ((rd_T36 l0_1 x30_2).f0), .int .i64 ((rd_T36 l0_1 x30_2).f1), .int .i64 ((rd_T36 l0_1 x30_2).f2), .int .i64 0, .int .i64 0, .int .i64 0]) ?_ 3 _ rfl; (with_reducible repeat (first | refine bN ?_ _|refine bW ?_|refine bA ?_ _)); refine blk_put (cs := #[.string ((rd_T36 l0_1 x30_2).f0), .int .i64 ((rd_T36 l0_1 x30_2).f1), .int .i64 0, .int .i64 0, .int .i64 0, .int .i64 0]) ?_ 2 _ rfl; (with_reducible repeat (first | refine bN ?_ _|refine bW ?_|refine bA ?_ _)); refine blk_put (cs := #[.string ((rd_T36 l0_1 x30_2).f0), .int .i64 0, .int .i64 0, .int .i64 0, .int .i64 0, .int .i64 0]) ?_ 1 _ rfl; (with_reducible repeat (first | refine bN ?_ _|refine bW ?_|refine bA ?_ _)); refine blk_put (cs := #[.string (⟨#[]⟩ : ByteArray), .int .i64 0, .int .i64 0, .int .i64 0, .int .i64 0, .int .i64 0]) ?_ 0 _ rfl; (with_reducible repeat (first | refine bN ?_ _|refine bW ?_|refine bA ?_ _)); exact BK199.out)) : p := h
theorem z8_ {p : Prop} (h : p := by (repeat (first | (with_reducible first | exact HB.out|apply wA|apply wN|apply wD |refine wS ?_ GE122.out |refine wS ?_ GE123.out |refine wS ?_ GE124.out) | exact HB.out))) : p := h
theorem z9_ {p : Prop} (h : p := by ((with_reducible repeat (first | refine bN ?_ _|refine bW ?_|refine bA ?_ _)); exact BK123.out)) : p := h
theorem z10_ {p : Prop} (h : p := by (repeat (first | (with_reducible first | exact HB.out|apply wA|apply wN|apply wD |refine wS ?_ GE270.out |refine wS ?_ GE271.out |refine wS ?_ GE293.out |refine wS ?_ GE300.out |refine wS ?_ GE314.out |refine wS ?_ GE350.out) | exact HB.out))) : p := h
theorem z11_ {p : Prop} (h : p := by ((with_reducible repeat (first | refine bN ?_ _|refine bW ?_|refine bA ?_ _)); exact BK122.out)) : p := h
theorem z12_ {p : Prop} (h : p := by ((with_reducible repeat (first | refine bN ?_ _|refine bW ?_|refine bA ?_ _)); exact BK293.out)) : p := h
theorem z13_ {p : Prop} (h : p := by (first | rfl | (simp [errW_none, errW_some] <;> rfl) | (simp [*, errW_none, errW_some] <;> rfl))) : p := h
theorem z14_ {p : Prop} (h : p := by ((with_reducible repeat (first | refine bN ?_ _|refine bW ?_|refine bA ?_ _)); exact BK300.out)) : p := h
theorem z15_ {p : Prop} (h : p := by (repeat (first | (with_reducible first | exact HB.out|apply wA|apply wN|apply wD |refine wS ?_ GE213.out |refine wS ?_ GE214.out |refine wS ?_ GE215.out) | exact HB.out))) : p := h
theorem z16_ {p : Prop} (h : p := by (first | rfl | (simp; done) | (simp [*]; done))) : p := h
theorem z17_ {p : Prop} (h : p := by (repeat (first | (with_reducible first | exact HB.out|apply wA|apply wN|apply wD |refine wS ?_ GE122.out |refine wS ?_ GE123.out |refine wS ?_ GE124.out |refine wS ?_ GE142.out) | exact HB.out))) : p := h
theorem z18_ {p : Prop} (h : p := by ((with_reducible repeat (first | refine bN ?_ _|refine bW ?_|refine bA ?_ _)); exact BK124.out)) : p := h
theorem z19_ {p : Prop} (h : p := by ((with_reducible repeat (first | refine bN ?_ _|refine bW ?_|refine bA ?_ _)); exact BK314.out)) : p := h
theorem z20_ {p : Prop} (h : p := by (repeat (first | (with_reducible first | exact HB.out|apply wA|apply wN|apply wD |refine wS ?_ GE270.out |refine wS ?_ GE271.out |refine wS ?_ GE293.out) | exact HB.out))) : p := h
theorem z21_ {p : Prop} (h : p := by (repeat (first | exact Drawn0.refl _ | apply Drawn0.step))) : p := h
theorem z22_ {p : Prop} (h : p := by kernel_rfl) : p := h
theorem z23_ {p : Prop} (h : p := by ((with_reducible repeat (first | refine bN ?_ _|refine bW ?_|refine bA ?_ _)); refine blk_far ?_ NB196_199.out _; (with_reducible repeat (first | refine bN ?_ _|refine bW ?_|refine bA ?_ _)); refine blk_far ?_ NB196_199.out _; (with_reducible repeat (first | refine bN ?_ _|refine bW ?_|refine bA ?_ _)); refine blk_far ?_ NB196_199.out _; (with_reducible repeat (first | refine bN ?_ _|refine bW ?_|refine bA ?_ _)); refine blk_far ?_ NB196_199.out _; (with_reducible repeat (first | refine bN ?_ _|refine bW ?_|refine bA ?_ _)); refine blk_far ?_ NB196_199.out _; (with_reducible repeat (first | refine bN ?_ _|refine bW ?_|refine bA ?_ _)); refine blk_far ?_ NB196_199.out _; (with_reducible repeat (first | refine bN ?_ _|refine bW ?_|refine bA ?_ _)); exact BK196.out)) : p := h
theorem z24_ {p : Prop} (h : p := by (repeat (first | (with_reducible first | exact HB.out|apply wA|apply wN|apply wD |refine wS ?_ GE270.out |refine wS ?_ GE271.out) | exact HB.out))) : p := h
theorem z25_ {p : Prop} (h : p := by (first | (simp only [putAll, Act.put, List.setIfInBounds_toArray, List.set_cons_zero, List.set_cons_succ]; done) | (simp only [putAll, Act.put, List.setIfInBounds_toArray, List.set_cons_zero, List.set_cons_succ]; rfl))) : p := h
theorem z26_ {p : Prop} (h : p := by (rw [hg]; exact Nat.ne_of_lt (blk_lt (g := gb271) (o := .cells #[.string a1_0, .int .i64 a1_1, .int .i64 a1_2, .int .i64 a1_3, .int .i64 a1_4, .int .i64 a1_5] 27 (0, 0)) (by (with_reducible repeat (first | refine bN ?_ _|refine bW ?_|refine bA ?_ _)); exact BK271.out)))) : p := h
theorem z27_ {p : Prop} (h : p := by (rw [hg]; exact Nat.ne_of_gt (blk_lt (g := gb271) (o := .cells #[.string a1_0, .int .i64 a1_1, .int .i64 a1_2, .int .i64 a1_3, .int .i64 a1_4, .int .i64 a1_5] 27 (0, 0)) (by (with_reducible repeat (first | refine bN ?_ _|refine bW ?_|refine bA ?_ _)); exact BK271.out)))) : p := h
theorem z28_ {p : Prop} (h : p := by ((with_reducible repeat (first | refine bN ?_ _|refine bW ?_|refine bA ?_ _)); exact BK196.out)) : p := h
theorem z29_ {p : Prop} (h : p := by ((with_reducible repeat (first | refine bN ?_ _|refine bW ?_|refine bA ?_ _)); exact BK214.out)) : p := h
theorem z30_ {p : Prop} (h : p := by (rw [hg]; exact Nat.ne_of_lt (blk_lt (g := gb270) (o := .cells #[.slice A0_0 l0_0.length c0_0, .slice A0_1 l0_1.length c0_1] 25 (0, 0)) (by (with_reducible repeat (first | refine bN ?_ _|refine bW ?_|refine bA ?_ _)); exact BK270.out)))) : p := h
theorem z31_ {p : Prop} (h : p := by (rw [hg]; exact Nat.ne_of_gt (blk_lt (g := gb270) (o := .cells #[.slice A0_0 l0_0.length c0_0, .slice A0_1 l0_1.length c0_1] 25 (0, 0)) (by (with_reducible repeat (first | refine bN ?_ _|refine bW ?_|refine bA ?_ _)); exact BK270.out)))) : p := h
theorem z32_ {p : Prop} (h : p := by ((with_reducible repeat (first | refine bN ?_ _|refine bW ?_|refine bA ?_ _)); exact BK213.out)) : p := h
theorem z33_ {p : Prop} (h : p := by (repeat (first | (with_reducible first | exact HB.out|apply wA|apply wN|apply wD |refine wS ?_ GE196.out) | exact HB.out))) : p := h
theorem z34_ {p : Prop} (h : p := by (repeat (first | (with_reducible first | exact HB.out|apply wA|apply wN|apply wD |refine wS ?_ GE196.out |refine wS ?_ GE199.out) | exact HB.out))) : p := h
theorem z35_ {p : Prop} (h : p := by (repeat (first | (with_reducible first | exact HB.out|apply wA|apply wN|apply wD |refine wS ?_ GE270.out |refine wS ?_ GE271.out |refine wS ?_ GE293.out |refine wS ?_ GE300.out) | exact HB.out))) : p := h
theorem z36_ {p : Prop} (h : p := by ((with_reducible repeat (first | apply rA|apply rN|apply rW)); exact HO_294000.out)) : p := h
theorem z37_ {p : Prop} (h : p := by ((with_reducible repeat (first | apply rA|apply rN|apply rW)); exact HO_294001.out)) : p := h
theorem z38_ {p : Prop} (h : p := by ((with_reducible repeat (first | apply rA|apply rN|apply rW)); exact HO_301000.out)) : p := h
theorem z39_ {p : Prop} (h : p := by ((with_reducible repeat (first | apply rA|apply rN|apply rW)); exact HO_301001.out)) : p := h
theorem z40_ {p : Prop} (h : p := by ((with_reducible repeat (first | apply rA|apply rN|apply rW)); exact HO_315000.out)) : p := h
theorem z41_ {p : Prop} (h : p := by ((with_reducible repeat (first | apply rA|apply rN|apply rW)); exact HO_315001.out)) : p := h
theorem z42_ {p : Prop} (h : p := by (rw [hg]; exact Nat.ne_of_lt (blk_lt (g := gb122) (o := .cells #[.slice A0_0 l0_0.length c0_0, .slice A0_1 l0_1.length c0_1] 32 (0, 0)) (by (with_reducible repeat (first | refine bN ?_ _|refine bW ?_|refine bA ?_ _)); exact BK122.out)))) : p := h
theorem z43_ {p : Prop} (h : p := by (rw [hg]; exact Nat.ne_of_gt (blk_lt (g := gb122) (o := .cells #[.slice A0_0 l0_0.length c0_0, .slice A0_1 l0_1.length c0_1] 32 (0, 0)) (by (with_reducible repeat (first | refine bN ?_ _|refine bW ?_|refine bA ?_ _)); exact BK122.out)))) : p := h
theorem z44_ {p : Prop} (h : p := by (first | exact Kd.R_nil _ _ _ _ _ | exact Kd.N_nil _ _ _ _ _ | exact Kd.V_nil _ _ _ _ _ | exact Kd.Q_nil _ _ _ _ _ | exact Kd.S_nil _ _ _ _ _)) : p := h
theorem z45_ {p : Prop} (h : p := by (repeat (first | (with_reducible first | exact HK.out | apply Kept.alloc | apply Kept.drewN | apply Kept.drew) | exact HK.out))) : p := h
theorem z46_ {p : Prop} (h : p := by (rw [hg]; exact Nat.ne_of_lt (blk_lt (g := gb123) (o := .cells #[.string a1_0, .int .i64 a1_1, .int .i64 a1_2, .int .i64 a1_3, .int .i64 a1_4, .int .i64 a1_5] 36 (0, 0)) (by (with_reducible repeat (first | refine bN ?_ _|refine bW ?_|refine bA ?_ _)); exact BK123.out)))) : p := h
theorem z47_ {p : Prop} (h : p := by (rw [hg]; exact Nat.ne_of_gt (blk_lt (g := gb123) (o := .cells #[.string a1_0, .int .i64 a1_1, .int .i64 a1_2, .int .i64 a1_3, .int .i64 a1_4, .int .i64 a1_5] 36 (0, 0)) (by (with_reducible repeat (first | refine bN ?_ _|refine bW ?_|refine bA ?_ _)); exact BK123.out)))) : p := h
theorem z48_ {p : Prop} (h : p := by ((with_reducible repeat (first | apply rA|apply rN|apply rW)); exact HO276.out)) : p := h
theorem z49_ {p : Prop} (h : p := by ((with_reducible repeat (first | apply rA|apply rN|apply rW)); exact HO279.out)) : p := h
theorem z50_ {p : Prop} (h : p := by (rw [hg]; exact (below_size (by repeat (first | (with_reducible first | exact HB.out|apply wA|apply wN|apply wD |refine wS ?_ GE122.out |refine wS ?_ GE123.out |refine wS ?_ GE124.out) | exact HB.out))))) : p := h
theorem z51_ {p : Prop} (h : p := by (rw [hg]; exact (below_size (by repeat (first | (with_reducible first | exact HB.out|apply wA|apply wN|apply wD |refine wS ?_ GE270.out |refine wS ?_ GE271.out |refine wS ?_ GE293.out |refine wS ?_ GE300.out |refine wS ?_ GE314.out) | exact HB.out))))) : p := h
theorem z52_ {p : Prop} (h : p := by ((with_reducible repeat (first | refine bN ?_ _|refine bW ?_|refine bA ?_ _)); exact BK215.out)) : p := h
theorem z53_ {p : Prop} (h : p := by (rw [hg]; exact Nat.ne_of_lt (blk_lt (g := gb293) (o := .cells #[.slice Ao32 t286.length co32, .slice Ao34 t289.length co34] 32 (0, 0)) (by (with_reducible repeat (first | refine bN ?_ _|refine bW ?_|refine bA ?_ _)); exact BK293.out)))) : p := h
theorem z54_ {p : Prop} (h : p := by (rw [hg]; exact Nat.ne_of_gt (blk_lt (g := gb293) (o := .cells #[.slice Ao32 t286.length co32, .slice Ao34 t289.length co34] 32 (0, 0)) (by (with_reducible repeat (first | refine bN ?_ _|refine bW ?_|refine bA ?_ _)); exact BK293.out)))) : p := h
theorem z55_ {p : Prop} (h : p := by ((with_reducible repeat (first | refine bN ?_ _|refine bW ?_|refine bA ?_ _)); exact BK0.out)) : p := h
theorem z56_ {p : Prop} (h : p := by ((with_reducible repeat (first | refine bN ?_ _|refine bW ?_|refine bA ?_ _)); refine blk_put (cs := #[.slice none 0 0, .slice none 0 0]) ?_ 1 _ rfl; (with_reducible repeat (first | refine bN ?_ _|refine bW ?_|refine bA ?_ _)); refine blk_put (cs := #[.slice none 0 0, .slice none 0 0]) ?_ 0 _ rfl; (with_reducible repeat (first | refine bN ?_ _|refine bW ?_|refine bA ?_ _)); exact BK124.out)) : p := h
theorem z57_ {p : Prop} (h : p := by ((with_reducible repeat (first | refine bN ?_ _|refine bW ?_|refine bA ?_ _)); refine blk_put (cs := #[.slice none 0 0, .slice none 0 0]) ?_ 1 _ rfl; (with_reducible repeat (first | refine bN ?_ _|refine bW ?_|refine bA ?_ _)); refine blk_put (cs := #[.slice none 0 0, .slice none 0 0]) ?_ 0 _ rfl; (with_reducible repeat (first | refine bN ?_ _|refine bW ?_|refine bA ?_ _)); exact BK215.out)) : p := h
theorem z58_ {p : Prop} (h : p := by (rw [hg]; exact (below_size (by repeat (first | (with_reducible first | exact HB.out|apply wA|apply wN|apply wD |refine wS ?_ GE196.out) | exact HB.out))))) : p := h
theorem z59_ {p : Prop} (h : p := by ((with_reducible repeat (first | refine bN ?_ _|refine bW ?_|refine bA ?_ _)); exact BK142.out)) : p := h
theorem z60_ {p : Prop} (h : p := by ((with_reducible repeat (first | apply rA|apply rN|apply rW)); exact HO131.out)) : p := h
theorem z61_ {p : Prop} (h : p := by (rw [hg]; exact (below_size (by repeat (first | (with_reducible first | exact HB.out|apply wA|apply wN|apply wD |refine wS ?_ GE270.out |refine wS ?_ GE271.out) | exact HB.out))))) : p := h
theorem z62_ {p : Prop} (h : p := by simp only [putAll, Act.put, List.setIfInBounds_toArray, List.set_cons_zero, List.set_cons_succ]) : p := h
theorem z63_ {p : Prop} (h : p := by (rw [hg]; exact (below_size (by repeat (first | (with_reducible first | exact HB.out|apply wA|apply wN|apply wD |refine wS ?_ GE270.out |refine wS ?_ GE271.out |refine wS ?_ GE293.out |refine wS ?_ GE300.out) | exact HB.out))))) : p := h
theorem z64_ {p : Prop} (h : p := by (repeat (first | (with_reducible first | exact HB.out | apply below_alloc | apply pw_below_drewN | apply below_drew1) | exact HB.out))) : p := h
theorem z65_ {p : Prop} (h : p := by (repeat (first | (with_reducible first | exact HB.out|apply wA|apply wN|apply wD |refine wS ?_ GE122.out |refine wS ?_ GE123.out) | exact HB.out))) : p := h
theorem z66_ {p : Prop} (h : p := by (repeat (first | (with_reducible first | exact HB.out|apply wA|apply wN|apply wD |refine wS ?_ GE239.out |refine wS ?_ GE240.out) | exact HB.out))) : p := h
theorem z67_ {p : Prop} (h : p := by ((with_reducible repeat (first | apply rA|apply rN|apply rW)); exact (Kd.R_mono (Kd.R_far (p := ⟨gb350, 1, none⟩) (Kd.R_far (p := ⟨gb350, 0, none⟩) (Kd.R_types HO_294000.out BK350.out (by decide)) (fun _ hk => hk.2) (.slice Ao149 t343.length co149)) (fun _ hk => hk.2) (.slice Ao151 t346.length co151)) (fun _ h_ => h_.1)))) : p := h
theorem z68_ {p : Prop} (h : p := by ((with_reducible repeat (first | apply rA|apply rN|apply rW)); exact (Kd.R_mono (Kd.R_far (p := ⟨gb350, 1, none⟩) (Kd.R_far (p := ⟨gb350, 0, none⟩) (Kd.R_types HO_294001.out BK350.out (by decide)) (fun _ hk => hk.2) (.slice Ao149 t343.length co149)) (fun _ hk => hk.2) (.slice Ao151 t346.length co151)) (fun _ h_ => h_.1)))) : p := h
theorem z69_ {p : Prop} (h : p := by ((with_reducible repeat (first | apply rA|apply rN|apply rW)); exact (Kd.R_mono (Kd.R_far (p := ⟨gb350, 1, none⟩) (Kd.R_far (p := ⟨gb350, 0, none⟩) (Kd.R_types HO345.out BK350.out (by decide)) (fun _ hk => hk.2) (.slice Ao149 t343.length co149)) (fun _ hk => hk.2) (.slice Ao151 t346.length co151)) (fun _ h_ => h_.1)))) : p := h
theorem z70_ {p : Prop} (h : p := by ((with_reducible repeat (first | apply rA|apply rN|apply rW)); exact (Kd.R_mono (Kd.R_far (p := ⟨gb350, 1, none⟩) (Kd.R_far (p := ⟨gb350, 0, none⟩) (Kd.R_types HO348.out BK350.out (by decide)) (fun _ hk => hk.2) (.slice Ao149 t343.length co149)) (fun _ hk => hk.2) (.slice Ao151 t346.length co151)) (fun _ h_ => h_.1)))) : p := h
theorem z71_ {p : Prop} (h : p := by ((with_reducible repeat (first | apply rA|apply rN|apply rW)); exact (Kd.R_mono (Kd.R_far (p := ⟨gb314, 1, none⟩) (Kd.R_far (p := ⟨gb314, 0, none⟩) (Kd.R_types HO309.out BK314.out (by decide)) (fun _ hk => hk.2) (.slice Ao53 t307.length co53)) (fun _ hk => hk.2) (.slice Ao55 t310.length co55)) (fun _ h_ => h_.1)))) : p := h
theorem z72_ {p : Prop} (h : p := by ((with_reducible repeat (first | apply rA|apply rN|apply rW)); exact (Kd.R_mono (Kd.R_far (p := ⟨gb314, 1, none⟩) (Kd.R_far (p := ⟨gb314, 0, none⟩) (Kd.R_types HO312.out BK314.out (by decide)) (fun _ hk => hk.2) (.slice Ao53 t307.length co53)) (fun _ hk => hk.2) (.slice Ao55 t310.length co55)) (fun _ h_ => h_.1)))) : p := h
theorem z73_ {p : Prop} (h : p := by ((with_reducible repeat (first | apply rA|apply rN|apply rW)); exact (Kd.R_mono (Kd.R_far (p := ⟨gb314, 1, none⟩) (Kd.R_far (p := ⟨gb314, 0, none⟩) (Kd.R_types HO288.out BK314.out (by decide)) (fun _ hk => hk.2) (.slice Ao53 t307.length co53)) (fun _ hk => hk.2) (.slice Ao55 t310.length co55)) (fun _ h_ => h_.1)))) : p := h
theorem z74_ {p : Prop} (h : p := by ((with_reducible repeat (first | apply rA|apply rN|apply rW)); exact (Kd.R_mono (Kd.R_far (p := ⟨gb314, 1, none⟩) (Kd.R_far (p := ⟨gb314, 0, none⟩) (Kd.R_types HO291.out BK314.out (by decide)) (fun _ hk => hk.2) (.slice Ao53 t307.length co53)) (fun _ hk => hk.2) (.slice Ao55 t310.length co55)) (fun _ h_ => h_.1)))) : p := h
theorem z75_ {p : Prop} (h : p := by ((with_reducible repeat (first | refine bN ?_ _|refine bW ?_|refine bA ?_ _)); exact BK350.out)) : p := h
theorem z76_ {p : Prop} (h : p := by (rw [hg]; exact Nat.ne_of_lt (blk_lt (g := gb196) (o := .cells #[.slice A0_0 l0_0.length c0_0, .slice (some ad198) l0_1.length c0_1] 32 (0, 0)) (by (with_reducible repeat (first | refine bN ?_ _|refine bW ?_|refine bA ?_ _)); exact BK196.out)))) : p := h
theorem z77_ {p : Prop} (h : p := by (rw [hg]; exact Nat.ne_of_gt (blk_lt (g := gb196) (o := .cells #[.slice A0_0 l0_0.length c0_0, .slice (some ad198) l0_1.length c0_1] 32 (0, 0)) (by (with_reducible repeat (first | refine bN ?_ _|refine bW ?_|refine bA ?_ _)); exact BK196.out)))) : p := h
theorem z78_ {p : Prop} (h : p := by ((with_reducible repeat (first | apply rA|apply rN|apply rW)); exact HO333.out)) : p := h
theorem z79_ {p : Prop} (h : p := by ((with_reducible repeat (first | apply rA|apply rN|apply rW)); exact HO336.out)) : p := h
theorem z80_ {p : Prop} (h : p := by (repeat (first | (with_reducible first | exact HB.out|apply wA|apply wN|apply wD |refine wS ?_ GE122.out) | exact HB.out))) : p := h
theorem z81_ {p : Prop} (h : p := by (repeat (first | (with_reducible first | exact HB.out|apply wA|apply wN|apply wD |refine wS ?_ GE239.out) | exact HB.out))) : p := h
theorem z82_ {p : Prop} (h : p := by (rw [hg]; exact (below_size (by repeat (first | (with_reducible first | exact HB.out|apply wA|apply wN|apply wD |refine wS ?_ GE122.out |refine wS ?_ GE123.out) | exact HB.out))))) : p := h
theorem z83_ {p : Prop} (h : p := by ((with_reducible repeat (first | refine bN ?_ _|refine bW ?_|refine bA ?_ _)); exact BK239.out)) : p := h
theorem z84_ {p : Prop} (h : p := by (rw [hg]; exact Nat.ne_of_lt (blk_lt (g := gb124) (o := .cells #[.slice none 0 0, .slice none 0 0] 32 (0, 0)) (by (with_reducible repeat (first | refine bN ?_ _|refine bW ?_|refine bA ?_ _)); exact BK124.out)))) : p := h
theorem z85_ {p : Prop} (h : p := by (rw [hg]; exact Nat.ne_of_gt (blk_lt (g := gb124) (o := .cells #[.slice none 0 0, .slice none 0 0] 32 (0, 0)) (by (with_reducible repeat (first | refine bN ?_ _|refine bW ?_|refine bA ?_ _)); exact BK124.out)))) : p := h
theorem z86_ {p : Prop} (h : p := by ((with_reducible repeat (first | apply rA|apply rN|apply rW)); exact HO288.out)) : p := h
theorem z87_ {p : Prop} (h : p := by ((with_reducible repeat (first | apply rA|apply rN|apply rW)); exact HO291.out)) : p := h
theorem z88_ {p : Prop} (h : p := by ((with_reducible repeat (first | apply rA|apply rN|apply rW)); exact HO_0.out)) : p := h
theorem z89_ {p : Prop} (h : p := by (repeat (first | (with_reducible first | exact HB.out|apply wA|apply wN|apply wD |refine wS ?_ GE172.out |refine wS ?_ GE173.out |refine wS ?_ GE174.out) | exact HB.out))) : p := h
theorem z90_ {p : Prop} (h : p := by ((with_reducible repeat (first | apply rA|apply rN|apply rW)); exact HO134.out)) : p := h
theorem z91_ {p : Prop} (h : p := by ((with_reducible repeat (first | apply rA|apply rN|apply rW)); exact HO296.out)) : p := h
theorem z92_ {p : Prop} (h : p := by ((with_reducible repeat (first | apply rA|apply rN|apply rW)); exact HO299.out)) : p := h
theorem z93_ {p : Prop} (h : p := by (rw [hg]; exact Nat.ne_of_lt (blk_lt (g := gb213) (o := .cells #[.slice A0_0 l0_0.length c0_0, .slice A0_1 l0_1.length c0_1] 32 (0, 0)) (by (with_reducible repeat (first | refine bN ?_ _|refine bW ?_|refine bA ?_ _)); exact BK213.out)))) : p := h
theorem z94_ {p : Prop} (h : p := by (rw [hg]; exact Nat.ne_of_gt (blk_lt (g := gb213) (o := .cells #[.slice A0_0 l0_0.length c0_0, .slice A0_1 l0_1.length c0_1] 32 (0, 0)) (by (with_reducible repeat (first | refine bN ?_ _|refine bW ?_|refine bA ?_ _)); exact BK213.out)))) : p := h
theorem z95_ {p : Prop} (h : p := by (rw [hg]; exact Nat.ne_of_lt (blk_lt (g := gb300) (o := .cells #[.slice Ao41 t324.length co41, .slice Ao46 t325.length co46] 32 (0, 0)) (by (with_reducible repeat (first | refine bN ?_ _|refine bW ?_|refine bA ?_ _)); exact BK300.out)))) : p := h
theorem z96_ {p : Prop} (h : p := by (rw [hg]; exact Nat.ne_of_gt (blk_lt (g := gb300) (o := .cells #[.slice Ao41 t324.length co41, .slice Ao46 t325.length co46] 32 (0, 0)) (by (with_reducible repeat (first | refine bN ?_ _|refine bW ?_|refine bA ?_ _)); exact BK300.out)))) : p := h
theorem z97_ {p : Prop} (h : p := by (rw [hg]; exact Nat.ne_of_lt (blk_lt (g := gb314) (o := .cells #[.slice Ao53 t328.length co53, .slice Ao55 t329.length co55] 32 (0, 0)) (by (with_reducible repeat (first | refine bN ?_ _|refine bW ?_|refine bA ?_ _)); exact BK314.out)))) : p := h
theorem z98_ {p : Prop} (h : p := by (rw [hg]; exact Nat.ne_of_gt (blk_lt (g := gb314) (o := .cells #[.slice Ao53 t328.length co53, .slice Ao55 t329.length co55] 32 (0, 0)) (by (with_reducible repeat (first | refine bN ?_ _|refine bW ?_|refine bA ?_ _)); exact BK314.out)))) : p := h
theorem z99_ {p : Prop} (h : p := by (rw [hg]; exact (below_size (by repeat (first | (with_reducible first | exact HB.out|apply wA|apply wN|apply wD |refine wS ?_ GE122.out) | exact HB.out))))) : p := h
theorem z100_ {p : Prop} (h : p := by (rw [hg]; exact (below_size (by repeat (first | (with_reducible first | exact HB.out|apply wA|apply wN|apply wD |refine wS ?_ GE239.out) | exact HB.out))))) : p := h
theorem z101_ {p : Prop} (h : p := by ((try simp only [hl301000_90]); (try simp only [hl301001_90]); (try simp only [hl315000_124]); (try simp only [hl315001_124]); (with_reducible repeat (first | refine bN ?_ _|refine bW ?_|refine bA ?_ _)); exact BK270.out)) : p := h
theorem z102_ {p : Prop} (h : p := by ((try simp only [hl301000_90]); (try simp only [hl301001_90]); (try simp only [hl315000_124]); (try simp only [hl315001_124]); (with_reducible repeat (first | refine bN ?_ _|refine bW ?_|refine bA ?_ _)); exact BK271.out)) : p := h
theorem z103_ {p : Prop} (h : p := by ((try simp only [hl301000_90]); (try simp only [hl301001_90]); (try simp only [hl315000_124]); (try simp only [hl315001_124]); (with_reducible repeat (first | refine bN ?_ _|refine bW ?_|refine bA ?_ _)); exact BK293.out)) : p := h
theorem z104_ {p : Prop} (h : p := by ((try simp only [hl301000_90]); (try simp only [hl301001_90]); (try simp only [hl315000_124]); (try simp only [hl315001_124]); (with_reducible repeat (first | refine bN ?_ _|refine bW ?_|refine bA ?_ _)); exact BK300.out)) : p := h
theorem z105_ {p : Prop} (h : p := by ((try simp only [hl301000_90]); (try simp only [hl301001_90]); (try simp only [hl315000_124]); (try simp only [hl315001_124]); (with_reducible repeat (first | refine bN ?_ _|refine bW ?_|refine bA ?_ _)); exact BK314.out)) : p := h
theorem z106_ {p : Prop} (h : p := by (repeat (first | (with_reducible first | exact HB.out|apply wA|apply wN|apply wD |refine wS ?_ GE213.out |refine wS ?_ GE214.out) | exact HB.out))) : p := h
theorem z107_ {p : Prop} (h : p := by ((with_reducible repeat (first | refine bN ?_ _|refine bW ?_|refine bA ?_ _)); exact BK192.out)) : p := h
theorem z108_ {p : Prop} (h : p := by ((with_reducible repeat (first | refine bN ?_ _|refine bW ?_|refine bA ?_ _)); exact BK199.out)) : p := h
theorem z109_ {p : Prop} (h : p := by (repeat (first | (with_reducible first | exact HB.out|apply wA|apply wN|apply wD |refine wS ?_ GE104.out) | exact HB.out))) : p := h
theorem z110_ {p : Prop} (h : p := by (repeat (first | (with_reducible first | exact HB.out|apply wA|apply wN|apply wD |refine wS ?_ GE183.out) | exact HB.out))) : p := h
theorem z111_ {p : Prop} (h : p := by (repeat (first | (with_reducible first | exact HB.out|apply wA|apply wN|apply wD |refine wS ?_ GE267.out) | exact HB.out))) : p := h
theorem z112_ {p : Prop} (h : p := by (repeat (first | exact Below.refl _ _ | apply below_alloc | apply pw_below_drewN | apply below_drew1))) : p := h
theorem z113_ {p : Prop} (h : p := by ((with_reducible repeat (first | refine bN ?_ _|refine bW ?_|refine bA ?_ _)); refine blk_put (cs := #[.slice Ao149 t343.length co149, .slice none 0 0]) ?_ 1 _ rfl; (with_reducible repeat (first | refine bN ?_ _|refine bW ?_|refine bA ?_ _)); refine blk_put (cs := #[.slice none 0 0, .slice none 0 0]) ?_ 0 _ rfl; (with_reducible repeat (first | refine bN ?_ _|refine bW ?_|refine bA ?_ _)); exact BK350.out)) : p := h
theorem z114_ {p : Prop} (h : p := by ((with_reducible repeat (first | refine bN ?_ _|refine bW ?_|refine bA ?_ _)); refine blk_put (cs := #[.slice Ao53 t307.length co53, .slice none 0 0]) ?_ 1 _ rfl; (with_reducible repeat (first | refine bN ?_ _|refine bW ?_|refine bA ?_ _)); refine blk_put (cs := #[.slice none 0 0, .slice none 0 0]) ?_ 0 _ rfl; (with_reducible repeat (first | refine bN ?_ _|refine bW ?_|refine bA ?_ _)); exact BK314.out)) : p := h
theorem z115_ {p : Prop} (h : p := by (repeat (first | (with_reducible first | exact HB.out|apply wA|apply wN|apply wD |refine wS ?_ GE192.out) | exact HB.out))) : p := h
theorem z116_ {p : Prop} (h : p := by (repeat (first | (with_reducible first | exact HB.out|apply wA|apply wN|apply wD |refine wS ?_ GE213.out) | exact HB.out))) : p := h
theorem z117_ {p : Prop} (h : p := by (repeat (first | (with_reducible first | exact HB.out|apply wA|apply wN|apply wD |refine wS ?_ GE192.out |refine wS ?_ GE193.out) | exact HB.out))) : p := h
theorem z118_ {p : Prop} (h : p := by (rw [hg]; exact (below_size (by repeat (first | (with_reducible first | exact HB.out|apply wA|apply wN|apply wD |refine wS ?_ GE213.out |refine wS ?_ GE214.out) | exact HB.out))))) : p := h
theorem z119_ {p : Prop} (h : p := by (rw [hg]; exact Nat.ne_of_lt (blk_lt (g := gb239) (o := .cells #[.slice A0_0 l0_0.length c0_0, .slice A0_1 l0_1.length c0_1] 32 (0, 0)) (by (with_reducible repeat (first | refine bN ?_ _|refine bW ?_|refine bA ?_ _)); exact BK239.out)))) : p := h
theorem z120_ {p : Prop} (h : p := by (rw [hg]; exact Nat.ne_of_gt (blk_lt (g := gb239) (o := .cells #[.slice A0_0 l0_0.length c0_0, .slice A0_1 l0_1.length c0_1] 32 (0, 0)) (by (with_reducible repeat (first | refine bN ?_ _|refine bW ?_|refine bA ?_ _)); exact BK239.out)))) : p := h
theorem z121_ {p : Prop} (h : p := by (rw [hg]; exact Nat.ne_of_lt (blk_lt (g := gb300) (o := .cells #[.slice Ao41 t294.length co41, .slice Ao46 t297.length co46] 32 (0, 0)) (by (with_reducible repeat (first | refine bN ?_ _|refine bW ?_|refine bA ?_ _)); exact BK300.out)))) : p := h
theorem z122_ {p : Prop} (h : p := by (rw [hg]; exact Nat.ne_of_gt (blk_lt (g := gb300) (o := .cells #[.slice Ao41 t294.length co41, .slice Ao46 t297.length co46] 32 (0, 0)) (by (with_reducible repeat (first | refine bN ?_ _|refine bW ?_|refine bA ?_ _)); exact BK300.out)))) : p := h
theorem z123_ {p : Prop} (h : p := by ((with_reducible repeat (first | refine bN ?_ _|refine bW ?_|refine bA ?_ _)); exact BK172.out)) : p := h
theorem z124_ {p : Prop} (h : p := by ((try simp only [hl301000_90]); (try simp only [hl301001_90]); (try simp only [hl315000_124]); (try simp only [hl315001_124]); (with_reducible repeat (first | refine bN ?_ _|refine bW ?_|refine bA ?_ _)); exact BK350.out)) : p := h
theorem z125_ {p : Prop} (h : p := by ((with_reducible repeat (first | apply rA|apply rN|apply rW)); exact (Kd.R_mono (Kd.R_far (p := ⟨gb350, 1, none⟩) (Kd.R_far (p := ⟨gb350, 0, none⟩) (Kd.R_types HO_301000.out BK350.out (by decide)) (fun _ hk => hk.2) (.slice Ao149 t343.length co149)) (fun _ hk => hk.2) (.slice Ao151 t346.length co151)) (fun _ h_ => h_.1)))) : p := h
theorem z126_ {p : Prop} (h : p := by ((with_reducible repeat (first | apply rA|apply rN|apply rW)); exact (Kd.R_mono (Kd.R_far (p := ⟨gb350, 1, none⟩) (Kd.R_far (p := ⟨gb350, 0, none⟩) (Kd.R_types HO_301001.out BK350.out (by decide)) (fun _ hk => hk.2) (.slice Ao149 t343.length co149)) (fun _ hk => hk.2) (.slice Ao151 t346.length co151)) (fun _ h_ => h_.1)))) : p := h
theorem z127_ {p : Prop} (h : p := by ((with_reducible repeat (first | apply rA|apply rN|apply rW)); exact (Kd.R_mono (Kd.R_far (p := ⟨gb350, 1, none⟩) (Kd.R_far (p := ⟨gb350, 0, none⟩) (Kd.R_types HO_315000.out BK350.out (by decide)) (fun _ hk => hk.2) (.slice Ao149 t343.length co149)) (fun _ hk => hk.2) (.slice Ao151 t346.length co151)) (fun _ h_ => h_.1)))) : p := h
theorem z128_ {p : Prop} (h : p := by ((with_reducible repeat (first | apply rA|apply rN|apply rW)); exact (Kd.R_mono (Kd.R_far (p := ⟨gb350, 1, none⟩) (Kd.R_far (p := ⟨gb350, 0, none⟩) (Kd.R_types HO_315001.out BK350.out (by decide)) (fun _ hk => hk.2) (.slice Ao149 t343.length co149)) (fun _ hk => hk.2) (.slice Ao151 t346.length co151)) (fun _ h_ => h_.1)))) : p := h
theorem z129_ {p : Prop} (h : p := by ((with_reducible repeat (first | refine bN ?_ _|refine bW ?_|refine bA ?_ _)); refine blk_far ?_ NB123_142.out _; (with_reducible repeat (first | refine bN ?_ _|refine bW ?_|refine bA ?_ _)); refine blk_far ?_ NB123_142.out _; (with_reducible repeat (first | refine bN ?_ _|refine bW ?_|refine bA ?_ _)); exact BK123.out)) : p := h
theorem z130_ {p : Prop} (h : p := by ((with_reducible repeat (first | refine bN ?_ _|refine bW ?_|refine bA ?_ _)); refine blk_far ?_ NB270_314.out _; (with_reducible repeat (first | refine bN ?_ _|refine bW ?_|refine bA ?_ _)); refine blk_far ?_ NB270_314.out _; (with_reducible repeat (first | refine bN ?_ _|refine bW ?_|refine bA ?_ _)); exact BK270.out)) : p := h
theorem z131_ {p : Prop} (h : p := by ((with_reducible repeat (first | refine bN ?_ _|refine bW ?_|refine bA ?_ _)); refine blk_far ?_ NB271_314.out _; (with_reducible repeat (first | refine bN ?_ _|refine bW ?_|refine bA ?_ _)); refine blk_far ?_ NB271_314.out _; (with_reducible repeat (first | refine bN ?_ _|refine bW ?_|refine bA ?_ _)); exact BK271.out)) : p := h
theorem z132_ {p : Prop} (h : p := by ((with_reducible repeat (first | refine bN ?_ _|refine bW ?_|refine bA ?_ _)); refine blk_far ?_ NB293_314.out _; (with_reducible repeat (first | refine bN ?_ _|refine bW ?_|refine bA ?_ _)); refine blk_far ?_ NB293_314.out _; (with_reducible repeat (first | refine bN ?_ _|refine bW ?_|refine bA ?_ _)); exact BK293.out)) : p := h
theorem z133_ {p : Prop} (h : p := by ((with_reducible repeat (first | refine bN ?_ _|refine bW ?_|refine bA ?_ _)); refine blk_far ?_ NB300_314.out _; (with_reducible repeat (first | refine bN ?_ _|refine bW ?_|refine bA ?_ _)); refine blk_far ?_ NB300_314.out _; (with_reducible repeat (first | refine bN ?_ _|refine bW ?_|refine bA ?_ _)); exact BK300.out)) : p := h
theorem z134_ {p : Prop} (h : p := by ((with_reducible repeat (first | refine bN ?_ _|refine bW ?_|refine bA ?_ _)); refine blk_far ?_ NB270_350.out _; (with_reducible repeat (first | refine bN ?_ _|refine bW ?_|refine bA ?_ _)); refine blk_far ?_ NB270_350.out _; (with_reducible repeat (first | refine bN ?_ _|refine bW ?_|refine bA ?_ _)); exact BK270.out)) : p := h
theorem z135_ {p : Prop} (h : p := by ((with_reducible repeat (first | refine bN ?_ _|refine bW ?_|refine bA ?_ _)); refine blk_far ?_ NB271_350.out _; (with_reducible repeat (first | refine bN ?_ _|refine bW ?_|refine bA ?_ _)); refine blk_far ?_ NB271_350.out _; (with_reducible repeat (first | refine bN ?_ _|refine bW ?_|refine bA ?_ _)); exact BK271.out)) : p := h
theorem z136_ {p : Prop} (h : p := by ((with_reducible repeat (first | refine bN ?_ _|refine bW ?_|refine bA ?_ _)); refine blk_far ?_ NB293_350.out _; (with_reducible repeat (first | refine bN ?_ _|refine bW ?_|refine bA ?_ _)); refine blk_far ?_ NB293_350.out _; (with_reducible repeat (first | refine bN ?_ _|refine bW ?_|refine bA ?_ _)); exact BK293.out)) : p := h
theorem z137_ {p : Prop} (h : p := by ((with_reducible repeat (first | refine bN ?_ _|refine bW ?_|refine bA ?_ _)); refine blk_far ?_ NB300_350.out _; (with_reducible repeat (first | refine bN ?_ _|refine bW ?_|refine bA ?_ _)); refine blk_far ?_ NB300_350.out _; (with_reducible repeat (first | refine bN ?_ _|refine bW ?_|refine bA ?_ _)); exact BK300.out)) : p := h
theorem z138_ {p : Prop} (h : p := by ((with_reducible repeat (first | refine bN ?_ _|refine bW ?_|refine bA ?_ _)); refine blk_far ?_ NB314_350.out _; (with_reducible repeat (first | refine bN ?_ _|refine bW ?_|refine bA ?_ _)); refine blk_far ?_ NB314_350.out _; (with_reducible repeat (first | refine bN ?_ _|refine bW ?_|refine bA ?_ _)); exact BK314.out)) : p := h
theorem z139_ {p : Prop} (h : p := by ((with_reducible repeat (first | apply rA|apply rN|apply rW)); exact HO223.out)) : p := h
theorem z140_ {p : Prop} (h : p := by ((with_reducible repeat (first | apply rA|apply rN|apply rW)); exact (Kd.R_mono (Kd.R_far (p := ⟨gb350, 1, none⟩) (Kd.R_far (p := ⟨gb350, 0, none⟩) (Kd.R_types HO333.out BK350.out (by decide)) (fun _ hk => hk.2) (.slice Ao149 t343.length co149)) (fun _ hk => hk.2) (.slice Ao151 t346.length co151)) (fun _ h_ => h_.1)))) : p := h
theorem z141_ {p : Prop} (h : p := by ((with_reducible repeat (first | apply rA|apply rN|apply rW)); exact (Kd.R_mono (Kd.R_far (p := ⟨gb350, 1, none⟩) (Kd.R_far (p := ⟨gb350, 0, none⟩) (Kd.R_types HO336.out BK350.out (by decide)) (fun _ hk => hk.2) (.slice Ao149 t343.length co149)) (fun _ hk => hk.2) (.slice Ao151 t346.length co151)) (fun _ h_ => h_.1)))) : p := h
theorem z142_ {p : Prop} (h : p := by ((with_reducible repeat (first | apply rA|apply rN|apply rW)); exact (Kd.R_mono (Kd.R_far (p := ⟨gb293, 1, none⟩) (Kd.R_far (p := ⟨gb293, 0, none⟩) (Kd.R_types HO276.out BK293.out (by decide)) (fun _ hk => hk.2) (.slice Ao32 t286.length co32)) (fun _ hk => hk.2) (.slice Ao34 t289.length co34)) (fun _ h_ => h_.1)))) : p := h
theorem z143_ {p : Prop} (h : p := by ((with_reducible repeat (first | apply rA|apply rN|apply rW)); exact (Kd.R_mono (Kd.R_far (p := ⟨gb293, 1, none⟩) (Kd.R_far (p := ⟨gb293, 0, none⟩) (Kd.R_types HO288.out BK293.out (by decide)) (fun _ hk => hk.2) (.slice Ao32 t286.length co32)) (fun _ hk => hk.2) (.slice Ao34 t289.length co34)) (fun _ h_ => h_.1)))) : p := h
theorem z144_ {p : Prop} (h : p := by ((with_reducible repeat (first | apply rA|apply rN|apply rW)); exact (Kd.R_mono (Kd.R_far (p := ⟨gb293, 1, none⟩) (Kd.R_far (p := ⟨gb293, 0, none⟩) (Kd.R_types HO279.out BK293.out (by decide)) (fun _ hk => hk.2) (.slice Ao32 t286.length co32)) (fun _ hk => hk.2) (.slice Ao34 t289.length co34)) (fun _ h_ => h_.1)))) : p := h
theorem z145_ {p : Prop} (h : p := by ((with_reducible repeat (first | apply rA|apply rN|apply rW)); exact (Kd.R_mono (Kd.R_far (p := ⟨gb293, 1, none⟩) (Kd.R_far (p := ⟨gb293, 0, none⟩) (Kd.R_types HO291.out BK293.out (by decide)) (fun _ hk => hk.2) (.slice Ao32 t286.length co32)) (fun _ hk => hk.2) (.slice Ao34 t289.length co34)) (fun _ h_ => h_.1)))) : p := h
theorem z146_ {p : Prop} (h : p := by ((with_reducible repeat (first | apply rA|apply rN|apply rW)); exact (Kd.R_mono (Kd.R_far (p := ⟨gb314, 1, none⟩) (Kd.R_far (p := ⟨gb314, 0, none⟩) (Kd.R_types HO276.out BK314.out (by decide)) (fun _ hk => hk.2) (.slice Ao53 t307.length co53)) (fun _ hk => hk.2) (.slice Ao55 t310.length co55)) (fun _ h_ => h_.1)))) : p := h
theorem z147_ {p : Prop} (h : p := by ((with_reducible repeat (first | apply rA|apply rN|apply rW)); exact (Kd.R_mono (Kd.R_far (p := ⟨gb314, 1, none⟩) (Kd.R_far (p := ⟨gb314, 0, none⟩) (Kd.R_types HO279.out BK314.out (by decide)) (fun _ hk => hk.2) (.slice Ao53 t307.length co53)) (fun _ hk => hk.2) (.slice Ao55 t310.length co55)) (fun _ h_ => h_.1)))) : p := h
theorem z148_ {p : Prop} (h : p := by ((with_reducible repeat (first | apply rA|apply rN|apply rW)); exact (Kd.R_mono (Kd.R_far (p := ⟨gb314, 1, none⟩) (Kd.R_far (p := ⟨gb314, 0, none⟩) (Kd.R_types HO296.out BK314.out (by decide)) (fun _ hk => hk.2) (.slice Ao53 t307.length co53)) (fun _ hk => hk.2) (.slice Ao55 t310.length co55)) (fun _ h_ => h_.1)))) : p := h
theorem z149_ {p : Prop} (h : p := by ((with_reducible repeat (first | apply rA|apply rN|apply rW)); exact (Kd.R_mono (Kd.R_far (p := ⟨gb314, 1, none⟩) (Kd.R_far (p := ⟨gb314, 0, none⟩) (Kd.R_types HO299.out BK314.out (by decide)) (fun _ hk => hk.2) (.slice Ao53 t307.length co53)) (fun _ hk => hk.2) (.slice Ao55 t310.length co55)) (fun _ h_ => h_.1)))) : p := h
theorem z150_ {p : Prop} (h : p := by (rw [hg]; exact (below_size (by repeat (first | (with_reducible first | exact HB.out|apply wA|apply wN|apply wD |refine wS ?_ GE192.out) | exact HB.out))))) : p := h
theorem z151_ {p : Prop} (h : p := by (rw [hg]; exact (below_size (by repeat (first | (with_reducible first | exact HB.out|apply wA|apply wN|apply wD |refine wS ?_ GE213.out) | exact HB.out))))) : p := h
theorem z152_ {p : Prop} (h : p := by ((with_reducible repeat (first | apply rA|apply rN|apply rW)); exact Kd.R_mono HO_294000.out (fun _ hk => ⟨hk.1.2, ⟨hk.2, ⟨hk.1.1.1, hk.1.1.2⟩⟩⟩))) : p := h
theorem z153_ {p : Prop} (h : p := by ((with_reducible repeat (first | apply rA|apply rN|apply rW)); exact Kd.R_mono HO_294001.out (fun _ hk => ⟨hk.1.2, ⟨hk.2, ⟨hk.1.1.1, hk.1.1.2⟩⟩⟩))) : p := h
theorem z154_ {p : Prop} (h : p := by ((with_reducible repeat (first | apply rA|apply rN|apply rW)); exact Kd.R_mono HO_301000.out (fun _ hk => ⟨hk.1.2, ⟨hk.2, ⟨hk.1.1.1, hk.1.1.2⟩⟩⟩))) : p := h
theorem z155_ {p : Prop} (h : p := by ((with_reducible repeat (first | apply rA|apply rN|apply rW)); exact Kd.R_mono HO_301001.out (fun _ hk => ⟨hk.1.2, ⟨hk.2, ⟨hk.1.1.1, hk.1.1.2⟩⟩⟩))) : p := h
theorem z156_ {p : Prop} (h : p := by ((with_reducible repeat (first | apply rA|apply rN|apply rW)); exact Kd.R_mono HO_315000.out (fun _ hk => ⟨hk.1.2, ⟨hk.2, ⟨hk.1.1.1, hk.1.1.2⟩⟩⟩))) : p := h
theorem z157_ {p : Prop} (h : p := by ((with_reducible repeat (first | apply rA|apply rN|apply rW)); exact Kd.R_mono HO_315001.out (fun _ hk => ⟨hk.1.2, ⟨hk.2, ⟨hk.1.1.1, hk.1.1.2⟩⟩⟩))) : p := h
theorem z158_ {p : Prop} (h : p := by (rw [← hq_]; exact (by repeat (first | (with_reducible first | exact HB.out|apply wA|apply wN|apply wD |refine wS ?_ GE122.out |refine wS ?_ GE123.out |refine wS ?_ GE124.out) | exact HB.out)))) : p := h
theorem z159_ {p : Prop} (h : p := by ((with_reducible repeat (first | apply rA|apply rN|apply rW)); exact Kd.R_mono HO333.out (fun _ hk => ⟨hk.2, ⟨hk.1.1.1.2, ⟨hk.1.1.2, hk.1.2⟩⟩⟩))) : p := h
theorem z160_ {p : Prop} (h : p := by ((with_reducible repeat (first | apply rA|apply rN|apply rW)); exact Kd.R_mono HO336.out (fun _ hk => ⟨hk.2, ⟨hk.1.1.1.2, ⟨hk.1.1.2, hk.1.2⟩⟩⟩))) : p := h
theorem z161_ {p : Prop} (h : p := by ((with_reducible repeat (first | apply rA|apply rN|apply rW)); exact Kd.R_mono HO345.out (fun _ hk => ⟨hk.2, ⟨hk.1.1.1.2, ⟨hk.1.1.2, hk.1.2⟩⟩⟩))) : p := h
theorem z162_ {p : Prop} (h : p := by ((with_reducible repeat (first | apply rA|apply rN|apply rW)); exact Kd.R_mono HO348.out (fun _ hk => ⟨hk.2, ⟨hk.1.1.1.2, ⟨hk.1.1.2, hk.1.2⟩⟩⟩))) : p := h
theorem z163_ {p : Prop} (h : p := by ((with_reducible repeat (first | refine bN ?_ _|refine bW ?_|refine bA ?_ _)); exact BK158.out)) : p := h
theorem z164_ {p : Prop} (h : p := by (rw [hg]; exact Nat.ne_of_lt (blk_lt (g := gb158) (o := .cells #[.string a0_0, .int .i64 a0_1, .int .i64 a0_2, .int .i64 a0_3, .int .i64 a0_4, .int .i64 a0_5] 27 (0, 0)) (by (with_reducible repeat (first | refine bN ?_ _|refine bW ?_|refine bA ?_ _)); exact BK158.out)))) : p := h
theorem z165_ {p : Prop} (h : p := by (rw [hg]; exact Nat.ne_of_gt (blk_lt (g := gb158) (o := .cells #[.string a0_0, .int .i64 a0_1, .int .i64 a0_2, .int .i64 a0_3, .int .i64 a0_4, .int .i64 a0_5] 27 (0, 0)) (by (with_reducible repeat (first | refine bN ?_ _|refine bW ?_|refine bA ?_ _)); exact BK158.out)))) : p := h
theorem z166_ {p : Prop} (h : p := by (rw [hg]; exact Nat.ne_of_lt (blk_lt (g := gb214) (o := .cells #[.string a1_0, .int .i64 a1_1, .int .i64 a1_2, .int .i64 a1_3, .int .i64 a1_4, .int .i64 a1_5] 36 (0, 0)) (by (with_reducible repeat (first | refine bN ?_ _|refine bW ?_|refine bA ?_ _)); exact BK214.out)))) : p := h
theorem z167_ {p : Prop} (h : p := by (rw [hg]; exact Nat.ne_of_gt (blk_lt (g := gb214) (o := .cells #[.string a1_0, .int .i64 a1_1, .int .i64 a1_2, .int .i64 a1_3, .int .i64 a1_4, .int .i64 a1_5] 36 (0, 0)) (by (with_reducible repeat (first | refine bN ?_ _|refine bW ?_|refine bA ?_ _)); exact BK214.out)))) : p := h
theorem z168_ {p : Prop} (h : p := by ((try simp only [hl301000_90]); (try simp only [hl301001_90]); (try simp only [hl315000_124]); (try simp only [hl315001_124]); (with_reducible repeat (first | apply rA|apply rN|apply rW)); exact Kd.R_mono HO_294000.out (fun _ hk => ⟨hk.2.2.1, ⟨hk.2.2.2, hk.2.1⟩⟩))) : p := h
theorem z169_ {p : Prop} (h : p := by ((try simp only [hl301000_90]); (try simp only [hl301001_90]); (try simp only [hl315000_124]); (try simp only [hl315001_124]); (with_reducible repeat (first | apply rA|apply rN|apply rW)); exact Kd.R_mono HO_294001.out (fun _ hk => ⟨hk.2.2.1, ⟨hk.2.2.2, hk.2.1⟩⟩))) : p := h
theorem z170_ {p : Prop} (h : p := by ((try simp only [hl301000_90]); (try simp only [hl301001_90]); (try simp only [hl315000_124]); (try simp only [hl315001_124]); (with_reducible repeat (first | apply rA|apply rN|apply rW)); exact Kd.R_mono HO_301000.out (fun _ hk => ⟨hk.2.2.1, ⟨hk.2.2.2, hk.2.1⟩⟩))) : p := h
theorem z171_ {p : Prop} (h : p := by ((try simp only [hl301000_90]); (try simp only [hl301001_90]); (try simp only [hl315000_124]); (try simp only [hl315001_124]); (with_reducible repeat (first | apply rA|apply rN|apply rW)); exact Kd.R_mono HO_301001.out (fun _ hk => ⟨hk.2.2.1, ⟨hk.2.2.2, hk.2.1⟩⟩))) : p := h
theorem z172_ {p : Prop} (h : p := by ((try simp only [hl301000_90]); (try simp only [hl301001_90]); (try simp only [hl315000_124]); (try simp only [hl315001_124]); (with_reducible repeat (first | apply rA|apply rN|apply rW)); exact Kd.R_mono HO_315000.out (fun _ hk => ⟨hk.2.2.1, ⟨hk.2.2.2, hk.2.1⟩⟩))) : p := h
theorem z173_ {p : Prop} (h : p := by ((try simp only [hl301000_90]); (try simp only [hl301001_90]); (try simp only [hl315000_124]); (try simp only [hl315001_124]); (with_reducible repeat (first | apply rA|apply rN|apply rW)); exact Kd.R_mono HO_315001.out (fun _ hk => ⟨hk.2.2.1, ⟨hk.2.2.2, hk.2.1⟩⟩))) : p := h
theorem z174_ {p : Prop} (h : p := by ((try simp only [hl301000_90]); (try simp only [hl301001_90]); (try simp only [hl315000_124]); (try simp only [hl315001_124]); (with_reducible repeat (first | apply rA|apply rN|apply rW)); exact Kd.R_mono HO345.out (fun _ hk => ⟨hk.2.1, ⟨hk.2.2.1, hk.2.2.2⟩⟩))) : p := h
theorem z175_ {p : Prop} (h : p := by ((try simp only [hl301000_90]); (try simp only [hl301001_90]); (try simp only [hl315000_124]); (try simp only [hl315001_124]); (with_reducible repeat (first | apply rA|apply rN|apply rW)); exact Kd.R_mono HO348.out (fun _ hk => ⟨hk.2.1, ⟨hk.2.2.1, hk.2.2.2⟩⟩))) : p := h
theorem z176_ {p : Prop} (h : p := by (repeat (first | (with_reducible first | exact HK.out | apply Kept.alloc | apply Kept.drewN | apply Kept.drew | refine Kept.setCell ?_ (.inr GW254.out) _) | exact HK.out))) : p := h
theorem z177_ {p : Prop} (h : p := by ((with_reducible repeat (first | apply rA|apply rN|apply rW)); exact HO_3.out)) : p := h
theorem z178_ {p : Prop} (h : p := by (rw [hg]; exact Nat.ne_of_lt (blk_lt (g := gb172) (o := .cells #[.slice A0_0 l0_0.length c0_0, .slice A0_1 l0_1.length c0_1] 25 (0, 0)) (by (with_reducible repeat (first | refine bN ?_ _|refine bW ?_|refine bA ?_ _)); exact BK172.out)))) : p := h
theorem z179_ {p : Prop} (h : p := by (rw [hg]; exact Nat.ne_of_gt (blk_lt (g := gb172) (o := .cells #[.slice A0_0 l0_0.length c0_0, .slice A0_1 l0_1.length c0_1] 25 (0, 0)) (by (with_reducible repeat (first | refine bN ?_ _|refine bW ?_|refine bA ?_ _)); exact BK172.out)))) : p := h
theorem z180_ {p : Prop} (h : p := by (rw [hg]; exact Nat.ne_of_lt (blk_lt (g := gb192) (o := .cells #[.slice A0_0 l0_0.length c0_0, .slice A0_1 l0_1.length c0_1] 32 (0, 0)) (by (with_reducible repeat (first | refine bN ?_ _|refine bW ?_|refine bA ?_ _)); exact BK192.out)))) : p := h
theorem z181_ {p : Prop} (h : p := by (rw [hg]; exact Nat.ne_of_gt (blk_lt (g := gb192) (o := .cells #[.slice A0_0 l0_0.length c0_0, .slice A0_1 l0_1.length c0_1] 32 (0, 0)) (by (with_reducible repeat (first | refine bN ?_ _|refine bW ?_|refine bA ?_ _)); exact BK192.out)))) : p := h
theorem z182_ {p : Prop} (h : p := by (repeat (first | (with_reducible first | exact HB.out|apply wA|apply wN|apply wD |refine wS ?_ GE158.out |refine wS ?_ GE159.out) | exact HB.out))) : p := h
theorem z183_ {p : Prop} (h : p := by (repeat (first | (with_reducible first | exact HB.out|apply wA|apply wN|apply wD |refine wS ?_ GE172.out |refine wS ?_ GE173.out) | exact HB.out))) : p := h
theorem z184_ {p : Prop} (h : p := by ((with_reducible repeat (first | apply rA|apply rN|apply rW)); exact Kd.R_mono HO134.out (fun _ hk => hk.2))) : p := h
theorem z185_ {p : Prop} (h : p := by ((with_reducible repeat (first | apply rA|apply rN|apply rW)); exact Kd.R_mono HO276.out (fun _ hk => hk.2))) : p := h
theorem z186_ {p : Prop} (h : p := by ((with_reducible repeat (first | apply rA|apply rN|apply rW)); exact Kd.R_mono HO279.out (fun _ hk => hk.2))) : p := h
theorem z187_ {p : Prop} (h : p := by ((with_reducible repeat (first | apply rA|apply rN|apply rW)); exact Kd.R_mono HO288.out (fun _ hk => hk.2))) : p := h
theorem z188_ {p : Prop} (h : p := by ((with_reducible repeat (first | apply rA|apply rN|apply rW)); exact Kd.R_mono HO291.out (fun _ hk => hk.2))) : p := h
theorem z189_ {p : Prop} (h : p := by ((try simp only [hl301000_90]); (try simp only [hl301001_90]); (try simp only [hl315000_124]); (try simp only [hl315001_124]); (with_reducible repeat (first | apply rA|apply rN|apply rW)); exact HO_294000.out)) : p := h
theorem z190_ {p : Prop} (h : p := by ((try simp only [hl301000_90]); (try simp only [hl301001_90]); (try simp only [hl315000_124]); (try simp only [hl315001_124]); (with_reducible repeat (first | apply rA|apply rN|apply rW)); exact HO_294001.out)) : p := h
theorem z191_ {p : Prop} (h : p := by ((try simp only [hl301000_90]); (try simp only [hl301001_90]); (try simp only [hl315000_124]); (try simp only [hl315001_124]); (with_reducible repeat (first | apply rA|apply rN|apply rW)); exact HO_301000.out)) : p := h
theorem z192_ {p : Prop} (h : p := by ((try simp only [hl301000_90]); (try simp only [hl301001_90]); (try simp only [hl315000_124]); (try simp only [hl315001_124]); (with_reducible repeat (first | apply rA|apply rN|apply rW)); exact HO_301001.out)) : p := h
theorem z193_ {p : Prop} (h : p := by ((try simp only [hl301000_90]); (try simp only [hl301001_90]); (try simp only [hl315000_124]); (try simp only [hl315001_124]); (with_reducible repeat (first | apply rA|apply rN|apply rW)); exact HO_315000.out)) : p := h
theorem z194_ {p : Prop} (h : p := by ((try simp only [hl301000_90]); (try simp only [hl301001_90]); (try simp only [hl315000_124]); (try simp only [hl315001_124]); (with_reducible repeat (first | apply rA|apply rN|apply rW)); exact HO_315001.out)) : p := h
theorem z195_ {p : Prop} (h : p := by (rw [hg]; exact (below_size (by repeat (first | (with_reducible first | exact HB.out|apply wA|apply wN|apply wD |refine wS ?_ GE270.out |refine wS ?_ GE271.out |refine wS ?_ GE293.out) | exact HB.out))))) : p := h
theorem z196_ {p : Prop} (h : p := by (have := HJ3.out; have := HJ11.out; have := HJ22.out; have := HJ78.out; have := HJ82.out; have := HJ90.out; have := HJ120.out; have := HJ124.out; have := HJ134.out; first | omega | exact Nat.le_refl _)) : p := h
theorem z197_ {p : Prop} (h : p := by (have := HK1.out; omega)) : p := h
theorem z198_ {p : Prop} (h : p := by ((with_reducible repeat (first | apply rA|apply rN|apply rW)); exact HO229.out)) : p := h
theorem z199_ {p : Prop} (h : p := by ((with_reducible repeat (first | apply rA|apply rN|apply rW)); exact Kd.R_mono HO309.out (fun _ hk => ⟨hk.1.1.2, ⟨hk.1.2, hk.2⟩⟩))) : p := h
theorem z200_ {p : Prop} (h : p := by ((with_reducible repeat (first | apply rA|apply rN|apply rW)); exact Kd.R_mono HO312.out (fun _ hk => ⟨hk.1.1.2, ⟨hk.1.2, hk.2⟩⟩))) : p := h
theorem z201_ {p : Prop} (h : p := by ((with_reducible repeat (first | apply rA|apply rN|apply rW)); exact Kd.R_mono HO276.out (fun _ hk => ⟨hk.1.1, ⟨hk.1.2, hk.2⟩⟩))) : p := h
theorem z202_ {p : Prop} (h : p := by ((with_reducible repeat (first | apply rA|apply rN|apply rW)); exact Kd.R_mono HO279.out (fun _ hk => ⟨hk.1.1, ⟨hk.1.2, hk.2⟩⟩))) : p := h
theorem z203_ {p : Prop} (h : p := by ((with_reducible repeat (first | apply rA|apply rN|apply rW)); exact Kd.R_mono HO288.out (fun _ hk => ⟨hk.1.1, ⟨hk.1.2, hk.2⟩⟩))) : p := h
theorem z204_ {p : Prop} (h : p := by ((with_reducible repeat (first | apply rA|apply rN|apply rW)); exact Kd.R_mono HO291.out (fun _ hk => ⟨hk.1.1, ⟨hk.1.2, hk.2⟩⟩))) : p := h
theorem z205_ {p : Prop} (h : p := by ((with_reducible repeat (first | apply rA|apply rN|apply rW)); exact Kd.R_mono HO296.out (fun _ hk => ⟨hk.1.1, ⟨hk.1.2, hk.2⟩⟩))) : p := h
theorem z206_ {p : Prop} (h : p := by ((with_reducible repeat (first | apply rA|apply rN|apply rW)); exact Kd.R_mono HO299.out (fun _ hk => ⟨hk.1.1, ⟨hk.1.2, hk.2⟩⟩))) : p := h
theorem z207_ {p : Prop} (h : p := by ((with_reducible repeat (first | refine bN ?_ _|refine bW ?_|refine bA ?_ _)); exact BK173.out)) : p := h
theorem z208_ {p : Prop} (h : p := by (have := HJ3.out; have := HJ11.out; have := HJ22.out; have := HJ78.out; have := HJ82.out; first | omega | exact Nat.le_refl _)) : p := h
theorem z209_ {p : Prop} (h : p := by (first | omega | exact Nat.le_refl _)) : p := h
theorem z210_ {p : Prop} (h : p := by (repeat (first | (with_reducible first | exact HB.out|apply wA|apply wN|apply wD |refine wS ?_ GE158.out) | exact HB.out))) : p := h
theorem z211_ {p : Prop} (h : p := by (repeat (first | (with_reducible first | exact HB.out|apply wA|apply wN|apply wD |refine wS ?_ GE172.out) | exact HB.out))) : p := h
theorem z212_ {p : Prop} (h : p := by (repeat (first | (with_reducible first | exact HB.out|apply wA|apply wN|apply wD |refine wS ?_ GE270.out) | exact HB.out))) : p := h
theorem z213_ {p : Prop} (h : p := by (rw [hg]; exact (below_size (by repeat (first | (with_reducible first | exact HB.out|apply wA|apply wN|apply wD |refine wS ?_ GE158.out |refine wS ?_ GE159.out) | exact HB.out))))) : p := h
theorem z214_ {p : Prop} (h : p := by (rw [hg]; exact (below_size (by repeat (first | (with_reducible first | exact HB.out|apply wA|apply wN|apply wD |refine wS ?_ GE172.out |refine wS ?_ GE173.out) | exact HB.out))))) : p := h
theorem z215_ {p : Prop} (h : p := by (rw [← hq_]; exact (by (with_reducible repeat (first | refine bN ?_ _|refine bW ?_|refine bA ?_ _)); exact BK122.out))) : p := h
theorem z216_ {p : Prop} (h : p := by (rw [← hq_]; exact (by (with_reducible repeat (first | refine bN ?_ _|refine bW ?_|refine bA ?_ _)); exact BK123.out))) : p := h
theorem z217_ {p : Prop} (h : p := by (rw [← hq_]; exact (by (with_reducible repeat (first | refine bN ?_ _|refine bW ?_|refine bA ?_ _)); exact BK124.out))) : p := h
theorem z218_ {p : Prop} (h : p := by (repeat (first | exact Below.refl _ _ | apply pw_below_drewN | apply below_drew1))) : p := h
theorem z219_ {p : Prop} (h : p := by ((with_reducible repeat (first | apply rA|apply rN|apply rW)); exact HO141.out)) : p := h
theorem z220_ {p : Prop} (h : p := by ((try simp only [hl301000_90]); (try simp only [hl301001_90]); (with_reducible repeat (first | refine bN ?_ _|refine bW ?_|refine bA ?_ _)); exact BK270.out)) : p := h
theorem z221_ {p : Prop} (h : p := by ((try simp only [hl301000_90]); (try simp only [hl301001_90]); (with_reducible repeat (first | refine bN ?_ _|refine bW ?_|refine bA ?_ _)); exact BK271.out)) : p := h
theorem z222_ {p : Prop} (h : p := by ((try simp only [hl301000_90]); (try simp only [hl301001_90]); (with_reducible repeat (first | refine bN ?_ _|refine bW ?_|refine bA ?_ _)); exact BK293.out)) : p := h
theorem z223_ {p : Prop} (h : p := by ((try simp only [hl301000_90]); (try simp only [hl301001_90]); (with_reducible repeat (first | refine bN ?_ _|refine bW ?_|refine bA ?_ _)); exact BK300.out)) : p := h
theorem z224_ {p : Prop} (h : p := by ((try simp only [hl301000_90]); (try simp only [hl301001_90]); (with_reducible repeat (first | refine bN ?_ _|refine bW ?_|refine bA ?_ _)); exact BK314.out)) : p := h
theorem z225_ {p : Prop} (h : p := by (first | rfl | simp)) : p := h
theorem z226_ {p : Prop} (h : p := by (rw [hg]; exact (below_size (by repeat (first | (with_reducible first | exact HB.out|apply wA|apply wN|apply wD |refine wS ?_ GE158.out) | exact HB.out))))) : p := h
theorem z227_ {p : Prop} (h : p := by (rw [hg]; exact (below_size (by repeat (first | (with_reducible first | exact HB.out|apply wA|apply wN|apply wD |refine wS ?_ GE172.out) | exact HB.out))))) : p := h
theorem z228_ {p : Prop} (h : p := by (rw [hg]; exact (below_size (by repeat (first | (with_reducible first | exact HB.out|apply wA|apply wN|apply wD |refine wS ?_ GE270.out) | exact HB.out))))) : p := h
theorem z229_ {p : Prop} (h : p := by ((try simp only [hl301000_90]); (try simp only [hl301001_90]); (with_reducible repeat (first | apply rA|apply rN|apply rW)); exact HO_294000.out)) : p := h
theorem z230_ {p : Prop} (h : p := by ((try simp only [hl301000_90]); (try simp only [hl301001_90]); (with_reducible repeat (first | apply rA|apply rN|apply rW)); exact HO_294001.out)) : p := h
theorem z231_ {p : Prop} (h : p := by ((try simp only [hl301000_90]); (try simp only [hl301001_90]); (with_reducible repeat (first | apply rA|apply rN|apply rW)); exact HO_301000.out)) : p := h
theorem z232_ {p : Prop} (h : p := by ((try simp only [hl301000_90]); (try simp only [hl301001_90]); (with_reducible repeat (first | apply rA|apply rN|apply rW)); exact HO_301001.out)) : p := h
theorem z233_ {p : Prop} (h : p := by ((try simp only [hl301000_90]); (try simp only [hl301001_90]); (with_reducible repeat (first | apply rA|apply rN|apply rW)); exact HO_315000.out)) : p := h
theorem z234_ {p : Prop} (h : p := by ((try simp only [hl301000_90]); (try simp only [hl301001_90]); (with_reducible repeat (first | apply rA|apply rN|apply rW)); exact HO_315001.out)) : p := h
theorem z235_ {p : Prop} (h : p := by ((with_reducible repeat (first | refine bN ?_ _|refine bW ?_|refine bA ?_ _)); exact BK159.out)) : p := h
theorem z236_ {p : Prop} (h : p := by ((with_reducible repeat (first | refine bN ?_ _|refine bW ?_|refine bA ?_ _)); exact BK193.out)) : p := h
theorem z237_ {p : Prop} (h : p := by (have := HK1.out; first | omega | exact Nat.le_refl _)) : p := h
theorem z238_ {p : Prop} (h : p := by (rw [hw]; exact below_set (HB.out) GB6.out)) : p := h
theorem z239_ {p : Prop} (h : p := by ((with_reducible repeat (first | apply rA|apply rN|apply rW)); exact HO_351000.out)) : p := h
theorem z240_ {p : Prop} (h : p := by ((with_reducible repeat (first | apply rA|apply rN|apply rW)); exact HO_351001.out)) : p := h
theorem z241_ {p : Prop} (h : p := by (repeat (first | (with_reducible first | exact HB.out|apply wA|apply wN|apply wD |refine wS ?_ GE101.out) | exact HB.out))) : p := h
theorem z242_ {p : Prop} (h : p := by (rw [← HY.out]; (with_reducible repeat (first | apply Kd.R_alloc | apply Kd.R_drewN | apply Kd.R_drew)); exact HO174.out)) : p := h
theorem z243_ {p : Prop} (h : p := by ((with_reducible repeat (first | apply rA|apply rN|apply rW)); exact Kd.R_mono HO288.out (fun _ hk => ⟨hk.2.1, hk.2.2⟩))) : p := h
theorem z244_ {p : Prop} (h : p := by ((with_reducible repeat (first | apply rA|apply rN|apply rW)); exact Kd.R_mono HO291.out (fun _ hk => ⟨hk.2.1, hk.2.2⟩))) : p := h
theorem z245_ {p : Prop} (h : p := by ((with_reducible repeat (first | apply rA|apply rN|apply rW)); exact Kd.R_mono HO296.out (fun _ hk => ⟨hk.2.1, hk.2.2⟩))) : p := h
theorem z246_ {p : Prop} (h : p := by ((with_reducible repeat (first | apply rA|apply rN|apply rW)); exact Kd.R_mono HO299.out (fun _ hk => ⟨hk.2.1, hk.2.2⟩))) : p := h
theorem z247_ {p : Prop} (h : p := by ((with_reducible repeat (first | apply rA|apply rN|apply rW)); exact Kd.R_mono HO309.out (fun _ hk => ⟨hk.2.1, hk.2.2⟩))) : p := h
theorem z248_ {p : Prop} (h : p := by ((with_reducible repeat (first | apply rA|apply rN|apply rW)); exact Kd.R_mono HO312.out (fun _ hk => ⟨hk.2.1, hk.2.2⟩))) : p := h
theorem z249_ {p : Prop} (h : p := by ((with_reducible repeat (first | apply rA|apply rN|apply rW)); exact Kd.R_mono HO226.out (fun _ hk => ⟨hk.1.2, hk.2⟩))) : p := h
theorem z250_ {p : Prop} (h : p := by ((with_reducible repeat (first | apply rA|apply rN|apply rW)); exact Kd.R_mono HO229.out (fun _ hk => ⟨hk.2, hk.1.2⟩))) : p := h
theorem z251_ {p : Prop} (h : p := by ((with_reducible repeat (first | apply rA|apply rN|apply rW)); exact HO0.out)) : p := h
theorem z252_ {p : Prop} (h : p := by (have := HJ1.out; have := HK2.out; omega)) : p := h



def errW : Option Int → Value
  | none => .nilIface
  | some c => .iface 0 (.int .i64 c)
theorem errW_none : errW none = .nilIface := rfl
theorem errW_some (c : Int) : errW (some c) = .iface 0 (.int .i64 c) := rfl

theorem info2 : (Try.prog.info? 2).map (fun i => (i.zero, i.size, i.bytes)) = some (some (.int .i64 0), 1, 8) := by kernel_rfl
theorem info5 : (Try.prog.info? 5).map (fun i => (i.zero, i.size, i.bytes)) = some (some (.int .u8 0), 1, 1) := by kernel_rfl
theorem info36 : (Try.prog.info? 36).map (fun i => (i.zero, i.size, i.bytes)) = some (some (.agg #[(.string ⟨#[]⟩), (.int .i64 0), (.int .i64 0), (.int .i64 0), (.int .i64 0), (.int .i64 0)]), 6, 56) := by kernel_rfl
-- the values' own types
/-! #### struct type 27 -/
structure S27 where
  f0 : ByteArray
  f1 : Int
  f2 : Int
  f3 : Int
  f4 : Int
  f5 : Int
def z27 : S27 := ⟨(⟨#[]⟩ : ByteArray), (0 : Int), (0 : Int), (0 : Int), (0 : Int), (0 : Int)⟩
def k27 : Kd S27 := Kd.iso (Kd.pair Kd.string (Kd.pair (Kd.int .i64) (Kd.pair (Kd.int .i64) (Kd.pair (Kd.int .i64) (Kd.pair (Kd.int .i64) (Kd.int .i64)))))) (fun x : S27 => (x.f0, x.f1, x.f2, x.f3, x.f4, x.f5))
theorem k27_open {w : World} {x : S27} {cs : List Value} (h : k27.K w x cs) : cs = [.string x.f0, .int .i64 x.f1, .int .i64 x.f2, .int .i64 x.f3, .int .i64 x.f4, .int .i64 x.f5] := by
  obtain ⟨_, _, rfl, rfl, ⟨_, _, rfl, rfl, ⟨_, _, rfl, rfl, ⟨_, _, rfl, rfl, ⟨_, _, rfl, rfl, rfl⟩⟩⟩⟩⟩ := h
  exact rfl
theorem k27_openM {w : World} {base : Nat} {ok : Nat → Prop} {x : S27} {cs : List Value} (h : k27.M w base ok x cs) : cs = [.string x.f0, .int .i64 x.f1, .int .i64 x.f2, .int .i64 x.f3, .int .i64 x.f4, .int .i64 x.f5] := by
  obtain ⟨_, _, rfl, rfl, ⟨_, _, rfl, rfl, ⟨_, _, rfl, rfl, ⟨_, _, rfl, rfl, ⟨_, _, rfl, rfl, rfl⟩⟩⟩⟩⟩ := h
  exact rfl
theorem k27_mk (w : World) (x : S27)  : k27.K w x [.string x.f0, .int .i64 x.f1, .int .i64 x.f2, .int .i64 x.f3, .int .i64 x.f4, .int .i64 x.f5] := ⟨[.string x.f0], [.int .i64 x.f1, .int .i64 x.f2, .int .i64 x.f3, .int .i64 x.f4, .int .i64 x.f5], rfl, rfl, ⟨[.int .i64 x.f1], [.int .i64 x.f2, .int .i64 x.f3, .int .i64 x.f4, .int .i64 x.f5], rfl, rfl, ⟨[.int .i64 x.f2], [.int .i64 x.f3, .int .i64 x.f4, .int .i64 x.f5], rfl, rfl, ⟨[.int .i64 x.f3], [.int .i64 x.f4, .int .i64 x.f5], rfl, rfl, ⟨[.int .i64 x.f4], [.int .i64 x.f5], rfl, rfl, rfl⟩⟩⟩⟩⟩
theorem k27_mkM (w : World) (base : Nat) (ok : Nat → Prop) (x : S27)  : k27.M w base ok x [.string x.f0, .int .i64 x.f1, .int .i64 x.f2, .int .i64 x.f3, .int .i64 x.f4, .int .i64 x.f5] := ⟨[.string x.f0], [.int .i64 x.f1, .int .i64 x.f2, .int .i64 x.f3, .int .i64 x.f4, .int .i64 x.f5], rfl, rfl, ⟨[.int .i64 x.f1], [.int .i64 x.f2, .int .i64 x.f3, .int .i64 x.f4, .int .i64 x.f5], rfl, rfl, ⟨[.int .i64 x.f2], [.int .i64 x.f3, .int .i64 x.f4, .int .i64 x.f5], rfl, rfl, ⟨[.int .i64 x.f3], [.int .i64 x.f4, .int .i64 x.f5], rfl, rfl, ⟨[.int .i64 x.f4], [.int .i64 x.f5], rfl, rfl, rfl⟩⟩⟩⟩⟩
def rd_T27 (xs : List S27) (i : Int) : S27 := xs.getD i.toNat z27
theorem at_T27 {w : World} {A : Option Addr} {n : Nat} {xs : List S27} (h : Kd.C k27 w A n xs) (i : Int) (h0 : 0 ≤ i) (h1 : i < n) : ∃ ad , A = some ad ∧ w.cell? (ad.add (i.toNat * 6)) = some (.string (rd_T27 xs i).f0) ∧ w.cell? ⟨(ad.add (i.toNat * 6)).block, (ad.add (i.toNat * 6)).off + 1, none⟩ = some (.int .i64 (rd_T27 xs i).f1) ∧ w.cell? ⟨(ad.add (i.toNat * 6)).block, (ad.add (i.toNat * 6)).off + 2, none⟩ = some (.int .i64 (rd_T27 xs i).f2) ∧ w.cell? ⟨(ad.add (i.toNat * 6)).block, (ad.add (i.toNat * 6)).off + 3, none⟩ = some (.int .i64 (rd_T27 xs i).f3) ∧ w.cell? ⟨(ad.add (i.toNat * 6)).block, (ad.add (i.toNat * 6)).off + 4, none⟩ = some (.int .i64 (rd_T27 xs i).f4) ∧ w.cell? ⟨(ad.add (i.toNat * 6)).block, (ad.add (i.toNat * 6)).off + 5, none⟩ = some (.int .i64 (rd_T27 xs i).f5) := by
  obtain ⟨ad, c, e, _, hK, hc0⟩ := Kd.C_get h z27 i h0 h1
  have hc : ∀ j u, c[j]? = some u → w.cell? (ad.add (i.toNat * 6 + j)) = some u := hc0
  obtain rfl := k27_open hK
  exact ⟨ad, e, hc 0 _ rfl, by rw [← add_field _ _ 1 (by omega)]; exact hc 1 _ rfl, by rw [← add_field _ _ 2 (by omega)]; exact hc 2 _ rfl, by rw [← add_field _ _ 3 (by omega)]; exact hc 3 _ rfl, by rw [← add_field _ _ 4 (by omega)]; exact hc 4 _ rfl, by rw [← add_field _ _ 5 (by omega)]; exact hc 5 _ rfl⟩

def rd_L4 (xs : List (List Int)) (i : Int) : (List Int) := xs.getD i.toNat ([] : List Int)
theorem at_L4 {w : World} {A : Option Addr} {n : Nat} {xs : List (List Int)} (h : Kd.C (Kd.slice 2 (Kd.int .i64)) w A n xs) (i : Int) (h0 : 0 ≤ i) (h1 : i < n) : ∃ ad A0 c0, A = some ad ∧ w.cell? (ad.add i.toNat) = some (.slice A0 (rd_L4 xs i).length c0) ∧ (rd_L4 xs i).length ≤ c0 ∧ (Kd.int .i64).C w A0 (rd_L4 xs i).length (rd_L4 xs i) := by
  obtain ⟨ad, c, e, _, hK, hc0⟩ := Kd.C_get h ([] : List Int) i h0 h1
  have hc : ∀ j u, c[j]? = some u → w.cell? (ad.add (i.toNat * 1 + j)) = some u := hc0
  obtain ⟨A0, c0, rfl, l0, g0⟩ := hK
  exact ⟨ad, A0, c0, e, by have hq := hc 0 _ rfl; rwa [Nat.mul_one, Nat.add_zero] at hq, l0, g0⟩

/-! #### struct type 36 -/
structure S36 where
  f0 : ByteArray
  f1 : Int
  f2 : Int
  f3 : Int
  f4 : Int
  f5 : Int
def z36 : S36 := ⟨(⟨#[]⟩ : ByteArray), (0 : Int), (0 : Int), (0 : Int), (0 : Int), (0 : Int)⟩
def k36 : Kd S36 := Kd.iso (Kd.pair Kd.string (Kd.pair (Kd.int .i64) (Kd.pair (Kd.int .i64) (Kd.pair (Kd.int .i64) (Kd.pair (Kd.int .i64) (Kd.int .i64)))))) (fun x : S36 => (x.f0, x.f1, x.f2, x.f3, x.f4, x.f5))
theorem k36_open {w : World} {x : S36} {cs : List Value} (h : k36.K w x cs) : cs = [.string x.f0, .int .i64 x.f1, .int .i64 x.f2, .int .i64 x.f3, .int .i64 x.f4, .int .i64 x.f5] := by
  obtain ⟨_, _, rfl, rfl, ⟨_, _, rfl, rfl, ⟨_, _, rfl, rfl, ⟨_, _, rfl, rfl, ⟨_, _, rfl, rfl, rfl⟩⟩⟩⟩⟩ := h
  exact rfl
theorem k36_openM {w : World} {base : Nat} {ok : Nat → Prop} {x : S36} {cs : List Value} (h : k36.M w base ok x cs) : cs = [.string x.f0, .int .i64 x.f1, .int .i64 x.f2, .int .i64 x.f3, .int .i64 x.f4, .int .i64 x.f5] := by
  obtain ⟨_, _, rfl, rfl, ⟨_, _, rfl, rfl, ⟨_, _, rfl, rfl, ⟨_, _, rfl, rfl, ⟨_, _, rfl, rfl, rfl⟩⟩⟩⟩⟩ := h
  exact rfl
theorem k36_mk (w : World) (x : S36)  : k36.K w x [.string x.f0, .int .i64 x.f1, .int .i64 x.f2, .int .i64 x.f3, .int .i64 x.f4, .int .i64 x.f5] := ⟨[.string x.f0], [.int .i64 x.f1, .int .i64 x.f2, .int .i64 x.f3, .int .i64 x.f4, .int .i64 x.f5], rfl, rfl, ⟨[.int .i64 x.f1], [.int .i64 x.f2, .int .i64 x.f3, .int .i64 x.f4, .int .i64 x.f5], rfl, rfl, ⟨[.int .i64 x.f2], [.int .i64 x.f3, .int .i64 x.f4, .int .i64 x.f5], rfl, rfl, ⟨[.int .i64 x.f3], [.int .i64 x.f4, .int .i64 x.f5], rfl, rfl, ⟨[.int .i64 x.f4], [.int .i64 x.f5], rfl, rfl, rfl⟩⟩⟩⟩⟩
theorem k36_mkM (w : World) (base : Nat) (ok : Nat → Prop) (x : S36)  : k36.M w base ok x [.string x.f0, .int .i64 x.f1, .int .i64 x.f2, .int .i64 x.f3, .int .i64 x.f4, .int .i64 x.f5] := ⟨[.string x.f0], [.int .i64 x.f1, .int .i64 x.f2, .int .i64 x.f3, .int .i64 x.f4, .int .i64 x.f5], rfl, rfl, ⟨[.int .i64 x.f1], [.int .i64 x.f2, .int .i64 x.f3, .int .i64 x.f4, .int .i64 x.f5], rfl, rfl, ⟨[.int .i64 x.f2], [.int .i64 x.f3, .int .i64 x.f4, .int .i64 x.f5], rfl, rfl, ⟨[.int .i64 x.f3], [.int .i64 x.f4, .int .i64 x.f5], rfl, rfl, ⟨[.int .i64 x.f4], [.int .i64 x.f5], rfl, rfl, rfl⟩⟩⟩⟩⟩
def rd_T36 (xs : List S36) (i : Int) : S36 := xs.getD i.toNat z36
theorem at_T36 {w : World} {A : Option Addr} {n : Nat} {xs : List S36} (h : Kd.C k36 w A n xs) (i : Int) (h0 : 0 ≤ i) (h1 : i < n) : ∃ ad , A = some ad ∧ w.cell? (ad.add (i.toNat * 6)) = some (.string (rd_T36 xs i).f0) ∧ w.cell? ⟨(ad.add (i.toNat * 6)).block, (ad.add (i.toNat * 6)).off + 1, none⟩ = some (.int .i64 (rd_T36 xs i).f1) ∧ w.cell? ⟨(ad.add (i.toNat * 6)).block, (ad.add (i.toNat * 6)).off + 2, none⟩ = some (.int .i64 (rd_T36 xs i).f2) ∧ w.cell? ⟨(ad.add (i.toNat * 6)).block, (ad.add (i.toNat * 6)).off + 3, none⟩ = some (.int .i64 (rd_T36 xs i).f3) ∧ w.cell? ⟨(ad.add (i.toNat * 6)).block, (ad.add (i.toNat * 6)).off + 4, none⟩ = some (.int .i64 (rd_T36 xs i).f4) ∧ w.cell? ⟨(ad.add (i.toNat * 6)).block, (ad.add (i.toNat * 6)).off + 5, none⟩ = some (.int .i64 (rd_T36 xs i).f5) := by
  obtain ⟨ad, c, e, _, hK, hc0⟩ := Kd.C_get h z36 i h0 h1
  have hc : ∀ j u, c[j]? = some u → w.cell? (ad.add (i.toNat * 6 + j)) = some u := hc0
  obtain rfl := k36_open hK
  exact ⟨ad, e, hc 0 _ rfl, by rw [← add_field _ _ 1 (by omega)]; exact hc 1 _ rfl, by rw [← add_field _ _ 2 (by omega)]; exact hc 2 _ rfl, by rw [← add_field _ _ 3 (by omega)]; exact hc 3 _ rfl, by rw [← add_field _ _ 4 (by omega)]; exact hc 4 _ rfl, by rw [← add_field _ _ 5 (by omega)]; exact hc 5 _ rfl⟩

def rd_L6 (xs : List (List S36)) (i : Int) : (List S36) := xs.getD i.toNat ([] : List S36)
theorem at_L6 {w : World} {A : Option Addr} {n : Nat} {xs : List (List S36)} (h : Kd.C (Kd.slice 36 k36) w A n xs) (i : Int) (h0 : 0 ≤ i) (h1 : i < n) : ∃ ad A0 c0, A = some ad ∧ w.cell? (ad.add i.toNat) = some (.slice A0 (rd_L6 xs i).length c0) ∧ (rd_L6 xs i).length ≤ c0 ∧ k36.C w A0 (rd_L6 xs i).length (rd_L6 xs i) := by
  obtain ⟨ad, c, e, _, hK, hc0⟩ := Kd.C_get h ([] : List S36) i h0 h1
  have hc : ∀ j u, c[j]? = some u → w.cell? (ad.add (i.toNat * 1 + j)) = some u := hc0
  obtain ⟨A0, c0, rfl, l0, g0⟩ := hK
  exact ⟨ad, A0, c0, e, by have hq := hc 0 _ rfl; rwa [Nat.mul_one, Nat.add_zero] at hq, l0, g0⟩

end Go.Proofs.Ytcnbceiiimmgaaa.PFnExactAddPipe
