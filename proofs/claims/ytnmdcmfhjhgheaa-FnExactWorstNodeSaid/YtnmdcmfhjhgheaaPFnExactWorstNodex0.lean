-- Printed by a program of this session (wip/hprint.sh: the kit's print with hand-proved contracts put in); not by print.sh itself.
import Derived.Test.YtnmdcmfhjhgheaaProg
import Derived.Below
import Derived.Deep.Draws
import Derived.Deep.AppendLies
import Derived.Maps.AppendAt
import Derived.OwnWalk
import Derived.Laws.BytesArg
import Derived.Laws.MakeOwn
import Derived.Laws.OwnMore
import Derived.Deep.OwnRows
import Derived.Tactics
import Derived.Lib.ConvBytes
import Derived.Laws.Slices
import Derived.WalkKit
import Derived.KernelRfl
import Derived.RowKit3
import Derived.Deep.LoopGhost
import Derived.Deep.QuietTactic
import Derived.BigQuiet
import Derived.WideLaws
import Derived.Deep.DeepCutAuto
import Derived.Deep.CutBlock
import Derived.Deep.RegionHeld3
import Derived.Laws.Rows
import Derived.Lib.AppendStr
import Derived.ArgAppend
import Derived.Laws.IdiomCopy
import Derived.OrdersHeld
import Derived.Laws.BitsLemmas
import Derived.RowKit
import Derived.OpenShut
import Derived.Calls
import Derived.Shelf.Abstract
import Derived.WalkSpells
import Derived.WalkLawsBesides
import Derived.Lib.SliceRun
import Derived.Great.BuildSlice
import Derived.Deep.RegionLaw
import Derived.Shelf.RegionOpenPlain
import Derived.Test.YtnmdcmfhjhgheaaMath
import Derived.Test.YtnmdcmfhjhgheaaMathN
import Derived.Test.YtnmdcmfhjhgheaaMathP
import Derived.Test.YtnmdcmfhjhgheaaMathQ
import Derived.Test.YtnmdcmfhjhgheaaMathR
import Derived.Test.YtnmdcmfhjhgheaaSortC
import Derived.Test.YtnmdcmfhjhgheaaWWords
import Derived.Test.YtnmdcmfhjhgheaaWLast
import Derived.Test.YtnmdcmfhjhgheaaWTab
import Derived.Test.YtnmdcmfhjhgheaaWFour
import Derived.Test.YtnmdcmfhjhgheaaWQPut
import Derived.Test.YtnmdcmfhjhgheaaWApart
import Derived.Test.YtnmdcmfhjhgheaaWArr
import Derived.Test.YtnmdcmfhjhgheaaWZeros
import Derived.Test.YtnmdcmfhjhgheaaWFoot
import Derived.Test.YtnmdcmfhjhgheaaWKept
import Derived.Test.YtnmdcmfhjhgheaaWShare
import Derived.Test.YtnmdcmfhjhgheaaWN
import Derived.Test.YtnmdcmfhjhgheaaWFootNe
import Derived.Test.YtnmdcmfhjhgheaaWAt
import Derived.Test.YtnmdcmfhjhgheaaWEqStruct
import Derived.Test.YtnmdcmfhjhgheaaWRepsOne
import Derived.Test.YtnmdcmfhjhgheaaWInv
import Derived.Test.YtnmdcmfhjhgheaaWInvWords
import Derived.Test.YtnmdcmfhjhgheaaWGuard
import Derived.Test.YtnmdcmfhjhgheaaWNEv
import Derived.Test.YtnmdcmfhjhgheaaWMore
namespace Go.Proofs.Ytnmdcmfhjhgheaa.PFnExactWorstNode
open Go.RowKit Go.Proofs.YtnmdcmfhjhgheaaW.PrintWords Go.Proofs.YtnmdcmfhjhgheaaW.PrintLast Go.Proofs.YtnmdcmfhjhgheaaW.PrintMore Go.Proofs.YtnmdcmfhjhgheaaM
attribute [local go_sem] max2_int min2_int max_two min_two max_three min_three max_four min_four   -- for this text's walks alone
set_option linter.unusedVariables false
set_option linter.unusedSimpArgs false
theorem hc_ {w w' : World} {B : Nat} {a : Addr} {v : Value} (h : Aside0 (Below B w w')) (c : w.cell? a = some v) (hB : B = w.heap.size := by rfl) : w'.cell? a = some v := by
  subst hB
  exact (h.out.cell (World.block_lt_of_cell? w _ c)).trans c
theorem am_ {p : Prop} (h : p) : Aside0 p := ⟨h⟩
theorem bt_ {w : World} {g : Nat} {t : TypeId} {cs : Array Value} {v : Value} (h : Aside0 (w.heap[g]? = some (.cells cs t (0, 0)))) (i : Nat) (e : cs[i]? = some v := by exact rfl) : w.cell? ⟨g, i, none⟩ = some v := (blk_cell h.out i).trans e
theorem ob_ {α β : Type} {o : Option α} {f : α → Option β} {b : β} (h : o.bind f = some b) : ∃ a, o = some a ∧ f a = some b := Option.bind_eq_some_iff.mp h
theorem pz_ {P : Program} {ops : Array Oper} {Q : Exit → Act → World → Prop} {md : Region.Mode} {S : World → Prop} {ds : List Nat} (i N : Nat) {oi : Oper} {fuel : Nat} {l : Array Bool} {a a' : Act} {w : World} (l' : Array Bool) {T : _} (HT : Aside0 (rtab md ops = T)) {v : Value}
 (h : wpAnyLast P md ops Q S ds fuel l' a' w) (hi : ops[i]? = some oi := by exact rfl) (hN : oi.dst = some N := by exact rfl) (hc : anyT T l.toList l'.toList i = true := by kernel_rfl)
 (hQ : ∀ c a w, Q (.panic c) (a.put oi.dst v) w → Q (.panic c) a w := by exact fun _ _ _ h => h) (hy : Yields P ops oi v a := by (refine Or.inl ⟨by rfl, ?_⟩; intro w'; go_simp; with_reducible rfl)) (ha : a.put (some N) v = a' := by (simp only [pU,pN,sB,sZ,sS,i64_w,i32_w]; rfl)) : wpAnyLast P md ops Q S ds (fuel + 1) l a w :=
 pure_ l' hi hN (any_of HT.out hc) hQ hy ha h
theorem pu_ {P : Program} {ops : Array Oper} {Q : Exit → Act → World → Prop} {md : Region.Mode} {S : World → Prop} {ds : List Nat} (i N : Nat) {oi : Oper} {fuel : Nat} {l : Array Bool} {a a' : Act} {w : World} (l' : Array Bool) {T : _} (HT : Aside0 (rtab md ops = T))
 (h : wpAnyLast P md ops Q S ds fuel l' a' w) (hi : ops[i]? = some oi := by exact rfl) (hN : oi.dst = some N := by exact rfl) (hc : anyT T l.toList l'.toList i = true := by kernel_rfl)
 (hQ : ∀ c a w, Q (.panic c) (a.put oi.dst undef) w → Q (.panic c) a w := by exact fun _ _ _ h => h) (hy : Yields P ops oi undef a := by exact (Or.inr ⟨by rfl, rfl⟩)) (ha : a.put (some N) undef = a' := by (simp only [pU,pN,sB,sZ,sS,i64_w,i32_w]; rfl)) : wpAnyLast P md ops Q S ds (fuel + 1) l a w :=
 pure_ l' hi hN (any_of HT.out hc) hQ hy ha h
theorem bc0_ (w : World) {g : Nat} {t : TypeId} {a0 : Value} {l : List Value} (h : w.heap[g]? = some (.cells (a0 :: l).toArray t (0, 0))) : w.cell? ⟨g, 0, none⟩ = some a0 := (blk_cell h 0).trans rfl
theorem bc1_ (w : World) {g : Nat} {t : TypeId} {a0 a1 : Value} {l : List Value} (h : w.heap[g]? = some (.cells (a0 :: a1 :: l).toArray t (0, 0))) : w.cell? ⟨g, 1, none⟩ = some a1 := (blk_cell h 1).trans rfl
theorem bc2_ (w : World) {g : Nat} {t : TypeId} {a0 a1 a2 : Value} {l : List Value} (h : w.heap[g]? = some (.cells (a0 :: a1 :: a2 :: l).toArray t (0, 0))) : w.cell? ⟨g, 2, none⟩ = some a2 := (blk_cell h 2).trans rfl
theorem bc3_ (w : World) {g : Nat} {t : TypeId} {a0 a1 a2 a3 : Value} {l : List Value} (h : w.heap[g]? = some (.cells (a0 :: a1 :: a2 :: a3 :: l).toArray t (0, 0))) : w.cell? ⟨g, 3, none⟩ = some a3 := (blk_cell h 3).trans rfl
theorem bc4_ (w : World) {g : Nat} {t : TypeId} {a0 a1 a2 a3 a4 : Value} {l : List Value} (h : w.heap[g]? = some (.cells (a0 :: a1 :: a2 :: a3 :: a4 :: l).toArray t (0, 0))) : w.cell? ⟨g, 4, none⟩ = some a4 := (blk_cell h 4).trans rfl
theorem bc5_ (w : World) {g : Nat} {t : TypeId} {a0 a1 a2 a3 a4 a5 : Value} {l : List Value} (h : w.heap[g]? = some (.cells (a0 :: a1 :: a2 :: a3 :: a4 :: a5 :: l).toArray t (0, 0))) : w.cell? ⟨g, 5, none⟩ = some a5 := (blk_cell h 5).trans rfl
theorem aq_ {P : Prop} {i : Int} {n : Nat} (f : 0 ≤ i → i < (n : Int) → P) (h0 : decide (0 ≤ i) = true) (h1 : decide (i < (n : Int)) = true) : (0 ≤ i) = True ∧ (i < (n : Int)) = True ∧ P := ⟨eq_true (of_decide_eq_true h0), eq_true (of_decide_eq_true h1), f (of_decide_eq_true h0) (of_decide_eq_true h1)⟩
theorem bz6_ (w : World) {g : Nat} {t : TypeId} {a0 a1 a2 a3 a4 a5 : Value} {l : List Value} (h : w.heap[g]? = some (.cells (a0 :: a1 :: a2 :: a3 :: a4 :: a5 :: l).toArray t (0, 0))) : w.cell? ⟨g, 0, none⟩ = some a0 ∧ w.cell? ⟨g, 1, none⟩ = some a1 ∧ w.cell? ⟨g, 2, none⟩ = some a2 ∧ w.cell? ⟨g, 3, none⟩ = some a3 ∧ w.cell? ⟨g, 4, none⟩ = some a4 ∧ w.cell? ⟨g, 5, none⟩ = some a5 ∧ w.frozen? ⟨g, 0, none⟩ = false ∧ w.frozen? ⟨g, 1, none⟩ = false ∧ w.frozen? ⟨g, 2, none⟩ = false ∧ w.frozen? ⟨g, 3, none⟩ = false ∧ w.frozen? ⟨g, 4, none⟩ = false ∧ w.frozen? ⟨g, 5, none⟩ = false := ⟨(blk_cell h 0).trans rfl, (blk_cell h 1).trans rfl, (blk_cell h 2).trans rfl, (blk_cell h 3).trans rfl, (blk_cell h 4).trans rfl, (blk_cell h 5).trans rfl, blk_frozen h 0, blk_frozen h 1, blk_frozen h 2, blk_frozen h 3, blk_frozen h 4, blk_frozen h 5⟩
theorem bz3_ (w : World) {g : Nat} {t : TypeId} {a0 a1 a2 : Value} {l : List Value} (h : w.heap[g]? = some (.cells (a0 :: a1 :: a2 :: l).toArray t (0, 0))) : w.cell? ⟨g, 0, none⟩ = some a0 ∧ w.cell? ⟨g, 1, none⟩ = some a1 ∧ w.cell? ⟨g, 2, none⟩ = some a2 ∧ w.frozen? ⟨g, 0, none⟩ = false ∧ w.frozen? ⟨g, 1, none⟩ = false ∧ w.frozen? ⟨g, 2, none⟩ = false := ⟨(blk_cell h 0).trans rfl, (blk_cell h 1).trans rfl, (blk_cell h 2).trans rfl, blk_frozen h 0, blk_frozen h 1, blk_frozen h 2⟩
theorem bz2_ (w : World) {g : Nat} {t : TypeId} {a0 a1 : Value} {l : List Value} (h : w.heap[g]? = some (.cells (a0 :: a1 :: l).toArray t (0, 0))) : w.cell? ⟨g, 0, none⟩ = some a0 ∧ w.cell? ⟨g, 1, none⟩ = some a1 ∧ w.frozen? ⟨g, 0, none⟩ = false ∧ w.frozen? ⟨g, 1, none⟩ = false := ⟨(blk_cell h 0).trans rfl, (blk_cell h 1).trans rfl, blk_frozen h 0, blk_frozen h 1⟩
theorem pp_ {α : Type} {p : Prop} [Decidable p] {x y : Option α} {z : α} (h : (if p then x else y) = some z) (hn : ¬ y = some z := by simp) : p ∧ x = some z := by
  by_cases c : p
  · rw [if_pos c] at h; exact ⟨c, h⟩
  · rw [if_neg c] at h; exact absurd h hn
theorem pd_ {α : Type} {p : Prop} [Decidable p] {x y : Option α} {z : α} (h : (if p then x else y) = some z) (hn : ¬ y = some z := by simp) : decide p = true ∧ x = some z := ⟨decide_eq_true (pp_ h hn).1, (pp_ h hn).2⟩
theorem z0_ {p : Prop} (h : p := by (first | (with_reducible assumption) | assumption)) : p := h
theorem z1_ {p : Prop} (h : p := by ((try simp only [List.map_toArray, List.map_cons, List.map_nil]); first | done | rfl | (simp only [List.length_drop, List.length_take]; rfl))) : p := h
theorem z2_ {p : Prop} (h : p := by (repeat (first | (with_reducible first | exact HB.out|apply wA|apply wN|apply wD) | exact HB.out))) : p := h
theorem z3_ {p : Prop} (h : p := by (repeat (first | (with_reducible first | exact HB.out|apply wA|apply wN|apply wD |refine wS ?_ GE0.out) | exact HB.out))) : p := h
theorem z4_ {p : Prop} (h : p := by (rw [hg]; exact (below_size (by repeat (first | (with_reducible first | exact HB.out|apply wA|apply wN|apply wD) | exact HB.out))))) : p := h
theorem z5_ {p : Prop} (h : p := by ((with_reducible repeat (first | refine bN ?_ _|refine bW ?_|refine bA ?_ _)); exact BK0.out)) : p := h
theorem z6_ {p : Prop} (h : p := by (first | rfl | (simp [errW_none, errW_some] <;> rfl) | (simp [*, errW_none, errW_some] <;> rfl))) : p := h
theorem z7_ {p : Prop} (h : p := by ((with_reducible repeat (first | refine bN ?_ _|refine bW ?_|refine bA ?_ _)); refine blk_put (cs := #[.string (X1 l0_1 x30_2).f0, .int .i64 (X1 l0_1 x30_2).f1, .int .i64 (X1 l0_1 x30_2).f2, .int .i64 (X1 l0_1 x30_2).f3, .int .i64 (X1 l0_1 x30_2).f4, .int .i64 0]) ?_ 5 _ rfl; (with_reducible repeat (first | refine bN ?_ _|refine bW ?_|refine bA ?_ _)); refine blk_put (cs := #[.string (X1 l0_1 x30_2).f0, .int .i64 (X1 l0_1 x30_2).f1, .int .i64 (X1 l0_1 x30_2).f2, .int .i64 (X1 l0_1 x30_2).f3, .int .i64 0, .int .i64 0]) ?_ 4 _ rfl; (with_reducible repeat (first | refine bN ?_ _|refine bW ?_|refine bA ?_ _)); refine blk_put (cs := #[.string (X1 l0_1 x30_2).f0, .int .i64 (X1 l0_1 x30_2).f1, .int .i64 (X1 l0_1 x30_2).f2, .int .i64 0, .int .i64 0, .int .i64 0]) ?_ 3 _ rfl; (with_reducible repeat (first | refine bN ?_ _|refine bW ?_|refine bA ?_ _)); refine blk_put (cs := #[.string (X1 l0_1 x30_2).f0, .int .i64 (X1 l0_1 x30_2).f1, .int .i64 0, .int .i64 0, .int .i64 0, .int .i64 0]) ?_ 2 _ rfl; (with_reducible repeat (first | refine bN ?_ _|refine bW ?_|refine bA ?_ _)); refine blk_put (cs := #[.string (X1 l0_1 x30_2).f0, .int .i64 0, .int .i64 0, .int .i64 0, .int .i64 0, .int .i64 0]) ?_ 1 _ rfl; (with_reducible repeat (first | refine bN ?_ _|refine bW ?_|refine bA ?_ _)); refine blk_put (cs := #[.string (⟨#[]⟩ : ByteArray), .int .i64 0, .int .i64 0, .int .i64 0, .int .i64 0, .int .i64 0]) ?_ 0 _ rfl; (with_reducible repeat (first | refine bN ?_ _|refine bW ?_|refine bA ?_ _)); exact BK319.out)) : p := h
theorem z8_ {p : Prop} (h : p := by (first | rfl | (simp; done) | (simp [*]; done))) : p := h
theorem z9_ {p : Prop} (h : p := by ((with_reducible repeat (first | refine bN ?_ _|refine bW ?_|refine bA ?_ _)); refine blk_put (cs := #[.string (X1 l0_1 x24_2).f0, .int .i64 (X1 l0_1 x24_2).f1, .int .i64 (X1 l0_1 x24_2).f2, .int .i64 (X1 l0_1 x24_2).f3, .int .i64 (X1 l0_1 x24_2).f4, .int .i64 0]) ?_ 5 _ rfl; (with_reducible repeat (first | refine bN ?_ _|refine bW ?_|refine bA ?_ _)); refine blk_put (cs := #[.string (X1 l0_1 x24_2).f0, .int .i64 (X1 l0_1 x24_2).f1, .int .i64 (X1 l0_1 x24_2).f2, .int .i64 (X1 l0_1 x24_2).f3, .int .i64 0, .int .i64 0]) ?_ 4 _ rfl; (with_reducible repeat (first | refine bN ?_ _|refine bW ?_|refine bA ?_ _)); refine blk_put (cs := #[.string (X1 l0_1 x24_2).f0, .int .i64 (X1 l0_1 x24_2).f1, .int .i64 (X1 l0_1 x24_2).f2, .int .i64 0, .int .i64 0, .int .i64 0]) ?_ 3 _ rfl; (with_reducible repeat (first | refine bN ?_ _|refine bW ?_|refine bA ?_ _)); refine blk_put (cs := #[.string (X1 l0_1 x24_2).f0, .int .i64 (X1 l0_1 x24_2).f1, .int .i64 0, .int .i64 0, .int .i64 0, .int .i64 0]) ?_ 2 _ rfl; (with_reducible repeat (first | refine bN ?_ _|refine bW ?_|refine bA ?_ _)); refine blk_put (cs := #[.string (X1 l0_1 x24_2).f0, .int .i64 0, .int .i64 0, .int .i64 0, .int .i64 0, .int .i64 0]) ?_ 1 _ rfl; (with_reducible repeat (first | refine bN ?_ _|refine bW ?_|refine bA ?_ _)); refine blk_put (cs := #[.string (⟨#[]⟩ : ByteArray), .int .i64 0, .int .i64 0, .int .i64 0, .int .i64 0, .int .i64 0]) ?_ 0 _ rfl; (with_reducible repeat (first | refine bN ?_ _|refine bW ?_|refine bA ?_ _)); exact BK336.out)) : p := h
theorem z10_ {p : Prop} (h : p := by (repeat (first | exact Drawn0.refl _ | apply Drawn0.step))) : p := h
theorem z11_ {p : Prop} (h : p := by ((with_reducible repeat (first | refine bN ?_ _|refine bW ?_|refine bA ?_ _)); refine blk_put (cs := #[.string (X1 l0_1 x23_2).f0, .int .i64 (X1 l0_1 x23_2).f1, .int .i64 (X1 l0_1 x23_2).f2, .int .i64 (X1 l0_1 x23_2).f3, .int .i64 (X1 l0_1 x23_2).f4, .int .i64 0]) ?_ 5 _ rfl; (with_reducible repeat (first | refine bN ?_ _|refine bW ?_|refine bA ?_ _)); refine blk_put (cs := #[.string (X1 l0_1 x23_2).f0, .int .i64 (X1 l0_1 x23_2).f1, .int .i64 (X1 l0_1 x23_2).f2, .int .i64 (X1 l0_1 x23_2).f3, .int .i64 0, .int .i64 0]) ?_ 4 _ rfl; (with_reducible repeat (first | refine bN ?_ _|refine bW ?_|refine bA ?_ _)); refine blk_put (cs := #[.string (X1 l0_1 x23_2).f0, .int .i64 (X1 l0_1 x23_2).f1, .int .i64 (X1 l0_1 x23_2).f2, .int .i64 0, .int .i64 0, .int .i64 0]) ?_ 3 _ rfl; (with_reducible repeat (first | refine bN ?_ _|refine bW ?_|refine bA ?_ _)); refine blk_put (cs := #[.string (X1 l0_1 x23_2).f0, .int .i64 (X1 l0_1 x23_2).f1, .int .i64 0, .int .i64 0, .int .i64 0, .int .i64 0]) ?_ 2 _ rfl; (with_reducible repeat (first | refine bN ?_ _|refine bW ?_|refine bA ?_ _)); refine blk_put (cs := #[.string (X1 l0_1 x23_2).f0, .int .i64 0, .int .i64 0, .int .i64 0, .int .i64 0, .int .i64 0]) ?_ 1 _ rfl; (with_reducible repeat (first | refine bN ?_ _|refine bW ?_|refine bA ?_ _)); refine blk_put (cs := #[.string (⟨#[]⟩ : ByteArray), .int .i64 0, .int .i64 0, .int .i64 0, .int .i64 0, .int .i64 0]) ?_ 0 _ rfl; (with_reducible repeat (first | refine bN ?_ _|refine bW ?_|refine bA ?_ _)); exact BK361.out)) : p := h
theorem z12_ {p : Prop} (h : p := by (repeat (first | (with_reducible first | exact HB.out|apply wA|apply wN|apply wD |refine wS ?_ GE419.out) | exact HB.out))) : p := h
theorem z13_ {p : Prop} (h : p := by kernel_rfl) : p := h
theorem z14_ {p : Prop} (h : p := by ((with_reducible repeat (first | refine bN ?_ _|refine bW ?_|refine bA ?_ _)); refine blk_far ?_ NB316_319.out _; (with_reducible repeat (first | refine bN ?_ _|refine bW ?_|refine bA ?_ _)); refine blk_far ?_ NB316_319.out _; (with_reducible repeat (first | refine bN ?_ _|refine bW ?_|refine bA ?_ _)); refine blk_far ?_ NB316_319.out _; (with_reducible repeat (first | refine bN ?_ _|refine bW ?_|refine bA ?_ _)); refine blk_far ?_ NB316_319.out _; (with_reducible repeat (first | refine bN ?_ _|refine bW ?_|refine bA ?_ _)); refine blk_far ?_ NB316_319.out _; (with_reducible repeat (first | refine bN ?_ _|refine bW ?_|refine bA ?_ _)); refine blk_far ?_ NB316_319.out _; (with_reducible repeat (first | refine bN ?_ _|refine bW ?_|refine bA ?_ _)); exact BK316.out)) : p := h
theorem z15_ {p : Prop} (h : p := by (repeat (first | (with_reducible first | exact HB.out|apply wA|apply wN|apply wD |refine wS ?_ GE289.out) | exact HB.out))) : p := h
theorem z16_ {p : Prop} (h : p := by ((with_reducible repeat (first | refine bN ?_ _|refine bW ?_|refine bA ?_ _)); refine blk_put (cs := #[.string (X1 l0_1 x10_1).f0, .int .i64 (X1 l0_1 x10_1).f1, .int .i64 (X1 l0_1 x10_1).f2, .int .i64 (X1 l0_1 x10_1).f3, .int .i64 (X1 l0_1 x10_1).f4, .int .i64 0]) ?_ 5 _ rfl; (with_reducible repeat (first | refine bN ?_ _|refine bW ?_|refine bA ?_ _)); refine blk_put (cs := #[.string (X1 l0_1 x10_1).f0, .int .i64 (X1 l0_1 x10_1).f1, .int .i64 (X1 l0_1 x10_1).f2, .int .i64 (X1 l0_1 x10_1).f3, .int .i64 0, .int .i64 0]) ?_ 4 _ rfl; (with_reducible repeat (first | refine bN ?_ _|refine bW ?_|refine bA ?_ _)); refine blk_put (cs := #[.string (X1 l0_1 x10_1).f0, .int .i64 (X1 l0_1 x10_1).f1, .int .i64 (X1 l0_1 x10_1).f2, .int .i64 0, .int .i64 0, .int .i64 0]) ?_ 3 _ rfl; (with_reducible repeat (first | refine bN ?_ _|refine bW ?_|refine bA ?_ _)); refine blk_put (cs := #[.string (X1 l0_1 x10_1).f0, .int .i64 (X1 l0_1 x10_1).f1, .int .i64 0, .int .i64 0, .int .i64 0, .int .i64 0]) ?_ 2 _ rfl; (with_reducible repeat (first | refine bN ?_ _|refine bW ?_|refine bA ?_ _)); refine blk_put (cs := #[.string (X1 l0_1 x10_1).f0, .int .i64 0, .int .i64 0, .int .i64 0, .int .i64 0, .int .i64 0]) ?_ 1 _ rfl; (with_reducible repeat (first | refine bN ?_ _|refine bW ?_|refine bA ?_ _)); refine blk_put (cs := #[.string (⟨#[]⟩ : ByteArray), .int .i64 0, .int .i64 0, .int .i64 0, .int .i64 0, .int .i64 0]) ?_ 0 _ rfl; (with_reducible repeat (first | refine bN ?_ _|refine bW ?_|refine bA ?_ _)); exact BK395.out)) : p := h
theorem z17_ {p : Prop} (h : p := by ((with_reducible repeat (first | refine bN ?_ _|refine bW ?_|refine bA ?_ _)); exact BK316.out)) : p := h
theorem z18_ {p : Prop} (h : p := by (first | exact ⟨hk.1.1, ⟨hk.1.2, hk.2⟩⟩ | ((repeat' refine And.intro ?_ ?_) <;> first | exact hk.1 | exact hk.2 | exact hk.1.1 | exact hk.1.2 | exact hk.2.1 | exact hk.2.2 | exact hk.1.1.1 | exact hk.1.1.2 | exact hk.1.2.1 | exact hk.1.2.2 | exact hk.2.1.1 | exact hk.2.1.2 | exact hk.2.2.1 | exact hk.2.2.2))) : p := h
theorem z19_ {p : Prop} (h : p := by ((with_reducible repeat (first | refine bN ?_ _|refine bW ?_|refine bA ?_ _)); refine blk_far ?_ NB330_336.out _; (with_reducible repeat (first | refine bN ?_ _|refine bW ?_|refine bA ?_ _)); refine blk_far ?_ NB330_336.out _; (with_reducible repeat (first | refine bN ?_ _|refine bW ?_|refine bA ?_ _)); refine blk_far ?_ NB330_336.out _; (with_reducible repeat (first | refine bN ?_ _|refine bW ?_|refine bA ?_ _)); refine blk_far ?_ NB330_336.out _; (with_reducible repeat (first | refine bN ?_ _|refine bW ?_|refine bA ?_ _)); refine blk_far ?_ NB330_336.out _; (with_reducible repeat (first | refine bN ?_ _|refine bW ?_|refine bA ?_ _)); refine blk_far ?_ NB330_336.out _; (with_reducible repeat (first | refine bN ?_ _|refine bW ?_|refine bA ?_ _)); exact BK330.out)) : p := h
theorem z20_ {p : Prop} (h : p := by (repeat (first | (with_reducible first | exact HB.out|apply wA|apply wN|apply wD |refine wS ?_ GE439.out |refine wS ?_ GE459.out) | exact HB.out))) : p := h
theorem z21_ {p : Prop} (h : p := by (repeat (first | (with_reducible first | exact HB.out|apply wA|apply wN|apply wD |refine wS ?_ GE316.out) | exact HB.out))) : p := h
theorem z22_ {p : Prop} (h : p := by (repeat (first | (with_reducible first | exact HB.out|apply wA|apply wN|apply wD |refine wS ?_ GE316.out |refine wS ?_ GE319.out) | exact HB.out))) : p := h
theorem z23_ {p : Prop} (h : p := by ((with_reducible repeat (first | apply rA|apply rN|apply rW)); exact Kd.R_mono (Kd.R_far (p := ⟨gb336, 5, none⟩) (Kd.R_far (p := ⟨gb336, 4, none⟩) (Kd.R_far (p := ⟨gb336, 3, none⟩) (Kd.R_far (p := ⟨gb336, 2, none⟩) (Kd.R_far (p := ⟨gb336, 1, none⟩) (Kd.R_far (p := ⟨gb336, 0, none⟩) (Kd.R_types HO_7.out BK336.out (by decide)) (fun _ hk => hk.2) (.string (X1 l0_1 x24_2).f0)) (fun _ hk => hk.2) (.int .i64 (X1 l0_1 x24_2).f1)) (fun _ hk => hk.2) (.int .i64 (X1 l0_1 x24_2).f2)) (fun _ hk => hk.2) (.int .i64 (X1 l0_1 x24_2).f3)) (fun _ hk => hk.2) (.int .i64 (X1 l0_1 x24_2).f4)) (fun _ hk => hk.2) (.int .i64 (X1 l0_1 x24_2).f5)) (fun _ hk => trivial))) : p := h
theorem z24_ {p : Prop} (h : p := by (repeat (first | (with_reducible first | exact HB.out|apply wA|apply wN|apply wD |refine wS ?_ GE349.out) | exact HB.out))) : p := h
theorem z25_ {p : Prop} (h : p := by ((with_reducible repeat (first | refine bN ?_ _|refine bW ?_|refine bA ?_ _)); exact BK330.out)) : p := h
theorem z26_ {p : Prop} (h : p := by (repeat (first | (with_reducible first | exact HB.out|apply wA|apply wN|apply wD |refine wS ?_ GE373.out) | exact HB.out))) : p := h
theorem z27_ {p : Prop} (h : p := by ((with_reducible repeat (first | refine bN ?_ _|refine bW ?_|refine bA ?_ _)); exact BK289.out)) : p := h
theorem z28_ {p : Prop} (h : p := by ((with_reducible repeat (first | refine bN ?_ _|refine bW ?_|refine bA ?_ _)); refine blk_far ?_ NB356_361.out _; (with_reducible repeat (first | refine bN ?_ _|refine bW ?_|refine bA ?_ _)); refine blk_far ?_ NB356_361.out _; (with_reducible repeat (first | refine bN ?_ _|refine bW ?_|refine bA ?_ _)); refine blk_far ?_ NB356_361.out _; (with_reducible repeat (first | refine bN ?_ _|refine bW ?_|refine bA ?_ _)); refine blk_far ?_ NB356_361.out _; (with_reducible repeat (first | refine bN ?_ _|refine bW ?_|refine bA ?_ _)); refine blk_far ?_ NB356_361.out _; (with_reducible repeat (first | refine bN ?_ _|refine bW ?_|refine bA ?_ _)); refine blk_far ?_ NB356_361.out _; (with_reducible repeat (first | refine bN ?_ _|refine bW ?_|refine bA ?_ _)); exact BK356.out)) : p := h
theorem z29_ {p : Prop} (h : p := by ((with_reducible repeat (first | apply rA|apply rN|apply rW)); exact HO_7.out)) : p := h
theorem z30_ {p : Prop} (h : p := by (repeat (first | (with_reducible first | exact HB.out|apply wA|apply wN|apply wD |refine wS ?_ GE330.out) | exact HB.out))) : p := h
theorem z31_ {p : Prop} (h : p := by (repeat (first | (with_reducible first | exact HB.out|apply wA|apply wN|apply wD |refine wS ?_ GE439.out) | exact HB.out))) : p := h
theorem z32_ {p : Prop} (h : p := by ((with_reducible repeat (first | apply rA|apply rN|apply rW)); exact Kd.R_mono (Kd.R_far (p := ⟨gb361, 5, none⟩) (Kd.R_far (p := ⟨gb361, 4, none⟩) (Kd.R_far (p := ⟨gb361, 3, none⟩) (Kd.R_far (p := ⟨gb361, 2, none⟩) (Kd.R_far (p := ⟨gb361, 1, none⟩) (Kd.R_far (p := ⟨gb361, 0, none⟩) (Kd.R_types HO_5.out BK361.out (by decide)) (fun _ hk => hk.2) (.string (X1 l0_1 x23_2).f0)) (fun _ hk => hk.2) (.int .i64 (X1 l0_1 x23_2).f1)) (fun _ hk => hk.2) (.int .i64 (X1 l0_1 x23_2).f2)) (fun _ hk => hk.2) (.int .i64 (X1 l0_1 x23_2).f3)) (fun _ hk => hk.2) (.int .i64 (X1 l0_1 x23_2).f4)) (fun _ hk => hk.2) (.int .i64 (X1 l0_1 x23_2).f5)) (fun _ hk => trivial))) : p := h
theorem z33_ {p : Prop} (h : p := by ((with_reducible repeat (first | apply rA|apply rN|apply rW)); exact Kd.R_mono (Kd.R_far (p := ⟨gb361, 5, none⟩) (Kd.R_far (p := ⟨gb361, 4, none⟩) (Kd.R_far (p := ⟨gb361, 3, none⟩) (Kd.R_far (p := ⟨gb361, 2, none⟩) (Kd.R_far (p := ⟨gb361, 1, none⟩) (Kd.R_far (p := ⟨gb361, 0, none⟩) (Kd.R_types HO_6.out BK361.out (by decide)) (fun _ hk => hk.2) (.string (X1 l0_1 x23_2).f0)) (fun _ hk => hk.2) (.int .i64 (X1 l0_1 x23_2).f1)) (fun _ hk => hk.2) (.int .i64 (X1 l0_1 x23_2).f2)) (fun _ hk => hk.2) (.int .i64 (X1 l0_1 x23_2).f3)) (fun _ hk => hk.2) (.int .i64 (X1 l0_1 x23_2).f4)) (fun _ hk => hk.2) (.int .i64 (X1 l0_1 x23_2).f5)) (fun _ hk => trivial))) : p := h
theorem z34_ {p : Prop} (h : p := by (repeat (first | (with_reducible first | exact HB.out|apply wA|apply wN|apply wD |refine wS ?_ GE330.out |refine wS ?_ GE336.out) | exact HB.out))) : p := h
theorem z35_ {p : Prop} (h : p := by ((with_reducible repeat (first | refine bN ?_ _|refine bW ?_|refine bA ?_ _)); exact BK356.out)) : p := h
theorem z36_ {p : Prop} (h : p := by ((with_reducible repeat (first | refine bN ?_ _|refine bW ?_|refine bA ?_ _)); exact BK439.out)) : p := h
theorem z37_ {p : Prop} (h : p := by (repeat (first | (with_reducible first | exact HB.out|apply wA|apply wN|apply wD |refine wS ?_ GE356.out |refine wS ?_ GE361.out) | exact HB.out))) : p := h
theorem z38_ {p : Prop} (h : p := by (repeat (first | (with_reducible first | exact HB.out|apply wA|apply wN|apply wD |refine wS ?_ GE356.out) | exact HB.out))) : p := h
theorem z39_ {p : Prop} (h : p := by ((with_reducible repeat (first | apply rA|apply rN|apply rW)); exact HO_6.out)) : p := h
theorem z40_ {p : Prop} (h : p := by (rw [hg]; exact (below_size (by repeat (first | (with_reducible first | exact HB.out|apply wA|apply wN|apply wD |refine wS ?_ GE316.out) | exact HB.out))))) : p := h
theorem z41_ {p : Prop} (h : p := by ((with_reducible repeat (first | refine bN ?_ _|refine bW ?_|refine bA ?_ _)); refine blk_far ?_ NB393_395.out _; (with_reducible repeat (first | refine bN ?_ _|refine bW ?_|refine bA ?_ _)); refine blk_far ?_ NB393_395.out _; (with_reducible repeat (first | refine bN ?_ _|refine bW ?_|refine bA ?_ _)); refine blk_far ?_ NB393_395.out _; (with_reducible repeat (first | refine bN ?_ _|refine bW ?_|refine bA ?_ _)); refine blk_far ?_ NB393_395.out _; (with_reducible repeat (first | refine bN ?_ _|refine bW ?_|refine bA ?_ _)); refine blk_far ?_ NB393_395.out _; (with_reducible repeat (first | refine bN ?_ _|refine bW ?_|refine bA ?_ _)); refine blk_far ?_ NB393_395.out _; (with_reducible repeat (first | refine bN ?_ _|refine bW ?_|refine bA ?_ _)); exact BK393.out)) : p := h
theorem z42_ {p : Prop} (h : p := by (repeat (first | (with_reducible first | exact HB.out|apply wA|apply wN|apply wD |refine wS ?_ GE430.out) | exact HB.out))) : p := h
theorem z43_ {p : Prop} (h : p := by ((with_reducible repeat (first | refine bN ?_ _|refine bW ?_|refine bA ?_ _)); exact BK349.out)) : p := h
theorem z44_ {p : Prop} (h : p := by ((with_reducible repeat (first | refine bN ?_ _|refine bW ?_|refine bA ?_ _)); exact BK373.out)) : p := h
theorem z45_ {p : Prop} (h : p := by ((with_reducible repeat (first | refine bN ?_ _|refine bW ?_|refine bA ?_ _)); exact BK419.out)) : p := h
theorem z46_ {p : Prop} (h : p := by (first | exact Kd.R_nil _ _ _ _ _ | exact Kd.N_nil _ _ _ _ _ | exact Kd.V_nil _ _ _ _ _ | exact Kd.Q_nil _ _ _ _ _ | exact Kd.S_nil _ _ _ _ _)) : p := h
theorem z47_ {p : Prop} (h : p := by (repeat (first | (with_reducible first | exact HB.out|apply wA|apply wN|apply wD |refine wS ?_ GE140.out |refine wS ?_ GE141.out) | exact HB.out))) : p := h
theorem z48_ {p : Prop} (h : p := by ((try simp only [hl8_1]); (try simp only [hl8_2]); (with_reducible repeat (first | refine bN ?_ _|refine bW ?_|refine bA ?_ _)); exact BK0.out)) : p := h
theorem z49_ {p : Prop} (h : p := by ((with_reducible repeat (first | refine bN ?_ _|refine bW ?_|refine bA ?_ _)); refine blk_put (cs := #[.int .i64 (X7 t380 x67_1).f0, .int .i64 (X7 t380 x67_1).f1, .int .i64 0]) ?_ 2 _ rfl; (with_reducible repeat (first | refine bN ?_ _|refine bW ?_|refine bA ?_ _)); refine blk_put (cs := #[.int .i64 (X7 t380 x67_1).f0, .int .i64 0, .int .i64 0]) ?_ 1 _ rfl; (with_reducible repeat (first | refine bN ?_ _|refine bW ?_|refine bA ?_ _)); refine blk_put (cs := #[.int .i64 0, .int .i64 0, .int .i64 0]) ?_ 0 _ rfl; (with_reducible repeat (first | refine bN ?_ _|refine bW ?_|refine bA ?_ _)); exact BK384.out)) : p := h
theorem z50_ {p : Prop} (h : p := by (rw [hg]; exact (below_size (by repeat (first | (with_reducible first | exact HB.out|apply wA|apply wN|apply wD |refine wS ?_ GE330.out) | exact HB.out))))) : p := h
theorem z56_ {p : Prop} (h : p := by (first | exact ⟨hk.2.1, hk.2.2, hk.1⟩ | ((repeat' refine And.intro ?_ ?_) <;> first | exact hk.1 | exact hk.2 | exact hk.1.1 | exact hk.1.2 | exact hk.2.1 | exact hk.2.2 | exact hk.1.1.1 | exact hk.1.1.2 | exact hk.1.2.1 | exact hk.1.2.2 | exact hk.2.1.1 | exact hk.2.1.2 | exact hk.2.2.1 | exact hk.2.2.2))) : p := h
theorem z57_ {p : Prop} (h : p := by (rw [hg]; exact Nat.ne_of_lt (blk_lt (g := gb316) (o := .cells #[.slice A0_0 l0_0.length c0_0, .slice (some ad318) l0_1.length c0_1] 31 (0, 0)) (by (with_reducible repeat (first | refine bN ?_ _|refine bW ?_|refine bA ?_ _)); exact BK316.out)))) : p := h
theorem z58_ {p : Prop} (h : p := by (rw [hg]; exact Nat.ne_of_gt (blk_lt (g := gb316) (o := .cells #[.slice A0_0 l0_0.length c0_0, .slice (some ad318) l0_1.length c0_1] 31 (0, 0)) (by (with_reducible repeat (first | refine bN ?_ _|refine bW ?_|refine bA ?_ _)); exact BK316.out)))) : p := h
theorem z59_ {p : Prop} (h : p := by ((try simp only [hl8_1]); (try simp only [hl8_2]); (with_reducible repeat (first | apply rA|apply rN|apply rW)); exact HO_8.out)) : p := h
theorem z60_ {p : Prop} (h : p := by (repeat (first | (with_reducible first | exact HB.out|apply wA|apply wN|apply wD |refine wS ?_ GE140.out) | exact HB.out))) : p := h
theorem z61_ {p : Prop} (h : p := by (repeat (first | (with_reducible first | exact HB.out|apply wA|apply wN|apply wD |refine wS ?_ GE404.out) | exact HB.out))) : p := h
theorem z62_ {p : Prop} (h : p := by ((with_reducible repeat (first | apply rA|apply rN|apply rW)); exact HO_5.out)) : p := h
theorem z63_ {p : Prop} (h : p := by ((with_reducible repeat (first | refine bN ?_ _|refine bW ?_|refine bA ?_ _)); exact BK140.out)) : p := h
theorem z64_ {p : Prop} (h : p := by ((with_reducible repeat (first | apply rA|apply rN|apply rW)); exact HO_8.out)) : p := h
theorem z65_ {p : Prop} (h : p := by (repeat (first | (with_reducible first | exact HB.out|apply wA|apply wN|apply wD |refine wS ?_ GE126.out |refine wS ?_ GE127.out |refine wS ?_ GE128.out) | exact HB.out))) : p := h
theorem z66_ {p : Prop} (h : p := by (repeat (first | (with_reducible first | exact HB.out|apply wA|apply wN|apply wD |refine wS ?_ GE393.out) | exact HB.out))) : p := h
theorem z67_ {p : Prop} (h : p := by (rw [hg]; exact Nat.ne_of_lt (blk_lt (g := gb330) (o := .cells #[.slice A0_0 l0_0.length c0_0, .slice (some ad335) l0_1.length c0_1] 31 (0, 0)) (by (with_reducible repeat (first | refine bN ?_ _|refine bW ?_|refine bA ?_ _)); exact BK330.out)))) : p := h
theorem z68_ {p : Prop} (h : p := by (rw [hg]; exact Nat.ne_of_gt (blk_lt (g := gb330) (o := .cells #[.slice A0_0 l0_0.length c0_0, .slice (some ad335) l0_1.length c0_1] 31 (0, 0)) (by (with_reducible repeat (first | refine bN ?_ _|refine bW ?_|refine bA ?_ _)); exact BK330.out)))) : p := h
theorem z69_ {p : Prop} (h : p := by ((with_reducible repeat (first | refine bN ?_ _|refine bW ?_|refine bA ?_ _)); exact BK393.out)) : p := h
theorem z70_ {p : Prop} (h : p := by ((with_reducible repeat (first | refine bN ?_ _|refine bW ?_|refine bA ?_ _)); exact BK459.out)) : p := h
theorem z71_ {p : Prop} (h : p := by (rw [hg]; exact (below_size (by repeat (first | (with_reducible first | exact HB.out|apply wA|apply wN|apply wD |refine wS ?_ GE140.out) | exact HB.out))))) : p := h
theorem z72_ {p : Prop} (h : p := by (rw [hg]; exact (below_size (by repeat (first | (with_reducible first | exact HB.out|apply wA|apply wN|apply wD |refine wS ?_ GE356.out) | exact HB.out))))) : p := h
theorem z73_ {p : Prop} (h : p := by ((with_reducible repeat (first | apply rA|apply rN|apply rW)); exact Kd.R_mono (Kd.R_far (p := ⟨gb384, 2, none⟩) (Kd.R_far (p := ⟨gb384, 1, none⟩) (Kd.R_far (p := ⟨gb384, 0, none⟩) (Kd.R_mono HO_19.out (fun k_ hk => (⟨hk, hk.2⟩ : _ ∧ k_ ≠ gb384))) (fun _ hk => hk.2) (.int .i64 (X7 t380 x67_1).f0)) (fun _ hk => hk.2) (.int .i64 (X7 t380 x67_1).f1)) (fun _ hk => hk.2) (.int .i64 (X7 t380 x67_1).f2)) (fun _ hk => hk.1.2))) : p := h
theorem z74_ {p : Prop} (h : p := by (repeat (first | (with_reducible first | exact HB.out|apply wA|apply wN|apply wD |refine wS ?_ GE393.out |refine wS ?_ GE395.out) | exact HB.out))) : p := h
theorem z75_ {p : Prop} (h : p := by (rw [← hq_]; exact (by (with_reducible repeat (first | apply rA|apply rN|apply rW)); exact Kd.R_mono HO_10.out (fun _ hk => (by first | exact ⟨hk.2.2, ⟨hk.1, hk.2.1⟩⟩ | ((repeat' refine And.intro ?_ ?_) <;> first | exact hk.1 | exact hk.2 | exact hk.1.1 | exact hk.1.2 | exact hk.2.1 | exact hk.2.2 | exact hk.1.1.1 | exact hk.1.1.2 | exact hk.1.2.1 | exact hk.1.2.2 | exact hk.2.1.1 | exact hk.2.1.2 | exact hk.2.2.1 | exact hk.2.2.2)))))) : p := h
theorem z76_ {p : Prop} (h : p := by (rw [← hq_]; exact (by (with_reducible repeat (first | apply rA|apply rN|apply rW)); exact Kd.R_mono HO_11.out (fun _ hk => (by first | exact ⟨hk.2.2, ⟨hk.1, hk.2.1⟩⟩ | ((repeat' refine And.intro ?_ ?_) <;> first | exact hk.1 | exact hk.2 | exact hk.1.1 | exact hk.1.2 | exact hk.2.1 | exact hk.2.2 | exact hk.1.1.1 | exact hk.1.1.2 | exact hk.1.2.1 | exact hk.1.2.2 | exact hk.2.1.1 | exact hk.2.1.2 | exact hk.2.2.1 | exact hk.2.2.2)))))) : p := h
theorem z77_ {p : Prop} (h : p := by (rw [← hq_]; exact (by (with_reducible repeat (first | apply rA|apply rN|apply rW)); exact Kd.R_mono HO_8.out (fun _ hk => (by first | exact ⟨hk.2.1, ⟨hk.2.2, hk.1⟩⟩ | ((repeat' refine And.intro ?_ ?_) <;> first | exact hk.1 | exact hk.2 | exact hk.1.1 | exact hk.1.2 | exact hk.2.1 | exact hk.2.2 | exact hk.1.1.1 | exact hk.1.1.2 | exact hk.1.2.1 | exact hk.1.2.2 | exact hk.2.1.1 | exact hk.2.1.2 | exact hk.2.2.1 | exact hk.2.2.2)))))) : p := h
theorem z78_ {p : Prop} (h : p := by (rw [← hq_]; exact (by (with_reducible repeat (first | apply rA|apply rN|apply rW)); exact Kd.R_mono HO_9.out (fun _ hk => (by first | exact ⟨hk.2.1, ⟨hk.2.2, hk.1⟩⟩ | ((repeat' refine And.intro ?_ ?_) <;> first | exact hk.1 | exact hk.2 | exact hk.1.1 | exact hk.1.2 | exact hk.2.1 | exact hk.2.2 | exact hk.1.1.1 | exact hk.1.1.2 | exact hk.1.2.1 | exact hk.1.2.2 | exact hk.2.1.1 | exact hk.2.1.2 | exact hk.2.2.1 | exact hk.2.2.2)))))) : p := h
theorem z79_ {p : Prop} (h : p := by ((with_reducible repeat (first | refine bN ?_ _|refine bW ?_|refine bA ?_ _)); refine blk_far ?_ NB373_384.out _; (with_reducible repeat (first | refine bN ?_ _|refine bW ?_|refine bA ?_ _)); refine blk_far ?_ NB373_384.out _; (with_reducible repeat (first | refine bN ?_ _|refine bW ?_|refine bA ?_ _)); refine blk_far ?_ NB373_384.out _; (with_reducible repeat (first | refine bN ?_ _|refine bW ?_|refine bA ?_ _)); exact BK373.out)) : p := h
theorem z80_ {p : Prop} (h : p := by ((with_reducible repeat (first | refine bN ?_ _|refine bW ?_|refine bA ?_ _)); exact BK312.out)) : p := h
theorem z81_ {p : Prop} (h : p := by ((with_reducible repeat (first | refine bN ?_ _|refine bW ?_|refine bA ?_ _)); exact BK319.out)) : p := h
theorem z82_ {p : Prop} (h : p := by ((with_reducible repeat (first | refine bN ?_ _|refine bW ?_|refine bA ?_ _)); refine blk_far ?_ (by have h_ := Kd.R_ne HO_8.out BK373.out (by decide); intro e_; exact h_ (by rw [e_]; rfl)) _; (with_reducible repeat (first | refine bN ?_ _|refine bW ?_|refine bA ?_ _)); exact BK373.out)) : p := h
theorem z83_ {p : Prop} (h : p := by ((with_reducible repeat (first | refine bN ?_ _|refine bW ?_|refine bA ?_ _)); exact BK404.out)) : p := h
theorem z84_ {p : Prop} (h : p := by (repeat (first | (with_reducible first | exact HB.out|apply wA|apply wN|apply wD |refine wS ?_ GE104.out) | exact HB.out))) : p := h
theorem z85_ {p : Prop} (h : p := by (repeat (first | (with_reducible first | exact HB.out|apply wA|apply wN|apply wD |refine wS ?_ GE303.out) | exact HB.out))) : p := h
theorem z88_ {p : Prop} (h : p := by ((with_reducible repeat (first | apply rA|apply rN|apply rW)); exact Kd.R_mono HO_11.out (fun _ hk => (by first | exact ⟨⟨hk.1, hk.2.1⟩, hk.2.2⟩ | ((repeat' refine And.intro ?_ ?_) <;> first | exact hk.1 | exact hk.2 | exact hk.1.1 | exact hk.1.2 | exact hk.2.1 | exact hk.2.2 | exact hk.1.1.1 | exact hk.1.1.2 | exact hk.1.2.1 | exact hk.1.2.2 | exact hk.2.1.1 | exact hk.2.1.2 | exact hk.2.2.1 | exact hk.2.2.2))))) : p := h
theorem z89_ {p : Prop} (h : p := by ((with_reducible repeat (first | apply rA|apply rN|apply rW)); exact Kd.R_mono HO_10.out (fun _ hk => (by first | exact ⟨⟨hk.1, hk.2.1⟩, hk.2.2⟩ | ((repeat' refine And.intro ?_ ?_) <;> first | exact hk.1 | exact hk.2 | exact hk.1.1 | exact hk.1.2 | exact hk.2.1 | exact hk.2.2 | exact hk.1.1.1 | exact hk.1.1.2 | exact hk.1.2.1 | exact hk.1.2.2 | exact hk.2.1.1 | exact hk.2.1.2 | exact hk.2.2.1 | exact hk.2.2.2))))) : p := h
theorem z90_ {p : Prop} (h : p := by ((with_reducible repeat (first | apply rA|apply rN|apply rW)); exact Kd.R_mono HO_10.out (fun _ hk => (by first | exact ⟨hk.1.1, ⟨hk.1.2, hk.2⟩⟩ | ((repeat' refine And.intro ?_ ?_) <;> first | exact hk.1 | exact hk.2 | exact hk.1.1 | exact hk.1.2 | exact hk.2.1 | exact hk.2.2 | exact hk.1.1.1 | exact hk.1.1.2 | exact hk.1.2.1 | exact hk.1.2.2 | exact hk.2.1.1 | exact hk.2.1.2 | exact hk.2.2.1 | exact hk.2.2.2))))) : p := h
theorem z93_ {p : Prop} (h : p := by ((with_reducible repeat (first | apply rA|apply rN|apply rW)); exact Kd.R_mono HO_8.out (fun _ hk => (by first | exact ⟨⟨hk.1, hk.2.2⟩, hk.2.1⟩ | ((repeat' refine And.intro ?_ ?_) <;> first | exact hk.1 | exact hk.2 | exact hk.1.1 | exact hk.1.2 | exact hk.2.1 | exact hk.2.2 | exact hk.1.1.1 | exact hk.1.1.2 | exact hk.1.2.1 | exact hk.1.2.2 | exact hk.2.1.1 | exact hk.2.1.2 | exact hk.2.2.1 | exact hk.2.2.2))))) : p := h
theorem z94_ {p : Prop} (h : p := by ((with_reducible repeat (first | apply rA|apply rN|apply rW)); exact Kd.R_mono HO_9.out (fun _ hk => (by first | exact ⟨⟨hk.1, hk.2.2⟩, hk.2.1⟩ | ((repeat' refine And.intro ?_ ?_) <;> first | exact hk.1 | exact hk.2 | exact hk.1.1 | exact hk.1.2 | exact hk.2.1 | exact hk.2.2 | exact hk.1.1.1 | exact hk.1.1.2 | exact hk.1.2.1 | exact hk.1.2.2 | exact hk.2.1.1 | exact hk.2.1.2 | exact hk.2.2.1 | exact hk.2.2.2))))) : p := h
theorem z95_ {p : Prop} (h : p := by ((with_reducible repeat (first | apply rA|apply rN|apply rW)); exact Kd.R_mono HO_8.out (fun _ hk => (by first | exact ⟨⟨hk.1.1, hk.2⟩, hk.1.2⟩ | ((repeat' refine And.intro ?_ ?_) <;> first | exact hk.1 | exact hk.2 | exact hk.1.1 | exact hk.1.2 | exact hk.2.1 | exact hk.2.2 | exact hk.1.1.1 | exact hk.1.1.2 | exact hk.1.2.1 | exact hk.1.2.2 | exact hk.2.1.1 | exact hk.2.1.2 | exact hk.2.2.1 | exact hk.2.2.2))))) : p := h
theorem z96_ {p : Prop} (h : p := by ((with_reducible repeat (first | apply rA|apply rN|apply rW)); exact Kd.R_mono HO_9.out (fun _ hk => (by first | exact ⟨⟨hk.1.1, hk.2⟩, hk.1.2⟩ | ((repeat' refine And.intro ?_ ?_) <;> first | exact hk.1 | exact hk.2 | exact hk.1.1 | exact hk.1.2 | exact hk.2.1 | exact hk.2.2 | exact hk.1.1.1 | exact hk.1.1.2 | exact hk.1.2.1 | exact hk.1.2.2 | exact hk.2.1.1 | exact hk.2.1.2 | exact hk.2.2.1 | exact hk.2.2.2))))) : p := h
theorem z97_ {p : Prop} (h : p := by ((with_reducible repeat (first | apply rA|apply rN|apply rW)); exact Kd.R_mono HO_8.out (fun _ hk => (by first | exact ⟨hk.1.1, ⟨hk.1.2, hk.2⟩⟩ | ((repeat' refine And.intro ?_ ?_) <;> first | exact hk.1 | exact hk.2 | exact hk.1.1 | exact hk.1.2 | exact hk.2.1 | exact hk.2.2 | exact hk.1.1.1 | exact hk.1.1.2 | exact hk.1.2.1 | exact hk.1.2.2 | exact hk.2.1.1 | exact hk.2.1.2 | exact hk.2.2.1 | exact hk.2.2.2))))) : p := h
theorem z98_ {p : Prop} (h : p := by ((with_reducible repeat (first | apply rA|apply rN|apply rW)); exact Kd.R_mono HO_9.out (fun _ hk => (by first | exact ⟨hk.1.1, ⟨hk.1.2, hk.2⟩⟩ | ((repeat' refine And.intro ?_ ?_) <;> first | exact hk.1 | exact hk.2 | exact hk.1.1 | exact hk.1.2 | exact hk.2.1 | exact hk.2.2 | exact hk.1.1.1 | exact hk.1.1.2 | exact hk.1.2.1 | exact hk.1.2.2 | exact hk.2.1.1 | exact hk.2.1.2 | exact hk.2.2.1 | exact hk.2.2.2))))) : p := h
theorem z99_ {p : Prop} (h : p := by ((with_reducible repeat (first | apply rA|apply rN|apply rW)); exact Kd.R_mono (Kd.R_far (p := ⟨gb384, 2, none⟩) (Kd.R_far (p := ⟨gb384, 1, none⟩) (Kd.R_far (p := ⟨gb384, 0, none⟩) (Kd.R_types HO_7.out BK384.out (by decide)) (fun _ hk => hk.2) (.int .i64 (X7 t380 x67_1).f0)) (fun _ hk => hk.2) (.int .i64 (X7 t380 x67_1).f1)) (fun _ hk => hk.2) (.int .i64 (X7 t380 x67_1).f2)) (fun _ hk => hk.1))) : p := h
theorem z100_ {p : Prop} (h : p := by ((with_reducible repeat (first | apply rA|apply rN|apply rW)); exact Kd.R_mono (Kd.R_far (p := ⟨gb384, 2, none⟩) (Kd.R_far (p := ⟨gb384, 1, none⟩) (Kd.R_far (p := ⟨gb384, 0, none⟩) (Kd.R_types HO_8.out BK384.out (by decide)) (fun _ hk => hk.2) (.int .i64 (X7 t380 x67_1).f0)) (fun _ hk => hk.2) (.int .i64 (X7 t380 x67_1).f1)) (fun _ hk => hk.2) (.int .i64 (X7 t380 x67_1).f2)) (fun _ hk => hk.1))) : p := h
theorem z101_ {p : Prop} (h : p := by (repeat (first | exact Below.refl _ _ | apply below_alloc | apply pw_below_drewN | apply below_drew1))) : p := h
theorem z102_ {p : Prop} (h : p := by ((with_reducible repeat (first | apply rA|apply rN|apply rW)); exact HO_3.out)) : p := h
theorem z103_ {p : Prop} (h : p := by ((with_reducible repeat (first | apply rA|apply rN|apply rW)); exact Kd.R_mono (Kd.R_far (p := ⟨go24, ((X7 t380 x67_1).f1 : Int).toNat, none⟩) (Kd.R_mono HO_8.out (fun k_ hk => (⟨hk, fun e_ => hk (by rw [e_]; rfl)⟩ : _ ∧ k_ ≠ go24))) (fun _ hk => hk.2) (.int .i64 (wrap64 ((rd x7_1 (X7 t380 x67_1).f1) + (rd x7_1 (X7 t380 x67_1).f0))))) (fun _ hk => hk.1))) : p := h
theorem z104_ {p : Prop} (h : p := by (repeat (first | (with_reducible first | exact HB.out|apply wA|apply wN|apply wD |refine wS ?_ GE312.out) | exact HB.out))) : p := h
theorem z105_ {p : Prop} (h : p := by (repeat (first | (with_reducible first | exact HB.out|apply wA|apply wN|apply wD |refine wS ?_ GE399.out) | exact HB.out))) : p := h
theorem z106_ {p : Prop} (h : p := by (repeat (first | (with_reducible first | exact HB.out|apply wA|apply wN|apply wD |refine wS ?_ GE312.out |refine wS ?_ GE313.out) | exact HB.out))) : p := h
theorem z107_ {p : Prop} (h : p := by (rw [hg]; exact Nat.ne_of_lt (blk_lt (g := gb356) (o := .cells #[.slice A0_0 l0_0.length c0_0, .slice (some ad360) l0_1.length c0_1] 31 (0, 0)) (by (with_reducible repeat (first | refine bN ?_ _|refine bW ?_|refine bA ?_ _)); exact BK356.out)))) : p := h
theorem z108_ {p : Prop} (h : p := by (rw [hg]; exact Nat.ne_of_gt (blk_lt (g := gb356) (o := .cells #[.slice A0_0 l0_0.length c0_0, .slice (some ad360) l0_1.length c0_1] 31 (0, 0)) (by (with_reducible repeat (first | refine bN ?_ _|refine bW ?_|refine bA ?_ _)); exact BK356.out)))) : p := h
theorem z109_ {p : Prop} (h : p := by (rw [hg]; exact Nat.ne_of_lt (blk_lt (g := gb140) (o := .cells #[.slice A0_0 l0_0.length c0_0, .slice A0_1 l0_1.length c0_1] 31 (0, 0)) (by (with_reducible repeat (first | refine bN ?_ _|refine bW ?_|refine bA ?_ _)); exact BK140.out)))) : p := h
theorem z110_ {p : Prop} (h : p := by (rw [hg]; exact Nat.ne_of_gt (blk_lt (g := gb140) (o := .cells #[.slice A0_0 l0_0.length c0_0, .slice A0_1 l0_1.length c0_1] 31 (0, 0)) (by (with_reducible repeat (first | refine bN ?_ _|refine bW ?_|refine bA ?_ _)); exact BK140.out)))) : p := h
theorem z111_ {p : Prop} (h : p := by (have := HK1.out; omega)) : p := h
theorem z112_ {p : Prop} (h : p := by (repeat (first | (with_reducible first | exact HB.out | apply below_alloc | apply pw_below_drewN | apply below_drew1) | exact HB.out))) : p := h
theorem z113_ {p : Prop} (h : p := by ((with_reducible repeat (first | refine bN ?_ _|refine bW ?_|refine bA ?_ _)); exact BK126.out)) : p := h
theorem z114_ {p : Prop} (h : p := by ((with_reducible repeat (first | refine bN ?_ _|refine bW ?_|refine bA ?_ _)); exact BK430.out)) : p := h
theorem z115_ {p : Prop} (h : p := by ((with_reducible repeat (first | apply rA|apply rN|apply rW)); exact HO_460000.out)) : p := h
theorem z116_ {p : Prop} (h : p := by ((with_reducible repeat (first | apply rA|apply rN|apply rW)); exact Kd.R_mono (Kd.R_far (p := ⟨go24, ((X7 t380 x67_1).f1 : Int).toNat, none⟩) (Kd.R_types HO_19.out GG24.out (by decide)) (fun _ hk => hk.2) (.int .i64 (wrap64 ((rd x7_1 (X7 t380 x67_1).f1) + (rd x7_1 (X7 t380 x67_1).f0))))) (fun _ hk => hk.1))) : p := h
theorem z117_ {p : Prop} (h : p := by ((with_reducible repeat (first | apply rA|apply rN|apply rW)); exact Kd.R_mono (Kd.R_far (p := ⟨go27, ((X7 t380 x67_1).f2 : Int).toNat, none⟩) (Kd.R_mono HO_7.out (fun k_ hk => (⟨hk, fun e_ => hk (by rw [e_]; rfl)⟩ : _ ∧ k_ ≠ go27))) (fun _ hk => hk.2) (.int .i64 (rd y387 (X7 t380 x67_1).f0))) (fun _ hk => hk.1))) : p := h
theorem z118_ {p : Prop} (h : p := by ((try simp only [hl8_1]); (try simp only [hl8_2]); (with_reducible repeat (first | apply rA|apply rN|apply rW)); exact HO_6.out)) : p := h
theorem z119_ {p : Prop} (h : p := by ((try simp only [hl8_1]); (try simp only [hl8_2]); (with_reducible repeat (first | apply rA|apply rN|apply rW)); exact HO_7.out)) : p := h
theorem z120_ {p : Prop} (h : p := by ((with_reducible repeat (first | apply rA|apply rN|apply rW)); exact HO_14.out)) : p := h
theorem z121_ {p : Prop} (h : p := by ((try simp only [hl8_1]); (try simp only [hl8_2]); (with_reducible repeat (first | apply rA|apply rN|apply rW)); exact Kd.R_mono HO_7.out (fun _ hk => hk.2))) : p := h
theorem z122_ {p : Prop} (h : p := by ((with_reducible repeat (first | apply rA|apply rN|apply rW)); exact (Kd.R_mono (Kd.R_far (p := ⟨gb459, 1, none⟩) (Kd.R_far (p := ⟨gb459, 0, none⟩) (Kd.R_types HO443.out BK459.out (by decide)) (fun _ hk => hk.2) (.slice Ao30 t453.length co30)) (fun _ hk => hk.2) (.slice Ao33 t456.length co33)) (fun _ h_ => h_.1)))) : p := h
theorem z123_ {p : Prop} (h : p := by ((with_reducible repeat (first | apply rA|apply rN|apply rW)); exact (Kd.R_mono (Kd.R_far (p := ⟨gb459, 1, none⟩) (Kd.R_far (p := ⟨gb459, 0, none⟩) (Kd.R_types HO449.out BK459.out (by decide)) (fun _ hk => hk.2) (.slice Ao30 t453.length co30)) (fun _ hk => hk.2) (.slice Ao33 t456.length co33)) (fun _ h_ => h_.1)))) : p := h
theorem z124_ {p : Prop} (h : p := by ((with_reducible repeat (first | apply rA|apply rN|apply rW)); exact (Kd.R_mono (Kd.R_far (p := ⟨gb459, 1, none⟩) (Kd.R_far (p := ⟨gb459, 0, none⟩) (Kd.R_types HO455.out BK459.out (by decide)) (fun _ hk => hk.2) (.slice Ao30 t453.length co30)) (fun _ hk => hk.2) (.slice Ao33 t456.length co33)) (fun _ h_ => h_.1)))) : p := h
theorem z125_ {p : Prop} (h : p := by (first | exact ⟨hk.1.1.2, ⟨hk.1.2, hk.2⟩⟩ | ((repeat' refine And.intro ?_ ?_) <;> first | exact hk.1 | exact hk.2 | exact hk.1.1 | exact hk.1.2 | exact hk.2.1 | exact hk.2.2 | exact hk.1.1.1 | exact hk.1.1.2 | exact hk.1.2.1 | exact hk.1.2.2 | exact hk.2.1.1 | exact hk.2.1.2 | exact hk.2.2.1 | exact hk.2.2.2))) : p := h
theorem z126_ {p : Prop} (h : p := by (rw [hg]; exact (below_size (by repeat (first | (with_reducible first | exact HB.out|apply wA|apply wN|apply wD |refine wS ?_ GE312.out) | exact HB.out))))) : p := h
theorem z127_ {p : Prop} (h : p := by (rw [hg]; exact (below_size (by repeat (first | (with_reducible first | exact HB.out|apply wA|apply wN|apply wD |refine wS ?_ GE373.out) | exact HB.out))))) : p := h
theorem z128_ {p : Prop} (h : p := by (rw [hg]; exact (below_size (by repeat (first | (with_reducible first | exact HB.out|apply wA|apply wN|apply wD |refine wS ?_ GE393.out) | exact HB.out))))) : p := h
theorem z129_ {p : Prop} (h : p := by (rw [hg]; exact (below_size (by repeat (first | (with_reducible first | exact HB.out|apply wA|apply wN|apply wD |refine wS ?_ GE399.out) | exact HB.out))))) : p := h
theorem z130_ {p : Prop} (h : p := by ((with_reducible repeat (first | apply rA|apply rN|apply rW)); exact Kd.R_mono HO_7.out (fun _ hk => ⟨trivial, hk⟩))) : p := h
theorem z131_ {p : Prop} (h : p := by ((with_reducible repeat (first | refine bN ?_ _|refine bW ?_|refine bA ?_ _)); exact BK112.out)) : p := h
theorem z132_ {p : Prop} (h : p := by ((with_reducible repeat (first | refine bN ?_ _|refine bW ?_|refine bA ?_ _)); refine blk_far ?_ (by have h_ := Kd.R_ne HO_7.out BK373.out (by decide); intro e_; exact h_ (by rw [e_]; rfl)) _; (with_reducible repeat (first | refine bN ?_ _|refine bW ?_|refine bA ?_ _)); exact BK373.out)) : p := h
theorem z133_ {p : Prop} (h : p := by ((with_reducible repeat (first | refine bN ?_ _|refine bW ?_|refine bA ?_ _)); refine blk_far ?_ (by have h_ := Kd.R_ne HO_7.out BK384.out (by decide); intro e_; exact h_ (by rw [e_]; rfl)) _; (with_reducible repeat (first | refine bN ?_ _|refine bW ?_|refine bA ?_ _)); exact BK384.out)) : p := h
theorem z134_ {p : Prop} (h : p := by ((with_reducible repeat (first | refine bN ?_ _|refine bW ?_|refine bA ?_ _)); refine blk_far ?_ (by have h_ := Kd.R_ne HO_8.out BK384.out (by decide); intro e_; exact h_ (by rw [e_]; rfl)) _; (with_reducible repeat (first | refine bN ?_ _|refine bW ?_|refine bA ?_ _)); exact BK384.out)) : p := h
theorem z135_ {p : Prop} (h : p := by ((with_reducible repeat (first | refine bN ?_ _|refine bW ?_|refine bA ?_ _)); exact BK399.out)) : p := h
theorem z136_ {p : Prop} (h : p := by ((with_reducible repeat (first | apply rA|apply rN|apply rW)); exact HO_11.out)) : p := h
theorem z137_ {p : Prop} (h : p := by ((with_reducible repeat (first | apply rA|apply rN|apply rW)); exact Kd.R_mono (Kd.R_far (p := ⟨go27, ((X7 t380 x67_1).f2 : Int).toNat, none⟩) (Kd.R_types HO_19.out GG27.out (by decide)) (fun _ hk => hk.2) (.int .i64 (rd y387 (X7 t380 x67_1).f0))) (fun _ hk => hk.1))) : p := h
theorem z138_ {p : Prop} (h : p := by ((with_reducible repeat (first | apply rA|apply rN|apply rW)); exact HO424.out)) : p := h
theorem z139_ {p : Prop} (h : p := by ((with_reducible repeat (first | apply rA|apply rN|apply rW)); exact HO443.out)) : p := h
theorem z140_ {p : Prop} (h : p := by (rw [hg]; exact Nat.ne_of_lt (blk_lt (g := gb112) (o := .cells #[.string a0_0, .int .i64 a0_1, .int .i64 a0_2, .int .i64 a0_3, .int .i64 a0_4, .int .i64 a0_5] 68 (0, 0)) (by (with_reducible repeat (first | refine bN ?_ _|refine bW ?_|refine bA ?_ _)); exact BK112.out)))) : p := h
theorem z141_ {p : Prop} (h : p := by (rw [hg]; exact Nat.ne_of_gt (blk_lt (g := gb112) (o := .cells #[.string a0_0, .int .i64 a0_1, .int .i64 a0_2, .int .i64 a0_3, .int .i64 a0_4, .int .i64 a0_5] 68 (0, 0)) (by (with_reducible repeat (first | refine bN ?_ _|refine bW ?_|refine bA ?_ _)); exact BK112.out)))) : p := h
theorem z142_ {p : Prop} (h : p := by (repeat (first | (with_reducible first | exact HB.out|apply wA|apply wN|apply wD | refine below_set ?_ GB27.out |refine wS ?_ GE373.out |refine wS ?_ GE384.out) | exact HB.out))) : p := h
theorem z143_ {p : Prop} (h : p := by ((with_reducible repeat (first | apply rA|apply rN|apply rW)); exact HO_460001.out)) : p := h
theorem z144_ {p : Prop} (h : p := by (repeat (first | (with_reducible first | exact HB.out|apply wA|apply wN|apply wD |refine wS ?_ GE345.out) | exact HB.out))) : p := h
theorem z145_ {p : Prop} (h : p := by (rw [hg]; exact Nat.ne_of_lt (blk_lt (g := gb393) (o := .cells #[.slice A0_0 l0_0.length c0_0, .slice (some ad394) l0_1.length c0_1] 31 (0, 0)) (by (with_reducible repeat (first | refine bN ?_ _|refine bW ?_|refine bA ?_ _)); exact BK393.out)))) : p := h
theorem z146_ {p : Prop} (h : p := by (rw [hg]; exact Nat.ne_of_gt (blk_lt (g := gb393) (o := .cells #[.slice A0_0 l0_0.length c0_0, .slice (some ad394) l0_1.length c0_1] 31 (0, 0)) (by (with_reducible repeat (first | refine bN ?_ _|refine bW ?_|refine bA ?_ _)); exact BK393.out)))) : p := h
theorem z147_ {p : Prop} (h : p := by ((with_reducible repeat (first | refine bN ?_ _|refine bW ?_|refine bA ?_ _)); exact BK336.out)) : p := h
theorem z148_ {p : Prop} (h : p := by ((with_reducible repeat (first | refine bN ?_ _|refine bW ?_|refine bA ?_ _)); exact BK361.out)) : p := h
theorem z149_ {p : Prop} (h : p := by ((with_reducible repeat (first | apply rA|apply rN|apply rW)); exact HO446.out)) : p := h
theorem z150_ {p : Prop} (h : p := by (rw [hg]; exact Nat.ne_of_lt (blk_lt (g := gb126) (o := .cells #[.slice A0_0 l0_0.length c0_0, .slice A0_1 l0_1.length c0_1] 25 (0, 0)) (by (with_reducible repeat (first | refine bN ?_ _|refine bW ?_|refine bA ?_ _)); exact BK126.out)))) : p := h
theorem z151_ {p : Prop} (h : p := by (rw [hg]; exact Nat.ne_of_gt (blk_lt (g := gb126) (o := .cells #[.slice A0_0 l0_0.length c0_0, .slice A0_1 l0_1.length c0_1] 25 (0, 0)) (by (with_reducible repeat (first | refine bN ?_ _|refine bW ?_|refine bA ?_ _)); exact BK126.out)))) : p := h
theorem z152_ {p : Prop} (h : p := by (rw [hg]; exact Nat.ne_of_lt (blk_lt (g := gb312) (o := .cells #[.slice A0_0 l0_0.length c0_0, .slice A0_1 l0_1.length c0_1] 31 (0, 0)) (by (with_reducible repeat (first | refine bN ?_ _|refine bW ?_|refine bA ?_ _)); exact BK312.out)))) : p := h
theorem z153_ {p : Prop} (h : p := by (rw [hg]; exact Nat.ne_of_gt (blk_lt (g := gb312) (o := .cells #[.slice A0_0 l0_0.length c0_0, .slice A0_1 l0_1.length c0_1] 31 (0, 0)) (by (with_reducible repeat (first | refine bN ?_ _|refine bW ?_|refine bA ?_ _)); exact BK312.out)))) : p := h
theorem z154_ {p : Prop} (h : p := by (rw [hg]; exact Nat.ne_of_lt (blk_lt (g := gb373) (o := .cells #[.slice A0_0 l0_0.length c0_0, .slice A0_1 l0_1.length c0_1] 31 (0, 0)) (by (with_reducible repeat (first | refine bN ?_ _|refine bW ?_|refine bA ?_ _)); exact BK373.out)))) : p := h
theorem z155_ {p : Prop} (h : p := by (rw [hg]; exact Nat.ne_of_gt (blk_lt (g := gb373) (o := .cells #[.slice A0_0 l0_0.length c0_0, .slice A0_1 l0_1.length c0_1] 31 (0, 0)) (by (with_reducible repeat (first | refine bN ?_ _|refine bW ?_|refine bA ?_ _)); exact BK373.out)))) : p := h
theorem z156_ {p : Prop} (h : p := by ((with_reducible repeat (first | apply rA|apply rN|apply rW)); exact Kd.R_mono HO_6.out (fun _ hk => ⟨trivial, hk⟩))) : p := h
theorem z157_ {p : Prop} (h : p := by (have := HK1.out; have := HK2.out; omega)) : p := h
theorem z158_ {p : Prop} (h : p := by (rw [hg]; exact Nat.ne_of_lt (blk_lt (g := gb399) (o := .cells #[.int .i64 a0_0, .int .i64 a0_1, .int .i64 a0_2] 82 (0, 0)) (by (with_reducible repeat (first | refine bN ?_ _|refine bW ?_|refine bA ?_ _)); exact BK399.out)))) : p := h
theorem z159_ {p : Prop} (h : p := by (rw [hg]; exact Nat.ne_of_gt (blk_lt (g := gb399) (o := .cells #[.int .i64 a0_0, .int .i64 a0_1, .int .i64 a0_2] 82 (0, 0)) (by (with_reducible repeat (first | refine bN ?_ _|refine bW ?_|refine bA ?_ _)); exact BK399.out)))) : p := h
theorem z160_ {p : Prop} (h : p := by (repeat (first | (with_reducible first | exact HB.out|apply wA|apply wN|apply wD |refine wS ?_ GE112.out |refine wS ?_ GE113.out) | exact HB.out))) : p := h
theorem z161_ {p : Prop} (h : p := by (repeat (first | (with_reducible first | exact HB.out|apply wA|apply wN|apply wD |refine wS ?_ GE126.out |refine wS ?_ GE127.out) | exact HB.out))) : p := h
theorem z162_ {p : Prop} (h : p := by (repeat (first | (with_reducible first | exact HB.out|apply wA|apply wN|apply wD |refine wS ?_ GE373.out |refine wS ?_ GE384.out) | exact HB.out))) : p := h
theorem z163_ {p : Prop} (h : p := by (repeat (first | (with_reducible first | exact HB.out|apply wA|apply wN|apply wD |refine wS ?_ GE404.out |refine wS ?_ GE413.out) | exact HB.out))) : p := h
theorem z164_ {p : Prop} (h : p := by ((with_reducible repeat (first | apply rA|apply rN|apply rW)); exact Kd.R_mono HO_6.out (fun _ hk => hk.2))) : p := h
theorem z165_ {p : Prop} (h : p := by ((with_reducible repeat (first | apply rA|apply rN|apply rW)); exact HO449.out)) : p := h
theorem z166_ {p : Prop} (h : p := by ((with_reducible repeat (first | refine bN ?_ _|refine bW ?_|refine bA ?_ _)); exact BK127.out)) : p := h
theorem z167_ {p : Prop} (h : p := by (first | omega | exact Nat.le_refl _)) : p := h
theorem z168_ {p : Prop} (h : p := by (repeat (first | (with_reducible first | exact HB.out|apply wA|apply wN|apply wD |refine wS ?_ GE112.out) | exact HB.out))) : p := h
theorem z169_ {p : Prop} (h : p := by (repeat (first | (with_reducible first | exact HB.out|apply wA|apply wN|apply wD |refine wS ?_ GE126.out) | exact HB.out))) : p := h
theorem z170_ {p : Prop} (h : p := by (repeat (first | (with_reducible first | exact HB.out|apply wA|apply wN|apply wD |refine wS ?_ GE324.out) | exact HB.out))) : p := h
theorem z171_ {p : Prop} (h : p := by (repeat (first | (with_reducible first | exact HB.out|apply wA|apply wN|apply wD |refine wS ?_ GE326.out) | exact HB.out))) : p := h
theorem z172_ {p : Prop} (h : p := by (rw [hg]; exact (below_size (by repeat (first | (with_reducible first | exact HB.out|apply wA|apply wN|apply wD |refine wS ?_ GE112.out |refine wS ?_ GE113.out) | exact HB.out))))) : p := h
theorem z173_ {p : Prop} (h : p := by (rw [hg]; exact (below_size (by repeat (first | (with_reducible first | exact HB.out|apply wA|apply wN|apply wD |refine wS ?_ GE126.out |refine wS ?_ GE127.out) | exact HB.out))))) : p := h
theorem z174_ {p : Prop} (h : p := by (have := HK1.out; have := HK2.out; have := HJ22.out; omega)) : p := h
theorem z175_ {p : Prop} (h : p := by ((try simp only [hl4_3]); (with_reducible repeat (first | refine bN ?_ _|refine bW ?_|refine bA ?_ _)); exact BK0.out)) : p := h
theorem z176_ {p : Prop} (h : p := by (repeat (first | (with_reducible first | exact HB.out|apply wA|apply wN|apply wD | refine below_set ?_ GB24.out |refine wS ?_ GE373.out |refine wS ?_ GE384.out) | exact HB.out))) : p := h
theorem z177_ {p : Prop} (h : p := by ((with_reducible repeat (first | apply rA|apply rN|apply rW)); exact Kd.R_mono HO458.out (fun _ hk => trivial))) : p := h
theorem z178_ {p : Prop} (h : p := by (repeat (first | exact Below.refl _ _ | apply pw_below_drewN | apply below_drew1))) : p := h
theorem z179_ {p : Prop} (h : p := by ((with_reducible repeat (first | apply rA|apply rN|apply rW)); exact Kd.R_mono HO462.out (fun _ hk => hk.2))) : p := h
theorem z180_ {p : Prop} (h : p := by ((with_reducible repeat (first | apply rA|apply rN|apply rW)); exact Kd.R_mono HO455.out (fun _ hk => hk.2))) : p := h
theorem z181_ {p : Prop} (h : p := by ((with_reducible repeat (first | apply rA|apply rN|apply rW)); exact HO185.out)) : p := h
theorem z182_ {p : Prop} (h : p := by ((with_reducible repeat (first | apply rA|apply rN|apply rW)); exact HO238.out)) : p := h
theorem z183_ {p : Prop} (h : p := by ((with_reducible repeat (first | apply rA|apply rN|apply rW)); exact HO241.out)) : p := h
theorem z184_ {p : Prop} (h : p := by ((with_reducible repeat (first | apply rA|apply rN|apply rW)); exact HO262.out)) : p := h
theorem z185_ {p : Prop} (h : p := by ((with_reducible repeat (first | apply rA|apply rN|apply rW)); exact HO265.out)) : p := h
theorem z186_ {p : Prop} (h : p := by ((with_reducible repeat (first | apply rA|apply rN|apply rW)); exact HO283.out)) : p := h
theorem z187_ {p : Prop} (h : p := by ((with_reducible repeat (first | apply rA|apply rN|apply rW)); exact HO_12.out)) : p := h
theorem z188_ {p : Prop} (h : p := by ((with_reducible repeat (first | apply rA|apply rN|apply rW)); exact HO376.out)) : p := h
theorem z189_ {p : Prop} (h : p := by ((with_reducible repeat (first | apply rA|apply rN|apply rW)); exact HO379.out)) : p := h
theorem z190_ {p : Prop} (h : p := by ((with_reducible repeat (first | apply rA|apply rN|apply rW)); exact HO_27.out)) : p := h
theorem z191_ {p : Prop} (h : p := by ((with_reducible repeat (first | apply rA|apply rN|apply rW)); exact HO_4.out)) : p := h
theorem z192_ {p : Prop} (h : p := by ((with_reducible repeat (first | apply rA|apply rN|apply rW)); exact HO_9.out)) : p := h
theorem z193_ {p : Prop} (h : p := by (first | rfl | simp)) : p := h
theorem z194_ {p : Prop} (h : p := by (rw [hg]; exact (below_size (by repeat (first | (with_reducible first | exact HB.out|apply wA|apply wN|apply wD |refine wS ?_ GE112.out) | exact HB.out))))) : p := h
theorem z195_ {p : Prop} (h : p := by (rw [hg]; exact (below_size (by repeat (first | (with_reducible first | exact HB.out|apply wA|apply wN|apply wD |refine wS ?_ GE126.out) | exact HB.out))))) : p := h
theorem z196_ {p : Prop} (h : p := by ((try simp only [hl4_3]); (with_reducible repeat (first | apply rA|apply rN|apply rW)); exact HO_4.out)) : p := h
theorem z197_ {p : Prop} (h : p := by (rw [hg]; exact (below_size (by repeat (first | (with_reducible first | exact HB.out|apply wA|apply wN|apply wD |refine wS ?_ GE404.out) | exact HB.out))))) : p := h
theorem z198_ {p : Prop} (h : p := by (rw [hg]; exact (below_size (by repeat (first | (with_reducible first | exact HB.out|apply wA|apply wN|apply wD |refine wS ?_ GE439.out) | exact HB.out))))) : p := h
theorem z199_ {p : Prop} (h : p := by (repeat (first | (with_reducible first | exact HB.out|apply wA|apply wN|apply wD |refine wS ?_ GE399.out |refine wS ?_ GE400.out) | exact HB.out))) : p := h
theorem z200_ {p : Prop} (h : p := by ((with_reducible repeat (first | refine bN ?_ _|refine bW ?_|refine bA ?_ _)); exact BK113.out)) : p := h
theorem z201_ {p : Prop} (h : p := by (rw [← hq_]; exact (by repeat (first | (with_reducible first | exact HB.out|apply wA|apply wN|apply wD |refine wS ?_ GE0.out) | exact HB.out)))) : p := h
theorem z202_ {p : Prop} (h : p := by ((with_reducible repeat (first | refine bN ?_ _|refine bW ?_|refine bA ?_ _)); exact BK313.out)) : p := h
theorem z204_ {p : Prop} (h : p := by (rw [hw]; exact below_set (HB.out) GB8.out)) : p := h
theorem z205_ {p : Prop} (h : p := by ((try simp only [hl8_1]); (try simp only [hl8_2]); (with_reducible repeat (first | apply rA|apply rN|apply rW)); exact HO203.out)) : p := h
theorem z206_ {p : Prop} (h : p := by (repeat (first | (with_reducible first | exact HB.out|apply wA|apply wN|apply wD |refine wS ?_ GE101.out) | exact HB.out))) : p := h
theorem z207_ {p : Prop} (h : p := by ((with_reducible repeat (first | apply rA|apply rN|apply rW)); exact HO_22.out)) : p := h
theorem z208_ {p : Prop} (h : p := by ((with_reducible repeat (first | apply rA|apply rN|apply rW)); exact Kd.R_mono HO_3.out (fun _ hk => ⟨trivial, hk⟩))) : p := h
theorem z209_ {p : Prop} (h : p := by (rw [← hq_]; exact (by (with_reducible repeat (first | refine bN ?_ _|refine bW ?_|refine bA ?_ _)); exact BK0.out))) : p := h
theorem z210_ {p : Prop} (h : p := by (rw [e_]; rfl)) : p := h
theorem z211_ {p : Prop} (h : p := by ((with_reducible repeat (first | apply rA|apply rN|apply rW)); exact Kd.R_mono HO376.out (fun _ hk => hk.2))) : p := h
theorem z212_ {p : Prop} (h : p := by ((with_reducible repeat (first | apply rA|apply rN|apply rW)); exact Kd.R_mono HO379.out (fun _ hk => hk.2))) : p := h
theorem z213_ {p : Prop} (h : p := by (have := HJ4.out; have := HJ8.out; first | omega | exact Nat.le_refl _)) : p := h
theorem z214_ {p : Prop} (h : p := by (rw [hw]; exact below_set (HB.out) GB39.out)) : p := h
theorem z215_ {p : Prop} (h : p := by (have := HK1.out; have := HK2.out; have := HK3.out; omega)) : p := h
theorem z216_ {p : Prop} (h : p := by (have := HJ1.out; have := HK2.out; omega)) : p := h
theorem z217_ {p : Prop} (h : p := by (repeat (first | exact (Kd.C_below HR0_0.out HB.out) | (with_reducible first|refine Kd.C_alloc ?_ _|refine Kd.C_drewN ?_ _|refine Kd.C_drew ?_)))) : p := h
theorem z218_ {p : Prop} (h : p := by (first | assumption | (simp only [World.cell?_drewN, World.cell?_drew]; assumption) | (go_simp; done))) : p := h
theorem z219_ {p : Prop} (h : p := by (repeat (first | exact (Kd.C_below HR0_1.out HB.out) | (with_reducible first|refine Kd.C_alloc ?_ _|refine Kd.C_drewN ?_ _|refine Kd.C_drew ?_)))) : p := h
theorem z220_ {p : Prop} (h : p := by (repeat (first | exact HR0_0.out | (with_reducible first|refine Kd.C_alloc ?_ _|refine Kd.C_drewN ?_ _|refine Kd.C_drew ?_)))) : p := h
theorem z221_ {p : Prop} (h : p := by (repeat (first | exact HR0_1.out | (with_reducible first|refine Kd.C_alloc ?_ _|refine Kd.C_drewN ?_ _|refine Kd.C_drew ?_)))) : p := h
theorem z222_ {p : Prop} (h : p := by (repeat (first | exact (Kd.C_below HR2.out HB.out) | (with_reducible first|refine Kd.C_alloc ?_ _|refine Kd.C_drewN ?_ _|refine Kd.C_drew ?_)))) : p := h
theorem z223_ {p : Prop} (h : p := by (repeat (first | exact (Kd.C_below HR0_0.out (z3_)) | (with_reducible first|refine Kd.C_alloc ?_ _|refine Kd.C_drewN ?_ _|refine Kd.C_drew ?_)))) : p := h
theorem z224_ {p : Prop} (h : p := by (repeat (first | exact (Kd.C_below HR0_1.out (z3_)) | (with_reducible first|refine Kd.C_alloc ?_ _|refine Kd.C_drewN ?_ _|refine Kd.C_drew ?_)))) : p := h
theorem z225_ {p : Prop} (h : p := by (repeat (first | exact HR2.out | (with_reducible first|refine Kd.C_alloc ?_ _|refine Kd.C_drewN ?_ _|refine Kd.C_drew ?_)))) : p := h
theorem z226_ {p : Prop} (h : p := by (repeat (first | exact (Kd.C_below HR2.out (z3_)) | (with_reducible first|refine Kd.C_alloc ?_ _|refine Kd.C_drewN ?_ _|refine Kd.C_drew ?_)))) : p := h
theorem z227_ {p : Prop} (h : p := by (repeat (first | exact (Kd.R_reads' HO424.out).2.2 | (with_reducible first|refine Kd.C_alloc ?_ _|refine Kd.C_drewN ?_ _|refine Kd.C_drew ?_)))) : p := h
theorem z228_ {p : Prop} (h : p := by (exact (Kd.R_reads' HO424.out).2.1)) : p := h
theorem z229_ {p : Prop} (h : p := by (repeat (first | exact (Kd.C_below HR1_0.out HB.out) | (with_reducible first|refine Kd.C_alloc ?_ _|refine Kd.C_drewN ?_ _|refine Kd.C_drew ?_)))) : p := h
theorem z230_ {p : Prop} (h : p := by (repeat (first | exact (Kd.C_below HR0_0.out (z15_)) | (with_reducible first|refine Kd.C_alloc ?_ _|refine Kd.C_drewN ?_ _|refine Kd.C_drew ?_)))) : p := h
theorem z231_ {p : Prop} (h : p := by (repeat (first | exact (Kd.C_below HR0_1.out (z15_)) | (with_reducible first|refine Kd.C_alloc ?_ _|refine Kd.C_drewN ?_ _|refine Kd.C_drew ?_)))) : p := h
theorem z232_ {p : Prop} (h : p := by (repeat (first | exact (Kd.C_below HR2.out (z15_)) | (with_reducible first|refine Kd.C_alloc ?_ _|refine Kd.C_drewN ?_ _|refine Kd.C_drew ?_)))) : p := h
theorem z233_ {p : Prop} (h : p := by (repeat (first | exact (Kd.C_below HR0_0.out (z12_)) | (with_reducible first|refine Kd.C_alloc ?_ _|refine Kd.C_drewN ?_ _|refine Kd.C_drew ?_)))) : p := h
theorem z234_ {p : Prop} (h : p := by (repeat (first | exact (Kd.C_below HR0_1.out (z12_)) | (with_reducible first|refine Kd.C_alloc ?_ _|refine Kd.C_drewN ?_ _|refine Kd.C_drew ?_)))) : p := h
theorem z235_ {p : Prop} (h : p := by (repeat (first | exact (Kd.C_below HR2.out (z12_)) | (with_reducible first|refine Kd.C_alloc ?_ _|refine Kd.C_drewN ?_ _|refine Kd.C_drew ?_)))) : p := h
theorem z236_ {p : Prop} (h : p := by (repeat (first | exact (Kd.C_below HR0_1.out (z84_)) | (with_reducible first|refine Kd.C_alloc ?_ _|refine Kd.C_drewN ?_ _|refine Kd.C_drew ?_)))) : p := h
theorem z237_ {p : Prop} (h : p := by (repeat (first | exact (Kd.C_below HR0_1.out (z47_)) | (with_reducible first|refine Kd.C_alloc ?_ _|refine Kd.C_drewN ?_ _|refine Kd.C_drew ?_)))) : p := h
theorem z238_ {p : Prop} (h : p := by (repeat (first | exact (Kd.C_below HR1_1.out (z47_)) | (with_reducible first|refine Kd.C_alloc ?_ _|refine Kd.C_drewN ?_ _|refine Kd.C_drew ?_)))) : p := h
theorem z239_ {p : Prop} (h : p := by (repeat (first | exact (Kd.R_reads' HO283.out).2.2 | (with_reducible first|refine Kd.C_alloc ?_ _|refine Kd.C_drewN ?_ _|refine Kd.C_drew ?_)))) : p := h
theorem z240_ {p : Prop} (h : p := by (repeat (first | exact (Kd.R_reads' HO_7.out).2.2 | (with_reducible first|refine Kd.C_alloc ?_ _|refine Kd.C_drewN ?_ _|refine Kd.C_drew ?_)))) : p := h
theorem z241_ {p : Prop} (h : p := by (repeat (first | exact (Kd.R_reads' HO_6.out).2.2 | (with_reducible first|refine Kd.C_alloc ?_ _|refine Kd.C_drewN ?_ _|refine Kd.C_drew ?_)))) : p := h
theorem z242_ {p : Prop} (h : p := by (repeat (first | exact (Kd.R_reads' HO_14.out).2.2 | (with_reducible first|refine Kd.C_alloc ?_ _|refine Kd.C_drewN ?_ _|refine Kd.C_drew ?_)))) : p := h
theorem z243_ {p : Prop} (h : p := by (repeat (first | exact (Kd.R_reads' HO475.out).2.2 | (with_reducible first|refine Kd.C_alloc ?_ _|refine Kd.C_drewN ?_ _|refine Kd.C_drew ?_)))) : p := h
theorem z244_ {p : Prop} (h : p := by (repeat' first|(with_reducible first|exact ih0 _ _ _|exact LeO.refl _|exact LeO.none _|refine LeO.ite ?_ ?_|refine LeO.bind ?_ (fun _ => ?_))|exact ih0 _ _ _|exact LeO.none _|refine LeO.ite ?_ ?_|refine LeO.bind ?_ (fun _ => ?_))) : p := h
theorem z245_ {p : Prop} (h : p := by (repeat' first|(with_reducible first|exact ih0 _ _|exact ih1 _ _|exact LeO.refl _|exact LeO.none _|refine LeO.ite ?_ ?_|refine LeO.bind ?_ (fun _ => ?_))|exact ih0 _ _|exact ih1 _ _|exact LeO.none _|refine LeO.ite ?_ ?_|refine LeO.bind ?_ (fun _ => ?_))) : p := h
theorem z246_ {p : Prop} (h : p := by (repeat' first|(with_reducible first|exact ih0 _ _ _|exact ih1 _ _ _|exact ih2 _ _ _|exact LeO.refl _|exact LeO.none _|refine LeO.ite ?_ ?_|refine LeO.bind ?_ (fun _ => ?_))|exact ih0 _ _ _|exact ih1 _ _ _|exact ih2 _ _ _|exact LeO.none _|refine LeO.ite ?_ ?_|refine LeO.bind ?_ (fun _ => ?_))) : p := h
theorem z247_ {p : Prop} (h : p := by (repeat' first|(with_reducible first|exact ih0 _ _ _ _|exact LeO.refl _|exact LeO.none _|refine LeO.ite ?_ ?_|refine LeO.bind ?_ (fun _ => ?_))|exact ih0 _ _ _ _|exact LeO.none _|refine LeO.ite ?_ ?_|refine LeO.bind ?_ (fun _ => ?_))) : p := h
theorem z248_ {p : Prop} (h : p := by (repeat' first|(with_reducible first|exact ih0 _ _ _ _ _|exact ih1 _ _ _ _ _|exact ih2 _ _ _ _ _ _ _ _|exact LeO.refl _|exact LeO.none _|refine LeO.ite ?_ ?_|refine LeO.bind ?_ (fun _ => ?_))|exact ih0 _ _ _ _ _|exact ih1 _ _ _ _ _|exact ih2 _ _ _ _ _ _ _ _|exact LeO.none _|refine LeO.ite ?_ ?_|refine LeO.bind ?_ (fun _ => ?_))) : p := h
theorem z249_ {p : Prop} (h : p := by (repeat' first|(with_reducible first|exact ih0 _ _ _ _ _ _|exact ih1 _ _ _ _ _ _ _|exact ih2 _ _ _ _ _ _ _ _ _|exact LeO.refl _|exact LeO.none _|refine LeO.ite ?_ ?_|refine LeO.bind ?_ (fun _ => ?_))|exact ih0 _ _ _ _ _ _|exact ih1 _ _ _ _ _ _ _|exact ih2 _ _ _ _ _ _ _ _ _|exact LeO.none _|refine LeO.ite ?_ ?_|refine LeO.bind ?_ (fun _ => ?_))) : p := h
theorem z250_ {p : Prop} (h : p := by (repeat' first|(with_reducible first|exact ih0 _ _ _ _ _ _ _|exact X6.mono _ _ _ _|exact LeO.refl _|exact LeO.none _|refine LeO.ite ?_ ?_|refine LeO.bind ?_ (fun _ => ?_))|exact ih0 _ _ _ _ _ _ _|exact X6.mono _ _ _ _|exact LeO.none _|refine LeO.ite ?_ ?_|refine LeO.bind ?_ (fun _ => ?_))) : p := h
theorem z251_ {p : Prop} (h : p := by (repeat' first|(with_reducible first|exact ih0 _ _ _ _|exact X42.mono _ _ _ _ _|exact X44.mono _ _ _ _ _ _|exact LeO.refl _|exact LeO.none _|refine LeO.ite ?_ ?_|refine LeO.bind ?_ (fun _ => ?_))|exact ih0 _ _ _ _|exact X42.mono _ _ _ _ _|exact X44.mono _ _ _ _ _ _|exact LeO.none _|refine LeO.ite ?_ ?_|refine LeO.bind ?_ (fun _ => ?_))) : p := h
theorem z252_ {p : Prop} (h : p := by (repeat' first|(with_reducible first|exact ih0 _ _ _|exact ih1 _ _ _ _ _|exact LeO.refl _|exact LeO.none _|refine LeO.ite ?_ ?_|refine LeO.bind ?_ (fun _ => ?_))|exact ih0 _ _ _|exact ih1 _ _ _ _ _|exact LeO.none _|refine LeO.ite ?_ ?_|refine LeO.bind ?_ (fun _ => ?_))) : p := h
theorem z253_ {p : Prop} (h : p := by (repeat' first|(with_reducible first|exact ih0 _ _ _ _ _|exact ih1 _ _ _ _ _ _ _ _|exact X14.mono _ _ _|exact LeO.refl _|exact LeO.none _|refine LeO.ite ?_ ?_|refine LeO.bind ?_ (fun _ => ?_))|exact ih0 _ _ _ _ _|exact ih1 _ _ _ _ _ _ _ _|exact X14.mono _ _ _|exact LeO.none _|refine LeO.ite ?_ ?_|refine LeO.bind ?_ (fun _ => ?_))) : p := h
theorem z254_ {p : Prop} (h : p := by (repeat' first|(with_reducible first|exact ih0 _ _ _ _ _ _|exact ih1 _ _ _ _ _|exact ih2 _ _ _|exact X19.mono _ _ _|exact LeO.refl _|exact LeO.none _|refine LeO.ite ?_ ?_|refine LeO.bind ?_ (fun _ => ?_))|exact ih0 _ _ _ _ _ _|exact ih1 _ _ _ _ _|exact ih2 _ _ _|exact X19.mono _ _ _|exact LeO.none _|refine LeO.ite ?_ ?_|refine LeO.bind ?_ (fun _ => ?_))) : p := h
theorem z255_ {p : Prop} (h : p := by (repeat' first|(with_reducible first|exact ih0 _ _ _ _ _ _|exact X5.mono _ _ _ _|exact LeO.refl _|exact LeO.none _|refine LeO.ite ?_ ?_|refine LeO.bind ?_ (fun _ => ?_))|exact ih0 _ _ _ _ _ _|exact X5.mono _ _ _ _|exact LeO.none _|refine LeO.ite ?_ ?_|refine LeO.bind ?_ (fun _ => ?_))) : p := h
theorem z256_ {p : Prop} (h : p := by (repeat' first|(with_reducible first|exact ih0 _ _ _ _ _ _ _|exact X5.mono _ _ _ _|exact LeO.refl _|exact LeO.none _|refine LeO.ite ?_ ?_|refine LeO.bind ?_ (fun _ => ?_))|exact ih0 _ _ _ _ _ _ _|exact X5.mono _ _ _ _|exact LeO.none _|refine LeO.ite ?_ ?_|refine LeO.bind ?_ (fun _ => ?_))) : p := h
theorem z257_ {p : Prop} (h : p := by (repeat' first|(with_reducible first|exact ih0 _ _ _ _ _ _|exact X32.mono _ _ _ _ _ _ _|exact LeO.refl _|exact LeO.none _|refine LeO.ite ?_ ?_|refine LeO.bind ?_ (fun _ => ?_))|exact ih0 _ _ _ _ _ _|exact X32.mono _ _ _ _ _ _ _|exact LeO.none _|refine LeO.ite ?_ ?_|refine LeO.bind ?_ (fun _ => ?_))) : p := h
theorem z258_ {p : Prop} (h : p := by (repeat' first|(with_reducible first|exact ih0 _ _ _ _ _|exact ih1 _ _ _ _ _|exact ih2 _ _ _ _ _ _ _|exact ih3 _ _ _ _ _ _|exact ih4 _ _|exact X18.mono _ _ _ _ _ _|exact X21.mono _ _ _ _ _ _|exact LeO.refl _|exact LeO.none _|refine LeO.ite ?_ ?_|refine LeO.bind ?_ (fun _ => ?_))|exact ih0 _ _ _ _ _|exact ih1 _ _ _ _ _|exact ih2 _ _ _ _ _ _ _|exact ih3 _ _ _ _ _ _|exact ih4 _ _|exact X18.mono _ _ _ _ _ _|exact X21.mono _ _ _ _ _ _|exact LeO.none _|refine LeO.ite ?_ ?_|refine LeO.bind ?_ (fun _ => ?_))) : p := h



def errW : Option Int → Value
  | none => .nilIface
  | some c => .iface 0 (.int .i64 c)
theorem errW_none : errW none = .nilIface := rfl
theorem errW_some (c : Int) : errW (some c) = .iface 0 (.int .i64 c) := rfl

theorem info2 : (Try.prog.info? 2).map (fun i => (i.zero, i.size, i.bytes)) = some (some (.int .i64 0), 1, 8) := by kernel_rfl
theorem info4 : (Try.prog.info? 4).map (fun i => (i.zero, i.size, i.bytes)) = some (some (.bool false), 1, 1) := by kernel_rfl
theorem info73 : (Try.prog.info? 73).map (fun i => (i.zero, i.size, i.bytes)) = some (some (.agg #[(.string ⟨#[]⟩), (.int .i64 0), (.int .i64 0), (.int .i64 0), (.int .i64 0), (.int .i64 0)]), 6, 56) := by kernel_rfl
theorem info82 : (Try.prog.info? 82).map (fun i => (i.zero, i.size, i.bytes)) = some (some (.agg #[(.int .i64 0), (.int .i64 0), (.int .i64 0)]), 3, 24) := by kernel_rfl
-- the values' own types
structure S68 where
  f0 : ByteArray
  f1 : Int
  f2 : Int
  f3 : Int
  f4 : Int
  f5 : Int
def z68 : S68 := ⟨(⟨#[]⟩ : ByteArray), (0 : Int), (0 : Int), (0 : Int), (0 : Int), (0 : Int)⟩
def k68 : Kd S68 := Kd.iso (Kd.pair Kd.string (Kd.pair (Kd.int .i64) (Kd.pair (Kd.int .i64) (Kd.pair (Kd.int .i64) (Kd.pair (Kd.int .i64) (Kd.int .i64)))))) (fun x : S68 => (x.f0, x.f1, x.f2, x.f3, x.f4, x.f5))
theorem k68_open {w : World} {x : S68} {cs : List Value} (h : k68.K w x cs) : cs = [.string x.f0, .int .i64 x.f1, .int .i64 x.f2, .int .i64 x.f3, .int .i64 x.f4, .int .i64 x.f5] := by
  obtain ⟨_, _, rfl, rfl, ⟨_, _, rfl, rfl, ⟨_, _, rfl, rfl, ⟨_, _, rfl, rfl, ⟨_, _, rfl, rfl, rfl⟩⟩⟩⟩⟩ := h
  exact rfl
theorem k68_openM {w : World} {base : Nat} {ok : Nat → Prop} {x : S68} {cs : List Value} (h : k68.M w base ok x cs) : cs = [.string x.f0, .int .i64 x.f1, .int .i64 x.f2, .int .i64 x.f3, .int .i64 x.f4, .int .i64 x.f5] := by
  obtain ⟨_, _, rfl, rfl, ⟨_, _, rfl, rfl, ⟨_, _, rfl, rfl, ⟨_, _, rfl, rfl, ⟨_, _, rfl, rfl, rfl⟩⟩⟩⟩⟩ := h
  exact rfl
theorem k68_mk (w : World) (x : S68)  : k68.K w x [.string x.f0, .int .i64 x.f1, .int .i64 x.f2, .int .i64 x.f3, .int .i64 x.f4, .int .i64 x.f5] := ⟨[.string x.f0], [.int .i64 x.f1, .int .i64 x.f2, .int .i64 x.f3, .int .i64 x.f4, .int .i64 x.f5], rfl, rfl, ⟨[.int .i64 x.f1], [.int .i64 x.f2, .int .i64 x.f3, .int .i64 x.f4, .int .i64 x.f5], rfl, rfl, ⟨[.int .i64 x.f2], [.int .i64 x.f3, .int .i64 x.f4, .int .i64 x.f5], rfl, rfl, ⟨[.int .i64 x.f3], [.int .i64 x.f4, .int .i64 x.f5], rfl, rfl, ⟨[.int .i64 x.f4], [.int .i64 x.f5], rfl, rfl, rfl⟩⟩⟩⟩⟩
theorem k68_mkM (w : World) (base : Nat) (ok : Nat → Prop) (x : S68)  : k68.M w base ok x [.string x.f0, .int .i64 x.f1, .int .i64 x.f2, .int .i64 x.f3, .int .i64 x.f4, .int .i64 x.f5] := ⟨[.string x.f0], [.int .i64 x.f1, .int .i64 x.f2, .int .i64 x.f3, .int .i64 x.f4, .int .i64 x.f5], rfl, rfl, ⟨[.int .i64 x.f1], [.int .i64 x.f2, .int .i64 x.f3, .int .i64 x.f4, .int .i64 x.f5], rfl, rfl, ⟨[.int .i64 x.f2], [.int .i64 x.f3, .int .i64 x.f4, .int .i64 x.f5], rfl, rfl, ⟨[.int .i64 x.f3], [.int .i64 x.f4, .int .i64 x.f5], rfl, rfl, ⟨[.int .i64 x.f4], [.int .i64 x.f5], rfl, rfl, rfl⟩⟩⟩⟩⟩
def X30 (xs : List S68) (i : Int) : S68 := xs.getD i.toNat z68
theorem X92 {w : World} {A : Option Addr} {n : Nat} {xs : List S68} (h : Kd.C k68 w A n xs) (i : Int) (h0 : 0 ≤ i) (h1 : i < n) : ∃ ad , A = some ad ∧ w.cell? (ad.add (i.toNat * 6)) = some (.string (X30 xs i).f0) ∧ w.cell? ⟨(ad.add (i.toNat * 6)).block, (ad.add (i.toNat * 6)).off + 1, none⟩ = some (.int .i64 (X30 xs i).f1) ∧ w.cell? ⟨(ad.add (i.toNat * 6)).block, (ad.add (i.toNat * 6)).off + 2, none⟩ = some (.int .i64 (X30 xs i).f2) ∧ w.cell? ⟨(ad.add (i.toNat * 6)).block, (ad.add (i.toNat * 6)).off + 3, none⟩ = some (.int .i64 (X30 xs i).f3) ∧ w.cell? ⟨(ad.add (i.toNat * 6)).block, (ad.add (i.toNat * 6)).off + 4, none⟩ = some (.int .i64 (X30 xs i).f4) ∧ w.cell? ⟨(ad.add (i.toNat * 6)).block, (ad.add (i.toNat * 6)).off + 5, none⟩ = some (.int .i64 (X30 xs i).f5) := by
  obtain ⟨ad, c, e, _, hK, hc0⟩ := Kd.C_get h z68 i h0 h1
  have hc : ∀ j u, c[j]? = some u → w.cell? (ad.add (i.toNat * 6 + j)) = some u := hc0
  obtain rfl := k68_open hK
  exact ⟨ad, e, hc 0 _ rfl, by rw [← add_field _ _ 1 (by omega)]; exact hc 1 _ rfl, by rw [← add_field _ _ 2 (by omega)]; exact hc 2 _ rfl, by rw [← add_field _ _ 3 (by omega)]; exact hc 3 _ rfl, by rw [← add_field _ _ 4 (by omega)]; exact hc 4 _ rfl, by rw [← add_field _ _ 5 (by omega)]; exact hc 5 _ rfl⟩

structure S73 where
  f0 : ByteArray
  f1 : Int
  f2 : Int
  f3 : Int
  f4 : Int
  f5 : Int
def z73 : S73 := ⟨(⟨#[]⟩ : ByteArray), (0 : Int), (0 : Int), (0 : Int), (0 : Int), (0 : Int)⟩
def k73 : Kd S73 := Kd.iso (Kd.pair Kd.string (Kd.pair (Kd.int .i64) (Kd.pair (Kd.int .i64) (Kd.pair (Kd.int .i64) (Kd.pair (Kd.int .i64) (Kd.int .i64)))))) (fun x : S73 => (x.f0, x.f1, x.f2, x.f3, x.f4, x.f5))
theorem k73_open {w : World} {x : S73} {cs : List Value} (h : k73.K w x cs) : cs = [.string x.f0, .int .i64 x.f1, .int .i64 x.f2, .int .i64 x.f3, .int .i64 x.f4, .int .i64 x.f5] := by
  obtain ⟨_, _, rfl, rfl, ⟨_, _, rfl, rfl, ⟨_, _, rfl, rfl, ⟨_, _, rfl, rfl, ⟨_, _, rfl, rfl, rfl⟩⟩⟩⟩⟩ := h
  exact rfl
theorem k73_openM {w : World} {base : Nat} {ok : Nat → Prop} {x : S73} {cs : List Value} (h : k73.M w base ok x cs) : cs = [.string x.f0, .int .i64 x.f1, .int .i64 x.f2, .int .i64 x.f3, .int .i64 x.f4, .int .i64 x.f5] := by
  obtain ⟨_, _, rfl, rfl, ⟨_, _, rfl, rfl, ⟨_, _, rfl, rfl, ⟨_, _, rfl, rfl, ⟨_, _, rfl, rfl, rfl⟩⟩⟩⟩⟩ := h
  exact rfl
theorem k73_mk (w : World) (x : S73)  : k73.K w x [.string x.f0, .int .i64 x.f1, .int .i64 x.f2, .int .i64 x.f3, .int .i64 x.f4, .int .i64 x.f5] := ⟨[.string x.f0], [.int .i64 x.f1, .int .i64 x.f2, .int .i64 x.f3, .int .i64 x.f4, .int .i64 x.f5], rfl, rfl, ⟨[.int .i64 x.f1], [.int .i64 x.f2, .int .i64 x.f3, .int .i64 x.f4, .int .i64 x.f5], rfl, rfl, ⟨[.int .i64 x.f2], [.int .i64 x.f3, .int .i64 x.f4, .int .i64 x.f5], rfl, rfl, ⟨[.int .i64 x.f3], [.int .i64 x.f4, .int .i64 x.f5], rfl, rfl, ⟨[.int .i64 x.f4], [.int .i64 x.f5], rfl, rfl, rfl⟩⟩⟩⟩⟩
theorem k73_mkM (w : World) (base : Nat) (ok : Nat → Prop) (x : S73)  : k73.M w base ok x [.string x.f0, .int .i64 x.f1, .int .i64 x.f2, .int .i64 x.f3, .int .i64 x.f4, .int .i64 x.f5] := ⟨[.string x.f0], [.int .i64 x.f1, .int .i64 x.f2, .int .i64 x.f3, .int .i64 x.f4, .int .i64 x.f5], rfl, rfl, ⟨[.int .i64 x.f1], [.int .i64 x.f2, .int .i64 x.f3, .int .i64 x.f4, .int .i64 x.f5], rfl, rfl, ⟨[.int .i64 x.f2], [.int .i64 x.f3, .int .i64 x.f4, .int .i64 x.f5], rfl, rfl, ⟨[.int .i64 x.f3], [.int .i64 x.f4, .int .i64 x.f5], rfl, rfl, ⟨[.int .i64 x.f4], [.int .i64 x.f5], rfl, rfl, rfl⟩⟩⟩⟩⟩
def X1 (xs : List S73) (i : Int) : S73 := xs.getD i.toNat z73
theorem X25 {w : World} {A : Option Addr} {n : Nat} {xs : List S73} (h : Kd.C k73 w A n xs) (i : Int) (h0 : 0 ≤ i) (h1 : i < n) : ∃ ad , A = some ad ∧ w.cell? (ad.add (i.toNat * 6)) = some (.string (X1 xs i).f0) ∧ w.cell? ⟨(ad.add (i.toNat * 6)).block, (ad.add (i.toNat * 6)).off + 1, none⟩ = some (.int .i64 (X1 xs i).f1) ∧ w.cell? ⟨(ad.add (i.toNat * 6)).block, (ad.add (i.toNat * 6)).off + 2, none⟩ = some (.int .i64 (X1 xs i).f2) ∧ w.cell? ⟨(ad.add (i.toNat * 6)).block, (ad.add (i.toNat * 6)).off + 3, none⟩ = some (.int .i64 (X1 xs i).f3) ∧ w.cell? ⟨(ad.add (i.toNat * 6)).block, (ad.add (i.toNat * 6)).off + 4, none⟩ = some (.int .i64 (X1 xs i).f4) ∧ w.cell? ⟨(ad.add (i.toNat * 6)).block, (ad.add (i.toNat * 6)).off + 5, none⟩ = some (.int .i64 (X1 xs i).f5) := by
  obtain ⟨ad, c, e, _, hK, hc0⟩ := Kd.C_get h z73 i h0 h1
  have hc : ∀ j u, c[j]? = some u → w.cell? (ad.add (i.toNat * 6 + j)) = some u := hc0
  obtain rfl := k73_open hK
  exact ⟨ad, e, hc 0 _ rfl, by rw [← add_field _ _ 1 (by omega)]; exact hc 1 _ rfl, by rw [← add_field _ _ 2 (by omega)]; exact hc 2 _ rfl, by rw [← add_field _ _ 3 (by omega)]; exact hc 3 _ rfl, by rw [← add_field _ _ 4 (by omega)]; exact hc 4 _ rfl, by rw [← add_field _ _ 5 (by omega)]; exact hc 5 _ rfl⟩

def rd_L5 (xs : List (List Int)) (i : Int) : (List Int) := xs.getD i.toNat ([] : List Int)
theorem at_L5 {w : World} {A : Option Addr} {n : Nat} {xs : List (List Int)} (h : Kd.C (Kd.slice 2 (Kd.int .i64)) w A n xs) (i : Int) (h0 : 0 ≤ i) (h1 : i < n) : ∃ ad A0 c0, A = some ad ∧ w.cell? (ad.add i.toNat) = some (.slice A0 (rd_L5 xs i).length c0) ∧ (rd_L5 xs i).length ≤ c0 ∧ (Kd.int .i64).C w A0 (rd_L5 xs i).length (rd_L5 xs i) := by
  obtain ⟨ad, c, e, _, hK, hc0⟩ := Kd.C_get h ([] : List Int) i h0 h1
  have hc : ∀ j u, c[j]? = some u → w.cell? (ad.add (i.toNat * 1 + j)) = some u := hc0
  obtain ⟨A0, c0, rfl, l0, g0⟩ := hK
  exact ⟨ad, A0, c0, e, by have hq := hc 0 _ rfl; rwa [Nat.mul_one, Nat.add_zero] at hq, l0, g0⟩

def rd_L6 (xs : List (List S73)) (i : Int) : (List S73) := xs.getD i.toNat ([] : List S73)
theorem at_L6 {w : World} {A : Option Addr} {n : Nat} {xs : List (List S73)} (h : Kd.C (Kd.slice 73 k73) w A n xs) (i : Int) (h0 : 0 ≤ i) (h1 : i < n) : ∃ ad A0 c0, A = some ad ∧ w.cell? (ad.add i.toNat) = some (.slice A0 (rd_L6 xs i).length c0) ∧ (rd_L6 xs i).length ≤ c0 ∧ k73.C w A0 (rd_L6 xs i).length (rd_L6 xs i) := by
  obtain ⟨ad, c, e, _, hK, hc0⟩ := Kd.C_get h ([] : List S73) i h0 h1
  have hc : ∀ j u, c[j]? = some u → w.cell? (ad.add (i.toNat * 1 + j)) = some u := hc0
  obtain ⟨A0, c0, rfl, l0, g0⟩ := hK
  exact ⟨ad, A0, c0, e, by have hq := hc 0 _ rfl; rwa [Nat.mul_one, Nat.add_zero] at hq, l0, g0⟩

structure S82 where
  f0 : Int
  f1 : Int
  f2 : Int
def z82 : S82 := ⟨(0 : Int), (0 : Int), (0 : Int)⟩
def k82 : Kd S82 := Kd.iso (Kd.pair (Kd.int .i64) (Kd.pair (Kd.int .i64) (Kd.int .i64))) (fun x : S82 => (x.f0, x.f1, x.f2))
theorem k82_open {w : World} {x : S82} {cs : List Value} (h : k82.K w x cs) : cs = [.int .i64 x.f0, .int .i64 x.f1, .int .i64 x.f2] := by
  obtain ⟨_, _, rfl, rfl, ⟨_, _, rfl, rfl, rfl⟩⟩ := h
  exact rfl
theorem k82_openM {w : World} {base : Nat} {ok : Nat → Prop} {x : S82} {cs : List Value} (h : k82.M w base ok x cs) : cs = [.int .i64 x.f0, .int .i64 x.f1, .int .i64 x.f2] := by
  obtain ⟨_, _, rfl, rfl, ⟨_, _, rfl, rfl, rfl⟩⟩ := h
  exact rfl
theorem k82_mk (w : World) (x : S82)  : k82.K w x [.int .i64 x.f0, .int .i64 x.f1, .int .i64 x.f2] := ⟨[.int .i64 x.f0], [.int .i64 x.f1, .int .i64 x.f2], rfl, rfl, ⟨[.int .i64 x.f1], [.int .i64 x.f2], rfl, rfl, rfl⟩⟩
theorem k82_mkM (w : World) (base : Nat) (ok : Nat → Prop) (x : S82)  : k82.M w base ok x [.int .i64 x.f0, .int .i64 x.f1, .int .i64 x.f2] := ⟨[.int .i64 x.f0], [.int .i64 x.f1, .int .i64 x.f2], rfl, rfl, ⟨[.int .i64 x.f1], [.int .i64 x.f2], rfl, rfl, rfl⟩⟩
def X7 (xs : List S82) (i : Int) : S82 := xs.getD i.toNat z82
theorem X95 {w : World} {A : Option Addr} {n : Nat} {xs : List S82} (h : Kd.C k82 w A n xs) (i : Int) (h0 : 0 ≤ i) (h1 : i < n) : ∃ ad , A = some ad ∧ w.cell? (ad.add (i.toNat * 3)) = some (.int .i64 (X7 xs i).f0) ∧ w.cell? ⟨(ad.add (i.toNat * 3)).block, (ad.add (i.toNat * 3)).off + 1, none⟩ = some (.int .i64 (X7 xs i).f1) ∧ w.cell? ⟨(ad.add (i.toNat * 3)).block, (ad.add (i.toNat * 3)).off + 2, none⟩ = some (.int .i64 (X7 xs i).f2) := by
  obtain ⟨ad, c, e, _, hK, hc0⟩ := Kd.C_get h z82 i h0 h1
  have hc : ∀ j u, c[j]? = some u → w.cell? (ad.add (i.toNat * 3 + j)) = some u := hc0
  obtain rfl := k82_open hK
  exact ⟨ad, e, hc 0 _ rfl, by rw [← add_field _ _ 1 (by omega)]; exact hc 1 _ rfl, by rw [← add_field _ _ 2 (by omega)]; exact hc 2 _ rfl⟩

end Go.Proofs.Ytnmdcmfhjhgheaa.PFnExactWorstNode
