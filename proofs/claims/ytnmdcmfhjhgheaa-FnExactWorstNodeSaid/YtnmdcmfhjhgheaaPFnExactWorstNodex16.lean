-- Printed by a program of this session (wip/hprint.sh: the kit's print with hand-proved contracts put in); not by print.sh itself.
import Derived.Test.YtnmdcmfhjhgheaaMathK
import Derived.OrdersIn
import Derived.Test.YtnmdcmfhjhgheaaPFnExactWorstNodex0
import Derived.Test.YtnmdcmfhjhgheaaPFnExactWorstNodex14
import Derived.Test.YtnmdcmfhjhgheaaPFnExactWorstNodex15
namespace Go.Proofs.Ytnmdcmfhjhgheaa.PFnExactWorstNode
open Go.RowKit Go.Proofs.YtnmdcmfhjhgheaaW.PrintWords Go.Proofs.YtnmdcmfhjhgheaaW.PrintLast Go.Proofs.YtnmdcmfhjhgheaaW.PrintMore Go.Proofs.YtnmdcmfhjhgheaaM
attribute [local go_sem] max2_int min2_int max_two min_two max_three min_three max_four min_four   -- for this text's walks alone
set_option linter.unusedVariables false
set_option linter.unusedSimpArgs false

def X2.l0 : Nat → List Int → List Int → List (S82) → Int → List Int → List (S73) → Option (List Int)
 | 0, _, _, _, _, _, _ => none
 | k + 1, x7, x8, x19, x67, x374000, x374001 => if x67 ≥ 0 then (if 0 ≤ x67 then (if x67 < (x19.length : Int) then (if 0 ≤ (X7 x19 x67).f1 then (if (X7 x19 x67).f1 < (x7.length : Int) then (if 0 ≤ (X7 x19 x67).f0 then (if (X7 x19 x67).f0 < (x7.length : Int) then ((some (x7.set ((X7 x19 x67).f1 : Int).toNat (wrap64 ((rd x7 (X7 x19 x67).f1) + (rd x7 (X7 x19 x67).f0))) : List Int)).bind fun y387 => (if 0 ≤ (X7 x19 x67).f2 then (if (X7 x19 x67).f2 < (x8.length : Int) then ((some (x8.set ((X7 x19 x67).f2 : Int).toNat (rd y387 (X7 x19 x67).f0) : List Int)).bind fun y389 => (if (X7 x19 x67).f2 < (x374001.length : Int) then (if ((X1 x374001 (X7 x19 x67).f2).f1) = (X7 x19 x67).f0 then (X2.l0 k y387 (y389.set ((X7 x19 x67).f2 : Int).toNat (wrap64 (-(rd y387 (X7 x19 x67).f0)))) x19 (wrap64 (x67 - 1)) x374000 x374001) else (X2.l0 k y387 y389 x19 (wrap64 (x67 - 1)) x374000 x374001)) else (none))) else (none)) else (none))) else (none)) else (none)) else (none)) else (none)) else (none)) else (none)) else (some x8)
def X2.f (k : Nat) (l0_0 : List Int) (l0_1 : List (S73)) (a1 : Int) (l2 : List Int) : Option (List Int) := (X53.f l2).bind fun t374 => (if 0 ≤ (l0_1.length : Int) then (if ((l0_1.length : Int) : Int).toNat ≤ 35184372088832 then ((X5.f k l0_0 l0_1 a1).bind fun t380 => (X2.l0 k t374 (List.replicate ((l0_1.length : Int) : Int).toNat 0) t380 (wrap64 ((t380.length : Int) - 1)) l0_0 l0_1)) else (none)) else (none))
theorem X2.mono_l : ∀ k, (∀ y0 y1 y2 y3 y4 y5, LeO (X2.l0 k y0 y1 y2 y3 y4 y5) (X2.l0 (k + 1) y0 y1 y2 y3 y4 y5))
 | 0 => fun _ _ _ _ _ _ r h => by simp [X2.l0] at h
 | k + 1 => by
  have ih0 := X2.mono_l k
  ·intro y0 y1 y2 y3 y4 y5
   unfold X2.l0
   exact z255_
theorem X2.mono : ∀ a0 a1 a2 a3 k, LeO (X2.f k a0 a1 a2 a3) (X2.f (k + 1) a0 a1 a2 a3) := by
 intro a0 a1 a2 a3 k
 have ih0 := X2.mono_l k
 unfold X2.f
 exact z255_
def X2.T1 : Bool × List (List Nat × List Nat) := (true, [([], []), ([0], [0]), ([], []), ([2], [2]), ([3], [3]), ([4, 4], [4]), ([], []), ([], []), ([6, 1, 1, 0, 1, 6, 7], [1, 6]), ([7, 5, 8, 0, 1, 2, 3, 4, 5, 6, 7, 8], [5, 7])])
def X2.B1 : List Nat := [0, 1, 0, 4, 12, 28, 0, 0, 195, 511]
theorem X2.tab1 : rtab .any (opsOf Try.f32 1) = X2.T1 := by kernel_rfl
theorem X2.bits1 : waitsOk X2.T1.2 X2.B1 = true := by kernel_rfl
def X2.T4 : Bool × List (List Nat × List Nat) := (true, [([], []), ([], []), ([1], [1]), ([0, 2], [0, 2]), ([3], [3]), ([], []), ([], []), ([6], [6]), ([5, 7], [5, 7]), ([8], [8]), ([4, 9], [4, 9]), ([0, 2, 0, 1, 2, 3, 4, 5, 6, 7, 8, 9, 10], [0, 2]), ([11, 10, 0, 1, 2, 3, 4, 5, 6, 7, 8, 9, 10], [10, 11])])
def X2.B4 : List Nat := [0, 0, 2, 7, 15, 0, 0, 64, 224, 480, 1023, 2047, 4095]
theorem X2.tab4 : rtab .any (opsOf Try.f32 4) = X2.T4 := by kernel_rfl
theorem X2.bits4 : waitsOk X2.T4.2 X2.B4 = true := by kernel_rfl
def X2.T5 : Bool × List (List Nat × List Nat) := (true, [([], []), ([], []), ([1], [1]), ([], []), ([], []), ([4], [4]), ([3, 5], [3, 5]), ([6], [6]), ([0, 2, 0, 1, 2, 3, 4, 5, 6, 7], [0, 2]), ([8, 7, 0, 1, 2, 3, 4, 5, 6, 7], [7, 8])])
def X2.B5 : List Nat := [0, 0, 2, 0, 0, 16, 56, 120, 255, 511]
theorem X2.tab5 : rtab .any (opsOf Try.f32 5) = X2.T5 := by kernel_rfl
theorem X2.bits5 : waitsOk X2.T5.2 X2.B5 = true := by kernel_rfl
def X2.T6 : Bool × List (List Nat × List Nat) := (true, [([], []), ([0], [0]), ([], []), ([2], [2]), ([1, 3], [1, 3]), ([4], [4]), ([5], [5]), ([], []), ([7], [7]), ([6, 8], [6, 8])])
def X2.B6 : List Nat := [0, 1, 0, 4, 15, 31, 63, 0, 128, 511]
theorem X2.tab6 : rtab .any (opsOf Try.f32 6) = X2.T6 := by kernel_rfl
theorem X2.bits6 : waitsOk X2.T6.2 X2.B6 = true := by kernel_rfl
def X2.T7 : Bool × List (List Nat × List Nat) := (true, [([], []), ([], []), ([1], [1]), ([], []), ([], []), ([4], [4]), ([3, 5], [3, 5]), ([6], [6]), ([7], [7]), ([0, 2, 0, 1, 2, 3, 4, 5, 6, 7, 8], [0, 2]), ([9, 8, 0, 1, 2, 3, 4, 5, 6, 7, 8], [8, 9])])
def X2.B7 : List Nat := [0, 0, 2, 0, 0, 16, 56, 120, 248, 511, 1023]
theorem X2.tab7 : rtab .any (opsOf Try.f32 7) = X2.T7 := by kernel_rfl
theorem X2.bits7 : waitsOk X2.T7.2 X2.B7 = true := by kernel_rfl
section tf
open Go.Proofs.Ytnmdcmfhjhgheaa.BW Go.Shelf
attribute [local go_sem] Oper.semAt_some
theorem ra_ {P : Program} {ops : Array Oper} {Q : Exit → Act → World → Prop} {md : Region.Mode} {S : World → Prop} {ds : List Nat} (i N : Nat) {oi : Oper} {fuel : Nat} {l : Array Bool} {a a' : Act} {w : World} (l' : Array Bool) {T : _} (HT : Aside0 (rtab md ops = T)) {v : Value}
 (h : wpAnyLast P md ops Q S ds fuel l' a' w) (hi : ops[i]? = some oi := by exact rfl) (hN : oi.dst = some N := by exact rfl) (hc : anyT T l.toList l'.toList i = true := by kernel_rfl)
 (hQ : ∀ c a w, Q (.panic c) (a.put oi.dst v) w → Q (.panic c) a w := by exact fun _ _ _ h => h) (hy : Yields P ops oi v a := by (refine Or.inl ⟨by rfl, ?_⟩; intro w'; go_simp; with_reducible rfl)) (ha : a.put (some N) v = a' := by (simp only [pU,pN,sB,sZ,sS,i64_w,i32_w]; rfl)) : wpAnyLast P md ops Q S ds (fuel + 1) l a w :=
 pure_ l' hi hN (any_of HT.out hc) hQ hy ha h
theorem rt_ {P : Program} {ops : Array Oper} {Q : Exit → Act → World → Prop} {md : Region.Mode} {S : World → Prop} {ds : List Nat} (i N : Nat) {oi : Oper} {fuel : Nat} {l : Array Bool} {a a' : Act} {w : World} (l' : Array Bool) {T : Bool × List (List Nat × List Nat)} {B : List Nat} (HT : Aside0 (rtab md ops = T)) (HW : Aside0 (waitsOk T.2 B = true)) (hS : S w) {v : Value}
 (h : wpAnyLast P md ops Q S ds fuel l' a' w) (hi : ops[i]? = some oi := by exact rfl) (hN : oi.dst = some N := by exact rfl) (hc : takeW T B ds l.toList l'.toList i = true := by kernel_rfl)
 (hQ : ∀ c a w, Q (.panic c) (a.put oi.dst v) w → Q (.panic c) a w := by exact fun _ _ _ h => h) (hy : YieldsIf P ops S oi v a := by (refine Or.inl ⟨by rfl, ?_⟩; rintro w' ⟨s0, s1, s2, s3, s4⟩; go_simp; with_reducible rfl)) (ha : a.put (some N) v = a' := by (simp only [pU,pN,sB,sZ,sS,i64_w,i32_w]; rfl)) : wpAnyLast P md ops Q S ds (fuel + 1) l a w :=
 take_ l' hi hN (take_ofW HT.out HW.out hc) hQ hy hS ha h
/-! The rounds in plain terms. -/
def tfA (ws : List S82) (s : List Int) (x : Int) : List Int := s.set (X7 ws x).f1.toNat (wrap64 (rd s (X7 ws x).f1 + rd s (X7 ws x).f0))
def tfB (ws : List S82) (s f : List Int) (x : Int) : List Int := f.set (X7 ws x).f2.toNat (rd (tfA ws s x) (X7 ws x).f0)
def tfC (ps : List S73) (ws : List S82) (s f : List Int) (x : Int) : List Int :=
  if (X1 ps (X7 ws x).f2).f1 = (X7 ws x).f0 then (tfB ws s f x).set (X7 ws x).f2.toNat (wrap64 (-(rd (tfA ws s x) (X7 ws x).f0))) else tfB ws s f x
def tfS (ps : List S73) (ws : List S82) (st : List Int × List Int) (x : Int) : List Int × List Int := (tfA ws st.1 x, tfC ps ws st.1 st.2 x)
theorem tfA_len {ws : List S82} {s : List Int} {x : Int} : (tfA ws s x).length = s.length := by simp [tfA]
theorem tfB_len {ws : List S82} {s f : List Int} {x : Int} : (tfB ws s f x).length = f.length := by simp [tfB]
theorem tfC_len {ps : List S73} {ws : List S82} {s f : List Int} {x : Int} : (tfC ps ws s f x).length = f.length := by
  unfold tfC
  split
  · rw [List.length_set, tfB_len]
  · exact tfB_len
structure TfOk (ps : List S73) (ws : List S82) (n m : Nat) (x : Int) : Prop where
  b0 : 0 ≤ (X7 ws x).f1
  b1 : (X7 ws x).f1 < (n : Int)
  n0 : 0 ≤ (X7 ws x).f0
  n1 : (X7 ws x).f0 < (n : Int)
  p0 : 0 ≤ (X7 ws x).f2
  p1 : (X7 ws x).f2 < (m : Int)
  q1 : (X7 ws x).f2 < (ps.length : Int)
theorem tf_step {k : Nat} {s f r : List Int} {ws : List S82} {i : Int} {ns : List Int} {ps : List S73} (h : X2.l0 (k + 1) s f ws i ns ps = some r) (hi : 0 ≤ i) :
    TfOk ps ws s.length f.length i ∧ X2.l0 k (tfA ws s i) (tfC ps ws s f i) ws (wrap64 (i - 1)) ns ps = some r := by
  simp only [X2.l0] at h
  rw [if_pos hi, if_pos hi] at h
  split at h
  case isFalse => exact absurd h (by simp)
  split at h
  case isFalse => exact absurd h (by simp)
  rename_i b0
  split at h
  case isFalse => exact absurd h (by simp)
  rename_i b1
  split at h
  case isFalse => exact absurd h (by simp)
  rename_i n0
  split at h
  case isFalse => exact absurd h (by simp)
  rename_i n1
  simp only [Option.bind_some] at h
  split at h
  case isFalse => exact absurd h (by simp)
  rename_i p0
  split at h
  case isFalse => exact absurd h (by simp)
  rename_i p1
  split at h
  case isFalse => exact absurd h (by simp)
  rename_i q1
  refine ⟨⟨b0, b1, n0, n1, p0, p1, q1⟩, ?_⟩
  unfold tfC
  split at h
  · rename_i c; rw [if_pos c]; exact h
  · rename_i c; rw [if_neg c]; exact h
theorem tf_end {k : Nat} {s f r : List Int} {ws : List S82} {i : Int} {ns : List Int} {ps : List S73} (h : X2.l0 k s f ws i ns ps = some r) (hi : i < 0) : f = r := by
  cases k with
  | zero => simp [X2.l0] at h
  | succ k =>
    simp only [X2.l0] at h
    rw [if_neg (by omega)] at h
    exact Option.some.inj h
theorem tf_all {ns : List Int} {ps : List S73} {ws : List S82} {st0 : List Int × List Int} {r : List Int} (hl : ws.length ≤ 9223372036854775807) : ∀ (q k' : Nat) (hk : k' ≤ ws.length) (_ : q = ws.length - k') (fuel : Nat) (st : List Int × List Int),
    X2.l0 fuel st.1 st.2 ws (wrap64 ((ws.length : Int) - 1 - (k' : Int))) ns ps = some r → st = (dn ws.length k' hk).foldl (fun s (x : Fin ws.length) => tfS ps ws s ((x : Nat) : Int)) st0 → st.1.length = st0.1.length → st.2.length = st0.2.length →
    (∀ x : Nat, x < ws.length - k' → TfOk ps ws st0.1.length st0.2.length (x : Int)) ∧ r = ((dn ws.length ws.length (Nat.le_refl _)).foldl (fun s (x : Fin ws.length) => tfS ps ws s ((x : Nat) : Int)) st0).2 := by
  intro q
  induction q with
  | zero =>
    intro k' hk hq fuel st h hst _ _
    obtain rfl : k' = ws.length := by omega
    rw [w64 (by omega) (by omega)] at h
    have := tf_end h (by omega)
    exact ⟨fun x hx => by omega, by rw [← this, hst]⟩
  | succ q ih =>
    intro k' hk hq fuel st h hst h1 h2
    rw [w64 (by omega) (by omega)] at h
    cases fuel with
    | zero => simp [X2.l0] at h
    | succ fuel =>
      obtain ⟨hok, h⟩ := tf_step h (by omega)
      have hk2 : k' + 1 ≤ ws.length := by omega
      have e : (ws.length : Int) - 1 - (k' : Int) - 1 = (ws.length : Int) - 1 - ((k' + 1 : Nat) : Int) := by omega
      have hx : ((ws.length - 1 - k' : Nat) : Int) = (ws.length : Int) - 1 - (k' : Int) := by omega
      rw [e] at h
      have := ih (k' + 1) hk2 (by omega) fuel (tfS ps ws st ((ws.length : Int) - 1 - (k' : Int))) h (by
        show _ = List.foldl _ st0 (dn ws.length k' hk ++ [⟨ws.length - 1 - k', by omega⟩])
        rw [List.foldl_append, ← hst]
        simp only [List.foldl_cons, List.foldl_nil, hx]) (tfA_len.trans h1) (tfC_len.trans h2)
      refine ⟨fun x hx2 => ?_, this.2⟩
      by_cases hlt : x < ws.length - (k' + 1)
      · exact this.1 x hlt
      · obtain rfl : x = ws.length - 1 - k' := by omega
        rw [h1, h2] at hok
        rw [hx]
        exact hok
theorem tf_fold {ps : List S73} {ws : List S82} : ∀ (pre : List (Fin ws.length)) (st : List Int × List Int), (pre.foldl (fun s (x : Fin ws.length) => tfS ps ws s ((x : Nat) : Int)) st).1.length = st.1.length ∧ (pre.foldl (fun s (x : Fin ws.length) => tfS ps ws s ((x : Nat) : Int)) st).2.length = st.2.length
  | [], _ => ⟨rfl, rfl⟩
  | x :: r, st => ⟨(tf_fold r _).1.trans tfA_len, (tf_fold r _).2.trans tfC_len⟩
set_option maxHeartbeats 8000000 in
set_option maxRecDepth 100000 in
theorem X2.calls (k : Nat) (A0_0 : Option Addr) (c0_0 : Nat) (l0_0 : List Int) (A0_1 : Option Addr) (c0_1 : Nat) (l0_1 : List (S73)) (a1 : Int) (A2 : Option Addr) (c2 : Nat) (l2 : List Int) (r : List Int) (w : World) (hr0_0 : Kd.C (Kd.int .i64) w A0_0 l0_0.length l0_0) (hc0_0 : l0_0.length ≤ c0_0) (hr0_1 : Kd.C k73 w A0_1 l0_1.length l0_1) (hc0_1 : l0_1.length ≤ c0_1) (hr2 : Kd.C (Kd.int .i64) w A2 l2.length l2) (hc2 : l2.length ≤ c2) (h : X2.f k l0_0 l0_1 a1 l2 = some r) :
  Calls Try.prog 32 #[.agg #[.slice A0_0 l0_0.length c0_0, .slice A0_1 l0_1.length c0_1], .int .i64 a1, .slice A2 l2.length c2] w fun e w' => ∃ v0_ : Value, e = .returned (v0_) ∧ Kd.R (Kd.int .i64) 2 w' w.heap.size (fun _ => True) v0_ r ∧ Below w.heap.size w w' := by
 have hu31 := Try.underlying31
 have hu82 := Try.underlying82
 unfold X2.f at h
 obtain ⟨t326, A4, h⟩ := Option.bind_eq_some_iff.mp h
 have h0 : 0 ≤ (l0_1.length : Int) := by omega
 rw [if_pos h0] at h
 by_cases hmax : ((l0_1.length : Int) : Int).toNat ≤ 35184372088832
 case neg => rw [if_neg hmax] at h; exact absurd h (by simp)
 rw [if_pos hmax] at h
 obtain ⟨t332, A7, H⟩ := Option.bind_eq_some_iff.mp h
 clear h h0
 have HW := am_ A7
 have HC := am_ A4
 have HH := am_ H
 have HR0_0 := am_ hr0_0
 have HR0_1 := am_ hr0_1
 have HR2 := am_ hr2
 have HC0_0 := am_ hc0_0
 have HC0_1 := am_ hc0_1
 have HC2 := am_ hc2
 have HX := am_ hmax
 clear A7 A4 H hr0_0 hr0_1 hr2 hc0_0 hc0_1 hc2 hmax
 refine (callsIn_wide (n := 9)).1 ?_
 refine callsIn_of_wp_marks Try.func32 rfl trivial ?_ rfl
 simp only [Try.ntmps32, List.size_toArray, List.length_cons, List.length_nil, Nat.reduceAdd, Nat.reduceSub, Array.replicate_succ, Array.replicate_zero, List.push_toArray, List.append_toArray, List.nil_append, List.cons_append]
 refine wpIn_wide.2 ?_
 go_wp2
 obtain ⟨W0, hW0⟩ : ∃ W0, W0 = w.alloc (.cells #[.slice A0_0 l0_0.length c0_0, .slice A0_1 l0_1.length c0_1] 31 (0, 0)) := ⟨_, rfl⟩
 obtain ⟨g, hg⟩ : ∃ g, g = w.heap.size := ⟨_, rfl⟩
 rw [← hW0, ← hg]
 have hB0 : Below w.heap.size w W0 := by rw [hW0]; exact (Below.refl _ _).alloc (Nat.le_refl _) _
 have hBK : W0.heap[g]? = some (.cells #[.slice A0_0 l0_0.length c0_0, .slice A0_1 l0_1.length c0_1] 31 (0, 0)) := by rw [hW0, hg]; exact World.alloc_heap_new w _
 have hGE : Aside0 (w.heap.size ≤ g) := ⟨Nat.le_of_eq hg.symm⟩
 clear hW0 hg
 refine start_ (n := 10) (S := fun _ => True) (ds := []) #[J,J,J,J,J,J,J,J,J,J] (by kernel_rfl) rfl rfl trivial (fun _ => ?_); refine with_tabW X2.tab1 X2.bits1 (fun HT_ HW_ => ?_)
 have hB1 := hB0.drew
 have hBK1 := blk_drew hBK
 generalize W0.drew = W1 at hB1 hBK1 ⊢
 clear hB0 hBK
 clear W0
 refine inv_at [0, 1, 2, 3, 4, 5, 6, 7, 8, 9] (fun a0_ b a w' => ∃ (v12 v16 : Value) (q7 q8 : Nat), a = putSel a0_ b [(0, 11, .slice A2 l2.length c2), (1, 12, v12), (2, 13, .pointer (some ⟨g, 1, none⟩)), (3, 14, .slice A0_1 l0_1.length c0_1), (4, 15, .int .i64 (l0_1.length : Int)), (5, 16, v16), (6, 7, .pointer (some ⟨q7, 0, none⟩)), (7, 8, .pointer (some ⟨q8, 0, none⟩))] ∧ RS w g #[.slice A0_0 l0_0.length c0_0, .slice A0_1 l0_1.length c0_1] t326 (l0_1.length : Int).toNat (b 1) (b 5) (b 6) (b 7) (b 8) (b 9) v12 v16 q7 q8 w') HT_.out HW_.out (by kernel_rfl) (by kernel_rfl) ?_ ?_ ?_
 · exact ⟨undef, undef, 0, 0, by simp only [putSel, Bool.false_eq_true, if_false], ⟨hB1, hBK1, fun h => absurd h (by decide), fun h => absurd h (by decide), fun h => absurd h (by decide), fun h => absurd h (by decide), fun h => absurd h (by decide), fun h => absurd h (by decide)⟩⟩
 · clear hB1 hBK1
   refine steps_cons ?_ ?_
   · rintro b a w' ⟨v12, v16, q7, q8, ha, hR⟩ hb_ hon hoff
     refine ⟨_, rfl, fun K hK => ?_⟩
     have e2 : a.tmps[2]? = some (.slice A2 l2.length c2) := by rw [ha]; exact (putSel_off rfl).trans rfl
     replace ha := am_ ha
     refine value_ (w1 := w') (v := .slice A2 l2.length c2) (by rfl) rfl ?_ ?_
     · go_simp
       try rfl
     refine hK.out _ _ ⟨v12, v16, q7, q8, (by rw [ha.out]; exact putSel_upk 0 hb_ rfl rfl rfl), hR⟩
   refine steps_cons ?_ ?_
   · rintro b a w' ⟨v12, v16, q7, q8, ha, hR⟩ hb_ hon hoff
     refine ⟨_, rfl, fun K hK => ?_⟩
     have e11 : a.tmps[11]? = some (.slice A2 l2.length c2) := by rw [ha]; exact putSel_on (e := (0, 11, .slice A2 l2.length c2)) 0 rfl rfl (hon 0 (by kernel_rfl)) rfl
     replace ha := am_ ha
     rw [hb_, hoff 8 (by kernel_rfl)] at hR
     refine goes_ Try.func60 (by kernel_rfl) rfl #[.slice A2 l2.length c2] (by rfl) rfl rfl (by first | (simp only [List.map_toArray, List.map_cons, List.map_nil, Act.eval, Array.getD_eq_getD_getElem?, Option.getD_some, e11]; done) | (simp only [List.map_toArray, List.map_cons, List.map_nil, Act.eval, Array.getD_eq_getD_getElem?, Option.getD_some, e11]; rfl)) ?_
     refine (X53.calls _ _ l2 t326 _ (Kd.C_below HR2.out hR.below) HC2.out HC.out).mono ?_
     rintro e w2 ⟨v, rfl, ho, hb⟩
     refine ⟨_, rfl, ?_⟩
     refine hK.out _ _ ⟨v, v16, q7, q8, (by rw [ha.out]; exact putSel_upk 1 hb_ rfl rfl rfl), ?_⟩
     rw [up_self, up_ne (by decide), up_ne (by decide), up_ne (by decide), up_ne (by decide), up_ne (by decide), hoff 8 (by kernel_rfl)]
     exact hR.row12 hb ho
   refine steps_cons ?_ ?_
   · rintro b a w' ⟨v12, v16, q7, q8, ha, hR⟩ hb_ hon hoff
     refine ⟨_, rfl, fun K hK => ?_⟩
     have e3 : a.tmps[3]? = some (.pointer (some ⟨g, 0, none⟩)) := by rw [ha]; exact (putSel_off rfl).trans rfl
     replace ha := am_ ha
     refine value_ (w1 := w') (v := .pointer (some ⟨g, 1, none⟩)) (by rfl) rfl ?_ ?_
     · go_simp
       try rfl
     refine hK.out _ _ ⟨v12, v16, q7, q8, (by rw [ha.out]; exact putSel_upk 2 hb_ rfl rfl rfl), hR⟩
   refine steps_cons ?_ ?_
   · rintro b a w' ⟨v12, v16, q7, q8, ha, hR⟩ hb_ hon hoff
     refine ⟨_, rfl, fun K hK => ?_⟩
     have e13 : a.tmps[13]? = some (.pointer (some ⟨g, 1, none⟩)) := by rw [ha]; exact putSel_on (e := (2, 13, .pointer (some ⟨g, 1, none⟩))) 2 rfl rfl (hon 2 (by kernel_rfl)) rfl
     replace ha := am_ ha
     have hcz : w'.cell? ⟨g, 1, none⟩ = some (.slice A0_1 l0_1.length c0_1) := (blk_cell hR.box 1).trans rfl
     refine value_ (w1 := w') (v := .slice A0_1 l0_1.length c0_1) (by rfl) rfl ?_ ?_
     · go_simp
       try rfl
     refine hK.out _ _ ⟨v12, v16, q7, q8, (by rw [ha.out]; exact putSel_upk 3 hb_ rfl rfl rfl), hR⟩
   refine steps_cons ?_ ?_
   · rintro b a w' ⟨v12, v16, q7, q8, ha, hR⟩ hb_ hon hoff
     refine ⟨_, rfl, fun K hK => ?_⟩
     have e14 : a.tmps[14]? = some (.slice A0_1 l0_1.length c0_1) := by rw [ha]; exact putSel_on (e := (3, 14, .slice A0_1 l0_1.length c0_1)) 3 rfl rfl (hon 3 (by kernel_rfl)) rfl
     replace ha := am_ ha
     refine value_ (w1 := w') (v := .int .i64 (l0_1.length : Int)) (by rfl) rfl ?_ ?_
     · go_simp
       try rfl
     refine hK.out _ _ ⟨v12, v16, q7, q8, (by rw [ha.out]; exact putSel_upk 4 hb_ rfl rfl rfl), hR⟩
   refine steps_cons ?_ ?_
   · rintro b a w' ⟨v12, v16, q7, q8, ha, hR⟩ hb_ hon hoff
     refine ⟨_, rfl, fun K hK => ?_⟩
     have e15 : a.tmps[15]? = some (.int .i64 (l0_1.length : Int)) := by rw [ha]; exact putSel_on (e := (4, 15, .int .i64 (l0_1.length : Int))) 4 rfl rfl (hon 4 (by kernel_rfl)) rfl
     replace ha := am_ ha
     rw [hb_, hoff 9 (by kernel_rfl)] at hR
     refine Kd.R_make_step (Kd.int .i64) _ 2 (by rfl) (N := 16) rfl 22 _ _ rfl (l0_1.length : Int) (eval_of e15) (eval_of e15) Try.underlying22 (.int .i64 0) 8 info2 rfl (by decide) (by omega) 0 (ok := fun _ => True) (okp := fun _ => True) rfl (fun _ hk => hk) trivial (by omega) (Nat.le_trans (Nat.mul_le_mul_right _ HX.out) (by omega)) (Below.refl _ _) (Nat.le_refl _) ?_
     intro v w2 ho hb hg_ hnew_
     refine hK.out _ _ ⟨v12, v, q7, q8, (by rw [ha.out]; exact putSel_upk 5 hb_ rfl rfl rfl), ?_⟩
     rw [up_self, up_ne (by decide), up_ne (by decide), up_ne (by decide), up_ne (by decide), up_ne (by decide), hoff 9 (by kernel_rfl)]
     exact hR.row16 hb ho
   refine steps_cons ?_ ?_
   · rintro b a w' ⟨v12, v16, q7, q8, ha, hR⟩ hb_ hon hoff
     refine ⟨_, rfl, fun K hK => ?_⟩
     replace ha := am_ ha
     rw [hb_, hoff 8 (by kernel_rfl)] at hR
     refine value_ (w1 := w'.alloc (.cells #[.slice none 0 0] 22 (0, 0))) (v := .pointer (some ⟨w'.heap.size, 0, none⟩)) (by rfl) rfl ?_ ?_
     · first | (go_simp; done) | (go_simp; rfl)
     refine hK.out _ _ ⟨v12, v16, w'.heap.size, q8, (by rw [ha.out]; exact putSel_upk 6 hb_ rfl rfl rfl), ?_⟩
     rw [up_self, up_ne (by decide), up_ne (by decide), up_ne (by decide), up_ne (by decide), up_ne (by decide), hoff 8 (by kernel_rfl)]
     exact hR.new7
   refine steps_cons ?_ ?_
   · rintro b a w' ⟨v12, v16, q7, q8, ha, hR⟩ hb_ hon hoff
     refine ⟨_, rfl, fun K hK => ?_⟩
     replace ha := am_ ha
     rw [hb_, hoff 9 (by kernel_rfl)] at hR
     refine value_ (w1 := w'.alloc (.cells #[.slice none 0 0] 22 (0, 0))) (v := .pointer (some ⟨w'.heap.size, 0, none⟩)) (by rfl) rfl ?_ ?_
     · first | (go_simp; done) | (go_simp; rfl)
     refine hK.out _ _ ⟨v12, v16, q7, w'.heap.size, (by rw [ha.out]; exact putSel_upk 7 hb_ rfl rfl rfl), ?_⟩
     rw [up_self, up_ne (by decide), up_ne (by decide), up_ne (by decide), up_ne (by decide), up_ne (by decide), hoff 9 (by kernel_rfl)]
     exact hR.new8
   refine steps_cons ?_ ?_
   · rintro b a w' ⟨v12, v16, q7, q8, ha, hR⟩ hb_ hon hoff
     refine ⟨_, rfl, fun K hK => ?_⟩
     have e7 : a.tmps[7]? = some (.pointer (some ⟨q7, 0, none⟩)) := by rw [ha]; exact putSel_on (e := (6, 7, .pointer (some ⟨q7, 0, none⟩))) 6 rfl rfl (hon 6 (by kernel_rfl)) rfl
     have e12 : a.tmps[12]? = some v12 := by rw [ha]; exact putSel_on (e := (1, 12, v12)) 1 rfl rfl (hon 1 (by kernel_rfl)) rfl
     replace ha := am_ ha
     rw [hb_, hon 1 (by kernel_rfl), hon 6 (by kernel_rfl)] at hR
     have hcz : w'.cell? ⟨q7, 0, none⟩ = some (.slice none 0 0) := (blk_cell (hR.x7 rfl).2 0).trans rfl
     have hfz := blk_frozen (hR.x7 rfl).2 0
     refine skip_ (w1 := w'.setCell ⟨q7, 0, none⟩ v12) (by rfl) rfl ?_ ?_
     · obtain ⟨A, c, hv⟩ := Kd.R_slice (hR.r12 rfl)
       subst hv
       go_simp
       try rfl
     refine hK.out _ _ ⟨v12, v16, q7, q8, (by rw [ha.out]; exact putSel_none (v := undef) rfl), ?_⟩
     rw [up_self, up_ne (by decide), up_ne (by decide), up_ne (by decide), up_ne (by decide), up_ne (by decide), hon 1 (by kernel_rfl), hon 6 (by kernel_rfl)]
     exact hR.put7
   refine steps_cons ?_ ?_
   · rintro b a w' ⟨v12, v16, q7, q8, ha, hR⟩ hb_ hon hoff
     refine ⟨_, rfl, fun K hK => ?_⟩
     have e8 : a.tmps[8]? = some (.pointer (some ⟨q8, 0, none⟩)) := by rw [ha]; exact putSel_on (e := (7, 8, .pointer (some ⟨q8, 0, none⟩))) 7 rfl rfl (hon 7 (by kernel_rfl)) rfl
     have e16 : a.tmps[16]? = some v16 := by rw [ha]; exact putSel_on (e := (5, 16, v16)) 5 rfl rfl (hon 5 (by kernel_rfl)) rfl
     replace ha := am_ ha
     rw [hb_, hon 5 (by kernel_rfl), hon 7 (by kernel_rfl)] at hR
     have hcz : w'.cell? ⟨q8, 0, none⟩ = some (.slice none 0 0) := (blk_cell (hR.x8 rfl).2 0).trans rfl
     have hfz := blk_frozen (hR.x8 rfl).2 0
     refine skip_ (w1 := w'.setCell ⟨q8, 0, none⟩ v16) (by rfl) rfl ?_ ?_
     · obtain ⟨A, c, hv⟩ := Kd.R_slice (hR.r16 rfl)
       subst hv
       go_simp
       try rfl
     refine hK.out _ _ ⟨v12, v16, q7, q8, (by rw [ha.out]; exact putSel_none (v := undef) rfl), ?_⟩
     rw [up_self, up_ne (by decide), up_ne (by decide), up_ne (by decide), up_ne (by decide), up_ne (by decide), hon 5 (by kernel_rfl), hon 7 (by kernel_rfl)]
     exact hR.put8
   exact steps_nil
 rintro b a w' hall ⟨v12, v16, q7, q8, ha, hR⟩
 have hb0_ := hall 0 (by kernel_rfl)
 have hb1_ := hall 1 (by kernel_rfl)
 have hb2_ := hall 2 (by kernel_rfl)
 have hb3_ := hall 3 (by kernel_rfl)
 have hb4_ := hall 4 (by kernel_rfl)
 have hb5_ := hall 5 (by kernel_rfl)
 have hb6_ := hall 6 (by kernel_rfl)
 have hb7_ := hall 7 (by kernel_rfl)
 have hb8_ := hall 8 (by kernel_rfl)
 have hb9_ := hall 9 (by kernel_rfl)
 rw [hb1_, hb5_, hb6_, hb7_, hb8_, hb9_] at hR
 subst ha
 simp only [putSel, hb0_, hb1_, hb2_, hb3_, hb4_, hb5_, hb6_, hb7_, if_true, Act.put, List.setIfInBounds_toArray, List.set_cons_zero, List.set_cons_succ]
 clear hall hb0_ hb1_ hb2_ hb3_ hb4_ hb5_ hb6_ hb7_ hb8_ hb9_ HT_ HW_ b hB1 hBK1 W1
 obtain ⟨hr7, hr8⟩ := hR.apart
 have hB := am_ hR.below
 have hBK := am_ hR.box
 have h7 := am_ (hR.x7 rfl)
 have h8 := am_ (hR.x8 rfl)
 have R7 := am_ hr7
 have R8 := am_ hr8
 clear hR hr7 hr8
 have hcz0 : w'.cell? ⟨g, 0, none⟩ = some (.slice A0_0 l0_0.length c0_0) := (blk_cell hBK.out 0).trans rfl
 have hcz1 : w'.cell? ⟨g, 1, none⟩ = some (.slice A0_1 l0_1.length c0_1) := (blk_cell hBK.out 1).trans rfl
 go_wp2_with (first
  | ((with_reducible refine gate_callee (f := 62) rfl ?_); refine goesL_ (some 19) rfl rfl Try.func62 (by kernel_rfl) rfl #[.agg #[.slice A0_0 l0_0.length c0_0, .slice A0_1 l0_1.length c0_1], .int .i64 a1] rfl (by (try simp only [List.map_toArray, List.map_cons, List.map_nil]); first | done | rfl | (simp only [List.length_drop, List.length_take]; rfl)) ?_; refine (X5.calls k _ _ l0_0 _ _ l0_1 a1 t332 _ (Kd.C_below HR0_0.out hB.out) HC0_0.out (Kd.C_below HR0_1.out hB.out) HC0_1.out HW.out).mono ?_; rintro e w15 ⟨vw, rfl, ho, hb⟩; refine ⟨_, rfl, ?_⟩; obtain ⟨Aw, cw, rfl⟩ := Kd.R_slice ho; have HO := am_ ho; have HWB := am_ hb; clear ho hb)
  | ((with_reducible refine gate_callee (f := 61) rfl ?_); refine goesL_ (some 20) rfl rfl Try.func61 (by kernel_rfl) rfl #[.slice Aw t332.length cw] rfl (by (try simp only [List.map_toArray, List.map_cons, List.map_nil]); first | done | rfl | (simp only [List.length_drop, List.length_take]; rfl)) ?_; refine (bwd_calls _ _ _ _).mono ?_; rintro e w16 ⟨Bs, rfl, hbs, hge, hb⟩; refine ⟨_, rfl, ?_⟩; have HBS := am_ hbs; have HGE := am_ hge; have HVB := am_ hb; clear hbs hge hb))
 have hBl : Below w.heap.size w w16 := (hB.out.trans (HWB.out.mono hB.out.size)).trans (HVB.out.mono (Nat.le_trans hB.out.size HWB.out.size))
 have hSt0 : St w w16 v12 v16 t326 (List.replicate (l0_1.length : Int).toNat 0) w16 := .start hBl (Kd.R_below (Kd.R_below R7.out HWB.out) HVB.out) (Kd.R_below (Kd.R_below R8.out HWB.out) HVB.out)
 have hbg : w16.heap[g]? = some (.cells #[.slice A0_0 l0_0.length c0_0, .slice A0_1 l0_1.length c0_1] 31 (0, 0)) := blk_below (blk_below hBK.out HWB.out) HVB.out
 have hb7 : w16.heap[q7]? = some (.cells #[v12] 22 (0, 0)) := blk_below (blk_below h7.out.2 HWB.out) HVB.out
 have hb8 : w16.heap[q8]? = some (.cells #[v16] 22 (0, 0)) := blk_below (blk_below h8.out.2 HWB.out) HVB.out
 have hOw : Kd.R k82 82 w16 w.heap.size (fun _ => True) (.slice Aw t332.length cw) t332 := Kd.R_lower (Kd.R_below HO.out HVB.out) hB.out.size
 have hps : Kd.C k73 w16 A0_1 l0_1.length l0_1 := Kd.C_below HR0_1.out hBl
 have hbs := HBS.out
 have hH := HH.out
 clear hB HWB HVB R7 R8 hBK h7 h8 HO HBS HGE hcz0 hcz1 HW HC HH HX HR0_0 HR2 HC0_0 HC0_1 HC2 hGE
 clear w' w15
 have hlen : t332.length ≤ 9223372036854775807 := Kd.C_max (Kd.R_reads' hOw).2.2
 obtain ⟨hok, hr⟩ := tf_all (st0 := (t326, List.replicate (l0_1.length : Int).toNat 0)) hlen t332.length 0 (Nat.zero_le _) rfl k (t326, List.replicate (l0_1.length : Int).toNat 0) (by rw [Int.natCast_zero, Int.sub_zero]; exact hH) rfl rfl rfl
 obtain ⟨gw, hgl, hgw⟩ : ∃ gw, gw < w16.heap.size ∧ (0 < t332.length → Aw = some ⟨gw, 0, none⟩ ∧ ∃ cells, w16.heap[gw]? = some (.cells cells 82 (0, 0))) := by
  by_cases hp : 0 < t332.length
  · obtain ⟨gw, cap, he, _, hl, hc⟩ := Kd.R_form hOw hp
    exact ⟨gw, hl, fun _ => ⟨by injection he, hc⟩⟩
  · exact ⟨0, by have := blk_lt hbs; omega, fun h => absurd h hp⟩
 have hcells : ∀ j : Fin t332.length, w16.cell? ⟨gw, (j : Nat) * 3, none⟩ = some (.int .i64 (X7 t332 ((j : Nat) : Int)).f0) ∧ w16.cell? ⟨gw, (j : Nat) * 3 + 1, none⟩ = some (.int .i64 (X7 t332 ((j : Nat) : Int)).f1) ∧ w16.cell? ⟨gw, (j : Nat) * 3 + 2, none⟩ = some (.int .i64 (X7 t332 ((j : Nat) : Int)).f2) := by
  intro j
  have hj := j.2
  obtain ⟨ad, e, c0, c1, c2⟩ := X95 (Kd.R_reads' hOw).2.2 ((j : Nat) : Int) (by omega) (by omega)
  rw [(hgw (by omega)).1] at e
  cases e
  rw [add_plain, Int.toNat_natCast] at c0 c1 c2
  exact ⟨c0, c1, c2⟩
 obtain ⟨st0, hst0⟩ : ∃ st0 : List Int × List Int, st0 = (t326, List.replicate (l0_1.length : Int).toNat 0) := ⟨_, rfl⟩
 rw [← hst0] at hok hr
 have hSt1 : St w w16 v12 v16 st0.1 st0.2 w16 := by rw [hst0]; exact hSt0
 have hm : st0.2.length = l0_1.length := by rw [hst0]; simp
 clear hH hSt0 hst0
 refine (wpIn_wide (n := 9)).1 ?_
 refine wpIn_rangeFunc_ownH rfl (by omega) (gf := 84) (lb := #[.pointer (some ⟨Bs, 0, none⟩)]) rfl trivial (enters_of Try.func84 (by kernel_rfl) rfl)
  (bw_stops Fence.wide 8 trivial rfl (by omega) Bs gw t332.length cw (fun x => (X7 t332 ((x : Nat) : Int)).f0) (fun x => (X7 t332 ((x : Nat) : Int)).f1) (fun x => (X7 t332 ((x : Nat) : Int)).f2) hlen Aw (fun h => (hgw h).1) w16 ((blk_cell hbs 0).trans rfl) hcells)
  (fun h k => h.trans k) ?hKb (Below.refl _ _) (fun _ => rfl)
  (fun pre W => St w w16 v12 v16 (pre.foldl (fun s (x : Fin t332.length) => tfS l0_1 t332 s ((x : Nat) : Int)) st0).1 (pre.foldl (fun s (x : Fin t332.length) => tfS l0_1 t332 s ((x : Nat) : Int)) st0).2 W) (fun _ _ _ => False)
  (fun _ A B row hs hg hr => St.own (β := Unit) () A B row hs hg hr) (fun _ _ _ _ _ h _ _ => h) hSt1
  (fun x a' W => ∃ q, w16.heap.size ≤ q ∧ W.heap[q]? = some (.cells #[.int .i64 (X7 t332 ((x : Nat) : Int)).f0, .int .i64 (X7 t332 ((x : Nat) : Int)).f1, .int .i64 (X7 t332 ((x : Nat) : Int)).f2] 82 (0, 0)) ∧ a' = { tmps := #[.agg #[.slice A0_0 l0_0.length c0_0, .slice A0_1 l0_1.length c0_1], .int .i64 a1, .slice A2 l2.length c2, .pointer (some ⟨g, 0, none⟩), undef, undef, .slice none 0 0, .pointer (some ⟨q7, 0, none⟩), .pointer (some ⟨q8, 0, none⟩), undef, .pointer (some ⟨q, 0, none⟩), .slice A2 l2.length c2, v12, .pointer (some ⟨g, 1, none⟩), .slice A0_1 l0_1.length c0_1, .int .i64 (l0_1.length : Int), v16, .agg #[.slice A0_0 l0_0.length c0_0, .slice A0_1 l0_1.length c0_1], .int .i64 a1, .slice Aw t332.length cw, .func (.func 84) #[] #[.pointer (some ⟨Bs, 0, none⟩)], .int .i64 ((x : Nat) : Int), .agg #[.int .i64 (X7 t332 ((x : Nat) : Int)).f0, .int .i64 (X7 t332 ((x : Nat) : Int)).f1, .int .i64 (X7 t332 ((x : Nat) : Int)).f2], undef, undef, undef, undef, undef, undef, undef, undef, undef, undef, undef, undef, undef, undef, undef, undef, undef, undef, undef, undef, undef, undef, undef, undef, undef, undef, undef, undef, undef, undef, undef, undef, undef, undef, undef, undef, undef, undef, undef, undef, undef, undef], defers := [] })
  ?hAx ?hassign ?hbody ?hdone ?hstop
 case hKb =>
  intro W l o o' hl hlo ho _
  have h1 : ∀ (q : Nat), q < w16.heap.size → (W.putObj l o').heap[q]? = W.heap[q]? := fun q hq => World.putObj_heap_other (by omega)
  exact ⟨h1 Bs (blk_lt hbs), h1 gw hgl⟩
 case hAx =>
  intro x a'
  rintro _ X Y row ⟨q, hq, hb, e⟩ hg hr
  refine ⟨q, hq, blk_grown hb hg (fun e2 => ?_), e⟩
  obtain ⟨_, o, ho, hn⟩ := hr q e2.symm
  rw [hb] at ho
  cases ho
  cases hn
 case hassign =>
  intro l pre x W K hI hK
  generalize (X7 t332 ((x : Nat) : Int)).f0 = u0 at hK ⊢
  generalize (X7 t332 ((x : Nat) : Int)).f1 = u1 at hK ⊢
  generalize (X7 t332 ((x : Nat) : Int)).f2 = u2 at hK ⊢
  gi_wp2
  have hz := hI.ko.size
  exact hK _ _ ((KeepsOthers.alloc _ _).from _) ⟨Below.heap_alloc W _ Bs (Nat.lt_of_lt_of_le (blk_lt hbs) hz), Below.heap_alloc W _ gw (Nat.lt_of_lt_of_le hgl hz)⟩ (hI.alloc _) ⟨W.heap.size, hz, World.alloc_heap_new W _, rfl⟩
 case hbody =>
  intro l pre x a' W _ _ hI ⟨q, hq, hqb, e⟩ hlt
  subst e
  have hx := hok (x : Nat) (by have := x.2; omega)
  obtain ⟨hl1, hl2⟩ := tf_fold (ps := l0_1) (ws := t332) pre st0
  obtain ⟨s, hs⟩ : ∃ s, s = (pre.foldl (fun s (x : Fin t332.length) => tfS l0_1 t332 s ((x : Nat) : Int)) st0).1 := ⟨_, rfl⟩
  obtain ⟨f, hf⟩ : ∃ f, f = (pre.foldl (fun s (x : Fin t332.length) => tfS l0_1 t332 s ((x : Nat) : Int)) st0).2 := ⟨_, rfl⟩
  rw [← hs] at hl1
  rw [← hf] at hl2
  have hS0 : St w w16 v12 v16 s f W := by rw [hs, hf]; exact hI
  have hw1 := hS0.keep _ _ _ (by decide) hbg
  have hw7 := hS0.keep _ _ _ (by decide) hb7
  have hw8 := hS0.keep _ _ _ (by decide) hb8
  obtain ⟨s1, hA⟩ : ∃ s1, s1 = tfA t332 s ((x : Nat) : Int) := ⟨_, rfl⟩
  obtain ⟨f1, hB⟩ : ∃ f1, f1 = tfB t332 s f ((x : Nat) : Int) := ⟨_, rfl⟩
  obtain ⟨f2, hC⟩ : ∃ f2, f2 = tfC l0_1 t332 s f ((x : Nat) : Int) := ⟨_, rfl⟩
  have goalI : Aside0 (∀ (a_ : Act) W', St w W v12 v16 s1 f2 W' → ownPostG w16.heap.size (KpB Bs gw) (fun pre W => St w w16 v12 v16 (pre.foldl (fun s (x : Fin t332.length) => tfS l0_1 t332 s ((x : Nat) : Int)) st0).1 (pre.foldl (fun s (x : Fin t332.length) => tfS l0_1 t332 s ((x : Nat) : Int)) st0).2 W) (fun _ _ _ => False) (pre ++ [x]) W .normal a_ W') := by
    refine ⟨fun a_ W' h => ⟨h.ko.from _, ⟨?_, ?_⟩, ?_⟩⟩
    · exact (h.keep _ _ _ (by decide) (hS0.keep _ _ _ (by decide) hbs)).trans (hS0.keep _ _ _ (by decide) hbs).symm
    · obtain ⟨cells, hc⟩ := (hgw (by omega)).2
      exact (h.keep _ _ _ (by decide) (hS0.keep _ _ _ (by decide) hc)).trans (hS0.keep _ _ _ (by decide) hc).symm
    · have e : List.foldl (fun s (x : Fin t332.length) => tfS l0_1 t332 s ((x : Nat) : Int)) st0 (pre ++ [x]) = (s1, f2) := by rw [List.foldl_append, hA, hC, hs, hf]; rfl
      show St w w16 v12 v16 (List.foldl (fun s (x : Fin t332.length) => tfS l0_1 t332 s ((x : Nat) : Int)) st0 (pre ++ [x])).1 (List.foldl (fun s (x : Fin t332.length) => tfS l0_1 t332 s ((x : Nat) : Int)) st0 (pre ++ [x])).2 W'
      rw [e]
      exact hS0.trans h
  unfold tfC at hC
  rw [← hA, ← hB] at hC
  unfold tfB at hB
  rw [← hA] at hB
  unfold tfA at hA
  obtain ⟨b0, b1, n0, n1, p0, p1, r1⟩ := hx
  rw [← hl1] at b1 n1
  rw [← hl2] at p1
  replace hm := hl2.trans hm
  generalize (X7 t332 ((x : Nat) : Int)).f0 = nd at *
  generalize (X7 t332 ((x : Nat) : Int)).f1 = bf at *
  generalize (X7 t332 ((x : Nat) : Int)).f2 = pp at *
  have hS := hS0.restart
  clear hS0 hI hs hf hl1 hl2 hok hr hSt1 hcells hOw hlen hbs hgl hgw hbg hb7 hb8 hlt
  obtain ⟨go, cap, ev, _⟩ := Kd.R_form hS.r7 (by omega)
  obtain ⟨gf, caf, ew, _⟩ := Kd.R_form hS.r8 (by omega)
  subst ev
  subst ew
  obtain ⟨ad, ea, _, hq1, _⟩ := X25 HR0_1.out pp p0 r1
  subst ea
  have hP1 := am_ ((hS.below.cell (World.block_lt_of_cell? w _ hq1)).trans hq1)
  have hPw := am_ hq1
  obtain ⟨e1, z1⟩ := Kd.R_celln 0 hS.r7 bf b0 b1
  obtain ⟨e2, _⟩ := Kd.R_celln 0 hS.r7 nd n0 n1
  have B0 := am_ b0
  have B1 := am_ b1
  have N0 := am_ n0
  have N1 := am_ n1
  have P0 := am_ p0
  have P1 := am_ p1
  replace b0 := eq_true b0
  replace b1 := eq_true b1
  replace n0 := eq_true n0
  replace n1 := eq_true n1
  replace p0 := eq_true p0
  replace p1 := eq_true p1
  replace r1 := eq_true r1
  have HA := am_ hA
  have HBB := am_ hB
  have HCC := hC
  have HS := am_ hS
  have Hw1 := am_ hw1
  have Hw7 := am_ hw7
  have Hw8 := am_ hw8
  have HQ := am_ hqb
  clear hA hB hC hS hw1 hw7 hw8 hqb hq1 hm
  refine wpIn_block (wpIn_seq ?_)
  refine start_round (n := 13) (S := fun w' => w'.cell? ⟨q7, 0, none⟩ = some (.slice (some ⟨go, 0, none⟩) s.length cap) ∧ w'.cell? ⟨q, 0, none⟩ = some (.int .i64 nd) ∧ w'.cell? ⟨q, 1, none⟩ = some (.int .i64 bf) ∧ w'.cell? ⟨go, bf.toNat, none⟩ = some (.int .i64 (rd s bf)) ∧ w'.cell? ⟨go, nd.toNat, none⟩ = some (.int .i64 (rd s nd))) (ds := [12]) #[J,J,J,J,J,J,J,J,J,J,J,J,J] (by kernel_rfl) (fun ⟨_, _, h_⟩ => h_) (by kernel_rfl) rfl rfl ⟨(blk_cell Hw7.out 0).trans rfl, (blk_cell HQ.out 0).trans rfl, (blk_cell HQ.out 1).trans rfl, e1, e2⟩ (fun hH => ?_); refine with_tabW X2.tab4 X2.bits4 (fun HT HW => ?_)
  refine rt_ 0 23 #[Y,J,J,J,J,J,J,J,J,J,J,J,J] HT HW hH ?_; refine ra_ 1 24 #[Y,Y,J,J,J,J,J,J,J,J,J,J,J] HT ?_; refine rt_ 5 28 #[Y,Y,J,J,J,Y,J,J,J,J,J,J,J] HT HW hH ?_; refine ra_ 6 29 #[Y,Y,J,J,J,Y,Y,J,J,J,J,J,J] HT ?_; refine rt_ 2 25 #[Y,Y,Y,J,J,Y,Y,J,J,J,J,J,J] HT HW hH ?_; refine ra_ 3 26 #[Y,Y,Y,Y,J,Y,Y,J,J,J,J,J,J] HT ?_; refine rt_ 4 27 #[Y,Y,Y,Y,Y,Y,Y,J,J,J,J,J,J] HT HW hH ?_; refine rt_ 7 30 #[Y,Y,Y,Y,Y,Y,Y,Y,J,J,J,J,J] HT HW hH ?_; refine ra_ 8 31 #[Y,Y,Y,Y,Y,Y,Y,Y,Y,J,J,J,J] HT ?_; refine rt_ 9 32 #[Y,Y,Y,Y,Y,Y,Y,Y,Y,Y,J,J,J] HT HW hH ?_; refine ra_ 10 33 #[Y,Y,Y,Y,Y,Y,Y,Y,Y,Y,Y,J,J] HT ?_; refine ra_ 11 34 #[Y,Y,Y,Y,Y,Y,Y,Y,Y,Y,Y,Y,J] HT ?_
  refine last_ (i := 12) (N := none) #[Y,Y,Y,Y,Y,Y,Y,Y,Y,Y,Y,Y,Y] rfl rfl (one_of HT.out (by kernel_rfl)) (by decide) (fun K hK => ?_)
  refine skip_ (w1 := ?_) (by rfl) rfl ?_ ?_
  rotate_left
  ·go_simp
   rfl
  refine hK.out _ _ ?_
  clear hK K
  refine done_ (done_of HT.out (by kernel_rfl)) ?_
  clear HT HW hH
  obtain ⟨W4, h4⟩ : ∃ W4, W4 = (W.setCell ⟨go, bf.toNat, none⟩ (.int .i64 (wrap64 (rd s bf + rd s nd)))).drew := ⟨_, rfl⟩
  rw [← h4]
  have HS1 : Aside0 (St w W (.slice (some ⟨go, 0, none⟩) s.length cap) (.slice (some ⟨gf, 0, none⟩) f.length caf) s1 f W4) := ⟨by rw [h4, HA.out]; exact (HS.out.set7 rfl bf _).drew⟩
  clear h4 e1 z1 e2
  have e5 := (Kd.R_celln 0 HS1.out.r7 nd N0.out N1.out).1
  obtain ⟨e6, z6⟩ := Kd.R_celln 0 HS1.out.r8 pp P0.out P1.out
  refine wpIn_seq ?_
  refine start_round (n := 10) (S := fun w' => w'.cell? ⟨q8, 0, none⟩ = some (.slice (some ⟨gf, 0, none⟩) f.length caf) ∧ w'.cell? ⟨q7, 0, none⟩ = some (.slice (some ⟨go, 0, none⟩) s.length cap) ∧ w'.cell? ⟨q, 2, none⟩ = some (.int .i64 pp) ∧ w'.cell? ⟨q, 0, none⟩ = some (.int .i64 nd) ∧ w'.cell? ⟨go, nd.toNat, none⟩ = some (.int .i64 (rd s1 nd))) (ds := [9]) #[J,J,J,J,J,J,J,J,J,J] (by kernel_rfl) (fun ⟨_, _, h_⟩ => h_) (by kernel_rfl) rfl rfl ⟨(blk_cell (HS1.out.keep _ _ _ (by decide) Hw8.out) 0).trans rfl, (blk_cell (HS1.out.keep _ _ _ (by decide) Hw7.out) 0).trans rfl, (blk_cell (HS1.out.keep _ _ _ (by decide) HQ.out) 2).trans rfl, (blk_cell (HS1.out.keep _ _ _ (by decide) HQ.out) 0).trans rfl, e5⟩ (fun hH => ?_); refine with_tabW X2.tab5 X2.bits5 (fun HT HW => ?_)
  refine rt_ 0 35 #[Y,J,J,J,J,J,J,J,J,J] HT HW hH ?_; refine ra_ 1 36 #[Y,Y,J,J,J,J,J,J,J,J] HT ?_; refine rt_ 3 38 #[Y,Y,J,Y,J,J,J,J,J,J] HT HW hH ?_; refine ra_ 4 39 #[Y,Y,J,Y,Y,J,J,J,J,J] HT ?_; refine rt_ 2 37 #[Y,Y,Y,Y,Y,J,J,J,J,J] HT HW hH ?_; refine rt_ 5 40 #[Y,Y,Y,Y,Y,Y,J,J,J,J] HT HW hH ?_; refine ra_ 6 41 #[Y,Y,Y,Y,Y,Y,Y,J,J,J] HT ?_; refine rt_ 7 42 #[Y,Y,Y,Y,Y,Y,Y,Y,J,J] HT HW hH ?_; refine ra_ 8 43 #[Y,Y,Y,Y,Y,Y,Y,Y,Y,J] HT ?_
  refine last_ (i := 9) (N := none) #[Y,Y,Y,Y,Y,Y,Y,Y,Y,Y] rfl rfl (one_of HT.out (by kernel_rfl)) (by decide) (fun K hK => ?_)
  refine skip_ (w1 := ?_) (by rfl) rfl ?_ ?_
  rotate_left
  ·go_simp
   rfl
  refine hK.out _ _ ?_
  clear hK K
  refine done_ (done_of HT.out (by kernel_rfl)) ?_
  clear HT HW hH
  obtain ⟨W5, h5⟩ : ∃ W5, W5 = (W4.setCell ⟨gf, pp.toNat, none⟩ (.int .i64 (rd s1 nd))).drew := ⟨_, rfl⟩
  rw [← h5]
  have HS2 : Aside0 (St w W (.slice (some ⟨go, 0, none⟩) s.length cap) (.slice (some ⟨gf, 0, none⟩) f.length caf) s1 f1 W5) := ⟨by rw [h5, HBB.out]; exact (HS1.out.set8 rfl pp _).drew⟩
  clear h5 e5 e6 z6 HS1 W4
  have e7 := (HS2.out.below.cell (World.block_lt_of_cell? w _ hPw.out)).trans hPw.out
  refine wpIn_seq ?_
  by_cases c : (X1 l0_1 pp).f1 = nd
  · have c29b0 : ((X1 l0_1 pp).f1 == nd) = true := beq_iff_eq.mpr c
    rw [if_pos c] at HCC
    have HC0 := am_ c
    clear c
    refine start_round (n := 10) (S := fun w' => w'.cell? ⟨g, 1, none⟩ = some (.slice (some ad) l0_1.length c0_1) ∧ w'.cell? ⟨q, 0, none⟩ = some (.int .i64 nd) ∧ w'.cell? ⟨q, 1, none⟩ = some (.int .i64 bf) ∧ w'.cell? ⟨q, 2, none⟩ = some (.int .i64 pp) ∧ w'.cell? ⟨(ad.add (pp.toNat * 6)).block, (ad.add (pp.toNat * 6)).off + 1, none⟩ = some (.int .i64 (X1 l0_1 pp).f1)) (ds := []) #[J,J,J,J,J,J,J,J,J,J] (by kernel_rfl) (fun ⟨_, _, h_⟩ => h_) (by kernel_rfl) rfl rfl ⟨(blk_cell (HS2.out.keep _ _ _ (by decide) Hw1.out) 1).trans rfl, (blk_cell (HS2.out.keep _ _ _ (by decide) HQ.out) 0).trans rfl, (blk_cell (HS2.out.keep _ _ _ (by decide) HQ.out) 1).trans rfl, (blk_cell (HS2.out.keep _ _ _ (by decide) HQ.out) 2).trans rfl, e7⟩ (fun hH => ?_); refine with_tabW X2.tab6 X2.bits6 (fun HT HW => ?_)
    refine ra_ 0 44 #[Y,J,J,J,J,J,J,J,J,J] HT ?_; refine ra_ 2 46 #[Y,J,Y,J,J,J,J,J,J,J] HT ?_; refine ra_ 7 51 #[Y,J,Y,J,J,J,J,Y,J,J] HT ?_; refine rt_ 1 45 #[Y,Y,Y,J,J,J,J,Y,J,J] HT HW hH ?_; refine rt_ 3 47 #[Y,Y,Y,Y,J,J,J,Y,J,J] HT HW hH ?_; refine ra_ 4 48 #[Y,Y,Y,Y,Y,J,J,Y,J,J] HT ?_; refine ra_ 5 49 #[Y,Y,Y,Y,Y,Y,J,Y,J,J] HT ?_; refine rt_ 6 50 #[Y,Y,Y,Y,Y,Y,Y,Y,J,J] HT HW hH ?_; refine rt_ 8 52 #[Y,Y,Y,Y,Y,Y,Y,Y,Y,J] HT HW hH ?_; refine ra_ 9 53 #[Y,Y,Y,Y,Y,Y,Y,Y,Y,Y] HT ?_
    refine done_ (done_of HT.out (by kernel_rfl)) ?_
    clear HT HW hH
    have HS3 : Aside0 (St w W (.slice (some ⟨go, 0, none⟩) s.length cap) (.slice (some ⟨gf, 0, none⟩) f.length caf) s1 f1 W5.drew) := ⟨HS2.out.drew⟩
    generalize W5.drew = W6 at HS3 ⊢
    clear HS2 e7
    refine wpIn_cond_true rfl ?_
    have e5 := (Kd.R_celln 0 HS3.out.r7 nd N0.out N1.out).1
    obtain ⟨e6, z6⟩ := Kd.R_celln 0 HS3.out.r8 pp P0.out P1.out
    refine start_round (n := 11) (S := fun w' => w'.cell? ⟨q8, 0, none⟩ = some (.slice (some ⟨gf, 0, none⟩) f.length caf) ∧ w'.cell? ⟨q7, 0, none⟩ = some (.slice (some ⟨go, 0, none⟩) s.length cap) ∧ w'.cell? ⟨q, 2, none⟩ = some (.int .i64 pp) ∧ w'.cell? ⟨q, 0, none⟩ = some (.int .i64 nd) ∧ w'.cell? ⟨go, nd.toNat, none⟩ = some (.int .i64 (rd s1 nd))) (ds := [10]) #[J,J,J,J,J,J,J,J,J,J,J] (by kernel_rfl) (fun ⟨_, _, h_⟩ => h_) (by kernel_rfl) rfl rfl ⟨(blk_cell (HS3.out.keep _ _ _ (by decide) Hw8.out) 0).trans rfl, (blk_cell (HS3.out.keep _ _ _ (by decide) Hw7.out) 0).trans rfl, (blk_cell (HS3.out.keep _ _ _ (by decide) HQ.out) 2).trans rfl, (blk_cell (HS3.out.keep _ _ _ (by decide) HQ.out) 0).trans rfl, e5⟩ (fun hH => ?_); refine with_tabW X2.tab7 X2.bits7 (fun HT HW => ?_)
    refine rt_ 0 54 #[Y,J,J,J,J,J,J,J,J,J,J] HT HW hH ?_; refine ra_ 1 55 #[Y,Y,J,J,J,J,J,J,J,J,J] HT ?_; refine rt_ 3 57 #[Y,Y,J,Y,J,J,J,J,J,J,J] HT HW hH ?_; refine ra_ 4 58 #[Y,Y,J,Y,Y,J,J,J,J,J,J] HT ?_; refine rt_ 2 56 #[Y,Y,Y,Y,Y,J,J,J,J,J,J] HT HW hH ?_; refine rt_ 5 59 #[Y,Y,Y,Y,Y,Y,J,J,J,J,J] HT HW hH ?_; refine ra_ 6 60 #[Y,Y,Y,Y,Y,Y,Y,J,J,J,J] HT ?_; refine rt_ 7 61 #[Y,Y,Y,Y,Y,Y,Y,Y,J,J,J] HT HW hH ?_; refine ra_ 8 62 #[Y,Y,Y,Y,Y,Y,Y,Y,Y,J,J] HT ?_; refine ra_ 9 63 #[Y,Y,Y,Y,Y,Y,Y,Y,Y,Y,J] HT ?_
    refine last_ (i := 10) (N := none) #[Y,Y,Y,Y,Y,Y,Y,Y,Y,Y,Y] rfl rfl (one_of HT.out (by kernel_rfl)) (by decide) (fun K hK => ?_)
    refine skip_ (w1 := ?_) (by rfl) rfl ?_ ?_
    rotate_left
    ·go_simp
     rfl
    refine hK.out _ _ ?_
    clear hK K
    refine done_ (done_of HT.out (by kernel_rfl)) ?_
    clear HT HW hH
    exact goalI.out ⟨#[], []⟩ _ (by rw [HCC]; exact (HS3.out.set8 rfl pp _).drew)
  · have c29b0 : ((X1 l0_1 pp).f1 == nd) = false := beq_eq_false_iff_ne.mpr c
    rw [if_neg c] at HCC
    have HC0 := am_ c
    clear c
    refine start_round (n := 10) (S := fun w' => w'.cell? ⟨g, 1, none⟩ = some (.slice (some ad) l0_1.length c0_1) ∧ w'.cell? ⟨q, 0, none⟩ = some (.int .i64 nd) ∧ w'.cell? ⟨q, 1, none⟩ = some (.int .i64 bf) ∧ w'.cell? ⟨q, 2, none⟩ = some (.int .i64 pp) ∧ w'.cell? ⟨(ad.add (pp.toNat * 6)).block, (ad.add (pp.toNat * 6)).off + 1, none⟩ = some (.int .i64 (X1 l0_1 pp).f1)) (ds := []) #[J,J,J,J,J,J,J,J,J,J] (by kernel_rfl) (fun ⟨_, _, h_⟩ => h_) (by kernel_rfl) rfl rfl ⟨(blk_cell (HS2.out.keep _ _ _ (by decide) Hw1.out) 1).trans rfl, (blk_cell (HS2.out.keep _ _ _ (by decide) HQ.out) 0).trans rfl, (blk_cell (HS2.out.keep _ _ _ (by decide) HQ.out) 1).trans rfl, (blk_cell (HS2.out.keep _ _ _ (by decide) HQ.out) 2).trans rfl, e7⟩ (fun hH => ?_); refine with_tabW X2.tab6 X2.bits6 (fun HT HW => ?_)
    refine ra_ 0 44 #[Y,J,J,J,J,J,J,J,J,J] HT ?_; refine ra_ 2 46 #[Y,J,Y,J,J,J,J,J,J,J] HT ?_; refine ra_ 7 51 #[Y,J,Y,J,J,J,J,Y,J,J] HT ?_; refine rt_ 1 45 #[Y,Y,Y,J,J,J,J,Y,J,J] HT HW hH ?_; refine rt_ 3 47 #[Y,Y,Y,Y,J,J,J,Y,J,J] HT HW hH ?_; refine ra_ 4 48 #[Y,Y,Y,Y,Y,J,J,Y,J,J] HT ?_; refine ra_ 5 49 #[Y,Y,Y,Y,Y,Y,J,Y,J,J] HT ?_; refine rt_ 6 50 #[Y,Y,Y,Y,Y,Y,Y,Y,J,J] HT HW hH ?_; refine rt_ 8 52 #[Y,Y,Y,Y,Y,Y,Y,Y,Y,J] HT HW hH ?_; refine ra_ 9 53 #[Y,Y,Y,Y,Y,Y,Y,Y,Y,Y] HT ?_
    refine done_ (done_of HT.out (by kernel_rfl)) ?_
    clear HT HW hH
    have HS3 : Aside0 (St w W (.slice (some ⟨go, 0, none⟩) s.length cap) (.slice (some ⟨gf, 0, none⟩) f.length caf) s1 f1 W5.drew) := ⟨HS2.out.drew⟩
    generalize W5.drew = W6 at HS3 ⊢
    clear HS2 e7
    refine wpIn_cond_false rfl ?_
    refine wpIn_skip ?_
    exact goalI.out ⟨#[], []⟩ _ (by rw [HCC]; exact HS3.out)
 case hdone =>
  intro D xs W hD hxs hI hK
  subst hxs
  have hS := am_ hI
  have hr8 := am_ (Kd.R_flat (ok' := fun _ => True) (fun h => h) hI.r8 (fun _ _ _ => trivial))
  have hw8 := am_ (hI.keep _ _ _ (by decide) hb8)
  rw [← hr] at hr8
  clear hI
  obtain ⟨Av, cv, ev⟩ := Kd.R_slice hr8.out
  subst ev
  have hcz : W.cell? ⟨q8, 0, none⟩ = some (.slice Av r.length cv) := (blk_cell hw8.out 0).trans rfl
  clear hok hr hSt1 hm hcells hOw hlen hbs hgl hgw hbg hb7 hb8 hps
  go_wp2
  refine ⟨by simp, .inl ⟨_, _, rfl, run_takeDeferred hK, ?_⟩⟩
  exact ⟨_, results_tmp rfl _ _ _, _, rfl, R_others hr8.out (grownBy_putObj' W D (.deferred none)) (fun r_ e => by cases e; exact ⟨_, hK, rfl⟩), hS.out.below.trans (belowK_b (w := w16) hS.out.le W D _ _ hD hK rfl rfl)⟩
 case hstop =>
  intro D c pre W _ _ h _
  exact h.elim

end tf

end Go.Proofs.Ytnmdcmfhjhgheaa.PFnExactWorstNode
