-- Printed by a program of this session (wip/hprint.sh: the kit's print with hand-proved contracts put in); not by print.sh itself.
import Derived.Test.YtnmdcmfhjhgheaaPFnExactWorstNodex0
import Derived.Test.YtnmdcmfhjhgheaaPFnExactWorstNodex1
namespace Go.Proofs.Ytnmdcmfhjhgheaa.PFnExactWorstNode
open Go.RowKit Go.Proofs.YtnmdcmfhjhgheaaW.PrintWords Go.Proofs.YtnmdcmfhjhgheaaW.PrintLast Go.Proofs.YtnmdcmfhjhgheaaW.PrintMore Go.Proofs.YtnmdcmfhjhgheaaM
attribute [local go_sem] max2_int min2_int max_two min_two max_three min_three max_four min_four   -- for this text's walks alone
set_option linter.unusedVariables false
set_option linter.unusedSimpArgs false

open Go.Proofs.YtnmdcmfhjhgheaaM
def X41.f (l0 l1 : List Int) : Option Bool := if l0.length ≤ 4611686018427387904 then some (decide (l0 = l1)) else none
theorem eq_loop (l m : List Int) (he : l.length = m.length) (hl : l.length ≤ 4611686018427387904) : ∀ (d k : Nat) (i : Nat), i ≤ l.length → l.length - i = d → d < k → X31.l0 k l m (i : Int) = some (decide (l.drop i = m.drop i)) := by
  intro d
  induction d with
  | zero =>
    intro k i h1 hd hk
    obtain ⟨k, rfl⟩ : ∃ m, k = m + 1 := ⟨k - 1, by omega⟩
    simp only [X31.l0]; rw [if_neg (by omega), List.drop_of_length_le (by omega), List.drop_of_length_le (by omega)]; simp
  | succ d ih =>
    intro k i h1 hd hk
    obtain ⟨k, rfl⟩ : ∃ m, k = m + 1 := ⟨k - 1, by omega⟩
    simp only [X31.l0]
    rw [if_pos (by omega), if_pos (by omega), if_pos (by omega), w64 (x := (i : Int) + 1) (by omega) (by omega)]
    have e1 : rd l (i : Int) = l[i]'(by omega) := by unfold rd; rw [Int.toNat_natCast, List.getD_eq_getElem?_getD, List.getElem?_eq_getElem (by omega)]; rfl
    have e2 : rd m (i : Int) = m[i]'(by omega) := by unfold rd; rw [Int.toNat_natCast, List.getD_eq_getElem?_getD, List.getElem?_eq_getElem (by omega)]; rfl
    have d1 : l.drop i = l[i]'(by omega) :: l.drop (i + 1) := List.drop_eq_getElem_cons (by omega)
    have d2 : m.drop i = m[i]'(by omega) :: m.drop (i + 1) := List.drop_eq_getElem_cons (by omega)
    rw [e1, e2, d1, d2, show (i : Int) + 1 = ((i + 1 : Nat) : Int) by omega, ih k (i + 1) (by omega) (by omega) (by omega)]
    by_cases c : l[i]'(by omega) = m[i]'(by omega)
    · rw [if_pos c, c]; congr 1; exact decide_eq_decide.2 ⟨fun h => by rw [h], fun h => (List.cons.inj h).2⟩
    · rw [if_neg c, decide_eq_false (fun h => c (List.cons.inj h).1)]
theorem X41.same (l m : List Int) (hl : l.length ≤ 4611686018427387904) : X31.f (l.length + 1) l m = some (decide (l = m)) := by
  unfold X31.f
  by_cases he : l.length = m.length
  · rw [if_pos (by omega)]
    exact eq_loop l m he hl l.length (l.length + 1) 0 (by omega) (by omega) (by omega)
  · rw [if_neg (by omega), decide_eq_false (fun h => he (by rw [h]))]
theorem X41.calls (A0 : Option Addr) (c0 : Nat) (l0 : List Int) (A1 : Option Addr) (c1 : Nat) (l1 : List Int) (r : Bool) (w : World) (hr0 : Kd.C (Kd.int .i64) w A0 l0.length l0) (hc0 : l0.length ≤ c0) (hr1 : Kd.C (Kd.int .i64) w A1 l1.length l1) (hc1 : l1.length ≤ c1) (h : X41.f l0 l1 = some r) :
    Calls Try.prog 13 #[.slice A0 l0.length c0, .slice A1 l1.length c1] w fun e w' => e = .returned (.bool r) ∧ Drawn0 w w' := by
  unfold X41.f at h
  split at h
  · rename_i hl
    exact X31.calls (l0.length + 1) A0 c0 l0 A1 c1 l1 r w hr0 hc0 hr1 hc1 (by rw [← h]; exact X41.same l0 l1 hl)
  · exact absurd h (by simp)


open Go.Proofs.YtnmdcmfhjhgheaaM
def X78.f (a0_0 : ByteArray) (a0_1 a0_2 a0_3 a0_4 a0_5 : Int) (a1_0 : ByteArray) (a1_1 a1_2 a1_3 a1_4 a1_5 : Int) : Option Bool := if a0_0.toList = a1_0.toList then (if a0_1 = a1_1 then (if a0_2 = a1_2 then (if a0_3 = a1_3 then (if a0_4 = a1_4 then (if a0_5 = a1_5 then (some true) else (some false)) else (some false)) else (some false)) else (some false)) else (some false)) else (some false)
theorem if2 {p : Prop} [Decidable p] {r : Bool} {x : Option Bool} (h : (if p then x else some false) = some r) : (p ∧ x = some r) ∨ (¬ p ∧ false = r) := by
  by_cases c : p
  · rw [if_pos c] at h; exact .inl ⟨c, h⟩
  · rw [if_neg c] at h; exact .inr ⟨c, Option.some.inj h⟩
set_option maxHeartbeats 4000000 in
set_option maxRecDepth 100000 in
theorem X78.calls (a0_0 : ByteArray) (a0_1 : Int) (a0_2 : Int) (a0_3 : Int) (a0_4 : Int) (a0_5 : Int) (a1_0 : ByteArray) (a1_1 : Int) (a1_2 : Int) (a1_3 : Int) (a1_4 : Int) (a1_5 : Int) (r : Bool) (w : World) (h : X78.f a0_0 a0_1 a0_2 a0_3 a0_4 a0_5 a1_0 a1_1 a1_2 a1_3 a1_4 a1_5 = some r) :
    Calls Try.prog 66 #[.agg #[.string a0_0, .int .i64 a0_1, .int .i64 a0_2, .int .i64 a0_3, .int .i64 a0_4, .int .i64 a0_5], .agg #[.string a1_0, .int .i64 a1_1, .int .i64 a1_2, .int .i64 a1_3, .int .i64 a1_4, .int .i64 a1_5]] w fun e w' => e = .returned (.bool r) ∧ Below w.heap.size w w' := by
  have hu := Try.underlying73;(unfold X78.f at h)
  rcases if2 h with ⟨c0, h⟩ | ⟨c0, rfl⟩
  case inr =>
    (have b0 : (a0_0.toList == a1_0.toList) = false := by simpa using c0);(have n0 : (a0_0.toList != a1_0.toList) = true := by simpa using c0);clear c0 h;go_enter Try.func66, Try.ntmps66;go_wp2;go_ret;exact ⟨rfl, z101_⟩
  (have b0 : (a0_0.toList == a1_0.toList) = true := by simpa using c0);(have n0 : (a0_0.toList != a1_0.toList) = false := by simpa using c0);clear c0
  rcases if2 h with ⟨c1, h⟩ | ⟨c1, rfl⟩
  case inr =>
    (have b1 : (a0_1 == a1_1) = false := by simpa using c1);(have n1 : (a0_1 != a1_1) = true := by simpa using c1);clear c1 h;go_enter Try.func66, Try.ntmps66;go_wp2;go_ret;exact ⟨rfl, z101_⟩
  (have b1 : (a0_1 == a1_1) = true := by simpa using c1);(have n1 : (a0_1 != a1_1) = false := by simpa using c1);clear c1
  rcases if2 h with ⟨c2, h⟩ | ⟨c2, rfl⟩
  case inr =>
    (have b2 : (a0_2 == a1_2) = false := by simpa using c2);(have n2 : (a0_2 != a1_2) = true := by simpa using c2);clear c2 h;go_enter Try.func66, Try.ntmps66;go_wp2;go_ret;exact ⟨rfl, z101_⟩
  (have b2 : (a0_2 == a1_2) = true := by simpa using c2);(have n2 : (a0_2 != a1_2) = false := by simpa using c2);clear c2
  rcases if2 h with ⟨c3, h⟩ | ⟨c3, rfl⟩
  case inr =>
    (have b3 : (a0_3 == a1_3) = false := by simpa using c3);(have n3 : (a0_3 != a1_3) = true := by simpa using c3);clear c3 h;go_enter Try.func66, Try.ntmps66;go_wp2;go_ret;exact ⟨rfl, z101_⟩
  (have b3 : (a0_3 == a1_3) = true := by simpa using c3);(have n3 : (a0_3 != a1_3) = false := by simpa using c3);clear c3
  rcases if2 h with ⟨c4, h⟩ | ⟨c4, rfl⟩
  case inr =>
    (have b4 : (a0_4 == a1_4) = false := by simpa using c4);(have n4 : (a0_4 != a1_4) = true := by simpa using c4);clear c4 h;go_enter Try.func66, Try.ntmps66;go_wp2;go_ret;exact ⟨rfl, z101_⟩
  (have b4 : (a0_4 == a1_4) = true := by simpa using c4);(have n4 : (a0_4 != a1_4) = false := by simpa using c4);clear c4
  rcases if2 h with ⟨c5, h⟩ | ⟨c5, rfl⟩
  case inr =>
    (have b5 : (a0_5 == a1_5) = false := by simpa using c5);(have n5 : (a0_5 != a1_5) = true := by simpa using c5);clear c5 h;go_enter Try.func66, Try.ntmps66;go_wp2;go_ret;exact ⟨rfl, z101_⟩
  (have b5 : (a0_5 == a1_5) = true := by simpa using c5);(have n5 : (a0_5 != a1_5) = false := by simpa using c5);clear c5;obtain rfl := Option.some.inj h;clear h;go_enter Try.func66, Try.ntmps66;go_wp2;go_ret;exact ⟨rfl, z101_⟩

def X24.l0 : Nat → List (S73) → List (S73) → Int → Option (Bool)
 | 0, _, _, _ => none
 | k + 1, x0, x1, x5 => if x5 < (x0.length : Int) then (if 0 ≤ x5 then (if x5 < (x1.length : Int) then ((X78.f (X1 x0 x5).f0 (X1 x0 x5).f1 (X1 x0 x5).f2 (X1 x0 x5).f3 (X1 x0 x5).f4 (X1 x0 x5).f5 (X1 x1 x5).f0 (X1 x1 x5).f1 (X1 x1 x5).f2 (X1 x1 x5).f3 (X1 x1 x5).f4 (X1 x1 x5).f5).bind fun t139 => (if t139 = true then (X24.l0 k x0 x1 (wrap64 (x5 + 1))) else (some false))) else (none)) else (none)) else (some true)
def X24.f (k : Nat) (l0 : List (S73)) (l1 : List (S73)) : Option (Bool) := if (l0.length : Int) = (l1.length : Int) then (X24.l0 k l0 l1 0) else (some false)
theorem X24.mono_l : ∀ k, (∀ y0 y1 y2, LeO (X24.l0 k y0 y1 y2) (X24.l0 (k + 1) y0 y1 y2))
 | 0 => fun _ _ _ r h => by simp [X24.l0] at h
 | k + 1 => by
  have ih0 := X24.mono_l k
  ·intro y0 y1 y2
   unfold X24.l0
   exact z244_
theorem X24.mono : ∀ a0 a1 k, LeO (X24.f k a0 a1) (X24.f (k + 1) a0 a1) := by
 intro a0 a1 k
 have ih0 := X24.mono_l k
 unfold X24.f
 exact z244_
def X24.T6 : Bool × List (List Nat × List Nat) := (true, [([], []), ([], []), ([0, 1], [0, 1]), ([2], [2]), ([], []), ([], []), ([4, 5], [4, 5]), ([6], [6]), ([3, 7], [3, 7]), ([8], [8])])
def X24.B6 : List Nat := [0, 0, 3, 7, 0, 0, 48, 112, 255, 511]
theorem X24.tab6 : rtab .any (opsOf Try.f34 6) = X24.T6 := by kernel_rfl
theorem X24.bits6 : waitsOk X24.T6.2 X24.B6 = true := by kernel_rfl
set_option maxHeartbeats 8000000 in
set_option maxRecDepth 100000 in
theorem X24.calls (k : Nat) (A0 : Option Addr) (c0 : Nat) (l0 : List (S73)) (A1 : Option Addr) (c1 : Nat) (l1 : List (S73)) (r : Bool) (w : World) (hr0 : Kd.C k73 w A0 l0.length l0) (hc0 : l0.length ≤ c0) (hr1 : Kd.C k73 w A1 l1.length l1) (hc1 : l1.length ≤ c1) (h : X24.f k l0 l1 = some r) :
  Calls Try.prog 34 #[.slice A0 l0.length c0, .slice A1 l1.length c1] w fun e w' => e = .returned (.bool r) ∧ Below w.heap.size w w' := by
 have hu73 := Try.underlying73
 have HR0 := am_ hr0
 have HC0 := am_ hc0
 clear hr0 hc0
 have HR1 := am_ hr1
 have HC1 := am_ hc1
 clear hr1 hc1
 have HB := am_ (Below.refl w.heap.size w)
 unfold X24.f at h;have H := h;clear h
 by_cases c3 : (l0.length : Int) = (l1.length : Int)
 ·(rw [if_pos c3] at H);have c3b0 : ((l0.length : Int) == (l1.length : Int)) = true := beq_iff_eq.mpr c3;have c3b1 : ((l0.length : Int) != (l1.length : Int)) = false := bne_eq_false_iff_eq.mpr c3;(have c3b2 : (l0.length == l1.length) = true := by first | simpa using c3 | (simp at c3 ⊢; omega));clear c3;have H' := am_ H;clear H;go_enter Try.func34, Try.ntmps34;go_wp2
  go_loopg [5] k (fun kq v5 w' => ∃ (x5_1 : Int), v5 = .int .i64 x5_1 ∧ Aside0 (X24.l0 kq l0 l1 x5_1 = some r) ∧ Aside0 (kq ≤ k) ∧ Aside0 (Below w.heap.size w w'))
  case atStart => exact ⟨(0), (z8_), H', ⟨Nat.le_refl _⟩, ⟨z2_⟩⟩
  case round =>
   clear H';(try clear c1);(try clear c3);(try clear c3b0);(try clear c3b1);(try clear c3b2);obtain ⟨x5_1, rfl, HA, HK1, HB⟩ := hrel
   cases gk with
   | zero => exact absurd HA.out (by simp [X24.l0])
   | succ k1 =>
    have H := HA.out;clear HA;(simp only [X24.l0] at H);by_cases c4 : x5_1 < (l0.length : Int)
    ·(rw [if_pos c4] at H);have c4b0 := decide_eq_true c4;clear c4;obtain ⟨c5b0,H⟩ := pd_ H;obtain ⟨c6b0,H⟩ := pd_ H;obtain ⟨t139, A70, H⟩ := ob_ H;have A7 := am_ A70;clear A70;by_cases c8 : t139 = true
     ·subst c8;(rw [if_pos rfl] at H);have H' := am_ H;clear H;(try go_wp2);replace HB := am_ (below_drew1 HB.out);have p137 : 0 ≤ (x5_1 : Int) := of_decide_eq_true (z0_);have q137 : x5_1 < (l0.length : Int) := of_decide_eq_true (z0_);obtain ⟨ad137, e137, hx137_0, hx137_1, hx137_2, hx137_3, hx137_4, hx137_5⟩ := X25 HR0.out x5_1 p137 q137;have hw137_5 := hx137_5;have hw137_4 := hx137_4;have hw137_3 := hx137_3;have hw137_2 := hx137_2;have hw137_1 := hx137_1;have hw137_0 := hx137_0;cases e137;replace hx137_0 := hc_ HB hx137_0;replace hx137_1 := hc_ HB hx137_1;replace hx137_2 := hc_ HB hx137_2;replace hx137_3 := hc_ HB hx137_3;replace hx137_4 := hc_ HB hx137_4;replace hx137_5 := hc_ HB hx137_5;replace p137 := eq_true p137;replace q137 := eq_true q137;have p138 : 0 ≤ (x5_1 : Int) := of_decide_eq_true (z0_);have q138 : x5_1 < (l1.length : Int) := of_decide_eq_true (z0_);obtain ⟨ad138, e138, hx138_0, hx138_1, hx138_2, hx138_3, hx138_4, hx138_5⟩ := X25 HR1.out x5_1 p138 q138;have hw138_5 := hx138_5;have hw138_4 := hx138_4;have hw138_3 := hx138_3;have hw138_2 := hx138_2;have hw138_1 := hx138_1;have hw138_0 := hx138_0;cases e138;replace hx138_0 := hc_ HB hx138_0;replace hx138_1 := hc_ HB hx138_1;replace hx138_2 := hc_ HB hx138_2;replace hx138_3 := hc_ HB hx138_3;replace hx138_4 := hc_ HB hx138_4;replace hx138_5 := hc_ HB hx138_5;replace p138 := eq_true p138;replace q138 := eq_true q138;refine start_ (n := 10) (S := fun w' => w'.cell? (ad137.add ((x5_1).toNat * 6)) = some (.string (X1 l0 x5_1).f0) ∧ w'.cell? ⟨(ad137.add ((x5_1).toNat * 6)).block, (ad137.add ((x5_1).toNat * 6)).off + 1, none⟩ = some (.int .i64 (X1 l0 x5_1).f1) ∧ w'.cell? ⟨(ad137.add ((x5_1).toNat * 6)).block, (ad137.add ((x5_1).toNat * 6)).off + 2, none⟩ = some (.int .i64 (X1 l0 x5_1).f2) ∧ w'.cell? ⟨(ad137.add ((x5_1).toNat * 6)).block, (ad137.add ((x5_1).toNat * 6)).off + 3, none⟩ = some (.int .i64 (X1 l0 x5_1).f3) ∧ w'.cell? ⟨(ad137.add ((x5_1).toNat * 6)).block, (ad137.add ((x5_1).toNat * 6)).off + 4, none⟩ = some (.int .i64 (X1 l0 x5_1).f4) ∧ w'.cell? ⟨(ad137.add ((x5_1).toNat * 6)).block, (ad137.add ((x5_1).toNat * 6)).off + 5, none⟩ = some (.int .i64 (X1 l0 x5_1).f5) ∧ w'.cell? (ad138.add ((x5_1).toNat * 6)) = some (.string (X1 l1 x5_1).f0) ∧ w'.cell? ⟨(ad138.add ((x5_1).toNat * 6)).block, (ad138.add ((x5_1).toNat * 6)).off + 1, none⟩ = some (.int .i64 (X1 l1 x5_1).f1) ∧ w'.cell? ⟨(ad138.add ((x5_1).toNat * 6)).block, (ad138.add ((x5_1).toNat * 6)).off + 2, none⟩ = some (.int .i64 (X1 l1 x5_1).f2) ∧ w'.cell? ⟨(ad138.add ((x5_1).toNat * 6)).block, (ad138.add ((x5_1).toNat * 6)).off + 3, none⟩ = some (.int .i64 (X1 l1 x5_1).f3) ∧ w'.cell? ⟨(ad138.add ((x5_1).toNat * 6)).block, (ad138.add ((x5_1).toNat * 6)).off + 4, none⟩ = some (.int .i64 (X1 l1 x5_1).f4) ∧ w'.cell? ⟨(ad138.add ((x5_1).toNat * 6)).block, (ad138.add ((x5_1).toNat * 6)).off + 5, none⟩ = some (.int .i64 (X1 l1 x5_1).f5)) (ds := []) #[J,J,J,J,J,J,J,J,J,J] (z13_) rfl rfl ⟨(hc_ HB hw137_0:), (hc_ HB hw137_1:), (hc_ HB hw137_2:), (hc_ HB hw137_3:), (hc_ HB hw137_4:), (hc_ HB hw137_5:), (hc_ HB hw138_0:), (hc_ HB hw138_1:), (hc_ HB hw138_2:), (hc_ HB hw138_3:), (hc_ HB hw138_4:), (hc_ HB hw138_5:)⟩ (fun hHeld => ?_); refine with_tabW X24.tab6 X24.bits6 (fun HT_ HW_ => ?_);(generalize wr.drew = w9 at HB hx137_0 hx137_1 hx137_2 hx137_3 hx137_4 hx137_5 hx138_0 hx138_1 hx138_2 hx138_3 hx138_4 hx138_5 hHeld ⊢);refine pz_ 0 17 #[Y,J,J,J,J,J,J,J,J,J] HT_ ?_;refine pz_ 1 18 #[Y,Y,J,J,J,J,J,J,J,J] HT_ ?_;refine pz_ 2 19 #[Y,Y,Y,J,J,J,J,J,J,J] HT_ ?_;refine pz_ 4 21 #[Y,Y,Y,J,Y,J,J,J,J,J] HT_ ?_;refine pz_ 5 22 #[Y,Y,Y,J,Y,Y,J,J,J,J] HT_ ?_;refine pz_ 6 23 #[Y,Y,Y,J,Y,Y,Y,J,J,J] HT_ ?_;refine take_ (i := 3) (N := some 20) (v := ?_) (a' := ?_) #[Y,Y,Y,Y,Y,Y,Y,J,J,J] rfl rfl (take_ofW HT_.out HW_.out (z13_)) (fun _ _ _ h => h) (Or.inl ⟨by rfl, ?_⟩) hHeld ?_ ?_; rotate_left
      ·rintro w' ⟨s0, s1, s2, s3, s4, s5, s6, s7, s8, s9, s10, s11⟩; go_simp; with_reducible rfl
      rotate_left
      ·simp only [pU,pN,sB,sZ,sS,i64_w,i32_w]; rfl
      refine take_ (i := 7) (N := some 24) (v := ?_) (a' := ?_) #[Y,Y,Y,Y,Y,Y,Y,Y,J,J] rfl rfl (take_ofW HT_.out HW_.out (z13_)) (fun _ _ _ h => h) (Or.inl ⟨by rfl, ?_⟩) hHeld ?_ ?_; rotate_left
      ·rintro w' ⟨s0, s1, s2, s3, s4, s5, s6, s7, s8, s9, s10, s11⟩; go_simp; with_reducible rfl
      rotate_left
      ·simp only [pU,pN,sB,sZ,sS,i64_w,i32_w]; rfl
      refine one_ (i := 8) (N := some 25) #[Y,Y,Y,Y,Y,Y,Y,Y,Y,J] rfl rfl (one_of HT_.out (z13_)) (by decide) (fun K hK => ?_);refine goes_ Try.func66 (z13_) rfl #[.agg #[.string (X1 l0 x5_1).f0, .int .i64 (X1 l0 x5_1).f1, .int .i64 (X1 l0 x5_1).f2, .int .i64 (X1 l0 x5_1).f3, .int .i64 (X1 l0 x5_1).f4, .int .i64 (X1 l0 x5_1).f5], .agg #[.string (X1 l1 x5_1).f0, .int .i64 (X1 l1 x5_1).f1, .int .i64 (X1 l1 x5_1).f2, .int .i64 (X1 l1 x5_1).f3, .int .i64 (X1 l1 x5_1).f4, .int .i64 (X1 l1 x5_1).f5]] (by rfl) rfl rfl (z1_) ?_;(with_reducible refine (X78.calls (X1 l0 x5_1).f0 (X1 l0 x5_1).f1 (X1 l0 x5_1).f2 (X1 l0 x5_1).f3 (X1 l0 x5_1).f4 (X1 l0 x5_1).f5 (X1 l1 x5_1).f0 (X1 l1 x5_1).f1 (X1 l1 x5_1).f2 (X1 l1 x5_1).f3 (X1 l1 x5_1).f4 (X1 l1 x5_1).f5 true _ A7.out).mono ?_);rintro e w10 ⟨rfl, hb⟩;refine ⟨_, rfl, ?_⟩;replace HB := am_ (below_step (z2_) hb);(try clear hb);refine hK.out _ _ ⟨(hc_ HB hw137_0:), (hc_ HB hw137_1:), (hc_ HB hw137_2:), (hc_ HB hw137_3:), (hc_ HB hw137_4:), (hc_ HB hw137_5:), (hc_ HB hw138_0:), (hc_ HB hw138_1:), (hc_ HB hw138_2:), (hc_ HB hw138_3:), (hc_ HB hw138_4:), (hc_ HB hw138_5:)⟩ (fun hHeld => ?_);clear hK K;refine norm_ (a' := ?_) ?_ ?_
      rotate_left
      ·show Act.put _ (some 25) _ = _
       simp only [pU,pN,sB,sZ,sS,i64_w,i32_w]
       rfl
      refine pz_ 9 26 #[Y,Y,Y,Y,Y,Y,Y,Y,Y,Y] HT_ ?_;refine done_ (done_of HT_.out (z13_)) ?_;(try go_wp2)
      go_roundg k1
      case measure => have := HK1.out; omega
      case rel => exact ⟨(wrap64 (x5_1 + 1)), (z8_), H', ⟨z111_⟩, ⟨z2_⟩⟩
     ·replace c8 := Bool.eq_false_iff.mpr c8;subst c8;(rw [if_neg (show ¬ (false = true) by decide)] at H);obtain rfl := Option.some.inj H;(try go_wp2);replace HB := am_ (below_drew1 HB.out);have p137 : 0 ≤ (x5_1 : Int) := of_decide_eq_true (z0_);have q137 : x5_1 < (l0.length : Int) := of_decide_eq_true (z0_);obtain ⟨ad137, e137, hx137_0, hx137_1, hx137_2, hx137_3, hx137_4, hx137_5⟩ := X25 HR0.out x5_1 p137 q137;have hw137_5 := hx137_5;have hw137_4 := hx137_4;have hw137_3 := hx137_3;have hw137_2 := hx137_2;have hw137_1 := hx137_1;have hw137_0 := hx137_0;cases e137;replace hx137_0 := hc_ HB hx137_0;replace hx137_1 := hc_ HB hx137_1;replace hx137_2 := hc_ HB hx137_2;replace hx137_3 := hc_ HB hx137_3;replace hx137_4 := hc_ HB hx137_4;replace hx137_5 := hc_ HB hx137_5;replace p137 := eq_true p137;replace q137 := eq_true q137;have p138 : 0 ≤ (x5_1 : Int) := of_decide_eq_true (z0_);have q138 : x5_1 < (l1.length : Int) := of_decide_eq_true (z0_);obtain ⟨ad138, e138, hx138_0, hx138_1, hx138_2, hx138_3, hx138_4, hx138_5⟩ := X25 HR1.out x5_1 p138 q138;have hw138_5 := hx138_5;have hw138_4 := hx138_4;have hw138_3 := hx138_3;have hw138_2 := hx138_2;have hw138_1 := hx138_1;have hw138_0 := hx138_0;cases e138;replace hx138_0 := hc_ HB hx138_0;replace hx138_1 := hc_ HB hx138_1;replace hx138_2 := hc_ HB hx138_2;replace hx138_3 := hc_ HB hx138_3;replace hx138_4 := hc_ HB hx138_4;replace hx138_5 := hc_ HB hx138_5;replace p138 := eq_true p138;replace q138 := eq_true q138;refine start_ (n := 10) (S := fun w' => w'.cell? (ad137.add ((x5_1).toNat * 6)) = some (.string (X1 l0 x5_1).f0) ∧ w'.cell? ⟨(ad137.add ((x5_1).toNat * 6)).block, (ad137.add ((x5_1).toNat * 6)).off + 1, none⟩ = some (.int .i64 (X1 l0 x5_1).f1) ∧ w'.cell? ⟨(ad137.add ((x5_1).toNat * 6)).block, (ad137.add ((x5_1).toNat * 6)).off + 2, none⟩ = some (.int .i64 (X1 l0 x5_1).f2) ∧ w'.cell? ⟨(ad137.add ((x5_1).toNat * 6)).block, (ad137.add ((x5_1).toNat * 6)).off + 3, none⟩ = some (.int .i64 (X1 l0 x5_1).f3) ∧ w'.cell? ⟨(ad137.add ((x5_1).toNat * 6)).block, (ad137.add ((x5_1).toNat * 6)).off + 4, none⟩ = some (.int .i64 (X1 l0 x5_1).f4) ∧ w'.cell? ⟨(ad137.add ((x5_1).toNat * 6)).block, (ad137.add ((x5_1).toNat * 6)).off + 5, none⟩ = some (.int .i64 (X1 l0 x5_1).f5) ∧ w'.cell? (ad138.add ((x5_1).toNat * 6)) = some (.string (X1 l1 x5_1).f0) ∧ w'.cell? ⟨(ad138.add ((x5_1).toNat * 6)).block, (ad138.add ((x5_1).toNat * 6)).off + 1, none⟩ = some (.int .i64 (X1 l1 x5_1).f1) ∧ w'.cell? ⟨(ad138.add ((x5_1).toNat * 6)).block, (ad138.add ((x5_1).toNat * 6)).off + 2, none⟩ = some (.int .i64 (X1 l1 x5_1).f2) ∧ w'.cell? ⟨(ad138.add ((x5_1).toNat * 6)).block, (ad138.add ((x5_1).toNat * 6)).off + 3, none⟩ = some (.int .i64 (X1 l1 x5_1).f3) ∧ w'.cell? ⟨(ad138.add ((x5_1).toNat * 6)).block, (ad138.add ((x5_1).toNat * 6)).off + 4, none⟩ = some (.int .i64 (X1 l1 x5_1).f4) ∧ w'.cell? ⟨(ad138.add ((x5_1).toNat * 6)).block, (ad138.add ((x5_1).toNat * 6)).off + 5, none⟩ = some (.int .i64 (X1 l1 x5_1).f5)) (ds := []) #[J,J,J,J,J,J,J,J,J,J] (z13_) rfl rfl ⟨(hc_ HB hw137_0:), (hc_ HB hw137_1:), (hc_ HB hw137_2:), (hc_ HB hw137_3:), (hc_ HB hw137_4:), (hc_ HB hw137_5:), (hc_ HB hw138_0:), (hc_ HB hw138_1:), (hc_ HB hw138_2:), (hc_ HB hw138_3:), (hc_ HB hw138_4:), (hc_ HB hw138_5:)⟩ (fun hHeld => ?_); refine with_tabW X24.tab6 X24.bits6 (fun HT_ HW_ => ?_);(generalize wr.drew = w11 at HB hx137_0 hx137_1 hx137_2 hx137_3 hx137_4 hx137_5 hx138_0 hx138_1 hx138_2 hx138_3 hx138_4 hx138_5 hHeld ⊢);refine pz_ 0 17 #[Y,J,J,J,J,J,J,J,J,J] HT_ ?_;refine pz_ 1 18 #[Y,Y,J,J,J,J,J,J,J,J] HT_ ?_;refine pz_ 2 19 #[Y,Y,Y,J,J,J,J,J,J,J] HT_ ?_;refine pz_ 4 21 #[Y,Y,Y,J,Y,J,J,J,J,J] HT_ ?_;refine pz_ 5 22 #[Y,Y,Y,J,Y,Y,J,J,J,J] HT_ ?_;refine pz_ 6 23 #[Y,Y,Y,J,Y,Y,Y,J,J,J] HT_ ?_;refine take_ (i := 3) (N := some 20) (v := ?_) (a' := ?_) #[Y,Y,Y,Y,Y,Y,Y,J,J,J] rfl rfl (take_ofW HT_.out HW_.out (z13_)) (fun _ _ _ h => h) (Or.inl ⟨by rfl, ?_⟩) hHeld ?_ ?_; rotate_left
      ·rintro w' ⟨s0, s1, s2, s3, s4, s5, s6, s7, s8, s9, s10, s11⟩; go_simp; with_reducible rfl
      rotate_left
      ·simp only [pU,pN,sB,sZ,sS,i64_w,i32_w]; rfl
      refine take_ (i := 7) (N := some 24) (v := ?_) (a' := ?_) #[Y,Y,Y,Y,Y,Y,Y,Y,J,J] rfl rfl (take_ofW HT_.out HW_.out (z13_)) (fun _ _ _ h => h) (Or.inl ⟨by rfl, ?_⟩) hHeld ?_ ?_; rotate_left
      ·rintro w' ⟨s0, s1, s2, s3, s4, s5, s6, s7, s8, s9, s10, s11⟩; go_simp; with_reducible rfl
      rotate_left
      ·simp only [pU,pN,sB,sZ,sS,i64_w,i32_w]; rfl
      refine one_ (i := 8) (N := some 25) #[Y,Y,Y,Y,Y,Y,Y,Y,Y,J] rfl rfl (one_of HT_.out (z13_)) (by decide) (fun K hK => ?_);refine goes_ Try.func66 (z13_) rfl #[.agg #[.string (X1 l0 x5_1).f0, .int .i64 (X1 l0 x5_1).f1, .int .i64 (X1 l0 x5_1).f2, .int .i64 (X1 l0 x5_1).f3, .int .i64 (X1 l0 x5_1).f4, .int .i64 (X1 l0 x5_1).f5], .agg #[.string (X1 l1 x5_1).f0, .int .i64 (X1 l1 x5_1).f1, .int .i64 (X1 l1 x5_1).f2, .int .i64 (X1 l1 x5_1).f3, .int .i64 (X1 l1 x5_1).f4, .int .i64 (X1 l1 x5_1).f5]] (by rfl) rfl rfl (z1_) ?_;(with_reducible refine (X78.calls (X1 l0 x5_1).f0 (X1 l0 x5_1).f1 (X1 l0 x5_1).f2 (X1 l0 x5_1).f3 (X1 l0 x5_1).f4 (X1 l0 x5_1).f5 (X1 l1 x5_1).f0 (X1 l1 x5_1).f1 (X1 l1 x5_1).f2 (X1 l1 x5_1).f3 (X1 l1 x5_1).f4 (X1 l1 x5_1).f5 false _ A7.out).mono ?_);rintro e w12 ⟨rfl, hb⟩;refine ⟨_, rfl, ?_⟩;replace HB := am_ (below_step (z2_) hb);(try clear hb);refine hK.out _ _ ⟨(hc_ HB hw137_0:), (hc_ HB hw137_1:), (hc_ HB hw137_2:), (hc_ HB hw137_3:), (hc_ HB hw137_4:), (hc_ HB hw137_5:), (hc_ HB hw138_0:), (hc_ HB hw138_1:), (hc_ HB hw138_2:), (hc_ HB hw138_3:), (hc_ HB hw138_4:), (hc_ HB hw138_5:)⟩ (fun hHeld => ?_);clear hK K;refine norm_ (a' := ?_) ?_ ?_
      rotate_left
      ·show Act.put _ (some 25) _ = _
       simp only [pU,pN,sB,sZ,sS,i64_w,i32_w]
       rfl
      refine pz_ 9 26 #[Y,Y,Y,Y,Y,Y,Y,Y,Y,Y] HT_ ?_;refine done_ (done_of HT_.out (z13_)) ?_;(try go_wp2);go_ret;exact ⟨z6_, z2_⟩
    ·(rw [if_neg c4] at H);have c4b0 := decide_eq_false c4;clear c4;obtain rfl := Option.some.inj H;go_wp2;go_ret;exact ⟨z6_, z2_⟩
 ·(rw [if_neg c3] at H);have c3b0 : ((l0.length : Int) == (l1.length : Int)) = false := beq_eq_false_iff_ne.mpr c3;have c3b1 : ((l0.length : Int) != (l1.length : Int)) = true := bne_iff_ne.mpr c3;(have c3b2 : (l0.length == l1.length) = false := by first | simpa using c3 | (simp at c3 ⊢; omega));obtain rfl := Option.some.inj H;go_enter Try.func34, Try.ntmps34;go_wp2;go_ret;exact ⟨z6_, z2_⟩

open Go.Proofs.YtnmdcmfhjhgheaaM
def pipeEq (p q : S73) : Bool := decide (p.f0.toList = q.f0.toList) && (decide (p.f1 = q.f1) && (decide (p.f2 = q.f2) && (decide (p.f3 = q.f3) && (decide (p.f4 = q.f4) && decide (p.f5 = q.f5)))))
def pipesEq : List S73 → List S73 → Bool
  | [], [] => true
  | p :: l, q :: m => pipeEq p q && pipesEq l m
  | _, _ => false
theorem pipeEq_refl (p : S73) : pipeEq p p = true := by simp [pipeEq]
theorem pipesEq_refl (l : List S73) : pipesEq l l = true := by
  induction l with
  | nil => rfl
  | cons p l ih => simp [pipesEq, pipeEq_refl, ih]
theorem pipesEq_len : ∀ (l m : List S73), l.length ≠ m.length → pipesEq l m = false
  | [], [], h => absurd rfl h
  | [], _ :: _, _ => rfl
  | _ :: _, [], _ => rfl
  | p :: l, q :: m, h => by simp only [pipesEq]; rw [pipesEq_len l m (fun e => h (by simp [e])), Bool.and_false]
theorem rdP_impl (c : List S73) (i : Nat) : X1 c (i : Int) = c.getD i z73 := by unfold X1; rw [Int.toNat_natCast]
theorem dropP (c : List S73) (i : Nat) (h : i < c.length) : c.drop i = c.getD i z73 :: c.drop (i + 1) := by
  rw [List.drop_eq_getElem_cons h, List.getD_eq_getElem?_getD, List.getElem?_eq_getElem h]; rfl
theorem eqPipe_f (p q : S73) : X78.f p.f0 p.f1 p.f2 p.f3 p.f4 p.f5 q.f0 q.f1 q.f2 q.f3 q.f4 q.f5 = some (pipeEq p q) := by
  unfold X78.f pipeEq
  by_cases h0 : p.f0.toList = q.f0.toList
  · by_cases h1 : p.f1 = q.f1
    · by_cases h2 : p.f2 = q.f2
      · by_cases h3 : p.f3 = q.f3
        · by_cases h4 : p.f4 = q.f4
          · by_cases h5 : p.f5 = q.f5
            · simp [h0, h1, h2, h3, h4, h5]
            · simp [h0, h1, h2, h3, h4, h5]
          · simp [h0, h1, h2, h3, h4]
        · simp [h0, h1, h2, h3]
      · simp [h0, h1, h2]
    · simp [h0, h1]
  · simp [h0]
def X71.f (l0 l1 : List S73) : Option Bool := if l0.length ≤ 4611686018427387904 then some (pipesEq l0 l1) else none
theorem eqP_loop (l m : List S73) (he : l.length = m.length) (hl : l.length ≤ 4611686018427387904) : ∀ (d k : Nat) (i : Nat), i ≤ l.length → l.length - i = d → d < k → X24.l0 k l m (i : Int) = some (pipesEq (l.drop i) (m.drop i)) := by
  intro d
  induction d with
  | zero =>
    intro k i h1 hd hk
    obtain ⟨k, rfl⟩ : ∃ m, k = m + 1 := ⟨k - 1, by omega⟩
    simp only [X24.l0]; rw [if_neg (by omega), List.drop_of_length_le (by omega), List.drop_of_length_le (by omega)]; rfl
  | succ d ih =>
    intro k i h1 hd hk
    obtain ⟨k, rfl⟩ : ∃ m, k = m + 1 := ⟨k - 1, by omega⟩
    simp only [X24.l0]
    rw [if_pos (by omega), if_pos (by omega), if_pos (by omega), rdP_impl, rdP_impl, eqPipe_f, w64 (x := (i : Int) + 1) (by omega) (by omega), show (i : Int) + 1 = ((i + 1 : Nat) : Int) by omega, ih k (i + 1) (by omega) (by omega) (by omega), dropP l i (by omega), dropP m i (by omega)]
    simp only [Option.bind_some, pipesEq]
    cases pipeEq (l.getD i z73) (m.getD i z73) <;> simp
theorem X71.same (l m : List S73) (h : l.length ≤ 4611686018427387904) : X24.f (l.length + 1) l m = some (pipesEq l m) := by
  unfold X24.f
  by_cases he : l.length = m.length
  · rw [if_pos (by omega)]
    exact eqP_loop l m he h l.length (l.length + 1) 0 (by omega) (by omega) (by omega)
  · rw [if_neg (by omega), pipesEq_len l m he]
theorem X71.calls (A0 : Option Addr) (c0 : Nat) (l0 : List (S73)) (A1 : Option Addr) (c1 : Nat) (l1 : List (S73)) (r : Bool) (w : World) (hr0 : Kd.C k73 w A0 l0.length l0) (hc0 : l0.length ≤ c0) (hr1 : Kd.C k73 w A1 l1.length l1) (hc1 : l1.length ≤ c1) (h : X71.f l0 l1 = some r) :
    Calls Try.prog 34 #[.slice A0 l0.length c0, .slice A1 l1.length c1] w fun e w' => e = .returned (.bool r) ∧ Below w.heap.size w w' := by
  unfold X71.f at h
  split at h
  · rename_i hs
    exact X24.calls (l0.length + 1) A0 c0 l0 A1 c1 l1 r w hr0 hc0 hr1 hc1 (by rw [← h]; exact X71.same l0 l1 hs)
  · exact absurd h (by simp)


def X67.f (l0_0 : List Int) (l0_1 : List (S73)) (l1_0 : List Int) (l1_1 : List (S73)) : Option (Bool) := (X41.f l0_0 l1_0).bind fun t142 => (if t142 = true then ((X71.f l0_1 l1_1).bind fun t143 => (if t143 = true then (some true) else (some false))) else (some false))
set_option maxHeartbeats 8000000 in
set_option maxRecDepth 100000 in
theorem X67.calls (A0_0 : Option Addr) (c0_0 : Nat) (l0_0 : List Int) (A0_1 : Option Addr) (c0_1 : Nat) (l0_1 : List (S73)) (A1_0 : Option Addr) (c1_0 : Nat) (l1_0 : List Int) (A1_1 : Option Addr) (c1_1 : Nat) (l1_1 : List (S73)) (r : Bool) (w : World) (hr0_0 : Kd.C (Kd.int .i64) w A0_0 l0_0.length l0_0) (hc0_0 : l0_0.length ≤ c0_0) (hr0_1 : Kd.C k73 w A0_1 l0_1.length l0_1) (hc0_1 : l0_1.length ≤ c0_1) (hr1_0 : Kd.C (Kd.int .i64) w A1_0 l1_0.length l1_0) (hc1_0 : l1_0.length ≤ c1_0) (hr1_1 : Kd.C k73 w A1_1 l1_1.length l1_1) (hc1_1 : l1_1.length ≤ c1_1) (h : X67.f l0_0 l0_1 l1_0 l1_1 = some r) :
  Calls Try.prog 14 #[.agg #[.slice A0_0 l0_0.length c0_0, .slice A0_1 l0_1.length c0_1], .agg #[.slice A1_0 l1_0.length c1_0, .slice A1_1 l1_1.length c1_1]] w fun e w' => e = .returned (.bool r) ∧ Below w.heap.size w w' := by
 have hu31 := Try.underlying31
 have HR0_0 := am_ hr0_0
 have HC0_0 := am_ hc0_0
 clear hr0_0 hc0_0
 have HR0_1 := am_ hr0_1
 have HC0_1 := am_ hc0_1
 clear hr0_1 hc0_1
 have HR1_0 := am_ hr1_0
 have HC1_0 := am_ hc1_0
 clear hr1_0 hc1_0
 have HR1_1 := am_ hr1_1
 have HC1_1 := am_ hc1_1
 clear hr1_1 hc1_1
 have HB := am_ (Below.refl w.heap.size w)
 unfold X67.f at h;have H := h;clear h
 obtain ⟨t142, A30, H⟩ := ob_ H
 have A3 := am_ A30
 clear A30
 by_cases c4 : t142 = true
 ·subst c4;(rw [if_pos rfl] at H);obtain ⟨t143, A50, H⟩ := ob_ H;have A5 := am_ A50;clear A50;by_cases c6 : t143 = true
  ·subst c6;(rw [if_pos rfl] at H);obtain rfl := Option.some.inj H;go_enter Try.func14, Try.ntmps14
   go_wp2_with (first | ((with_reducible refine gate_dst (N := 2) rfl ?_); refine box_event ?hg (N := 2) ?hd (cs := #[.slice A0_0 l0_0.length c0_0, .slice A0_1 l0_1.length c0_1]) (t := 31) ?hr ?_; (case hd => rfl); (case hg => rfl); (case hr => first | (go_simp; done) | (go_simp; rfl)); intro gb140 hg w7 hbox hb; have BK140 := am_ (hbox); have GW140 := am_ ((z4_ : w.heap.size ≤ gb140)); have GE140 := am_ ((z4_ : w.heap.size ≤ gb140)); replace HB := am_ (below_step (z2_) hb); clear hb hbox hg) | ((with_reducible refine gate_dst (N := 3) rfl ?_); refine box_event ?hg (N := 3) ?hd (cs := #[.slice A1_0 l1_0.length c1_0, .slice A1_1 l1_1.length c1_1]) (t := 31) ?hr ?_; (case hd => rfl); (case hg => rfl); (case hr => first | (go_simp; done) | (go_simp; rfl)); intro gb141 hg w8 hbox hb; have BK141 := am_ (hbox); have GW141 := am_ ((z71_ : w.heap.size ≤ gb141)); have GE141 := am_ ((z71_ : w.heap.size ≤ gb141)); replace HB := am_ (below_step (z60_) hb); have NB140_141 := am_ ((z109_ : gb140 ≠ gb141)); have NB141_140 := am_ ((z110_ : gb141 ≠ gb140)); replace BK140 := am_ (blk_below (g := gb140) (o := .cells #[.slice A0_0 l0_0.length c0_0, .slice A0_1 l0_1.length c0_1] 31 (0, 0)) (z63_) hb); clear hb hbox hg; have hnb9 := NB140_141.out; have hnc9 := NB141_140.out; obtain ⟨hcz10_0,hcz10_1,hfz10_0,hfz10_1⟩ := bz2_ w8 BK140.out; obtain ⟨hcz11_0,hcz11_1,hfz11_0,hfz11_1⟩ := bz2_ w8 BK141.out) | ((with_reducible refine gate_callee (f := 13) rfl ?_); refine goesL_ (some 9) rfl rfl Try.func13 (z13_) rfl #[.slice A0_0 l0_0.length c0_0, .slice A1_0 l1_0.length c1_0] rfl (z1_) ?_; (with_reducible refine (X41.calls _ _ l0_0 _ _ l1_0 true _ ?side1 ?side2 ?side3 ?side4 A3.out).mono ?_); (case side1 => exact z217_); (case side2 => exact HC0_0.out); (case side3 => exact z229_); (case side4 => exact HC1_0.out); rintro e w' ⟨rfl, ⟨nd, rfl⟩⟩; refine ⟨_, rfl, ?_⟩) | ((with_reducible refine gate_callee (f := 34) rfl ?_); refine goesL_ (some 15) rfl rfl Try.func34 (z13_) rfl #[.slice A0_1 l0_1.length c0_1, .slice A1_1 l1_1.length c1_1] rfl (z1_) ?_; (with_reducible refine (X71.calls _ _ l0_1 _ _ l1_1 true _ ?side1 ?side2 ?side3 ?side4 A5.out).mono ?_); (case side1 => exact z237_); (case side2 => exact HC0_1.out); (case side3 => exact z238_); (case side4 => exact HC1_1.out); rintro e w12 ⟨rfl, hb⟩; refine ⟨_, rfl, ?_⟩; replace BK140 := am_ (blk_below (g := gb140) (o := .cells #[.slice A0_0 l0_0.length c0_0, .slice A0_1 l0_1.length c0_1] 31 (0, 0)) (z63_) hb); replace BK141 := am_ (blk_below (g := gb141) (o := .cells #[.slice A1_0 l1_0.length c1_0, .slice A1_1 l1_1.length c1_1] 31 (0, 0)) (by (with_reducible repeat (first | refine bN ?_ _|refine bW ?_|refine bA ?_ _)); exact BK141.out) hb); replace HB := am_ (below_step (z47_) hb); (try clear hb); (try clear hi)))
   go_ret;exact ⟨z6_, z47_⟩
  ·replace c6 := Bool.eq_false_iff.mpr c6;subst c6;(rw [if_neg (show ¬ (false = true) by decide)] at H);obtain rfl := Option.some.inj H;go_enter Try.func14, Try.ntmps14
   go_wp2_with (first | ((with_reducible refine gate_dst (N := 2) rfl ?_); refine box_event ?hg (N := 2) ?hd (cs := #[.slice A0_0 l0_0.length c0_0, .slice A0_1 l0_1.length c0_1]) (t := 31) ?hr ?_; (case hd => rfl); (case hg => rfl); (case hr => first | (go_simp; done) | (go_simp; rfl)); intro gb140 hg w13 hbox hb; have BK140 := am_ (hbox); have GW140 := am_ ((z4_ : w.heap.size ≤ gb140)); have GE140 := am_ ((z4_ : w.heap.size ≤ gb140)); replace HB := am_ (below_step (z2_) hb); clear hb hbox hg) | ((with_reducible refine gate_dst (N := 3) rfl ?_); refine box_event ?hg (N := 3) ?hd (cs := #[.slice A1_0 l1_0.length c1_0, .slice A1_1 l1_1.length c1_1]) (t := 31) ?hr ?_; (case hd => rfl); (case hg => rfl); (case hr => first | (go_simp; done) | (go_simp; rfl)); intro gb141 hg w14 hbox hb; have BK141 := am_ (hbox); have GW141 := am_ ((z71_ : w.heap.size ≤ gb141)); have GE141 := am_ ((z71_ : w.heap.size ≤ gb141)); replace HB := am_ (below_step (z60_) hb); have NB140_141 := am_ ((z109_ : gb140 ≠ gb141)); have NB141_140 := am_ ((z110_ : gb141 ≠ gb140)); replace BK140 := am_ (blk_below (g := gb140) (o := .cells #[.slice A0_0 l0_0.length c0_0, .slice A0_1 l0_1.length c0_1] 31 (0, 0)) (z63_) hb); clear hb hbox hg; have hnb15 := NB140_141.out; have hnc15 := NB141_140.out; obtain ⟨hcz16_0,hcz16_1,hfz16_0,hfz16_1⟩ := bz2_ w14 BK140.out; obtain ⟨hcz17_0,hcz17_1,hfz17_0,hfz17_1⟩ := bz2_ w14 BK141.out) | ((with_reducible refine gate_callee (f := 13) rfl ?_); refine goesL_ (some 9) rfl rfl Try.func13 (z13_) rfl #[.slice A0_0 l0_0.length c0_0, .slice A1_0 l1_0.length c1_0] rfl (z1_) ?_; (with_reducible refine (X41.calls _ _ l0_0 _ _ l1_0 true _ ?side1 ?side2 ?side3 ?side4 A3.out).mono ?_); (case side1 => exact z217_); (case side2 => exact HC0_0.out); (case side3 => exact z229_); (case side4 => exact HC1_0.out); rintro e w' ⟨rfl, ⟨nd, rfl⟩⟩; refine ⟨_, rfl, ?_⟩) | ((with_reducible refine gate_callee (f := 34) rfl ?_); refine goesL_ (some 15) rfl rfl Try.func34 (z13_) rfl #[.slice A0_1 l0_1.length c0_1, .slice A1_1 l1_1.length c1_1] rfl (z1_) ?_; (with_reducible refine (X71.calls _ _ l0_1 _ _ l1_1 false _ ?side1 ?side2 ?side3 ?side4 A5.out).mono ?_); (case side1 => exact z237_); (case side2 => exact HC0_1.out); (case side3 => exact z238_); (case side4 => exact HC1_1.out); rintro e w18 ⟨rfl, hb⟩; refine ⟨_, rfl, ?_⟩; replace BK140 := am_ (blk_below (g := gb140) (o := .cells #[.slice A0_0 l0_0.length c0_0, .slice A0_1 l0_1.length c0_1] 31 (0, 0)) (z63_) hb); replace BK141 := am_ (blk_below (g := gb141) (o := .cells #[.slice A1_0 l1_0.length c1_0, .slice A1_1 l1_1.length c1_1] 31 (0, 0)) (by (with_reducible repeat (first | refine bN ?_ _|refine bW ?_|refine bA ?_ _)); exact BK141.out) hb); replace HB := am_ (below_step (z47_) hb); (try clear hb); (try clear hi)))
   go_ret;exact ⟨z6_, z47_⟩
 ·replace c4 := Bool.eq_false_iff.mpr c4;subst c4;(rw [if_neg (show ¬ (false = true) by decide)] at H);obtain rfl := Option.some.inj H;go_enter Try.func14, Try.ntmps14
  go_wp2_with (first | ((with_reducible refine gate_dst (N := 2) rfl ?_); refine box_event ?hg (N := 2) ?hd (cs := #[.slice A0_0 l0_0.length c0_0, .slice A0_1 l0_1.length c0_1]) (t := 31) ?hr ?_; (case hd => rfl); (case hg => rfl); (case hr => first | (go_simp; done) | (go_simp; rfl)); intro gb140 hg w19 hbox hb; have BK140 := am_ (hbox); have GW140 := am_ ((z4_ : w.heap.size ≤ gb140)); have GE140 := am_ ((z4_ : w.heap.size ≤ gb140)); replace HB := am_ (below_step (z2_) hb); clear hb hbox hg) | ((with_reducible refine gate_dst (N := 3) rfl ?_); refine box_event ?hg (N := 3) ?hd (cs := #[.slice A1_0 l1_0.length c1_0, .slice A1_1 l1_1.length c1_1]) (t := 31) ?hr ?_; (case hd => rfl); (case hg => rfl); (case hr => first | (go_simp; done) | (go_simp; rfl)); intro gb141 hg w20 hbox hb; have BK141 := am_ (hbox); have GW141 := am_ ((z71_ : w.heap.size ≤ gb141)); have GE141 := am_ ((z71_ : w.heap.size ≤ gb141)); replace HB := am_ (below_step (z60_) hb); have NB140_141 := am_ ((z109_ : gb140 ≠ gb141)); have NB141_140 := am_ ((z110_ : gb141 ≠ gb140)); replace BK140 := am_ (blk_below (g := gb140) (o := .cells #[.slice A0_0 l0_0.length c0_0, .slice A0_1 l0_1.length c0_1] 31 (0, 0)) (z63_) hb); clear hb hbox hg; have hnb21 := NB140_141.out; have hnc21 := NB141_140.out; obtain ⟨hcz22_0,hcz22_1,hfz22_0,hfz22_1⟩ := bz2_ w20 BK140.out; obtain ⟨hcz23_0,hcz23_1,hfz23_0,hfz23_1⟩ := bz2_ w20 BK141.out) | ((with_reducible refine gate_callee (f := 13) rfl ?_); refine goesL_ (some 9) rfl rfl Try.func13 (z13_) rfl #[.slice A0_0 l0_0.length c0_0, .slice A1_0 l1_0.length c1_0] rfl (z1_) ?_; (with_reducible refine (X41.calls _ _ l0_0 _ _ l1_0 false _ ?side1 ?side2 ?side3 ?side4 A3.out).mono ?_); (case side1 => exact z217_); (case side2 => exact HC0_0.out); (case side3 => exact z229_); (case side4 => exact HC1_0.out); rintro e w' ⟨rfl, ⟨nd, rfl⟩⟩; refine ⟨_, rfl, ?_⟩))
  go_ret;exact ⟨z6_, z47_⟩

def X90.f (a0 : Int) (a1 : Int) (a2 : Int) : Option (Bool) := if a0 ≥ a1 then (some (decide (a0 ≤ a2))) else (some false)
set_option maxHeartbeats 8000000 in
set_option maxRecDepth 100000 in
theorem X90.calls (a0 : Int) (a1 : Int) (a2 : Int) (r : Bool) (w : World) (h : X90.f a0 a1 a2 = some r) :
  Calls Try.prog 79 #[.int .i64 a0, .int .i64 a1, .int .i64 a2] w fun e w' => e = .returned (.bool r) ∧ Drawn0 w w' := by
 unfold X90.f at h;have H := h;clear h
 by_cases c4 : a0 ≥ a1
 ·(rw [if_pos c4] at H);have c4b0 : decide (a1 ≤ a0) = true := decide_eq_true c4;clear c4;obtain rfl := Option.some.inj H;go_enter Try.func79, Try.ntmps79;go_wp2;go_ret;exact ⟨z8_, z10_⟩
 ·(rw [if_neg c4] at H);have c4b0 : decide (a1 ≤ a0) = false := decide_eq_false c4;clear c4;obtain rfl := Option.some.inj H;go_enter Try.func79, Try.ntmps79;go_wp2;go_ret;exact ⟨z8_, z10_⟩

open Go.Proofs.YtnmdcmfhjhgheaaM
def X46.f (a0 a1 a2 : Int) : Option Bool := some (decide (a1 ≤ a0 ∧ a0 ≤ a2))
theorem X46.calls (a0 a1 a2 : Int) (r : Bool) (w : World) (h : X46.f a0 a1 a2 = some r) :
    Calls Try.prog 79 #[.int .i64 a0, .int .i64 a1, .int .i64 a2] w fun e w' => e = .returned (.bool r) ∧ Drawn0 w w' :=
  X90.calls a0 a1 a2 r w ((in_both a0 a1 a2).trans h)

def X62.f (a0 : Int) : Option (Bool) := if a0 ≥ 97 then (some (decide (a0 ≤ 122))) else (some false)
set_option maxHeartbeats 8000000 in
set_option maxRecDepth 100000 in
theorem X62.calls (a0 : Int) (r : Bool) (w : World) (h : X62.f a0 = some r) :
  Calls Try.prog 113 #[.int .u8 a0] w fun e w' => e = .returned (.bool r) ∧ Drawn0 w w' := by
 unfold X62.f at h;have H := h;clear h
 by_cases c2 : a0 ≥ 97
 ·(rw [if_pos c2] at H);have c2b0 : decide (97 ≤ a0) = true := decide_eq_true c2;clear c2;obtain rfl := Option.some.inj H;go_enter Try.func113, Try.ntmps113;go_wp2;go_ret;exact ⟨z8_, z10_⟩
 ·(rw [if_neg c2] at H);have c2b0 : decide (97 ≤ a0) = false := decide_eq_false c2;clear c2;obtain rfl := Option.some.inj H;go_enter Try.func113, Try.ntmps113;go_wp2;go_ret;exact ⟨z8_, z10_⟩

def X76.f (a0 : Int) : Option (Bool) := if a0 ≥ 48 then (some (decide (a0 ≤ 57))) else (some false)
set_option maxHeartbeats 8000000 in
set_option maxRecDepth 100000 in
theorem X76.calls (a0 : Int) (r : Bool) (w : World) (h : X76.f a0 = some r) :
  Calls Try.prog 114 #[.int .u8 a0] w fun e w' => e = .returned (.bool r) ∧ Drawn0 w w' := by
 unfold X76.f at h;have H := h;clear h
 by_cases c2 : a0 ≥ 48
 ·(rw [if_pos c2] at H);have c2b0 : decide (48 ≤ a0) = true := decide_eq_true c2;clear c2;obtain rfl := Option.some.inj H;go_enter Try.func114, Try.ntmps114;go_wp2;go_ret;exact ⟨z8_, z10_⟩
 ·(rw [if_neg c2] at H);have c2b0 : decide (48 ≤ a0) = false := decide_eq_false c2;clear c2;obtain rfl := Option.some.inj H;go_enter Try.func114, Try.ntmps114;go_wp2;go_ret;exact ⟨z8_, z10_⟩

end Go.Proofs.Ytnmdcmfhjhgheaa.PFnExactWorstNode
