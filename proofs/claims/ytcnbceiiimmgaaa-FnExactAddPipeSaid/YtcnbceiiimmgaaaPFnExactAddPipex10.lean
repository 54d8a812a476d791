-- Printed by a program of this session (wip/hprint.sh: the kit's print with hand-proved contracts put in); not by print.sh itself.
import Derived.Test.YtcnbceiiimmgaaaPFnExactAddPipex0
namespace Go.Proofs.Ytcnbceiiimmgaaa.PFnExactAddPipe
open Go.RowKit Go.Proofs.YtcnbceiiimmgaaaW.PrintWords Go.Proofs.YtcnbceiiimmgaaaW.PrintLast Go.Proofs.YtcnbceiiimmgaaaW.PrintMore Go.Proofs.YtcnbceiiimmgaaaM
attribute [local go_sem] max2_int min2_int max_two min_two max_three min_three max_four min_four   -- for this text's walks alone
set_option linter.unusedVariables false
set_option linter.unusedSimpArgs false

/-! ### laws_eqInt64S: function 29 -/
def laws_eqInt64S.l0 : Nat → List Int → List Int → Int → Option (Bool)
 | 0, _, _, _ => none
 | k + 1, x0, x1, x5 => if x5 < (x0.length : Int) then (if 0 ≤ x5 then (if x5 < (x1.length : Int) then (if (rd x0 x5) = (rd x1 x5) then (laws_eqInt64S.l0 k x0 x1 (wrap64 (x5 + 1))) else (some false)) else (none)) else (none)) else (some true)
def laws_eqInt64S.f (k : Nat) (l0 : List Int) (l1 : List Int) : Option (Bool) := if (l0.length : Int) = (l1.length : Int) then (laws_eqInt64S.l0 k l0 l1 0) else (some false)
theorem laws_eqInt64S.mono_l : ∀ k, (∀ y0 y1 y2, LeO (laws_eqInt64S.l0 k y0 y1 y2) (laws_eqInt64S.l0 (k + 1) y0 y1 y2))
 | 0 => fun _ _ _ r h => by simp [laws_eqInt64S.l0] at h
 | k + 1 => by
  have ih0 := laws_eqInt64S.mono_l k
  ·intro y0 y1 y2
   unfold laws_eqInt64S.l0
   repeat' first|(with_reducible first|exact ih0 _ _ _|exact LeO.refl _|exact LeO.none _|refine LeO.ite ?_ ?_|refine LeO.bind ?_ (fun _ => ?_))|exact ih0 _ _ _|exact LeO.none _|refine LeO.ite ?_ ?_|refine LeO.bind ?_ (fun _ => ?_)
theorem laws_eqInt64S.mono : ∀ a0 a1 k, LeO (laws_eqInt64S.f k a0 a1) (laws_eqInt64S.f (k + 1) a0 a1) := by
 intro a0 a1 k
 have ih0 := laws_eqInt64S.mono_l k
 unfold laws_eqInt64S.f
 repeat' first|(with_reducible first|exact ih0 _ _ _|exact LeO.refl _|exact LeO.none _|refine LeO.ite ?_ ?_|refine LeO.bind ?_ (fun _ => ?_))|exact ih0 _ _ _|exact LeO.none _|refine LeO.ite ?_ ?_|refine LeO.bind ?_ (fun _ => ?_)
set_option maxHeartbeats 8000000 in
set_option maxRecDepth 100000 in
theorem laws_eqInt64S.calls (k : Nat) (A0 : Option Addr) (c0 : Nat) (l0 : List Int) (A1 : Option Addr) (c1 : Nat) (l1 : List Int) (r : Bool) (w : World) (hr0 : Kd.C (Kd.int .i64) w A0 l0.length l0) (hc0 : l0.length ≤ c0) (hr1 : Kd.C (Kd.int .i64) w A1 l1.length l1) (hc1 : l1.length ≤ c1) (h : laws_eqInt64S.f k l0 l1 = some r) :
  Calls Try.prog 29 #[.slice A0 l0.length c0, .slice A1 l1.length c1] w fun e w' => e = .returned (.bool r) ∧ Drawn0 w w' := by
 have HR0 := Aside0.mk hr0
 have HC0 := Aside0.mk hc0
 clear hr0 hc0
 have HR1 := Aside0.mk hr1
 have HC1 := Aside0.mk hc1
 clear hr1 hc1
 have H : (if (l0.length : Int) = (l1.length : Int) then (laws_eqInt64S.l0 k l0 l1 0) else (some false)) = some r := h
 clear h
 by_cases c3 : (l0.length : Int) = (l1.length : Int)
 ·(rw [if_pos c3] at H);have c3b0 : ((l0.length : Int) == (l1.length : Int)) = true := beq_iff_eq.mpr c3;have c3b1 : ((l0.length : Int) != (l1.length : Int)) = false := bne_eq_false_iff_eq.mpr c3;(have c3b2 : (l0.length == l1.length) = true := by first | simpa using c3 | (simp at c3 ⊢; omega));clear c3;have H' := Aside0.mk H;clear H;go_enter Try.func29, Try.ntmps29;go_wp2
  repeat (go_quiet (fail); try go_wp2)
  go_loopg [5] k (fun kq v5 w' => ∃ (x5_1 : Int), v5 = .int .i64 x5_1 ∧ Aside0 (laws_eqInt64S.l0 kq l0 l1 x5_1 = some r) ∧ Aside0 (kq ≤ k) ∧ Drawn0 w w')
  case atStart => exact ⟨(0), (z16_), H', ⟨Nat.le_refl _⟩, z21_⟩
  case round =>
   clear H';(try clear c1);(try clear c2);(try clear p2);(try clear c3);(try clear c3b0);(try clear c3b1);(try clear c3b2);obtain ⟨x5_1, rfl, HA, HK1, ⟨m1, rfl⟩⟩ := hrel
   cases gk with
   | zero => exact absurd HA.out (by simp [laws_eqInt64S.l0])
   | succ k1 =>
    have H := HA.out;clear HA;(simp only [laws_eqInt64S.l0] at H);by_cases c4 : x5_1 < (l0.length : Int)
    ·(rw [if_pos c4] at H);have c4b0 := decide_eq_true c4;clear c4;by_cases c5 : 0 ≤ x5_1
     ·(rw [if_pos c5] at H);have c5b0 := decide_eq_true c5;clear c5;by_cases c6 : x5_1 < (l1.length : Int)
      ·(rw [if_pos c6] at H);have c6b0 := decide_eq_true c6;clear c6;by_cases c7 : (rd l0 x5_1) = (rd l1 x5_1)
       ·(rw [if_pos c7] at H);have c7b0 : ((rd l0 x5_1) == (rd l1 x5_1)) = true := beq_iff_eq.mpr c7;have c7b1 : ((rd l0 x5_1) != (rd l1 x5_1)) = false := bne_eq_false_iff_eq.mpr c7;clear c7;have H' := Aside0.mk H;clear H;have p234 : 0 ≤ (x5_1 : Int) := of_decide_eq_true (z2_);have q234 : x5_1 < (l0.length : Int) := of_decide_eq_true (z2_);obtain ⟨ad234, e234, hx234_0⟩ := Kd.at_int HR0.out x5_1 p234 q234;cases e234;replace p234 := eq_true p234;replace q234 := eq_true q234;have p235 : 0 ≤ (x5_1 : Int) := of_decide_eq_true (z2_);have q235 : x5_1 < (l1.length : Int) := of_decide_eq_true (z2_);obtain ⟨ad235, e235, hx235_0⟩ := Kd.at_int HR1.out x5_1 p235 q235;cases e235;replace p235 := eq_true p235;replace q235 := eq_true q235;go_wp2
        repeat (go_quiet (fail); try go_wp2)
        go_roundg k1
        case measure => have := HK1.out; omega
        case rel => exact ⟨(wrap64 (x5_1 + 1)), (z16_), H', ⟨z197_⟩, z21_⟩
       ·(rw [if_neg c7] at H);have c7b0 : ((rd l0 x5_1) == (rd l1 x5_1)) = false := beq_eq_false_iff_ne.mpr c7;have c7b1 : ((rd l0 x5_1) != (rd l1 x5_1)) = true := bne_iff_ne.mpr c7;obtain rfl := Option.some.inj H;have p234 : 0 ≤ (x5_1 : Int) := of_decide_eq_true (z2_);have q234 : x5_1 < (l0.length : Int) := of_decide_eq_true (z2_);obtain ⟨ad234, e234, hx234_0⟩ := Kd.at_int HR0.out x5_1 p234 q234;cases e234;replace p234 := eq_true p234;replace q234 := eq_true q234;have p235 : 0 ≤ (x5_1 : Int) := of_decide_eq_true (z2_);have q235 : x5_1 < (l1.length : Int) := of_decide_eq_true (z2_);obtain ⟨ad235, e235, hx235_0⟩ := Kd.at_int HR1.out x5_1 p235 q235;cases e235;replace p235 := eq_true p235;replace q235 := eq_true q235;go_wp2
        repeat (go_quiet (fail); try go_wp2)
        go_ret;exact ⟨z16_, z21_⟩
      ·(rw [if_neg c6] at H);exact absurd H (by simp)
     ·(rw [if_neg c5] at H);exact absurd H (by simp)
    ·(rw [if_neg c4] at H);have c4b0 := decide_eq_false c4;clear c4;obtain rfl := Option.some.inj H;go_wp2
     repeat (go_quiet (fail); try go_wp2)
     go_ret;exact ⟨z16_, z21_⟩
 ·(rw [if_neg c3] at H);have c3b0 : ((l0.length : Int) == (l1.length : Int)) = false := beq_eq_false_iff_ne.mpr c3;have c3b1 : ((l0.length : Int) != (l1.length : Int)) = true := bne_iff_ne.mpr c3;(have c3b2 : (l0.length == l1.length) = false := by first | simpa using c3 | (simp at c3 ⊢; omega));obtain rfl := Option.some.inj H;go_enter Try.func29, Try.ntmps29;go_wp2
  repeat (go_quiet (fail); try go_wp2)
  go_ret;exact ⟨z16_, z21_⟩

open Go.Proofs.YtcnbceiiimmgaaaM
def laws_eqInt64S_.f (l0 l1 : List Int) : Option Bool := if l0.length ≤ 4611686018427387904 then some (decide (l0 = l1)) else none
theorem eq_loop (l m : List Int) (he : l.length = m.length) (hl : l.length ≤ 4611686018427387904) : ∀ (d k : Nat) (i : Nat), i ≤ l.length → l.length - i = d → d < k → laws_eqInt64S.l0 k l m (i : Int) = some (decide (l.drop i = m.drop i)) := by
  intro d
  induction d with
  | zero =>
    intro k i h1 hd hk
    obtain ⟨k, rfl⟩ : ∃ m, k = m + 1 := ⟨k - 1, by omega⟩
    simp only [laws_eqInt64S.l0]; rw [if_neg (by omega), List.drop_of_length_le (by omega), List.drop_of_length_le (by omega)]; simp
  | succ d ih =>
    intro k i h1 hd hk
    obtain ⟨k, rfl⟩ : ∃ m, k = m + 1 := ⟨k - 1, by omega⟩
    simp only [laws_eqInt64S.l0]
    rw [if_pos (by omega), if_pos (by omega), if_pos (by omega), w64 (x := (i : Int) + 1) (by omega) (by omega)]
    have e1 : rd l (i : Int) = l[i]'(by omega) := by unfold rd; rw [Int.toNat_natCast, List.getD_eq_getElem?_getD, List.getElem?_eq_getElem (by omega)]; rfl
    have e2 : rd m (i : Int) = m[i]'(by omega) := by unfold rd; rw [Int.toNat_natCast, List.getD_eq_getElem?_getD, List.getElem?_eq_getElem (by omega)]; rfl
    have d1 : l.drop i = l[i]'(by omega) :: l.drop (i + 1) := List.drop_eq_getElem_cons (by omega)
    have d2 : m.drop i = m[i]'(by omega) :: m.drop (i + 1) := List.drop_eq_getElem_cons (by omega)
    rw [e1, e2, d1, d2, show (i : Int) + 1 = ((i + 1 : Nat) : Int) by omega, ih k (i + 1) (by omega) (by omega) (by omega)]
    by_cases c : l[i]'(by omega) = m[i]'(by omega)
    · rw [if_pos c, c]; congr 1; exact decide_eq_decide.2 ⟨fun h => by rw [h], fun h => (List.cons.inj h).2⟩
    · rw [if_neg c, decide_eq_false (fun h => c (List.cons.inj h).1)]
theorem laws_eqInt64S_.same (l m : List Int) (hl : l.length ≤ 4611686018427387904) : laws_eqInt64S.f (l.length + 1) l m = some (decide (l = m)) := by
  unfold laws_eqInt64S.f
  by_cases he : l.length = m.length
  · rw [if_pos (by omega)]
    exact eq_loop l m he hl l.length (l.length + 1) 0 (by omega) (by omega) (by omega)
  · rw [if_neg (by omega), decide_eq_false (fun h => he (by rw [h]))]
theorem laws_eqInt64S_.calls (A0 : Option Addr) (c0 : Nat) (l0 : List Int) (A1 : Option Addr) (c1 : Nat) (l1 : List Int) (r : Bool) (w : World) (hr0 : Kd.C (Kd.int .i64) w A0 l0.length l0) (hc0 : l0.length ≤ c0) (hr1 : Kd.C (Kd.int .i64) w A1 l1.length l1) (hc1 : l1.length ≤ c1) (h : laws_eqInt64S_.f l0 l1 = some r) :
    Calls Try.prog 29 #[.slice A0 l0.length c0, .slice A1 l1.length c1] w fun e w' => e = .returned (.bool r) ∧ Drawn0 w w' := by
  unfold laws_eqInt64S_.f at h
  split at h
  · rename_i hl
    exact laws_eqInt64S.calls (l0.length + 1) A0 c0 l0 A1 c1 l1 r w hr0 hc0 hr1 hc1 (by rw [← h]; exact laws_eqInt64S_.same l0 l1 hl)
  · exact absurd h (by simp)


/-! ### laws_eqPipe: function 45 -/
open Go.Proofs.YtcnbceiiimmgaaaM
def laws_eqPipe.f (a0_0 : ByteArray) (a0_1 a0_2 a0_3 a0_4 a0_5 : Int) (a1_0 : ByteArray) (a1_1 a1_2 a1_3 a1_4 a1_5 : Int) : Option Bool := if a0_0.toList = a1_0.toList then (if a0_1 = a1_1 then (if a0_2 = a1_2 then (if a0_3 = a1_3 then (if a0_4 = a1_4 then (if a0_5 = a1_5 then (some true) else (some false)) else (some false)) else (some false)) else (some false)) else (some false)) else (some false)
theorem if2 {p : Prop} [Decidable p] {r : Bool} {x : Option Bool} (h : (if p then x else some false) = some r) : (p ∧ x = some r) ∨ (¬ p ∧ false = r) := by
  by_cases c : p
  · rw [if_pos c] at h; exact .inl ⟨c, h⟩
  · rw [if_neg c] at h; exact .inr ⟨c, Option.some.inj h⟩
set_option maxHeartbeats 4000000 in
set_option maxRecDepth 100000 in
theorem laws_eqPipe.calls (a0_0 : ByteArray) (a0_1 : Int) (a0_2 : Int) (a0_3 : Int) (a0_4 : Int) (a0_5 : Int) (a1_0 : ByteArray) (a1_1 : Int) (a1_2 : Int) (a1_3 : Int) (a1_4 : Int) (a1_5 : Int) (r : Bool) (w : World) (h : laws_eqPipe.f a0_0 a0_1 a0_2 a0_3 a0_4 a0_5 a1_0 a1_1 a1_2 a1_3 a1_4 a1_5 = some r) :
    Calls Try.prog 45 #[.agg #[.string a0_0, .int .i64 a0_1, .int .i64 a0_2, .int .i64 a0_3, .int .i64 a0_4, .int .i64 a0_5], .agg #[.string a1_0, .int .i64 a1_1, .int .i64 a1_2, .int .i64 a1_3, .int .i64 a1_4, .int .i64 a1_5]] w fun e w' => e = .returned (.bool r) ∧ Below w.heap.size w w' := by
  have hu := Try.underlying36;(unfold laws_eqPipe.f at h)
  rcases if2 h with ⟨c0, h⟩ | ⟨c0, rfl⟩
  case inr =>
    (have b0 : (a0_0.toList == a1_0.toList) = false := by simpa using c0);(have n0 : (a0_0.toList != a1_0.toList) = true := by simpa using c0);clear c0 h;go_enter Try.func45, Try.ntmps45;go_wp2;go_ret;exact ⟨rfl, z112_⟩
  (have b0 : (a0_0.toList == a1_0.toList) = true := by simpa using c0);(have n0 : (a0_0.toList != a1_0.toList) = false := by simpa using c0);clear c0
  rcases if2 h with ⟨c1, h⟩ | ⟨c1, rfl⟩
  case inr =>
    (have b1 : (a0_1 == a1_1) = false := by simpa using c1);(have n1 : (a0_1 != a1_1) = true := by simpa using c1);clear c1 h;go_enter Try.func45, Try.ntmps45;go_wp2;go_ret;exact ⟨rfl, z112_⟩
  (have b1 : (a0_1 == a1_1) = true := by simpa using c1);(have n1 : (a0_1 != a1_1) = false := by simpa using c1);clear c1
  rcases if2 h with ⟨c2, h⟩ | ⟨c2, rfl⟩
  case inr =>
    (have b2 : (a0_2 == a1_2) = false := by simpa using c2);(have n2 : (a0_2 != a1_2) = true := by simpa using c2);clear c2 h;go_enter Try.func45, Try.ntmps45;go_wp2;go_ret;exact ⟨rfl, z112_⟩
  (have b2 : (a0_2 == a1_2) = true := by simpa using c2);(have n2 : (a0_2 != a1_2) = false := by simpa using c2);clear c2
  rcases if2 h with ⟨c3, h⟩ | ⟨c3, rfl⟩
  case inr =>
    (have b3 : (a0_3 == a1_3) = false := by simpa using c3);(have n3 : (a0_3 != a1_3) = true := by simpa using c3);clear c3 h;go_enter Try.func45, Try.ntmps45;go_wp2;go_ret;exact ⟨rfl, z112_⟩
  (have b3 : (a0_3 == a1_3) = true := by simpa using c3);(have n3 : (a0_3 != a1_3) = false := by simpa using c3);clear c3
  rcases if2 h with ⟨c4, h⟩ | ⟨c4, rfl⟩
  case inr =>
    (have b4 : (a0_4 == a1_4) = false := by simpa using c4);(have n4 : (a0_4 != a1_4) = true := by simpa using c4);clear c4 h;go_enter Try.func45, Try.ntmps45;go_wp2;go_ret;exact ⟨rfl, z112_⟩
  (have b4 : (a0_4 == a1_4) = true := by simpa using c4);(have n4 : (a0_4 != a1_4) = false := by simpa using c4);clear c4
  rcases if2 h with ⟨c5, h⟩ | ⟨c5, rfl⟩
  case inr =>
    (have b5 : (a0_5 == a1_5) = false := by simpa using c5);(have n5 : (a0_5 != a1_5) = true := by simpa using c5);clear c5 h;go_enter Try.func45, Try.ntmps45;go_wp2;go_ret;exact ⟨rfl, z112_⟩
  (have b5 : (a0_5 == a1_5) = true := by simpa using c5);(have n5 : (a0_5 != a1_5) = false := by simpa using c5);clear c5;obtain rfl := Option.some.inj h;clear h;go_enter Try.func45, Try.ntmps45;go_wp2;go_ret;exact ⟨rfl, z112_⟩

/-! ### laws_eqPipeS: function 30 -/
def laws_eqPipeS.l0 : Nat → List (S36) → List (S36) → Int → Option (Bool)
 | 0, _, _, _ => none
 | k + 1, x0, x1, x5 => if x5 < (x0.length : Int) then (if 0 ≤ x5 then (if x5 < (x1.length : Int) then ((laws_eqPipe.f ((rd_T36 x0 x5).f0) ((rd_T36 x0 x5).f1) ((rd_T36 x0 x5).f2) ((rd_T36 x0 x5).f3) ((rd_T36 x0 x5).f4) ((rd_T36 x0 x5).f5) ((rd_T36 x1 x5).f0) ((rd_T36 x1 x5).f1) ((rd_T36 x1 x5).f2) ((rd_T36 x1 x5).f3) ((rd_T36 x1 x5).f4) ((rd_T36 x1 x5).f5)).bind fun t238 => (if t238 = true then (laws_eqPipeS.l0 k x0 x1 (wrap64 (x5 + 1))) else (some false))) else (none)) else (none)) else (some true)
def laws_eqPipeS.f (k : Nat) (l0 : List (S36)) (l1 : List (S36)) : Option (Bool) := if (l0.length : Int) = (l1.length : Int) then (laws_eqPipeS.l0 k l0 l1 0) else (some false)
theorem laws_eqPipeS.mono_l : ∀ k, (∀ y0 y1 y2, LeO (laws_eqPipeS.l0 k y0 y1 y2) (laws_eqPipeS.l0 (k + 1) y0 y1 y2))
 | 0 => fun _ _ _ r h => by simp [laws_eqPipeS.l0] at h
 | k + 1 => by
  have ih0 := laws_eqPipeS.mono_l k
  ·intro y0 y1 y2
   unfold laws_eqPipeS.l0
   repeat' first|(with_reducible first|exact ih0 _ _ _|exact LeO.refl _|exact LeO.none _|refine LeO.ite ?_ ?_|refine LeO.bind ?_ (fun _ => ?_))|exact ih0 _ _ _|exact LeO.none _|refine LeO.ite ?_ ?_|refine LeO.bind ?_ (fun _ => ?_)
theorem laws_eqPipeS.mono : ∀ a0 a1 k, LeO (laws_eqPipeS.f k a0 a1) (laws_eqPipeS.f (k + 1) a0 a1) := by
 intro a0 a1 k
 have ih0 := laws_eqPipeS.mono_l k
 unfold laws_eqPipeS.f
 repeat' first|(with_reducible first|exact ih0 _ _ _|exact LeO.refl _|exact LeO.none _|refine LeO.ite ?_ ?_|refine LeO.bind ?_ (fun _ => ?_))|exact ih0 _ _ _|exact LeO.none _|refine LeO.ite ?_ ?_|refine LeO.bind ?_ (fun _ => ?_)
def laws_eqPipeS.T6 : Bool × List (List Nat × List Nat) := (true, [([], []), ([], []), ([0, 1], [0, 1]), ([2], [2]), ([], []), ([], []), ([4, 5], [4, 5]), ([6], [6]), ([3, 7], [3, 7]), ([8], [8])])
def laws_eqPipeS.B6 : List Nat := [0, 0, 3, 7, 0, 0, 48, 112, 255, 511]
theorem laws_eqPipeS.tab6 : rtab .any (opsOf Try.f30 6) = laws_eqPipeS.T6 := by kernel_rfl
theorem laws_eqPipeS.bits6 : waitsOk laws_eqPipeS.T6.2 laws_eqPipeS.B6 = true := by kernel_rfl
set_option maxHeartbeats 8000000 in
set_option maxRecDepth 100000 in
theorem laws_eqPipeS.calls (k : Nat) (A0 : Option Addr) (c0 : Nat) (l0 : List (S36)) (A1 : Option Addr) (c1 : Nat) (l1 : List (S36)) (r : Bool) (w : World) (hr0 : Kd.C k36 w A0 l0.length l0) (hc0 : l0.length ≤ c0) (hr1 : Kd.C k36 w A1 l1.length l1) (hc1 : l1.length ≤ c1) (h : laws_eqPipeS.f k l0 l1 = some r) :
  Calls Try.prog 30 #[.slice A0 l0.length c0, .slice A1 l1.length c1] w fun e w' => e = .returned (.bool r) ∧ Below w.heap.size w w' := by
 have hu36 := Try.underlying36
 have HR0 := Aside0.mk hr0
 have HC0 := Aside0.mk hc0
 clear hr0 hc0
 have HR1 := Aside0.mk hr1
 have HC1 := Aside0.mk hc1
 clear hr1 hc1
 have HB := Aside0.mk (Below.refl w.heap.size w)
 have H : (if (l0.length : Int) = (l1.length : Int) then (laws_eqPipeS.l0 k l0 l1 0) else (some false)) = some r := h
 clear h
 by_cases c3 : (l0.length : Int) = (l1.length : Int)
 ·(rw [if_pos c3] at H);have c3b0 : ((l0.length : Int) == (l1.length : Int)) = true := beq_iff_eq.mpr c3;have c3b1 : ((l0.length : Int) != (l1.length : Int)) = false := bne_eq_false_iff_eq.mpr c3;(have c3b2 : (l0.length == l1.length) = true := by first | simpa using c3 | (simp at c3 ⊢; omega));clear c3;have H' := Aside0.mk H;clear H;go_enter Try.func30, Try.ntmps30;go_wp2
  go_loopg [5] k (fun kq v5 w' => ∃ (x5_1 : Int), v5 = .int .i64 x5_1 ∧ Aside0 (laws_eqPipeS.l0 kq l0 l1 x5_1 = some r) ∧ Aside0 (kq ≤ k) ∧ Aside0 (Below w.heap.size w w'))
  case atStart => exact ⟨(0), (z16_), H', ⟨Nat.le_refl _⟩, ⟨z1_⟩⟩
  case round =>
   clear H';(try clear c1);(try clear p2);(try clear c3);(try clear c3b0);(try clear c3b1);(try clear c3b2);obtain ⟨x5_1, rfl, HA, HK1, HB⟩ := hrel
   cases gk with
   | zero => exact absurd HA.out (by simp [laws_eqPipeS.l0])
   | succ k1 =>
    have H := HA.out;clear HA;(simp only [laws_eqPipeS.l0] at H);by_cases c4 : x5_1 < (l0.length : Int)
    ·(rw [if_pos c4] at H);have c4b0 := decide_eq_true c4;clear c4;by_cases c5 : 0 ≤ x5_1
     ·(rw [if_pos c5] at H);have c5b0 := decide_eq_true c5;clear c5;by_cases c6 : x5_1 < (l1.length : Int)
      ·(rw [if_pos c6] at H);have c6b0 := decide_eq_true c6;clear c6;replace H := Option.bind_eq_some_iff.mp H;obtain ⟨t238, A70, H⟩ := H;have A7 := Aside0.mk A70;clear A70;by_cases c8 : t238 = true
       ·subst c8;(rw [if_pos rfl] at H);have H' := Aside0.mk H;clear H;(try go_wp2);replace HB := Aside0.mk (below_drew1 HB.out);have p236 : 0 ≤ (x5_1 : Int) := of_decide_eq_true (z2_);have q236 : x5_1 < (l0.length : Int) := of_decide_eq_true (z2_);obtain ⟨ad236, e236, hx236_0, hx236_1, hx236_2, hx236_3, hx236_4, hx236_5⟩ := at_T36 HR0.out x5_1 p236 q236;have hw236_5 := hx236_5;have hw236_4 := hx236_4;have hw236_3 := hx236_3;have hw236_2 := hx236_2;have hw236_1 := hx236_1;have hw236_0 := hx236_0;cases e236;replace hx236_0 := (HB.out.cell (World.block_lt_of_cell? w _ hx236_0)).trans hx236_0;replace hx236_1 := (HB.out.cell (World.block_lt_of_cell? w _ hx236_1)).trans hx236_1;replace hx236_2 := (HB.out.cell (World.block_lt_of_cell? w _ hx236_2)).trans hx236_2;replace hx236_3 := (HB.out.cell (World.block_lt_of_cell? w _ hx236_3)).trans hx236_3;replace hx236_4 := (HB.out.cell (World.block_lt_of_cell? w _ hx236_4)).trans hx236_4;replace hx236_5 := (HB.out.cell (World.block_lt_of_cell? w _ hx236_5)).trans hx236_5;replace p236 := eq_true p236;replace q236 := eq_true q236;have p237 : 0 ≤ (x5_1 : Int) := of_decide_eq_true (z2_);have q237 : x5_1 < (l1.length : Int) := of_decide_eq_true (z2_);obtain ⟨ad237, e237, hx237_0, hx237_1, hx237_2, hx237_3, hx237_4, hx237_5⟩ := at_T36 HR1.out x5_1 p237 q237;have hw237_5 := hx237_5;have hw237_4 := hx237_4;have hw237_3 := hx237_3;have hw237_2 := hx237_2;have hw237_1 := hx237_1;have hw237_0 := hx237_0;cases e237;replace hx237_0 := (HB.out.cell (World.block_lt_of_cell? w _ hx237_0)).trans hx237_0;replace hx237_1 := (HB.out.cell (World.block_lt_of_cell? w _ hx237_1)).trans hx237_1;replace hx237_2 := (HB.out.cell (World.block_lt_of_cell? w _ hx237_2)).trans hx237_2;replace hx237_3 := (HB.out.cell (World.block_lt_of_cell? w _ hx237_3)).trans hx237_3;replace hx237_4 := (HB.out.cell (World.block_lt_of_cell? w _ hx237_4)).trans hx237_4;replace hx237_5 := (HB.out.cell (World.block_lt_of_cell? w _ hx237_5)).trans hx237_5;replace p237 := eq_true p237;replace q237 := eq_true q237;refine start_ (n := 10) (S := fun w' => w'.cell? (ad236.add ((x5_1).toNat * 6)) = some (.string ((rd_T36 l0 x5_1).f0)) ∧ w'.cell? ⟨(ad236.add ((x5_1).toNat * 6)).block, (ad236.add ((x5_1).toNat * 6)).off + 1, none⟩ = some (.int .i64 ((rd_T36 l0 x5_1).f1)) ∧ w'.cell? ⟨(ad236.add ((x5_1).toNat * 6)).block, (ad236.add ((x5_1).toNat * 6)).off + 2, none⟩ = some (.int .i64 ((rd_T36 l0 x5_1).f2)) ∧ w'.cell? ⟨(ad236.add ((x5_1).toNat * 6)).block, (ad236.add ((x5_1).toNat * 6)).off + 3, none⟩ = some (.int .i64 ((rd_T36 l0 x5_1).f3)) ∧ w'.cell? ⟨(ad236.add ((x5_1).toNat * 6)).block, (ad236.add ((x5_1).toNat * 6)).off + 4, none⟩ = some (.int .i64 ((rd_T36 l0 x5_1).f4)) ∧ w'.cell? ⟨(ad236.add ((x5_1).toNat * 6)).block, (ad236.add ((x5_1).toNat * 6)).off + 5, none⟩ = some (.int .i64 ((rd_T36 l0 x5_1).f5)) ∧ w'.cell? (ad237.add ((x5_1).toNat * 6)) = some (.string ((rd_T36 l1 x5_1).f0)) ∧ w'.cell? ⟨(ad237.add ((x5_1).toNat * 6)).block, (ad237.add ((x5_1).toNat * 6)).off + 1, none⟩ = some (.int .i64 ((rd_T36 l1 x5_1).f1)) ∧ w'.cell? ⟨(ad237.add ((x5_1).toNat * 6)).block, (ad237.add ((x5_1).toNat * 6)).off + 2, none⟩ = some (.int .i64 ((rd_T36 l1 x5_1).f2)) ∧ w'.cell? ⟨(ad237.add ((x5_1).toNat * 6)).block, (ad237.add ((x5_1).toNat * 6)).off + 3, none⟩ = some (.int .i64 ((rd_T36 l1 x5_1).f3)) ∧ w'.cell? ⟨(ad237.add ((x5_1).toNat * 6)).block, (ad237.add ((x5_1).toNat * 6)).off + 4, none⟩ = some (.int .i64 ((rd_T36 l1 x5_1).f4)) ∧ w'.cell? ⟨(ad237.add ((x5_1).toNat * 6)).block, (ad237.add ((x5_1).toNat * 6)).off + 5, none⟩ = some (.int .i64 ((rd_T36 l1 x5_1).f5))) (ds := []) #[J,J,J,J,J,J,J,J,J,J] (z22_) rfl rfl ⟨((HB.out.cell (World.block_lt_of_cell? w _ hw236_0)).trans hw236_0), ((HB.out.cell (World.block_lt_of_cell? w _ hw236_1)).trans hw236_1), ((HB.out.cell (World.block_lt_of_cell? w _ hw236_2)).trans hw236_2), ((HB.out.cell (World.block_lt_of_cell? w _ hw236_3)).trans hw236_3), ((HB.out.cell (World.block_lt_of_cell? w _ hw236_4)).trans hw236_4), ((HB.out.cell (World.block_lt_of_cell? w _ hw236_5)).trans hw236_5), ((HB.out.cell (World.block_lt_of_cell? w _ hw237_0)).trans hw237_0), ((HB.out.cell (World.block_lt_of_cell? w _ hw237_1)).trans hw237_1), ((HB.out.cell (World.block_lt_of_cell? w _ hw237_2)).trans hw237_2), ((HB.out.cell (World.block_lt_of_cell? w _ hw237_3)).trans hw237_3), ((HB.out.cell (World.block_lt_of_cell? w _ hw237_4)).trans hw237_4), ((HB.out.cell (World.block_lt_of_cell? w _ hw237_5)).trans hw237_5)⟩ (fun hHeld => ?_); refine with_tabW laws_eqPipeS.tab6 laws_eqPipeS.bits6 (fun HT_ HW_ => ?_);(generalize wr.drew = w9 at HB hx236_0 hx236_1 hx236_2 hx236_3 hx236_4 hx236_5 hx237_0 hx237_1 hx237_2 hx237_3 hx237_4 hx237_5 hHeld ⊢);refine pz_ 0 17 #[Y,J,J,J,J,J,J,J,J,J] HT_ ?_;refine pz_ 1 18 #[Y,Y,J,J,J,J,J,J,J,J] HT_ ?_;refine pz_ 2 19 #[Y,Y,Y,J,J,J,J,J,J,J] HT_ ?_;refine pz_ 4 21 #[Y,Y,Y,J,Y,J,J,J,J,J] HT_ ?_;refine pz_ 5 22 #[Y,Y,Y,J,Y,Y,J,J,J,J] HT_ ?_;refine pz_ 6 23 #[Y,Y,Y,J,Y,Y,Y,J,J,J] HT_ ?_;refine take_ (i := 3) (N := some 20) (v := ?_) (a' := ?_) #[Y,Y,Y,Y,Y,Y,Y,J,J,J] rfl rfl (take_ofW HT_.out HW_.out (z22_)) (fun _ _ _ h => h) (Or.inl ⟨by rfl, ?_⟩) hHeld ?_ ?_; rotate_left
        ·rintro w' ⟨s0, s1, s2, s3, s4, s5, s6, s7, s8, s9, s10, s11⟩; go_simp; with_reducible rfl
        rotate_left
        ·simp only [pU,pN,sB,sZ,sS,i64_w,i32_w]; rfl
        refine take_ (i := 7) (N := some 24) (v := ?_) (a' := ?_) #[Y,Y,Y,Y,Y,Y,Y,Y,J,J] rfl rfl (take_ofW HT_.out HW_.out (z22_)) (fun _ _ _ h => h) (Or.inl ⟨by rfl, ?_⟩) hHeld ?_ ?_; rotate_left
        ·rintro w' ⟨s0, s1, s2, s3, s4, s5, s6, s7, s8, s9, s10, s11⟩; go_simp; with_reducible rfl
        rotate_left
        ·simp only [pU,pN,sB,sZ,sS,i64_w,i32_w]; rfl
        refine one_ (i := 8) (N := some 25) #[Y,Y,Y,Y,Y,Y,Y,Y,Y,J] rfl rfl (one_of HT_.out (z22_)) (by decide) (fun K hK => ?_);refine goes_ Try.func45 (z22_) rfl #[.agg #[.string ((rd_T36 l0 x5_1).f0), .int .i64 ((rd_T36 l0 x5_1).f1), .int .i64 ((rd_T36 l0 x5_1).f2), .int .i64 ((rd_T36 l0 x5_1).f3), .int .i64 ((rd_T36 l0 x5_1).f4), .int .i64 ((rd_T36 l0 x5_1).f5)], .agg #[.string ((rd_T36 l1 x5_1).f0), .int .i64 ((rd_T36 l1 x5_1).f1), .int .i64 ((rd_T36 l1 x5_1).f2), .int .i64 ((rd_T36 l1 x5_1).f3), .int .i64 ((rd_T36 l1 x5_1).f4), .int .i64 ((rd_T36 l1 x5_1).f5)]] (by rfl) rfl rfl (z0_) ?_;(with_reducible refine (laws_eqPipe.calls ((rd_T36 l0 x5_1).f0) ((rd_T36 l0 x5_1).f1) ((rd_T36 l0 x5_1).f2) ((rd_T36 l0 x5_1).f3) ((rd_T36 l0 x5_1).f4) ((rd_T36 l0 x5_1).f5) ((rd_T36 l1 x5_1).f0) ((rd_T36 l1 x5_1).f1) ((rd_T36 l1 x5_1).f2) ((rd_T36 l1 x5_1).f3) ((rd_T36 l1 x5_1).f4) ((rd_T36 l1 x5_1).f5) true _ A7.out).mono ?_);rintro e w10 ⟨rfl, hb⟩;refine ⟨_, rfl, ?_⟩;replace HB := Aside0.mk (below_step (z1_) hb);(try clear hb);(try clear hb2);(try clear hk);(try clear hi);refine hK.out _ _ ⟨((HB.out.cell (World.block_lt_of_cell? w _ hw236_0)).trans hw236_0), ((HB.out.cell (World.block_lt_of_cell? w _ hw236_1)).trans hw236_1), ((HB.out.cell (World.block_lt_of_cell? w _ hw236_2)).trans hw236_2), ((HB.out.cell (World.block_lt_of_cell? w _ hw236_3)).trans hw236_3), ((HB.out.cell (World.block_lt_of_cell? w _ hw236_4)).trans hw236_4), ((HB.out.cell (World.block_lt_of_cell? w _ hw236_5)).trans hw236_5), ((HB.out.cell (World.block_lt_of_cell? w _ hw237_0)).trans hw237_0), ((HB.out.cell (World.block_lt_of_cell? w _ hw237_1)).trans hw237_1), ((HB.out.cell (World.block_lt_of_cell? w _ hw237_2)).trans hw237_2), ((HB.out.cell (World.block_lt_of_cell? w _ hw237_3)).trans hw237_3), ((HB.out.cell (World.block_lt_of_cell? w _ hw237_4)).trans hw237_4), ((HB.out.cell (World.block_lt_of_cell? w _ hw237_5)).trans hw237_5)⟩ (fun hHeld => ?_);clear hK K;refine norm_ (a' := ?_) ?_ ?_
        rotate_left
        ·show Act.put _ (some 25) _ = _
         simp only [pU,pN,sB,sZ,sS,i64_w,i32_w]
         rfl
        refine pz_ 9 26 #[Y,Y,Y,Y,Y,Y,Y,Y,Y,Y] HT_ ?_;refine done_ (done_of HT_.out (z22_)) ?_;(try go_wp2)
        go_roundg k1
        case measure => have := HK1.out; omega
        case rel => exact ⟨(wrap64 (x5_1 + 1)), (z16_), H', ⟨z197_⟩, ⟨z1_⟩⟩
       ·replace c8 := Bool.eq_false_iff.mpr c8;subst c8;(rw [if_neg (show ¬ (false = true) by decide)] at H);obtain rfl := Option.some.inj H;(try go_wp2);replace HB := Aside0.mk (below_drew1 HB.out);have p236 : 0 ≤ (x5_1 : Int) := of_decide_eq_true (z2_);have q236 : x5_1 < (l0.length : Int) := of_decide_eq_true (z2_);obtain ⟨ad236, e236, hx236_0, hx236_1, hx236_2, hx236_3, hx236_4, hx236_5⟩ := at_T36 HR0.out x5_1 p236 q236;have hw236_5 := hx236_5;have hw236_4 := hx236_4;have hw236_3 := hx236_3;have hw236_2 := hx236_2;have hw236_1 := hx236_1;have hw236_0 := hx236_0;cases e236;replace hx236_0 := (HB.out.cell (World.block_lt_of_cell? w _ hx236_0)).trans hx236_0;replace hx236_1 := (HB.out.cell (World.block_lt_of_cell? w _ hx236_1)).trans hx236_1;replace hx236_2 := (HB.out.cell (World.block_lt_of_cell? w _ hx236_2)).trans hx236_2;replace hx236_3 := (HB.out.cell (World.block_lt_of_cell? w _ hx236_3)).trans hx236_3;replace hx236_4 := (HB.out.cell (World.block_lt_of_cell? w _ hx236_4)).trans hx236_4;replace hx236_5 := (HB.out.cell (World.block_lt_of_cell? w _ hx236_5)).trans hx236_5;replace p236 := eq_true p236;replace q236 := eq_true q236;have p237 : 0 ≤ (x5_1 : Int) := of_decide_eq_true (z2_);have q237 : x5_1 < (l1.length : Int) := of_decide_eq_true (z2_);obtain ⟨ad237, e237, hx237_0, hx237_1, hx237_2, hx237_3, hx237_4, hx237_5⟩ := at_T36 HR1.out x5_1 p237 q237;have hw237_5 := hx237_5;have hw237_4 := hx237_4;have hw237_3 := hx237_3;have hw237_2 := hx237_2;have hw237_1 := hx237_1;have hw237_0 := hx237_0;cases e237;replace hx237_0 := (HB.out.cell (World.block_lt_of_cell? w _ hx237_0)).trans hx237_0;replace hx237_1 := (HB.out.cell (World.block_lt_of_cell? w _ hx237_1)).trans hx237_1;replace hx237_2 := (HB.out.cell (World.block_lt_of_cell? w _ hx237_2)).trans hx237_2;replace hx237_3 := (HB.out.cell (World.block_lt_of_cell? w _ hx237_3)).trans hx237_3;replace hx237_4 := (HB.out.cell (World.block_lt_of_cell? w _ hx237_4)).trans hx237_4;replace hx237_5 := (HB.out.cell (World.block_lt_of_cell? w _ hx237_5)).trans hx237_5;replace p237 := eq_true p237;replace q237 := eq_true q237;refine start_ (n := 10) (S := fun w' => w'.cell? (ad236.add ((x5_1).toNat * 6)) = some (.string ((rd_T36 l0 x5_1).f0)) ∧ w'.cell? ⟨(ad236.add ((x5_1).toNat * 6)).block, (ad236.add ((x5_1).toNat * 6)).off + 1, none⟩ = some (.int .i64 ((rd_T36 l0 x5_1).f1)) ∧ w'.cell? ⟨(ad236.add ((x5_1).toNat * 6)).block, (ad236.add ((x5_1).toNat * 6)).off + 2, none⟩ = some (.int .i64 ((rd_T36 l0 x5_1).f2)) ∧ w'.cell? ⟨(ad236.add ((x5_1).toNat * 6)).block, (ad236.add ((x5_1).toNat * 6)).off + 3, none⟩ = some (.int .i64 ((rd_T36 l0 x5_1).f3)) ∧ w'.cell? ⟨(ad236.add ((x5_1).toNat * 6)).block, (ad236.add ((x5_1).toNat * 6)).off + 4, none⟩ = some (.int .i64 ((rd_T36 l0 x5_1).f4)) ∧ w'.cell? ⟨(ad236.add ((x5_1).toNat * 6)).block, (ad236.add ((x5_1).toNat * 6)).off + 5, none⟩ = some (.int .i64 ((rd_T36 l0 x5_1).f5)) ∧ w'.cell? (ad237.add ((x5_1).toNat * 6)) = some (.string ((rd_T36 l1 x5_1).f0)) ∧ w'.cell? ⟨(ad237.add ((x5_1).toNat * 6)).block, (ad237.add ((x5_1).toNat * 6)).off + 1, none⟩ = some (.int .i64 ((rd_T36 l1 x5_1).f1)) ∧ w'.cell? ⟨(ad237.add ((x5_1).toNat * 6)).block, (ad237.add ((x5_1).toNat * 6)).off + 2, none⟩ = some (.int .i64 ((rd_T36 l1 x5_1).f2)) ∧ w'.cell? ⟨(ad237.add ((x5_1).toNat * 6)).block, (ad237.add ((x5_1).toNat * 6)).off + 3, none⟩ = some (.int .i64 ((rd_T36 l1 x5_1).f3)) ∧ w'.cell? ⟨(ad237.add ((x5_1).toNat * 6)).block, (ad237.add ((x5_1).toNat * 6)).off + 4, none⟩ = some (.int .i64 ((rd_T36 l1 x5_1).f4)) ∧ w'.cell? ⟨(ad237.add ((x5_1).toNat * 6)).block, (ad237.add ((x5_1).toNat * 6)).off + 5, none⟩ = some (.int .i64 ((rd_T36 l1 x5_1).f5))) (ds := []) #[J,J,J,J,J,J,J,J,J,J] (z22_) rfl rfl ⟨((HB.out.cell (World.block_lt_of_cell? w _ hw236_0)).trans hw236_0), ((HB.out.cell (World.block_lt_of_cell? w _ hw236_1)).trans hw236_1), ((HB.out.cell (World.block_lt_of_cell? w _ hw236_2)).trans hw236_2), ((HB.out.cell (World.block_lt_of_cell? w _ hw236_3)).trans hw236_3), ((HB.out.cell (World.block_lt_of_cell? w _ hw236_4)).trans hw236_4), ((HB.out.cell (World.block_lt_of_cell? w _ hw236_5)).trans hw236_5), ((HB.out.cell (World.block_lt_of_cell? w _ hw237_0)).trans hw237_0), ((HB.out.cell (World.block_lt_of_cell? w _ hw237_1)).trans hw237_1), ((HB.out.cell (World.block_lt_of_cell? w _ hw237_2)).trans hw237_2), ((HB.out.cell (World.block_lt_of_cell? w _ hw237_3)).trans hw237_3), ((HB.out.cell (World.block_lt_of_cell? w _ hw237_4)).trans hw237_4), ((HB.out.cell (World.block_lt_of_cell? w _ hw237_5)).trans hw237_5)⟩ (fun hHeld => ?_); refine with_tabW laws_eqPipeS.tab6 laws_eqPipeS.bits6 (fun HT_ HW_ => ?_);(generalize wr.drew = w11 at HB hx236_0 hx236_1 hx236_2 hx236_3 hx236_4 hx236_5 hx237_0 hx237_1 hx237_2 hx237_3 hx237_4 hx237_5 hHeld ⊢);refine pz_ 0 17 #[Y,J,J,J,J,J,J,J,J,J] HT_ ?_;refine pz_ 1 18 #[Y,Y,J,J,J,J,J,J,J,J] HT_ ?_;refine pz_ 2 19 #[Y,Y,Y,J,J,J,J,J,J,J] HT_ ?_;refine pz_ 4 21 #[Y,Y,Y,J,Y,J,J,J,J,J] HT_ ?_;refine pz_ 5 22 #[Y,Y,Y,J,Y,Y,J,J,J,J] HT_ ?_;refine pz_ 6 23 #[Y,Y,Y,J,Y,Y,Y,J,J,J] HT_ ?_;refine take_ (i := 3) (N := some 20) (v := ?_) (a' := ?_) #[Y,Y,Y,Y,Y,Y,Y,J,J,J] rfl rfl (take_ofW HT_.out HW_.out (z22_)) (fun _ _ _ h => h) (Or.inl ⟨by rfl, ?_⟩) hHeld ?_ ?_; rotate_left
        ·rintro w' ⟨s0, s1, s2, s3, s4, s5, s6, s7, s8, s9, s10, s11⟩; go_simp; with_reducible rfl
        rotate_left
        ·simp only [pU,pN,sB,sZ,sS,i64_w,i32_w]; rfl
        refine take_ (i := 7) (N := some 24) (v := ?_) (a' := ?_) #[Y,Y,Y,Y,Y,Y,Y,Y,J,J] rfl rfl (take_ofW HT_.out HW_.out (z22_)) (fun _ _ _ h => h) (Or.inl ⟨by rfl, ?_⟩) hHeld ?_ ?_; rotate_left
        ·rintro w' ⟨s0, s1, s2, s3, s4, s5, s6, s7, s8, s9, s10, s11⟩; go_simp; with_reducible rfl
        rotate_left
        ·simp only [pU,pN,sB,sZ,sS,i64_w,i32_w]; rfl
        refine one_ (i := 8) (N := some 25) #[Y,Y,Y,Y,Y,Y,Y,Y,Y,J] rfl rfl (one_of HT_.out (z22_)) (by decide) (fun K hK => ?_);refine goes_ Try.func45 (z22_) rfl #[.agg #[.string ((rd_T36 l0 x5_1).f0), .int .i64 ((rd_T36 l0 x5_1).f1), .int .i64 ((rd_T36 l0 x5_1).f2), .int .i64 ((rd_T36 l0 x5_1).f3), .int .i64 ((rd_T36 l0 x5_1).f4), .int .i64 ((rd_T36 l0 x5_1).f5)], .agg #[.string ((rd_T36 l1 x5_1).f0), .int .i64 ((rd_T36 l1 x5_1).f1), .int .i64 ((rd_T36 l1 x5_1).f2), .int .i64 ((rd_T36 l1 x5_1).f3), .int .i64 ((rd_T36 l1 x5_1).f4), .int .i64 ((rd_T36 l1 x5_1).f5)]] (by rfl) rfl rfl (z0_) ?_;(with_reducible refine (laws_eqPipe.calls ((rd_T36 l0 x5_1).f0) ((rd_T36 l0 x5_1).f1) ((rd_T36 l0 x5_1).f2) ((rd_T36 l0 x5_1).f3) ((rd_T36 l0 x5_1).f4) ((rd_T36 l0 x5_1).f5) ((rd_T36 l1 x5_1).f0) ((rd_T36 l1 x5_1).f1) ((rd_T36 l1 x5_1).f2) ((rd_T36 l1 x5_1).f3) ((rd_T36 l1 x5_1).f4) ((rd_T36 l1 x5_1).f5) false _ A7.out).mono ?_);rintro e w12 ⟨rfl, hb⟩;refine ⟨_, rfl, ?_⟩;replace HB := Aside0.mk (below_step (z1_) hb);(try clear hb);(try clear hb2);(try clear hk);(try clear hi);refine hK.out _ _ ⟨((HB.out.cell (World.block_lt_of_cell? w _ hw236_0)).trans hw236_0), ((HB.out.cell (World.block_lt_of_cell? w _ hw236_1)).trans hw236_1), ((HB.out.cell (World.block_lt_of_cell? w _ hw236_2)).trans hw236_2), ((HB.out.cell (World.block_lt_of_cell? w _ hw236_3)).trans hw236_3), ((HB.out.cell (World.block_lt_of_cell? w _ hw236_4)).trans hw236_4), ((HB.out.cell (World.block_lt_of_cell? w _ hw236_5)).trans hw236_5), ((HB.out.cell (World.block_lt_of_cell? w _ hw237_0)).trans hw237_0), ((HB.out.cell (World.block_lt_of_cell? w _ hw237_1)).trans hw237_1), ((HB.out.cell (World.block_lt_of_cell? w _ hw237_2)).trans hw237_2), ((HB.out.cell (World.block_lt_of_cell? w _ hw237_3)).trans hw237_3), ((HB.out.cell (World.block_lt_of_cell? w _ hw237_4)).trans hw237_4), ((HB.out.cell (World.block_lt_of_cell? w _ hw237_5)).trans hw237_5)⟩ (fun hHeld => ?_);clear hK K;refine norm_ (a' := ?_) ?_ ?_
        rotate_left
        ·show Act.put _ (some 25) _ = _
         simp only [pU,pN,sB,sZ,sS,i64_w,i32_w]
         rfl
        refine pz_ 9 26 #[Y,Y,Y,Y,Y,Y,Y,Y,Y,Y] HT_ ?_;refine done_ (done_of HT_.out (z22_)) ?_;(try go_wp2);go_ret;exact ⟨z13_, z1_⟩
      ·(rw [if_neg c6] at H);exact absurd H (by simp)
     ·(rw [if_neg c5] at H);exact absurd H (by simp)
    ·(rw [if_neg c4] at H);have c4b0 := decide_eq_false c4;clear c4;obtain rfl := Option.some.inj H;go_wp2;go_ret;exact ⟨z13_, z1_⟩
 ·(rw [if_neg c3] at H);have c3b0 : ((l0.length : Int) == (l1.length : Int)) = false := beq_eq_false_iff_ne.mpr c3;have c3b1 : ((l0.length : Int) != (l1.length : Int)) = true := bne_iff_ne.mpr c3;(have c3b2 : (l0.length == l1.length) = false := by first | simpa using c3 | (simp at c3 ⊢; omega));obtain rfl := Option.some.inj H;go_enter Try.func30, Try.ntmps30;go_wp2;go_ret;exact ⟨z13_, z1_⟩

open Go.Proofs.YtcnbceiiimmgaaaM
def pipeEq (p q : S36) : Bool := decide (p.f0.toList = q.f0.toList) && (decide (p.f1 = q.f1) && (decide (p.f2 = q.f2) && (decide (p.f3 = q.f3) && (decide (p.f4 = q.f4) && decide (p.f5 = q.f5)))))
def pipesEq : List S36 → List S36 → Bool
  | [], [] => true
  | p :: l, q :: m => pipeEq p q && pipesEq l m
  | _, _ => false
theorem pipeEq_refl (p : S36) : pipeEq p p = true := by simp [pipeEq]
theorem pipesEq_refl (l : List S36) : pipesEq l l = true := by
  induction l with
  | nil => rfl
  | cons p l ih => simp [pipesEq, pipeEq_refl, ih]
theorem pipesEq_len : ∀ (l m : List S36), l.length ≠ m.length → pipesEq l m = false
  | [], [], h => absurd rfl h
  | [], _ :: _, _ => rfl
  | _ :: _, [], _ => rfl
  | p :: l, q :: m, h => by simp only [pipesEq]; rw [pipesEq_len l m (fun e => h (by simp [e])), Bool.and_false]
theorem rdP_impl (c : List S36) (i : Nat) : rd_T36 c (i : Int) = c.getD i z36 := by unfold rd_T36; rw [Int.toNat_natCast]
theorem dropP (c : List S36) (i : Nat) (h : i < c.length) : c.drop i = c.getD i z36 :: c.drop (i + 1) := by
  rw [List.drop_eq_getElem_cons h, List.getD_eq_getElem?_getD, List.getElem?_eq_getElem h]; rfl
theorem eqPipe_f (p q : S36) : laws_eqPipe.f p.f0 p.f1 p.f2 p.f3 p.f4 p.f5 q.f0 q.f1 q.f2 q.f3 q.f4 q.f5 = some (pipeEq p q) := by
  unfold laws_eqPipe.f pipeEq
  by_cases h0 : p.f0.toList = q.f0.toList
  · by_cases h1 : p.f1 = q.f1
    · by_cases h2 : p.f2 = q.f2
      · by_cases h3 : p.f3 = q.f3
        · by_cases h4 : p.f4 = q.f4
          · by_cases h5 : p.f5 = q.f5
            · simp [h0, h1, h2, h3, h4, h5]
            · simp [h0, h1, h2, h3, h4, h5]
          · simp [h0, h1, h2, h3, h4]
        · simp [h0, h1, h2, h3]
      · simp [h0, h1, h2]
    · simp [h0, h1]
  · simp [h0]
def laws_eqPipeS_.f (l0 l1 : List S36) : Option Bool := if l0.length ≤ 4611686018427387904 then some (pipesEq l0 l1) else none
theorem eqP_loop (l m : List S36) (he : l.length = m.length) (hl : l.length ≤ 4611686018427387904) : ∀ (d k : Nat) (i : Nat), i ≤ l.length → l.length - i = d → d < k → laws_eqPipeS.l0 k l m (i : Int) = some (pipesEq (l.drop i) (m.drop i)) := by
  intro d
  induction d with
  | zero =>
    intro k i h1 hd hk
    obtain ⟨k, rfl⟩ : ∃ m, k = m + 1 := ⟨k - 1, by omega⟩
    simp only [laws_eqPipeS.l0]; rw [if_neg (by omega), List.drop_of_length_le (by omega), List.drop_of_length_le (by omega)]; rfl
  | succ d ih =>
    intro k i h1 hd hk
    obtain ⟨k, rfl⟩ : ∃ m, k = m + 1 := ⟨k - 1, by omega⟩
    simp only [laws_eqPipeS.l0]
    rw [if_pos (by omega), if_pos (by omega), if_pos (by omega), rdP_impl, rdP_impl, eqPipe_f, w64 (x := (i : Int) + 1) (by omega) (by omega), show (i : Int) + 1 = ((i + 1 : Nat) : Int) by omega, ih k (i + 1) (by omega) (by omega) (by omega), dropP l i (by omega), dropP m i (by omega)]
    simp only [Option.bind_some, pipesEq]
    cases pipeEq (l.getD i z36) (m.getD i z36) <;> simp
theorem laws_eqPipeS_.same (l m : List S36) (h : l.length ≤ 4611686018427387904) : laws_eqPipeS.f (l.length + 1) l m = some (pipesEq l m) := by
  unfold laws_eqPipeS.f
  by_cases he : l.length = m.length
  · rw [if_pos (by omega)]
    exact eqP_loop l m he h l.length (l.length + 1) 0 (by omega) (by omega) (by omega)
  · rw [if_neg (by omega), pipesEq_len l m he]
theorem laws_eqPipeS_.calls (A0 : Option Addr) (c0 : Nat) (l0 : List (S36)) (A1 : Option Addr) (c1 : Nat) (l1 : List (S36)) (r : Bool) (w : World) (hr0 : Kd.C k36 w A0 l0.length l0) (hc0 : l0.length ≤ c0) (hr1 : Kd.C k36 w A1 l1.length l1) (hc1 : l1.length ≤ c1) (h : laws_eqPipeS_.f l0 l1 = some r) :
    Calls Try.prog 30 #[.slice A0 l0.length c0, .slice A1 l1.length c1] w fun e w' => e = .returned (.bool r) ∧ Below w.heap.size w w' := by
  unfold laws_eqPipeS_.f at h
  split at h
  · rename_i hs
    exact laws_eqPipeS.calls (l0.length + 1) A0 c0 l0 A1 c1 l1 r w hr0 hc0 hr1 hc1 (by rw [← h]; exact laws_eqPipeS_.same l0 l1 hs)
  · exact absurd h (by simp)


/-! ### laws_eqNetwork: function 10 -/
def laws_eqNetwork.f (l0_0 : List Int) (l0_1 : List (S36)) (l1_0 : List Int) (l1_1 : List (S36)) : Option (Bool) := (laws_eqInt64S_.f l0_0 l1_0).bind fun t241 => (if t241 = true then ((laws_eqPipeS_.f l0_1 l1_1).bind fun t242 => (if t242 = true then (some true) else (some false))) else (some false))
set_option maxHeartbeats 8000000 in
set_option maxRecDepth 100000 in
theorem laws_eqNetwork.calls (A0_0 : Option Addr) (c0_0 : Nat) (l0_0 : List Int) (A0_1 : Option Addr) (c0_1 : Nat) (l0_1 : List (S36)) (A1_0 : Option Addr) (c1_0 : Nat) (l1_0 : List Int) (A1_1 : Option Addr) (c1_1 : Nat) (l1_1 : List (S36)) (r : Bool) (w : World) (hr0_0 : Kd.C (Kd.int .i64) w A0_0 l0_0.length l0_0) (hc0_0 : l0_0.length ≤ c0_0) (hr0_1 : Kd.C k36 w A0_1 l0_1.length l0_1) (hc0_1 : l0_1.length ≤ c0_1) (hr1_0 : Kd.C (Kd.int .i64) w A1_0 l1_0.length l1_0) (hc1_0 : l1_0.length ≤ c1_0) (hr1_1 : Kd.C k36 w A1_1 l1_1.length l1_1) (hc1_1 : l1_1.length ≤ c1_1) (h : laws_eqNetwork.f l0_0 l0_1 l1_0 l1_1 = some r) :
  Calls Try.prog 10 #[.agg #[.slice A0_0 l0_0.length c0_0, .slice A0_1 l0_1.length c0_1], .agg #[.slice A1_0 l1_0.length c1_0, .slice A1_1 l1_1.length c1_1]] w fun e w' => e = .returned (.bool r) ∧ Below w.heap.size w w' := by
 have hu32 := Try.underlying32
 have HR0_0 := Aside0.mk hr0_0
 have HC0_0 := Aside0.mk hc0_0
 clear hr0_0 hc0_0
 have HR0_1 := Aside0.mk hr0_1
 have HC0_1 := Aside0.mk hc0_1
 clear hr0_1 hc0_1
 have HR1_0 := Aside0.mk hr1_0
 have HC1_0 := Aside0.mk hc1_0
 clear hr1_0 hc1_0
 have HR1_1 := Aside0.mk hr1_1
 have HC1_1 := Aside0.mk hc1_1
 clear hr1_1 hc1_1
 have HB := Aside0.mk (Below.refl w.heap.size w)
 have H : ((laws_eqInt64S_.f l0_0 l1_0).bind fun t241 => (if t241 = true then ((laws_eqPipeS_.f l0_1 l1_1).bind fun t242 => (if t242 = true then (some true) else (some false))) else (some false))) = some r := h
 clear h
 replace H := Option.bind_eq_some_iff.mp H
 obtain ⟨t241, A30, H⟩ := H
 have A3 := Aside0.mk A30
 clear A30
 by_cases c4 : t241 = true
 ·subst c4;(rw [if_pos rfl] at H);replace H := Option.bind_eq_some_iff.mp H;obtain ⟨t242, A50, H⟩ := H;have A5 := Aside0.mk A50;clear A50;by_cases c6 : t242 = true
  ·subst c6;(rw [if_pos rfl] at H);obtain rfl := Option.some.inj H;go_enter Try.func10, Try.ntmps10
   go_wp2_with (first | ((with_reducible refine gate_dst (N := 2) rfl ?_); refine box_event ?hg (N := 2) ?hd (cs := #[.slice A0_0 l0_0.length c0_0, .slice A0_1 l0_1.length c0_1]) (t := 32) ?hr ?_; (case hd => rfl); (case hg => rfl); (case hr => first | (go_simp; done) | (go_simp; rfl)); intro gb239 hg w7 hbox hb; have BK239 := Aside0.mk (hbox); have GW239 := Aside0.mk ((z6_ : w.heap.size ≤ gb239)); have GE239 := Aside0.mk ((z6_ : w.heap.size ≤ gb239)); replace HB := Aside0.mk (below_step (z1_) hb); clear hb hbox hg) | ((with_reducible refine gate_dst (N := 3) rfl ?_); refine box_event ?hg (N := 3) ?hd (cs := #[.slice A1_0 l1_0.length c1_0, .slice A1_1 l1_1.length c1_1]) (t := 32) ?hr ?_; (case hd => rfl); (case hg => rfl); (case hr => first | (go_simp; done) | (go_simp; rfl)); intro gb240 hg w8 hbox hb; have BK240 := Aside0.mk (hbox); have GW240 := Aside0.mk ((z100_ : w.heap.size ≤ gb240)); have GE240 := Aside0.mk ((z100_ : w.heap.size ≤ gb240)); replace HB := Aside0.mk (below_step (z81_) hb); have NB239_240 := Aside0.mk ((z119_ : gb239 ≠ gb240)); have NB240_239 := Aside0.mk ((z120_ : gb240 ≠ gb239)); replace BK239 := Aside0.mk (blk_below (g := gb239) (o := .cells #[.slice A0_0 l0_0.length c0_0, .slice A0_1 l0_1.length c0_1] 32 (0, 0)) (z83_) hb); clear hb hbox hg; have hnb9 := NB239_240.out; have hnc9 := NB240_239.out; have hcz10_0 := bc0_ w8 BK239.out; have hcz10_1 := bc1_ w8 BK239.out; have hfz10_0 := blk_frozen BK239.out 0; have hfz10_1 := blk_frozen BK239.out 1; have hcz11_0 := bc0_ w8 BK240.out; have hcz11_1 := bc1_ w8 BK240.out; have hfz11_0 := blk_frozen BK240.out 0; have hfz11_1 := blk_frozen BK240.out 1) | ((with_reducible refine gate_callee (f := 29) rfl ?_); refine goesL_ (some 9) rfl rfl Try.func29 (z22_) rfl #[.slice A0_0 l0_0.length c0_0, .slice A1_0 l1_0.length c1_0] rfl (z0_) ?_; (with_reducible refine (laws_eqInt64S_.calls _ _ l0_0 _ _ l1_0 true _ ?side1 ?side2 ?side3 ?side4 A3.out).mono ?_); (case side1 => repeat (first | exact (Kd.C_below HR0_0.out HB.out) | (with_reducible first|refine Kd.C_alloc ?_ _|refine Kd.C_drewN ?_ _|refine Kd.C_drew ?_))); (case side2 => exact HC0_0.out); (case side3 => repeat (first | exact (Kd.C_below HR1_0.out HB.out) | (with_reducible first|refine Kd.C_alloc ?_ _|refine Kd.C_drewN ?_ _|refine Kd.C_drew ?_))); (case side4 => exact HC1_0.out); rintro e w' ⟨rfl, ⟨nd, rfl⟩⟩; refine ⟨_, rfl, ?_⟩) | ((with_reducible refine gate_callee (f := 30) rfl ?_); refine goesL_ (some 15) rfl rfl Try.func30 (z22_) rfl #[.slice A0_1 l0_1.length c0_1, .slice A1_1 l1_1.length c1_1] rfl (z0_) ?_; (with_reducible refine (laws_eqPipeS_.calls _ _ l0_1 _ _ l1_1 true _ ?side1 ?side2 ?side3 ?side4 A5.out).mono ?_); (case side1 => repeat (first | exact (Kd.C_below HR0_1.out (z66_)) | (with_reducible first|refine Kd.C_alloc ?_ _|refine Kd.C_drewN ?_ _|refine Kd.C_drew ?_))); (case side2 => exact HC0_1.out); (case side3 => repeat (first | exact (Kd.C_below HR1_1.out (z66_)) | (with_reducible first|refine Kd.C_alloc ?_ _|refine Kd.C_drewN ?_ _|refine Kd.C_drew ?_))); (case side4 => exact HC1_1.out); rintro e w12 ⟨rfl, hb⟩; refine ⟨_, rfl, ?_⟩; replace BK239 := Aside0.mk (blk_below (g := gb239) (o := .cells #[.slice A0_0 l0_0.length c0_0, .slice A0_1 l0_1.length c0_1] 32 (0, 0)) (z83_) hb); replace BK240 := Aside0.mk (blk_below (g := gb240) (o := .cells #[.slice A1_0 l1_0.length c1_0, .slice A1_1 l1_1.length c1_1] 32 (0, 0)) (by (with_reducible repeat (first | refine bN ?_ _|refine bW ?_|refine bA ?_ _)); exact BK240.out) hb); replace HB := Aside0.mk (below_step (z66_) hb); (try clear hb); (try clear hb2); (try clear hk); (try clear hi)))
   go_ret;exact ⟨z13_, z66_⟩
  ·replace c6 := Bool.eq_false_iff.mpr c6;subst c6;(rw [if_neg (show ¬ (false = true) by decide)] at H);obtain rfl := Option.some.inj H;go_enter Try.func10, Try.ntmps10
   go_wp2_with (first | ((with_reducible refine gate_dst (N := 2) rfl ?_); refine box_event ?hg (N := 2) ?hd (cs := #[.slice A0_0 l0_0.length c0_0, .slice A0_1 l0_1.length c0_1]) (t := 32) ?hr ?_; (case hd => rfl); (case hg => rfl); (case hr => first | (go_simp; done) | (go_simp; rfl)); intro gb239 hg w13 hbox hb; have BK239 := Aside0.mk (hbox); have GW239 := Aside0.mk ((z6_ : w.heap.size ≤ gb239)); have GE239 := Aside0.mk ((z6_ : w.heap.size ≤ gb239)); replace HB := Aside0.mk (below_step (z1_) hb); clear hb hbox hg) | ((with_reducible refine gate_dst (N := 3) rfl ?_); refine box_event ?hg (N := 3) ?hd (cs := #[.slice A1_0 l1_0.length c1_0, .slice A1_1 l1_1.length c1_1]) (t := 32) ?hr ?_; (case hd => rfl); (case hg => rfl); (case hr => first | (go_simp; done) | (go_simp; rfl)); intro gb240 hg w14 hbox hb; have BK240 := Aside0.mk (hbox); have GW240 := Aside0.mk ((z100_ : w.heap.size ≤ gb240)); have GE240 := Aside0.mk ((z100_ : w.heap.size ≤ gb240)); replace HB := Aside0.mk (below_step (z81_) hb); have NB239_240 := Aside0.mk ((z119_ : gb239 ≠ gb240)); have NB240_239 := Aside0.mk ((z120_ : gb240 ≠ gb239)); replace BK239 := Aside0.mk (blk_below (g := gb239) (o := .cells #[.slice A0_0 l0_0.length c0_0, .slice A0_1 l0_1.length c0_1] 32 (0, 0)) (z83_) hb); clear hb hbox hg; have hnb15 := NB239_240.out; have hnc15 := NB240_239.out; have hcz16_0 := bc0_ w14 BK239.out; have hcz16_1 := bc1_ w14 BK239.out; have hfz16_0 := blk_frozen BK239.out 0; have hfz16_1 := blk_frozen BK239.out 1; have hcz17_0 := bc0_ w14 BK240.out; have hcz17_1 := bc1_ w14 BK240.out; have hfz17_0 := blk_frozen BK240.out 0; have hfz17_1 := blk_frozen BK240.out 1) | ((with_reducible refine gate_callee (f := 29) rfl ?_); refine goesL_ (some 9) rfl rfl Try.func29 (z22_) rfl #[.slice A0_0 l0_0.length c0_0, .slice A1_0 l1_0.length c1_0] rfl (z0_) ?_; (with_reducible refine (laws_eqInt64S_.calls _ _ l0_0 _ _ l1_0 true _ ?side1 ?side2 ?side3 ?side4 A3.out).mono ?_); (case side1 => repeat (first | exact (Kd.C_below HR0_0.out HB.out) | (with_reducible first|refine Kd.C_alloc ?_ _|refine Kd.C_drewN ?_ _|refine Kd.C_drew ?_))); (case side2 => exact HC0_0.out); (case side3 => repeat (first | exact (Kd.C_below HR1_0.out HB.out) | (with_reducible first|refine Kd.C_alloc ?_ _|refine Kd.C_drewN ?_ _|refine Kd.C_drew ?_))); (case side4 => exact HC1_0.out); rintro e w' ⟨rfl, ⟨nd, rfl⟩⟩; refine ⟨_, rfl, ?_⟩) | ((with_reducible refine gate_callee (f := 30) rfl ?_); refine goesL_ (some 15) rfl rfl Try.func30 (z22_) rfl #[.slice A0_1 l0_1.length c0_1, .slice A1_1 l1_1.length c1_1] rfl (z0_) ?_; (with_reducible refine (laws_eqPipeS_.calls _ _ l0_1 _ _ l1_1 false _ ?side1 ?side2 ?side3 ?side4 A5.out).mono ?_); (case side1 => repeat (first | exact (Kd.C_below HR0_1.out (z66_)) | (with_reducible first|refine Kd.C_alloc ?_ _|refine Kd.C_drewN ?_ _|refine Kd.C_drew ?_))); (case side2 => exact HC0_1.out); (case side3 => repeat (first | exact (Kd.C_below HR1_1.out (z66_)) | (with_reducible first|refine Kd.C_alloc ?_ _|refine Kd.C_drewN ?_ _|refine Kd.C_drew ?_))); (case side4 => exact HC1_1.out); rintro e w18 ⟨rfl, hb⟩; refine ⟨_, rfl, ?_⟩; replace BK239 := Aside0.mk (blk_below (g := gb239) (o := .cells #[.slice A0_0 l0_0.length c0_0, .slice A0_1 l0_1.length c0_1] 32 (0, 0)) (z83_) hb); replace BK240 := Aside0.mk (blk_below (g := gb240) (o := .cells #[.slice A1_0 l1_0.length c1_0, .slice A1_1 l1_1.length c1_1] 32 (0, 0)) (by (with_reducible repeat (first | refine bN ?_ _|refine bW ?_|refine bA ?_ _)); exact BK240.out) hb); replace HB := Aside0.mk (below_step (z66_) hb); (try clear hb); (try clear hb2); (try clear hk); (try clear hi)))
   go_ret;exact ⟨z13_, z66_⟩
 ·replace c4 := Bool.eq_false_iff.mpr c4;subst c4;(rw [if_neg (show ¬ (false = true) by decide)] at H);obtain rfl := Option.some.inj H;go_enter Try.func10, Try.ntmps10
  go_wp2_with (first | ((with_reducible refine gate_dst (N := 2) rfl ?_); refine box_event ?hg (N := 2) ?hd (cs := #[.slice A0_0 l0_0.length c0_0, .slice A0_1 l0_1.length c0_1]) (t := 32) ?hr ?_; (case hd => rfl); (case hg => rfl); (case hr => first | (go_simp; done) | (go_simp; rfl)); intro gb239 hg w19 hbox hb; have BK239 := Aside0.mk (hbox); have GW239 := Aside0.mk ((z6_ : w.heap.size ≤ gb239)); have GE239 := Aside0.mk ((z6_ : w.heap.size ≤ gb239)); replace HB := Aside0.mk (below_step (z1_) hb); clear hb hbox hg) | ((with_reducible refine gate_dst (N := 3) rfl ?_); refine box_event ?hg (N := 3) ?hd (cs := #[.slice A1_0 l1_0.length c1_0, .slice A1_1 l1_1.length c1_1]) (t := 32) ?hr ?_; (case hd => rfl); (case hg => rfl); (case hr => first | (go_simp; done) | (go_simp; rfl)); intro gb240 hg w20 hbox hb; have BK240 := Aside0.mk (hbox); have GW240 := Aside0.mk ((z100_ : w.heap.size ≤ gb240)); have GE240 := Aside0.mk ((z100_ : w.heap.size ≤ gb240)); replace HB := Aside0.mk (below_step (z81_) hb); have NB239_240 := Aside0.mk ((z119_ : gb239 ≠ gb240)); have NB240_239 := Aside0.mk ((z120_ : gb240 ≠ gb239)); replace BK239 := Aside0.mk (blk_below (g := gb239) (o := .cells #[.slice A0_0 l0_0.length c0_0, .slice A0_1 l0_1.length c0_1] 32 (0, 0)) (z83_) hb); clear hb hbox hg; have hnb21 := NB239_240.out; have hnc21 := NB240_239.out; have hcz22_0 := bc0_ w20 BK239.out; have hcz22_1 := bc1_ w20 BK239.out; have hfz22_0 := blk_frozen BK239.out 0; have hfz22_1 := blk_frozen BK239.out 1; have hcz23_0 := bc0_ w20 BK240.out; have hcz23_1 := bc1_ w20 BK240.out; have hfz23_0 := blk_frozen BK240.out 0; have hfz23_1 := blk_frozen BK240.out 1) | ((with_reducible refine gate_callee (f := 29) rfl ?_); refine goesL_ (some 9) rfl rfl Try.func29 (z22_) rfl #[.slice A0_0 l0_0.length c0_0, .slice A1_0 l1_0.length c1_0] rfl (z0_) ?_; (with_reducible refine (laws_eqInt64S_.calls _ _ l0_0 _ _ l1_0 false _ ?side1 ?side2 ?side3 ?side4 A3.out).mono ?_); (case side1 => repeat (first | exact (Kd.C_below HR0_0.out HB.out) | (with_reducible first|refine Kd.C_alloc ?_ _|refine Kd.C_drewN ?_ _|refine Kd.C_drew ?_))); (case side2 => exact HC0_0.out); (case side3 => repeat (first | exact (Kd.C_below HR1_0.out HB.out) | (with_reducible first|refine Kd.C_alloc ?_ _|refine Kd.C_drewN ?_ _|refine Kd.C_drew ?_))); (case side4 => exact HC1_0.out); rintro e w' ⟨rfl, ⟨nd, rfl⟩⟩; refine ⟨_, rfl, ?_⟩))
  go_ret;exact ⟨z13_, z66_⟩

/-! ### laws_markInt64S: function 31 -/
def laws_markInt64S.l0 : Nat → List Int → Int → Int → Option (Int × List Int)
 | 0, _, _, _ => none
 | k + 1, x0, x1, x5 => if x5 < (x0.length : Int) then (if 0 ≤ x5 then (laws_markInt64S.l0 k (x0.set (x5 : Int).toNat x1) (wrap64 (x1 + 1)) (wrap64 (x5 + 1))) else (none)) else (some (x1, x0))
def laws_markInt64S.f (k : Nat) (l0 : List Int) (a1 : Int) : Option (Int × List Int) := laws_markInt64S.l0 k l0 a1 0
theorem laws_markInt64S.mono_l : ∀ k, (∀ y0 y1 y2, LeO (laws_markInt64S.l0 k y0 y1 y2) (laws_markInt64S.l0 (k + 1) y0 y1 y2))
 | 0 => fun _ _ _ r h => by simp [laws_markInt64S.l0] at h
 | k + 1 => by
  have ih0 := laws_markInt64S.mono_l k
  ·intro y0 y1 y2
   unfold laws_markInt64S.l0
   repeat' first|(with_reducible first|exact ih0 _ _ _|exact LeO.refl _|exact LeO.none _|refine LeO.ite ?_ ?_|refine LeO.bind ?_ (fun _ => ?_))|exact ih0 _ _ _|exact LeO.none _|refine LeO.ite ?_ ?_|refine LeO.bind ?_ (fun _ => ?_)
theorem laws_markInt64S.mono : ∀ a0 a1 k, LeO (laws_markInt64S.f k a0 a1) (laws_markInt64S.f (k + 1) a0 a1) := by
 intro a0 a1 k
 have ih0 := laws_markInt64S.mono_l k
 unfold laws_markInt64S.f
 repeat' first|(with_reducible first|exact ih0 _ _ _|exact LeO.refl _|exact LeO.none _|refine LeO.ite ?_ ?_|refine LeO.bind ?_ (fun _ => ?_))|exact ih0 _ _ _|exact LeO.none _|refine LeO.ite ?_ ?_|refine LeO.bind ?_ (fun _ => ?_)
set_option maxHeartbeats 8000000 in
set_option maxRecDepth 100000 in
theorem laws_markInt64S.calls (k : Nat) (P0_ : Nat → Prop) (u9000_ : Value) (l0 : List Int) (a1 : Int) (r1 : Int) (r2 : List Int) (w0 w : World) (hB : Below w0.heap.size w0 w) (ho0 : Kd.R (Kd.int .i64) 2 w w0.heap.size P0_ u9000_ l0) (h : laws_markInt64S.f k l0 a1 = some (r1, r2)) :
  Calls Try.prog 31 #[u9000_, .int .i64 a1] w fun e w' => e = .returned (.int .i64 r1) ∧ Kd.R (Kd.int .i64) 2 w' w0.heap.size (fun k_ => (P0_ k_ ∨ w.heap.size ≤ k_)) u9000_ r2 ∧ Below w0.heap.size w0 w' ∧ Kept w w' (fun k_ => P0_ k_) := by
 have HO0 := Aside0.mk (show Kd.R (Kd.int .i64) 2 w w0.heap.size (fun k_ => (P0_ k_ ∨ w.heap.size ≤ k_)) u9000_ l0 from Kd.R_mono ho0 (fun k_ hk => (.inl hk)))
 have HK := Aside0.mk (Kept.refl w (fun k_ => P0_ k_))
 have HW0 := Aside0.mk hB.size
 have HB := Aside0.mk hB
 clear hB
 have H : (laws_markInt64S.l0 k l0 a1 0) = some (r1, r2) := h
 clear h
 have H' := Aside0.mk H
 clear H
 go_enter Try.func31, Try.ntmps31
 go_wp2
 go_loopg [1, 5] k (fun kq v1 v5 w' => ∃ (x0_1 : List Int) (x1_1 : Int) (x5_1 : Int), v1 = .int .i64 x1_1 ∧ v5 = .int .i64 x5_1 ∧ Aside0 (laws_markInt64S.l0 kq x0_1 x1_1 x5_1 = some (r1, r2)) ∧ Aside0 (kq ≤ k) ∧ Aside0 (Kd.R (Kd.int .i64) 2 w' w0.heap.size (fun k_ => (P0_ k_ ∨ w.heap.size ≤ k_)) u9000_ x0_1) ∧ Aside0 (Kept w w' (fun k_ => P0_ k_)) ∧ Aside0 (Below w0.heap.size w0 w'))
 case atStart => exact ⟨(l0), (a1), (0), (z16_), (z16_), H', ⟨Nat.le_refl _⟩, ⟨z251_⟩, ⟨z45_⟩, ⟨z1_⟩⟩
 case round =>
  clear H';(try clear p2);obtain ⟨x0_1, x1_1, x5_1, rfl, rfl, HA, HK1, HO_0, HK, HB⟩ := hrel
  cases gk with
  | zero => exact absurd HA.out (by simp [laws_markInt64S.l0])
  | succ k1 =>
   have H := HA.out;clear HA;(simp only [laws_markInt64S.l0] at H);by_cases c3 : x5_1 < (x0_1.length : Int)
   ·(rw [if_pos c3] at H);have c3b0 := decide_eq_true c3;clear c3;by_cases c4 : 0 ≤ x5_1
    ·(rw [if_pos c4] at H);have c4b0 := decide_eq_true c4;clear c4;obtain ⟨y243, hy243⟩ : ∃ y_ : List Int, y_ = (x0_1.set (x5_1 : Int).toNat x1_1) := ⟨_, rfl⟩;(replace H : (laws_markInt64S.l0 k1 y243 (wrap64 (x1_1 + 1)) (wrap64 (x5_1 + 1))) = some (r1, r2) := by first | (rw [hy243]; with_reducible exact H) | (have H2_ := (Option.bind_some _ _).symm.trans H; rw [hy243]; with_reducible exact H2_) | (have H2_ := (Option.bind_some _ _).symm.trans H; with_reducible exact H2_) | with_reducible exact H | (rw [hy243]; exact H) | exact H);have Ny243 := Aside0.mk hy243;clear hy243;have H' := Aside0.mk H;clear H;obtain ⟨Ao6, co6, eo6⟩ := Kd.R_slice HO_0.out;subst eo6;have p5 : 0 ≤ (x5_1 : Int) := of_decide_eq_true (z2_);have q5 : (x5_1 : Int) < ((x0_1.length : Int) : Int) := of_decide_eq_true (z2_);obtain ⟨go5, co5, eo5, gb5, gl5, cl5, HG5⟩ := Kd.R_form HO_0.out (by omega);(first | cases eo5 | (injection eo5 with ea_ en_ ec_; (first | subst ea_ | (injection ea_ with ea_; subst ea_)); subst ec_; clear en_));have GB5 := Aside0.mk gb5;have GG5 := Aside0.mk HG5;clear gb5 gl5 HG5;have HMgo5 := Aside0.mk (show (P0_ go5 ∨ w.heap.size ≤ go5) from (HO_0.out.1 _ rfl));obtain ⟨hx5_0, hf5_0⟩ := Kd.R_celln 0 HO_0.out (x5_1 : Int) p5 q5;replace p5 := eq_true p5;replace q5 := eq_true q5;have HP7 := Kd.R_putg HO_0.out (x5_1 : Int) x1_1
     go_wp2_with (first | ((with_reducible refine gate_store (t := 2) (p := 15) rfl ?_); refine store_event (t := 2) (p := 15) (v := ?vo_w8) (w1 := (wr.setCell ⟨go5, (x5_1 : Int).toNat, none⟩ (.int .i64 x1_1))) ?hg ?ho ?hn ?hr ?_; (case ho => rfl); (case hg => rfl); (case hn => rfl); (case hr => first | (go_simp; done) | (go_simp; rfl)); intro w8 hw; have hg : wr.grownBy w8 (some go5) := (by rw [hw]; exact HP7.2); have hp_ : Kd.R (Kd.int .i64) 2 w8 w0.heap.size (fun k_ => (P0_ k_ ∨ w.heap.size ≤ k_)) (.slice (some ⟨go5, 0, none⟩) x0_1.length co6) y243 := (by rw [hw, Ny243.out]; exact HP7.1); clear HP7; replace HB := Aside0.mk ((by rw [hw]; exact below_set (HB.out) GB5.out : Below w0.heap.size w0 w8)); replace HK := Aside0.mk (Kept.of_grown (S := (fun k_ => P0_ k_)) hg (z45_) (fun k_ e_ => (HO_0.out.1 k_ e_))); replace HO_0 := Aside0.mk (hp_); clear hg hw hp_))
     go_roundg k1
     case measure => have := HK1.out; omega
     case rel => exact ⟨(y243), (wrap64 (x1_1 + 1)), (wrap64 (x5_1 + 1)), (z16_), (z16_), H', ⟨z197_⟩, ⟨z88_⟩, ⟨z45_⟩, ⟨z1_⟩⟩
    ·(rw [if_neg c4] at H);exact absurd H (by simp)
   ·(rw [if_neg c3] at H);have c3b0 := decide_eq_false c3;clear c3;(simp only [Option.some.injEq, Prod.mk.injEq] at H);obtain ⟨rfl, rfl⟩ := H;obtain ⟨Ao9, co9, eo9⟩ := Kd.R_slice HO_0.out;subst eo9;go_wp2;go_ret;exact ⟨z13_, z88_, z1_, z45_⟩

open Go.Proofs.YtcnbceiiimmgaaaM
def laws_markInt64S_.f (l0 : List Int) (a1 : Int) : Option (Int × List Int) := if (0 ≤ a1 ∧ a1 ≤ 1000000000000) ∧ l0.length ≤ 1000000000000 then some (a1 + l0.length, marks a1 l0.length) else none
theorem mark_loop : ∀ (d k i : Nat) (l : List Int) (a : Int), i ≤ l.length → l.length - i = d → d < k → l.length ≤ 1000000000000 → 0 ≤ a → a + d ≤ 2000000000000 → laws_markInt64S.l0 k l a (i : Int) = some (a + d, l.take i ++ marks a d) := by
  intro d
  induction d with
  | zero =>
    intro k i l a h1 hd hk hl h0 ha
    obtain ⟨k, rfl⟩ : ∃ m, k = m + 1 := ⟨k - 1, by omega⟩
    simp only [laws_markInt64S.l0]; rw [if_neg (by omega), List.take_of_length_le (by omega)]; simp [marks]
  | succ d ih =>
    intro k i l a h1 hd hk hl h0 ha
    obtain ⟨k, rfl⟩ : ∃ m, k = m + 1 := ⟨k - 1, by omega⟩
    simp only [laws_markInt64S.l0]
    have hi : i < l.length := by omega
    have := ih k (i + 1) (l.set i a) (a + 1) (by simp; omega) (by simp; omega) (by omega) (by simp; omega) (by omega) (by omega)
    rw [if_pos (by omega), if_pos (by omega), Int.toNat_natCast, w64 (x := (i : Int) + 1) (by omega) (by omega), w64 (x := a + 1) (by omega) (by omega), show (i : Int) + 1 = ((i + 1 : Nat) : Int) by omega, this, take_set l i hi]
    simp only [marks, List.append_assoc, List.singleton_append]
    congr 2
    push_cast; omega
theorem laws_markInt64S_.same (l : List Int) (a : Int) (h : (0 ≤ a ∧ a ≤ 1000000000000) ∧ l.length ≤ 1000000000000) : laws_markInt64S.f (l.length + 1) l a = some (a + l.length, marks a l.length) := by
  unfold laws_markInt64S.f
  have := mark_loop l.length (l.length + 1) 0 l a (by omega) (by omega) (by omega) h.2 h.1.1 (by omega)
  simpa using this
theorem laws_markInt64S_.calls (P0_ : Nat → Prop) (u9000_ : Value) (l0 : List Int) (a1 : Int) (r1 : Int) (r2 : List Int) (w0 w : World) (hB : Below w0.heap.size w0 w) (ho0 : Kd.R (Kd.int .i64) 2 w w0.heap.size P0_ u9000_ l0) (h : laws_markInt64S_.f l0 a1 = some (r1, r2)) :
    Calls Try.prog 31 #[u9000_, .int .i64 a1] w fun e w' => e = .returned (.int .i64 r1) ∧ Kd.R (Kd.int .i64) 2 w' w0.heap.size (fun k_ => (P0_ k_ ∨ w.heap.size ≤ k_)) u9000_ r2 ∧ Below w0.heap.size w0 w' ∧ Kept w w' (fun k_ => P0_ k_) := by
  unfold laws_markInt64S_.f at h
  split at h
  · rename_i hs
    exact laws_markInt64S.calls (l0.length + 1) P0_ u9000_ l0 a1 r1 r2 w0 w hB ho0 (by rw [← h]; exact laws_markInt64S_.same l0 a1 hs)
  · exact absurd h (by simp)


end Go.Proofs.Ytcnbceiiimmgaaa.PFnExactAddPipe
