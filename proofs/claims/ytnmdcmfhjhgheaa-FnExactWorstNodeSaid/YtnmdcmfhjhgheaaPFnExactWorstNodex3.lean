-- Printed by a program of this session (wip/hprint.sh: the kit's print with hand-proved contracts put in); not by print.sh itself.
import Derived.Test.YtnmdcmfhjhgheaaPFnExactWorstNodex0
import Derived.Test.YtnmdcmfhjhgheaaPFnExactWorstNodex2
namespace Go.Proofs.Ytnmdcmfhjhgheaa.PFnExactWorstNode
open Go.RowKit Go.Proofs.YtnmdcmfhjhgheaaW.PrintWords Go.Proofs.YtnmdcmfhjhgheaaW.PrintLast Go.Proofs.YtnmdcmfhjhgheaaW.PrintMore Go.Proofs.YtnmdcmfhjhgheaaM
attribute [local go_sem] max2_int min2_int max_two min_two max_three min_three max_four min_four   -- for this text's walks alone
set_option linter.unusedVariables false
set_option linter.unusedSimpArgs false

mutual
def X22.j0 : Nat → ByteArray → Bool → Option (Bool)
 | 0, _, _ => none
 | k + 1, x0, x16 => if x16 = true then (some false) else (X22.l0 k x0 0)
def X22.l0 : Nat → ByteArray → Int → Option (Bool)
 | 0, _, _ => none
 | k + 1, x0, x3 => if x3 < (x0.size : Int) then (if 0 ≤ x3 then ((X62.f (bt x0 x3)).bind fun t145 => (if t145 = true then (X22.l0 k x0 (wrap64 (x3 + 1))) else ((X76.f (bt x0 x3)).bind fun t146 => (if t146 = true then (X22.l0 k x0 (wrap64 (x3 + 1))) else (some false))))) else (none)) else (some true)
end
def X22.f (k : Nat) (a0 : ByteArray) : Option (Bool) := if a0.toList = ([] : List UInt8) then (X22.j0 k a0 true) else (if (a0.size : Int) > 10 then (X22.j0 k a0 true) else (if 0 < (a0.size : Int) then ((X62.f (bt a0 0)).bind fun t144 => (X22.j0 k a0 (!t144))) else (none)))
theorem X22.mono_l : ∀ k, (∀ y0 y1, LeO (X22.j0 k y0 y1) (X22.j0 (k + 1) y0 y1)) ∧ (∀ y0 y1, LeO (X22.l0 k y0 y1) (X22.l0 (k + 1) y0 y1))
 | 0 => ⟨fun _ _ r h => by simp [X22.j0] at h, fun _ _ r h => by simp [X22.l0] at h⟩
 | k + 1 => by
  obtain ⟨ih0, ih1⟩ := X22.mono_l k
  refine ⟨?_, ?_⟩
  ·intro y0 y1
   unfold X22.j0
   exact z245_
  ·intro y0 y1
   unfold X22.l0
   exact z245_
theorem X22.mono : ∀ a0 k, LeO (X22.f k a0) (X22.f (k + 1) a0) := by
 intro a0 k
 obtain ⟨ih0, ih1⟩ := X22.mono_l k
 unfold X22.f
 exact z245_
set_option maxHeartbeats 8000000 in
set_option maxRecDepth 100000 in
theorem X22.calls (k : Nat) (a0 : ByteArray) (r : Bool) (w : World) (h : X22.f k a0 = some r) :
  Calls Try.prog 101 #[.string a0] w fun e w' => e = .returned (.bool r) ∧ Drawn0 w w' := by
 unfold X22.f at h;have H := h;clear h
 have HC2 := am_ H
 clear H
 go_enter Try.func101, Try.ntmps101
 go_upto_region 1 with (fail)
 go_cut [16] (fun v16 wc => ∃ (kq : Nat) (x16_1 : Bool), v16 = .bool x16_1 ∧ Aside0 (X22.j0 kq a0 x16_1 = some r) ∧ Aside0 (kq ≤ k) ∧ Drawn0 w wc)
 case first =>
  have H := HC2.out;clear HC2;by_cases c3 : a0.toList = ([] : List UInt8)
  ·(rw [if_pos c3] at H);have c3b0 : (a0.toList == ([] : List UInt8)) = true := beq_iff_eq.mpr c3;have c3b1 : (a0.toList != ([] : List UInt8)) = false := bne_eq_false_iff_eq.mpr c3;(try (have c3b2 : a0.toList.isEmpty = true := by simpa using c3));clear c3;(first | rw [c3b0] | (simp only [i64_w, i32_w]; rw [c3b0]) | rw [c3b2] | skip);have H' := am_ H;clear H;go_wp2;go_meet
   case rel => exact ⟨_, (true), (z8_), H', ⟨z167_⟩, z10_⟩
  ·(rw [if_neg c3] at H);have c3b0 : (a0.toList == ([] : List UInt8)) = false := beq_eq_false_iff_ne.mpr c3;have c3b1 : (a0.toList != ([] : List UInt8)) = true := bne_iff_ne.mpr c3;(try (have c3b2 : a0.toList.isEmpty = false := by simpa using c3));(first | rw [c3b0] | (simp only [i64_w, i32_w]; rw [c3b0]) | rw [c3b2] | skip);by_cases c4 : (a0.size : Int) > 10
   ·(rw [if_pos c4] at H);have c4b0 : decide (10 < (a0.size : Int)) = true := decide_eq_true c4;have c4b1 : decide (10 < a0.size) = true := decide_eq_true (by omega);clear c4;have H' := am_ H;clear H;go_wp2;go_meet
    case rel => exact ⟨_, (true), (z8_), H', ⟨z167_⟩, z10_⟩
   ·(rw [if_neg c4] at H);have c4b0 : decide (10 < (a0.size : Int)) = false := decide_eq_false c4;have c4b1 : decide (10 < a0.size) = false := decide_eq_false (by omega);clear c4;obtain ⟨c5,H⟩ := pp_ H;have c5b0 := decide_eq_true c5;have c5b1 : decide (0 < a0.size) = true := decide_eq_true (by omega);clear c5;obtain ⟨t144, A70, H⟩ := ob_ H;have A7 := am_ A70;clear A70;have H' := am_ H;clear H;have p6 : 0 ≤ (0 : Int) := (by omega);have q6 : 0 < a0.size := (by have : (0 : Int) < (a0.size : Int) := of_decide_eq_true (z0_); omega);have hx6 : ∀ h : 0 < a0.size, ((a0[0]'h).toNat : Int) = bt a0 0 := bt_at a0 0;clear p6;have qi6 : (0 < (a0.size : Int)) = True := eq_true (of_decide_eq_true (z0_));replace q6 := eq_true q6
    go_wp2_with (first | (go_at_call 113; (with_reducible refine (X62.calls (bt a0 0) t144 _ A7.out).mono ?_); rintro e w' ⟨rfl, ⟨nd, rfl⟩⟩))
    go_meet
    case rel => exact ⟨_, (!t144), (z8_), H', ⟨z167_⟩, z10_⟩
 case rest =>
  clear HC2;(try clear c3);(try clear c3b0);(try clear c3b1);(try clear c3b2);(try clear c4);(try clear c4b0);(try clear c4b1);(try clear c5);(try clear c5b0);(try clear c5b1);(try clear p6);(try clear q6);(try clear hx6);(try clear qi6);(try clear p6);(try clear q6);obtain ⟨kq, x16_1, rfl, HA, HJ1, ⟨mc1, rfl⟩⟩ := hcut
  cases kq with
  | zero => exact absurd HA.out (by simp [X22.j0])
  | succ kj1 =>
   have H := HA.out;clear HA;(simp only [X22.j0] at H);by_cases c8 : x16_1 = true
   ·subst c8;(rw [if_pos rfl] at H);obtain rfl := Option.some.inj H;go_wp2;go_ret;exact ⟨z8_, z10_⟩
   ·replace c8 := Bool.eq_false_iff.mpr c8;subst c8;(rw [if_neg (show ¬ (false = true) by decide)] at H);have H' := am_ H;clear H;go_wp2
    go_loopg [3] kj1 (fun kq v3 w' => ∃ (x3_2 : Int), v3 = .int .i64 x3_2 ∧ Aside0 (X22.l0 kq a0 x3_2 = some r) ∧ Aside0 (kq ≤ kj1) ∧ Drawn0 w w')
    case atStart => exact ⟨(0), (z8_), H', ⟨Nat.le_refl _⟩, z10_⟩
    case round =>
     clear H';(try clear c3);(try clear c3b0);(try clear c3b1);(try clear c3b2);(try clear c4);(try clear c4b0);(try clear c4b1);(try clear c5);(try clear c5b0);(try clear c5b1);(try clear p6);(try clear q6);(try clear hx6);(try clear qi6);(try clear c8);(try clear p6);(try clear q6);obtain ⟨x3_2, rfl, HA, HK2, ⟨m2, rfl⟩⟩ := hrel
     cases gk with
     | zero => exact absurd HA.out (by simp [X22.l0])
     | succ k2 =>
      have H := HA.out;clear HA;(simp only [X22.l0] at H);by_cases c9 : x3_2 < (a0.size : Int)
      ·(rw [if_pos c9] at H);have c9b0 := decide_eq_true c9;clear c9;obtain ⟨c10b0,H⟩ := pd_ H;obtain ⟨t145, A120, H⟩ := ob_ H;have A12 := am_ A120;clear A120;by_cases c13 : t145 = true
       ·subst c13;(rw [if_pos rfl] at H);have H' := am_ H;clear H;have p11 : 0 ≤ (x3_2 : Int) := of_decide_eq_true (z0_);have q11 : x3_2 < (a0.size : Int) := of_decide_eq_true (z0_);have hx11 := bt_at a0 x3_2;replace p11 := eq_true p11;replace q11 := eq_true q11
        go_wp2_with (first | ((with_reducible refine gate_callee (f := 113) rfl ?_); refine goesL_ (some 26) rfl rfl Try.func113 (z13_) rfl #[.int .u8 (bt a0 x3_2)] rfl (z1_) ?_; (with_reducible refine (X62.calls (bt a0 x3_2) true _ A12.out).mono ?_); rintro e w' ⟨rfl, ⟨nd, rfl⟩⟩; refine ⟨_, rfl, ?_⟩))
        go_roundg k2
        case measure => have := HJ1.out; have := HK2.out; omega
        case rel => exact ⟨(wrap64 (x3_2 + 1)), (z8_), H', ⟨z216_⟩, z10_⟩
       ·replace c13 := Bool.eq_false_iff.mpr c13;subst c13;(rw [if_neg (show ¬ (false = true) by decide)] at H);obtain ⟨t146, A150, H⟩ := ob_ H;have A15 := am_ A150;clear A150;by_cases c16 : t146 = true
        ·subst c16;(rw [if_pos rfl] at H);have H' := am_ H;clear H;have p11 : 0 ≤ (x3_2 : Int) := of_decide_eq_true (z0_);have q11 : x3_2 < (a0.size : Int) := of_decide_eq_true (z0_);have hx11 := bt_at a0 x3_2;replace p11 := eq_true p11;replace q11 := eq_true q11
         go_wp2_with (first | ((with_reducible refine gate_callee (f := 113) rfl ?_); refine goesL_ (some 26) rfl rfl Try.func113 (z13_) rfl #[.int .u8 (bt a0 x3_2)] rfl (z1_) ?_; (with_reducible refine (X62.calls (bt a0 x3_2) false _ A12.out).mono ?_); rintro e w' ⟨rfl, ⟨nd, rfl⟩⟩; refine ⟨_, rfl, ?_⟩; have p14 : 0 ≤ (x3_2 : Int) := of_decide_eq_true (z0_); have q14 : x3_2 < (a0.size : Int) := of_decide_eq_true (z0_); have hx14 := bt_at a0 x3_2; replace p14 := eq_true p14; replace q14 := eq_true q14) | (go_at_call 114; (with_reducible refine (X76.calls (bt a0 x3_2) true _ A15.out).mono ?_); rintro e w' ⟨rfl, ⟨nd, rfl⟩⟩))
         go_roundg k2
         case measure => have := HJ1.out; have := HK2.out; omega
         case rel => exact ⟨(wrap64 (x3_2 + 1)), (z8_), H', ⟨z216_⟩, z10_⟩
        ·replace c16 := Bool.eq_false_iff.mpr c16;subst c16;(rw [if_neg (show ¬ (false = true) by decide)] at H);obtain rfl := Option.some.inj H;have p11 : 0 ≤ (x3_2 : Int) := of_decide_eq_true (z0_);have q11 : x3_2 < (a0.size : Int) := of_decide_eq_true (z0_);have hx11 := bt_at a0 x3_2;replace p11 := eq_true p11;replace q11 := eq_true q11
         go_wp2_with (first | ((with_reducible refine gate_callee (f := 113) rfl ?_); refine goesL_ (some 26) rfl rfl Try.func113 (z13_) rfl #[.int .u8 (bt a0 x3_2)] rfl (z1_) ?_; (with_reducible refine (X62.calls (bt a0 x3_2) false _ A12.out).mono ?_); rintro e w' ⟨rfl, ⟨nd, rfl⟩⟩; refine ⟨_, rfl, ?_⟩; have p14 : 0 ≤ (x3_2 : Int) := of_decide_eq_true (z0_); have q14 : x3_2 < (a0.size : Int) := of_decide_eq_true (z0_); have hx14 := bt_at a0 x3_2; replace p14 := eq_true p14; replace q14 := eq_true q14) | (go_at_call 114; (with_reducible refine (X76.calls (bt a0 x3_2) false _ A15.out).mono ?_); rintro e w' ⟨rfl, ⟨nd, rfl⟩⟩))
         go_ret;exact ⟨z8_, z10_⟩
      ·(rw [if_neg c9] at H);have c9b0 := decide_eq_false c9;clear c9;obtain rfl := Option.some.inj H;go_wp2;go_ret;exact ⟨z8_, z10_⟩

open Go.Proofs.YtnmdcmfhjhgheaaM
def X47.f (a0 : ByteArray) : Option Bool := if a0.size ≤ 9000000000000000000 then some (nameOk a0) else none
theorem small_f (c : Int) : X62.f c = some (decide (97 ≤ c) && decide (c ≤ 122)) := by
  unfold X62.f
  by_cases h : 97 ≤ c
  · rw [if_pos h]; simp [h]
  · rw [if_neg h]; simp [h]
theorem digit_f (c : Int) : X76.f c = some (decide (48 ≤ c) && decide (c ≤ 57)) := by
  unfold X76.f
  by_cases h : 48 ≤ c
  · rw [if_pos h]; simp [h]
  · rw [if_neg h]; simp [h]
theorem X93 (s : ByteArray) (hs : s.size ≤ 9000000000000000000) : ∀ (d k : Nat) (i : Int), 0 ≤ i → (s.size : Int) - i = d → d < k → X22.l0 k s i = some (namesFrom s d i) := by
  intro d
  induction d with
  | zero =>
    intro k i h0 hd hk
    obtain ⟨k, rfl⟩ : ∃ m, k = m + 1 := ⟨k - 1, by omega⟩
    simp only [X22.l0]; rw [if_neg (by omega)]; rfl
  | succ d ih =>
    intro k i h0 hd hk
    obtain ⟨k, rfl⟩ : ∃ m, k = m + 1 := ⟨k - 1, by omega⟩
    have := ih k (i + 1) (by omega) (by omega) (by omega)
    simp only [X22.l0]
    rw [if_pos (by omega), if_pos h0, small_f, digit_f, w64 (x := i + 1) (by omega) (by omega), this]
    simp only [Option.bind_some, namesFrom, nameByte]
    cases (decide (97 ≤ bt s i) && decide (bt s i ≤ 122)) <;> cases (decide (48 ≤ bt s i) && decide (bt s i ≤ 57)) <;> simp
theorem X47.same (s : ByteArray) (hs : s.size ≤ 9000000000000000000) : X22.f (s.size + 2) s = some (nameOk s) := by
  unfold X22.f nameOk
  rw [small_f]
  simp only [Option.bind_some, X22.j0]
  by_cases h0 : s.size = 0
  · rw [if_pos ((size_empty s).2 h0)]; simp [h0]
  · rw [if_neg (fun h => h0 ((size_empty s).1 h))]
    by_cases h1 : (s.size : Int) > 10
    · rw [if_pos h1]
      have : ¬ s.size ≤ 10 := by omega
      simp [this]
    · rw [if_neg h1, if_pos (by omega), X93 s hs s.size (s.size + 1) 0 (by omega) (by omega) (by omega)]
      have e1 : 1 ≤ s.size := by omega
      have e2 : s.size ≤ 10 := by omega
      simp only [e1, e2, decide_true, Bool.true_and]
      cases decide (97 ≤ bt s 0) <;> cases decide (bt s 0 ≤ 122) <;> simp
theorem X47.calls (a0 : ByteArray) (r : Bool) (w : World) (h : X47.f a0 = some r) :
    Calls Try.prog 101 #[.string a0] w fun e w' => e = .returned (.bool r) ∧ Drawn0 w w' := by
  unfold X47.f at h
  split at h
  · rename_i hs
    exact X22.calls (a0.size + 2) a0 r w (by rw [← h]; exact X47.same a0 hs)
  · exact absurd h (by simp)


open Go.Proofs.YtnmdcmfhjhgheaaM
theorem l00In_b (x lo hi : Int) (w : World) (b : Bool) (h : decide (lo ≤ x ∧ x ≤ hi) = b) : Calls Try.prog 79 #[.int .i64 x, .int .i64 lo, .int .i64 hi] w fun e w' => e = .returned (.bool b) ∧ Drawn0 w w' :=
  X46.calls x lo hi b w (by rw [← h]; rfl)
set_option maxHeartbeats 4000000 in
set_option maxRecDepth 100000 in
/-- l03Ok of a pipe anywhere in memory. -/
theorem l03Ok_core (q : Addr) (s : ByteArray) (f t l d x : Int) (w : World) (b1 b2 b3 b4 b5 b6 b7 : Bool) (C1 : Aside0 (X47.f s = some b1)) (C2 : Aside0 (decide (0 ≤ f ∧ f ≤ 15) = b2)) (C3 : Aside0 (decide (0 ≤ t ∧ t ≤ 15) = b3))
    (h4 : (f == t) = b4) (C5 : Aside0 (decide (1 ≤ l ∧ l ≤ 10000) = b5)) (C6 : Aside0 (decide (20 ≤ d ∧ d ≤ 1000) = b6)) (C7 : Aside0 (decide (0 ≤ x ∧ x ≤ 5000) = b7))
    (c0 : w.cell? q = some (.string s)) (c1 : w.cell? ⟨q.block, q.off + 1, none⟩ = some (.int .i64 f)) (c2 : w.cell? ⟨q.block, q.off + 2, none⟩ = some (.int .i64 t)) (c3 : w.cell? ⟨q.block, q.off + 3, none⟩ = some (.int .i64 l)) (c4 : w.cell? ⟨q.block, q.off + 4, none⟩ = some (.int .i64 d)) (c5 : w.cell? ⟨q.block, q.off + 5, none⟩ = some (.int .i64 x)) :
    Calls Try.prog 97 #[.pointer (some q)] w fun e w' => e = .returned (.bool (b1 && (b2 && (b3 && (!b4 && (b5 && (b6 && b7))))))) ∧ Drawn0 w w' := by
  cases b1
  · go_enter Try.func97, Try.ntmps97
    go_wp2_with fail
    go_quiet ((first | (go_at_call 101; refine Calls.quiet_of (v := .bool false) ?_; (with_reducible refine (X47.calls s false _ C1.out).mono ?_); exact fun e w' hd => ⟨hd.1, hd.2.out⟩) | (go_at_call 79; refine Calls.quiet_of (v := .bool b2) ?_; (with_reducible refine (l00In_b f 0 15 _ b2 C2.out).mono ?_); exact fun e w' hd => ⟨hd.1, hd.2.out⟩) | (go_at_call 79; refine Calls.quiet_of (v := .bool b3) ?_; (with_reducible refine (l00In_b t 0 15 _ b3 C3.out).mono ?_); exact fun e w' hd => ⟨hd.1, hd.2.out⟩)))
    go_wp2
    go_ret
    exact ⟨z193_, z10_⟩
  cases b2
  · go_enter Try.func97, Try.ntmps97
    go_wp2_with fail
    go_quiet ((first | (go_at_call 101; refine Calls.quiet_of (v := .bool true) ?_; (with_reducible refine (X47.calls s true _ C1.out).mono ?_); exact fun e w' hd => ⟨hd.1, hd.2.out⟩) | (go_at_call 79; refine Calls.quiet_of (v := .bool false) ?_; (with_reducible refine (l00In_b f 0 15 _ false C2.out).mono ?_); exact fun e w' hd => ⟨hd.1, hd.2.out⟩) | (go_at_call 79; refine Calls.quiet_of (v := .bool b3) ?_; (with_reducible refine (l00In_b t 0 15 _ b3 C3.out).mono ?_); exact fun e w' hd => ⟨hd.1, hd.2.out⟩)))
    go_wp2
    go_ret
    exact ⟨z193_, z10_⟩
  cases b3
  · go_enter Try.func97, Try.ntmps97
    go_wp2_with fail
    go_quiet ((first | (go_at_call 101; refine Calls.quiet_of (v := .bool true) ?_; (with_reducible refine (X47.calls s true _ C1.out).mono ?_); exact fun e w' hd => ⟨hd.1, hd.2.out⟩) | (go_at_call 79; refine Calls.quiet_of (v := .bool true) ?_; (with_reducible refine (l00In_b f 0 15 _ true C2.out).mono ?_); exact fun e w' hd => ⟨hd.1, hd.2.out⟩) | (go_at_call 79; refine Calls.quiet_of (v := .bool false) ?_; (with_reducible refine (l00In_b t 0 15 _ false C3.out).mono ?_); exact fun e w' hd => ⟨hd.1, hd.2.out⟩)))
    go_wp2
    go_ret
    exact ⟨z193_, z10_⟩
  cases b4
  · cases b5
    · go_enter Try.func97, Try.ntmps97
      go_wp2_with fail
      go_quiet ((first | (go_at_call 101; refine Calls.quiet_of (v := .bool true) ?_; (with_reducible refine (X47.calls s true _ C1.out).mono ?_); exact fun e w' hd => ⟨hd.1, hd.2.out⟩) | (go_at_call 79; refine Calls.quiet_of (v := .bool true) ?_; (with_reducible refine (l00In_b f 0 15 _ true C2.out).mono ?_); exact fun e w' hd => ⟨hd.1, hd.2.out⟩) | (go_at_call 79; refine Calls.quiet_of (v := .bool true) ?_; (with_reducible refine (l00In_b t 0 15 _ true C3.out).mono ?_); exact fun e w' hd => ⟨hd.1, hd.2.out⟩)))
      go_wp2_with (first | (go_at_call 79; (with_reducible refine (l00In_b l 1 10000 _ false C5.out).mono ?_); rintro e w' ⟨rfl, ⟨nd, rfl⟩⟩) | (go_at_call 79; (with_reducible refine (l00In_b d 20 1000 _ b6 C6.out).mono ?_); rintro e w' ⟨rfl, ⟨nd, rfl⟩⟩) | (go_at_call 79; (with_reducible refine (l00In_b x 0 5000 _ b7 C7.out).mono ?_); rintro e w' ⟨rfl, ⟨nd, rfl⟩⟩))
      go_ret
      exact ⟨z193_, z10_⟩
    cases b6
    · go_enter Try.func97, Try.ntmps97
      go_wp2_with fail
      go_quiet ((first | (go_at_call 101; refine Calls.quiet_of (v := .bool true) ?_; (with_reducible refine (X47.calls s true _ C1.out).mono ?_); exact fun e w' hd => ⟨hd.1, hd.2.out⟩) | (go_at_call 79; refine Calls.quiet_of (v := .bool true) ?_; (with_reducible refine (l00In_b f 0 15 _ true C2.out).mono ?_); exact fun e w' hd => ⟨hd.1, hd.2.out⟩) | (go_at_call 79; refine Calls.quiet_of (v := .bool true) ?_; (with_reducible refine (l00In_b t 0 15 _ true C3.out).mono ?_); exact fun e w' hd => ⟨hd.1, hd.2.out⟩)))
      go_wp2_with (first | (go_at_call 79; (with_reducible refine (l00In_b l 1 10000 _ true C5.out).mono ?_); rintro e w' ⟨rfl, ⟨nd, rfl⟩⟩) | (go_at_call 79; (with_reducible refine (l00In_b d 20 1000 _ false C6.out).mono ?_); rintro e w' ⟨rfl, ⟨nd, rfl⟩⟩) | (go_at_call 79; (with_reducible refine (l00In_b x 0 5000 _ b7 C7.out).mono ?_); rintro e w' ⟨rfl, ⟨nd, rfl⟩⟩))
      go_ret
      exact ⟨z193_, z10_⟩
    cases b7
    · go_enter Try.func97, Try.ntmps97
      go_wp2_with fail
      go_quiet ((first | (go_at_call 101; refine Calls.quiet_of (v := .bool true) ?_; (with_reducible refine (X47.calls s true _ C1.out).mono ?_); exact fun e w' hd => ⟨hd.1, hd.2.out⟩) | (go_at_call 79; refine Calls.quiet_of (v := .bool true) ?_; (with_reducible refine (l00In_b f 0 15 _ true C2.out).mono ?_); exact fun e w' hd => ⟨hd.1, hd.2.out⟩) | (go_at_call 79; refine Calls.quiet_of (v := .bool true) ?_; (with_reducible refine (l00In_b t 0 15 _ true C3.out).mono ?_); exact fun e w' hd => ⟨hd.1, hd.2.out⟩)))
      go_wp2_with (first | (go_at_call 79; (with_reducible refine (l00In_b l 1 10000 _ true C5.out).mono ?_); rintro e w' ⟨rfl, ⟨nd, rfl⟩⟩) | (go_at_call 79; (with_reducible refine (l00In_b d 20 1000 _ true C6.out).mono ?_); rintro e w' ⟨rfl, ⟨nd, rfl⟩⟩) | (go_at_call 79; (with_reducible refine (l00In_b x 0 5000 _ false C7.out).mono ?_); rintro e w' ⟨rfl, ⟨nd, rfl⟩⟩))
      go_ret
      exact ⟨z193_, z10_⟩
    · go_enter Try.func97, Try.ntmps97
      go_wp2_with fail
      go_quiet ((first | (go_at_call 101; refine Calls.quiet_of (v := .bool true) ?_; (with_reducible refine (X47.calls s true _ C1.out).mono ?_); exact fun e w' hd => ⟨hd.1, hd.2.out⟩) | (go_at_call 79; refine Calls.quiet_of (v := .bool true) ?_; (with_reducible refine (l00In_b f 0 15 _ true C2.out).mono ?_); exact fun e w' hd => ⟨hd.1, hd.2.out⟩) | (go_at_call 79; refine Calls.quiet_of (v := .bool true) ?_; (with_reducible refine (l00In_b t 0 15 _ true C3.out).mono ?_); exact fun e w' hd => ⟨hd.1, hd.2.out⟩)))
      go_wp2_with (first | (go_at_call 79; (with_reducible refine (l00In_b l 1 10000 _ true C5.out).mono ?_); rintro e w' ⟨rfl, ⟨nd, rfl⟩⟩) | (go_at_call 79; (with_reducible refine (l00In_b d 20 1000 _ true C6.out).mono ?_); rintro e w' ⟨rfl, ⟨nd, rfl⟩⟩) | (go_at_call 79; (with_reducible refine (l00In_b x 0 5000 _ true C7.out).mono ?_); rintro e w' ⟨rfl, ⟨nd, rfl⟩⟩))
      go_ret
      exact ⟨z193_, z10_⟩
  · go_enter Try.func97, Try.ntmps97
    go_wp2_with fail
    go_quiet ((first | (go_at_call 101; refine Calls.quiet_of (v := .bool true) ?_; (with_reducible refine (X47.calls s true _ C1.out).mono ?_); exact fun e w' hd => ⟨hd.1, hd.2.out⟩) | (go_at_call 79; refine Calls.quiet_of (v := .bool true) ?_; (with_reducible refine (l00In_b f 0 15 _ true C2.out).mono ?_); exact fun e w' hd => ⟨hd.1, hd.2.out⟩) | (go_at_call 79; refine Calls.quiet_of (v := .bool true) ?_; (with_reducible refine (l00In_b t 0 15 _ true C3.out).mono ?_); exact fun e w' hd => ⟨hd.1, hd.2.out⟩)))
    go_wp2
    go_ret
    exact ⟨z193_, z10_⟩
theorem l03Ok_addr (q : Addr) (s : ByteArray) (f t l d x : Int) (w : World) (hs : s.size ≤ 9000000000000000000)
    (c0 : w.cell? q = some (.string s)) (c1 : w.cell? ⟨q.block, q.off + 1, none⟩ = some (.int .i64 f)) (c2 : w.cell? ⟨q.block, q.off + 2, none⟩ = some (.int .i64 t)) (c3 : w.cell? ⟨q.block, q.off + 3, none⟩ = some (.int .i64 l)) (c4 : w.cell? ⟨q.block, q.off + 4, none⟩ = some (.int .i64 d)) (c5 : w.cell? ⟨q.block, q.off + 5, none⟩ = some (.int .i64 x)) :
    Calls Try.prog 97 #[.pointer (some q)] w fun e w' => e = .returned (.bool (pipeOk s f t l d x)) ∧ Drawn0 w w' := by
  have h4 : (f == t) = decide (f = t) := by by_cases c : f = t <;> simp [c]
  exact l03Ok_core q s f t l d x w _ _ _ _ _ _ _ ⟨by unfold X47.f; rw [if_pos hs]⟩ ⟨rfl⟩ ⟨rfl⟩ h4 ⟨rfl⟩ ⟨rfl⟩ ⟨rfl⟩ c0 c1 c2 c3 c4 c5
theorem l03Ok_any (b o : Nat) (s : ByteArray) (f t l d x : Int) (w : World) (hs : s.size ≤ 9000000000000000000)
    (c0 : w.cell? ⟨b, o, none⟩ = some (.string s)) (c1 : w.cell? ⟨b, o + 1, none⟩ = some (.int .i64 f)) (c2 : w.cell? ⟨b, o + 2, none⟩ = some (.int .i64 t)) (c3 : w.cell? ⟨b, o + 3, none⟩ = some (.int .i64 l)) (c4 : w.cell? ⟨b, o + 4, none⟩ = some (.int .i64 d)) (c5 : w.cell? ⟨b, o + 5, none⟩ = some (.int .i64 x)) :
    Calls Try.prog 97 #[.pointer (some ⟨b, o, none⟩)] w fun e w' => e = .returned (.bool (pipeOk s f t l d x)) ∧ Drawn0 w w' :=
  l03Ok_addr ⟨b, o, none⟩ s f t l d x w hs c0 c1 c2 c3 c4 c5
def X91.f (a0_0 : ByteArray) (a0_1 a0_2 a0_3 a0_4 a0_5 : Int) : Option Bool := if a0_0.size ≤ 9000000000000000000 then some (pipeOk a0_0 a0_1 a0_2 a0_3 a0_4 a0_5) else none
theorem X91.calls (gr0 : Addr) (a0_0 : ByteArray) (a0_1 a0_2 a0_3 a0_4 a0_5 : Int) (r : Bool) (w : World) (c0 : w.cell? gr0 = some (.string a0_0)) (c1 : w.cell? ⟨gr0.block, gr0.off + 1, none⟩ = some (.int .i64 a0_1)) (c2 : w.cell? ⟨gr0.block, gr0.off + 2, none⟩ = some (.int .i64 a0_2)) (c3 : w.cell? ⟨gr0.block, gr0.off + 3, none⟩ = some (.int .i64 a0_3)) (c4 : w.cell? ⟨gr0.block, gr0.off + 4, none⟩ = some (.int .i64 a0_4)) (c5 : w.cell? ⟨gr0.block, gr0.off + 5, none⟩ = some (.int .i64 a0_5)) (h : X91.f a0_0 a0_1 a0_2 a0_3 a0_4 a0_5 = some r) :
    Calls Try.prog 97 #[.pointer (some gr0)] w fun e w' => e = .returned (.bool r) ∧ Drawn0 w w' := by
  unfold X91.f at h
  split at h
  · rename_i hs
    obtain rfl := Option.some.inj h
    exact l03Ok_addr gr0 a0_0 a0_1 a0_2 a0_3 a0_4 a0_5 w hs c0 c1 c2 c3 c4 c5
  · exact absurd h (by simp)


open Go.Proofs.YtnmdcmfhjhgheaaM
/-- Whether a pipe fits in a network of so many nodes. -/
def fitsOk (n : Nat) (p : S73) : Bool := pipeOk p.f0 p.f1 p.f2 p.f3 p.f4 p.f5 && (decide (p.f1 < (n : Int)) && decide (p.f2 < (n : Int)))
set_option maxHeartbeats 4000000 in
set_option maxRecDepth 100000 in
theorem l04Fits_core (b o : Nat) (q : Addr) (s : ByteArray) (f t l d x : Int) (N : Option Addr) (n cn : Nat) (W : World) (b1 b2 b3 : Bool)
    (H1 : Aside0 (∀ V : World, Below W.heap.size W V → Calls Try.prog 97 #[.pointer (some q)] V fun e w' => e = .returned (.bool b1) ∧ Drawn0 V w')) (h2 : decide (f < (n : Int)) = b2) (h3 : decide (t < (n : Int)) = b3)
    (cN : W.cell? ⟨b, o, none⟩ = some (.slice N n cn)) (c1 : W.cell? ⟨q.block, q.off + 1, none⟩ = some (.int .i64 f)) (c2 : W.cell? ⟨q.block, q.off + 2, none⟩ = some (.int .i64 t)) :
    Calls Try.prog 92 #[.pointer (some ⟨b, o, none⟩), .pointer (some q)] W fun e w' => e = .returned (.bool (b1 && (b2 && b3))) ∧ Drawn0 W w' := by
  cases b1
  · go_enter Try.func92, Try.ntmps92
    go_wp2_with fail
    go_quiet ((go_at_call 97; refine Calls.quiet_of (v := .bool false) ?_; (with_reducible refine (H1.out _ (z178_)).mono ?_); exact fun e w' hd => ⟨hd.1, hd.2.out⟩))
    go_wp2
    go_ret
    exact ⟨z193_, z10_⟩
  cases b2
  · go_enter Try.func92, Try.ntmps92
    go_wp2_with fail
    go_quiet ((go_at_call 97; refine Calls.quiet_of (v := .bool true) ?_; (with_reducible refine (H1.out _ (z178_)).mono ?_); exact fun e w' hd => ⟨hd.1, hd.2.out⟩))
    go_wp2
    go_ret
    exact ⟨z193_, z10_⟩
  · go_enter Try.func92, Try.ntmps92
    go_wp2_with fail
    go_quiet ((go_at_call 97; refine Calls.quiet_of (v := .bool true) ?_; (with_reducible refine (H1.out _ (z178_)).mono ?_); exact fun e w' hd => ⟨hd.1, hd.2.out⟩))
    go_wp2
    go_ret
    exact ⟨z193_, z10_⟩
theorem l04Fits_any (b o : Nat) (q : Addr) (p : S73) (N : Option Addr) (n cn : Nat) (W : World) (hs : p.f0.size ≤ 9000000000000000000) (cN : W.cell? ⟨b, o, none⟩ = some (.slice N n cn))
    (c0 : W.cell? q = some (.string p.f0)) (c1 : W.cell? ⟨q.block, q.off + 1, none⟩ = some (.int .i64 p.f1)) (c2 : W.cell? ⟨q.block, q.off + 2, none⟩ = some (.int .i64 p.f2)) (c3 : W.cell? ⟨q.block, q.off + 3, none⟩ = some (.int .i64 p.f3)) (c4 : W.cell? ⟨q.block, q.off + 4, none⟩ = some (.int .i64 p.f4)) (c5 : W.cell? ⟨q.block, q.off + 5, none⟩ = some (.int .i64 p.f5)) :
    Calls Try.prog 92 #[.pointer (some ⟨b, o, none⟩), .pointer (some q)] W fun e w' => e = .returned (.bool (fitsOk n p)) ∧ Drawn0 W w' :=
  l04Fits_core b o q p.f0 p.f1 p.f2 p.f3 p.f4 p.f5 N n cn W _ _ _ ⟨fun V hb => l03Ok_addr q p.f0 p.f1 p.f2 p.f3 p.f4 p.f5 V hs (pw_cell_below hb c0) (pw_cell_below hb c1) (pw_cell_below hb c2) (pw_cell_below hb c3) (pw_cell_below hb c4) (pw_cell_below hb c5)⟩ rfl rfl cN c1 c2
def X48.f (l0_0 : List Int) (l0_1 : List S73) (a1_0 : ByteArray) (a1_1 a1_2 a1_3 a1_4 a1_5 : Int) : Option Bool := if a1_0.size ≤ 9000000000000000000 then some (fitsOk l0_0.length ⟨a1_0, a1_1, a1_2, a1_3, a1_4, a1_5⟩) else none
theorem X48.calls (gr0 : Nat) (A0_0 : Option Addr) (c0_0 : Nat) (l0_0 : List Int) (A0_1 : Option Addr) (c0_1 : Nat) (l0_1 : List S73) (gr1 : Addr) (a1_0 : ByteArray) (a1_1 a1_2 a1_3 a1_4 a1_5 : Int) (r : Bool) (w : World) (hb0 : w.heap[gr0]? = some (.cells #[.slice A0_0 l0_0.length c0_0, .slice A0_1 l0_1.length c0_1] 31 (0, 0))) (hr0_0 : Kd.C (Kd.int .i64) w A0_0 l0_0.length l0_0) (hc0_0 : l0_0.length ≤ c0_0) (hr0_1 : Kd.C k73 w A0_1 l0_1.length l0_1) (hc0_1 : l0_1.length ≤ c0_1) (c0 : w.cell? gr1 = some (.string a1_0)) (c1 : w.cell? ⟨gr1.block, gr1.off + 1, none⟩ = some (.int .i64 a1_1)) (c2 : w.cell? ⟨gr1.block, gr1.off + 2, none⟩ = some (.int .i64 a1_2)) (c3 : w.cell? ⟨gr1.block, gr1.off + 3, none⟩ = some (.int .i64 a1_3)) (c4 : w.cell? ⟨gr1.block, gr1.off + 4, none⟩ = some (.int .i64 a1_4)) (c5 : w.cell? ⟨gr1.block, gr1.off + 5, none⟩ = some (.int .i64 a1_5)) (h : X48.f l0_0 l0_1 a1_0 a1_1 a1_2 a1_3 a1_4 a1_5 = some r) :
    Calls Try.prog 92 #[.pointer (some ⟨gr0, 0, none⟩), .pointer (some gr1)] w fun e w' => e = .returned (.bool r) ∧ Drawn0 w w' := by
  unfold X48.f at h
  split at h
  · rename_i hs
    obtain rfl := Option.some.inj h
    exact l04Fits_any gr0 0 gr1 ⟨a1_0, a1_1, a1_2, a1_3, a1_4, a1_5⟩ A0_0 l0_0.length c0_0 w hs ((blk_cell hb0 0).trans rfl) c0 c1 c2 c3 c4 c5
  · exact absurd h (by simp)

end Go.Proofs.Ytnmdcmfhjhgheaa.PFnExactWorstNode
