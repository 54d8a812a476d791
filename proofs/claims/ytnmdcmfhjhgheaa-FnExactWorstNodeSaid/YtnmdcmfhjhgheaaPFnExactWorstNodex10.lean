-- Printed by a program of this session (wip/hprint.sh: the kit's print with hand-proved contracts put in); not by print.sh itself.
import Derived.Test.YtnmdcmfhjhgheaaPFnExactWorstNodex0
import Derived.Test.YtnmdcmfhjhgheaaPFnExactWorstNodex9
namespace Go.Proofs.Ytnmdcmfhjhgheaa.PFnExactWorstNode
open Go.RowKit Go.Proofs.YtnmdcmfhjhgheaaW.PrintWords Go.Proofs.YtnmdcmfhjhgheaaW.PrintLast Go.Proofs.YtnmdcmfhjhgheaaW.PrintMore Go.Proofs.YtnmdcmfhjhgheaaM
attribute [local go_sem] max2_int min2_int max_two min_two max_three min_three max_four min_four   -- for this text's walks alone
set_option linter.unusedVariables false
set_option linter.unusedSimpArgs false

def X16.l0 : Nat → ByteArray → Int → Int → Option (Bool)
 | 0, _, _, _ => none
 | k + 1, x0, x6, x7 => if x7 < x6 then (if 0 ≤ x7 then (if x7 < (x0.size : Int) then (if (bt x0 x7) < 97 then (if (bt x0 x7) < 48 then (some false) else (if (bt x0 x7) > 57 then (some false) else (X16.l0 k x0 x6 (wrap64 (x7 + 1))))) else (if (bt x0 x7) > 122 then (if (bt x0 x7) < 48 then (some false) else (if (bt x0 x7) > 57 then (some false) else (X16.l0 k x0 x6 (wrap64 (x7 + 1))))) else (X16.l0 k x0 x6 (wrap64 (x7 + 1))))) else (none)) else (none)) else (some true)
def X16.f (k : Nat) (a0 : ByteArray) : Option (Bool) := X16.l0 k a0 (a0.size : Int) 0
theorem X16.mono_l : ∀ k, (∀ y0 y1 y2, LeO (X16.l0 k y0 y1 y2) (X16.l0 (k + 1) y0 y1 y2))
 | 0 => fun _ _ _ r h => by simp [X16.l0] at h
 | k + 1 => by
  have ih0 := X16.mono_l k
  ·intro y0 y1 y2
   unfold X16.l0
   exact z244_
theorem X16.mono : ∀ a0 k, LeO (X16.f k a0) (X16.f (k + 1) a0) := by
 intro a0 k
 have ih0 := X16.mono_l k
 unfold X16.f
 exact z244_
set_option maxHeartbeats 8000000 in
set_option maxRecDepth 100000 in
theorem X16.calls (k : Nat) (a0 : ByteArray) (r : Bool) (w : World) (h : X16.f k a0 = some r) :
  Calls Try.prog 98 #[.string a0] w fun e w' => e = .returned (.bool r) ∧ Drawn0 w w' := by
 unfold X16.f at h;have H := h;clear h
 have H' := am_ H
 clear H
 go_enter Try.func98, Try.ntmps98
 go_wp2
 go_loopg [7] k (fun kq v7 w' => ∃ (x7_1 : Int), v7 = .int .i64 x7_1 ∧ Aside0 (X16.l0 kq a0 (a0.size : Int) x7_1 = some r) ∧ Aside0 (kq ≤ k) ∧ Drawn0 w w')
 case atStart => exact ⟨(0), (z8_), H', ⟨Nat.le_refl _⟩, z10_⟩
 case round =>
  clear H';obtain ⟨x7_1, rfl, HA, HK1, ⟨m1, rfl⟩⟩ := hrel
  cases gk with
  | zero => exact absurd HA.out (by simp [X16.l0])
  | succ k1 =>
   have H := HA.out;clear HA;(simp only [X16.l0] at H);by_cases c2 : x7_1 < (a0.size : Int)
   ·(rw [if_pos c2] at H);have c2b0 := decide_eq_true c2;clear c2;obtain ⟨c3b0,H⟩ := pd_ H;obtain ⟨c4b0,H⟩ := pd_ H;by_cases c6 : (bt a0 x7_1) < 97
    ·(rw [if_pos c6] at H);have c6b0 := decide_eq_true c6;clear c6;by_cases c7 : (bt a0 x7_1) < 48
     ·(rw [if_pos c7] at H);have c7b0 := decide_eq_true c7;clear c7;obtain rfl := Option.some.inj H;have p5 : 0 ≤ (x7_1 : Int) := of_decide_eq_true (z0_);have q5 : x7_1 < (a0.size : Int) := of_decide_eq_true (z0_);have hx5 := bt_at a0 x7_1;replace p5 := eq_true p5;replace q5 := eq_true q5;go_wp2;go_ret;exact ⟨z8_, z10_⟩
     ·(rw [if_neg c7] at H);have c7b0 := decide_eq_false c7;clear c7;by_cases c8 : (bt a0 x7_1) > 57
      ·(rw [if_pos c8] at H);have c8b0 : decide (57 < (bt a0 x7_1)) = true := decide_eq_true c8;clear c8;obtain rfl := Option.some.inj H;have p5 : 0 ≤ (x7_1 : Int) := of_decide_eq_true (z0_);have q5 : x7_1 < (a0.size : Int) := of_decide_eq_true (z0_);have hx5 := bt_at a0 x7_1;replace p5 := eq_true p5;replace q5 := eq_true q5;go_wp2;go_ret;exact ⟨z8_, z10_⟩
      ·(rw [if_neg c8] at H);have c8b0 : decide (57 < (bt a0 x7_1)) = false := decide_eq_false c8;clear c8;have H' := am_ H;clear H;have p5 : 0 ≤ (x7_1 : Int) := of_decide_eq_true (z0_);have q5 : x7_1 < (a0.size : Int) := of_decide_eq_true (z0_);have hx5 := bt_at a0 x7_1;replace p5 := eq_true p5;replace q5 := eq_true q5;go_wp2
       go_roundg k1
       case measure => have := HK1.out; omega
       case rel => exact ⟨(wrap64 (x7_1 + 1)), (z8_), H', ⟨z111_⟩, z10_⟩
    ·(rw [if_neg c6] at H);have c6b0 := decide_eq_false c6;clear c6;by_cases c9 : (bt a0 x7_1) > 122
     ·(rw [if_pos c9] at H);have c9b0 : decide (122 < (bt a0 x7_1)) = true := decide_eq_true c9;clear c9;by_cases c10 : (bt a0 x7_1) < 48
      ·(rw [if_pos c10] at H);have c10b0 := decide_eq_true c10;clear c10;obtain rfl := Option.some.inj H;have p5 : 0 ≤ (x7_1 : Int) := of_decide_eq_true (z0_);have q5 : x7_1 < (a0.size : Int) := of_decide_eq_true (z0_);have hx5 := bt_at a0 x7_1;replace p5 := eq_true p5;replace q5 := eq_true q5;go_wp2;go_ret;exact ⟨z8_, z10_⟩
      ·(rw [if_neg c10] at H);have c10b0 := decide_eq_false c10;clear c10;by_cases c11 : (bt a0 x7_1) > 57
       ·(rw [if_pos c11] at H);have c11b0 : decide (57 < (bt a0 x7_1)) = true := decide_eq_true c11;clear c11;obtain rfl := Option.some.inj H;have p5 : 0 ≤ (x7_1 : Int) := of_decide_eq_true (z0_);have q5 : x7_1 < (a0.size : Int) := of_decide_eq_true (z0_);have hx5 := bt_at a0 x7_1;replace p5 := eq_true p5;replace q5 := eq_true q5;go_wp2;go_ret;exact ⟨z8_, z10_⟩
       ·(rw [if_neg c11] at H);have c11b0 : decide (57 < (bt a0 x7_1)) = false := decide_eq_false c11;clear c11;have H' := am_ H;clear H;have p5 : 0 ≤ (x7_1 : Int) := of_decide_eq_true (z0_);have q5 : x7_1 < (a0.size : Int) := of_decide_eq_true (z0_);have hx5 := bt_at a0 x7_1;replace p5 := eq_true p5;replace q5 := eq_true q5;go_wp2
        go_roundg k1
        case measure => have := HK1.out; omega
        case rel => exact ⟨(wrap64 (x7_1 + 1)), (z8_), H', ⟨z111_⟩, z10_⟩
     ·(rw [if_neg c9] at H);have c9b0 : decide (122 < (bt a0 x7_1)) = false := decide_eq_false c9;clear c9;have H' := am_ H;clear H;have p5 : 0 ≤ (x7_1 : Int) := of_decide_eq_true (z0_);have q5 : x7_1 < (a0.size : Int) := of_decide_eq_true (z0_);have hx5 := bt_at a0 x7_1;replace p5 := eq_true p5;replace q5 := eq_true q5;go_wp2
      go_roundg k1
      case measure => have := HK1.out; omega
      case rel => exact ⟨(wrap64 (x7_1 + 1)), (z8_), H', ⟨z111_⟩, z10_⟩
   ·(rw [if_neg c2] at H);have c2b0 := decide_eq_false c2;clear c2;obtain rfl := Option.some.inj H;go_wp2;go_ret;exact ⟨z8_, z10_⟩

def X73.f (k : Nat) (a0 : ByteArray) : Option (Bool) := if (a0.size : Int) < 1 then (some false) else (if (a0.size : Int) > 10 then (some false) else (if 0 < (a0.size : Int) then (if (bt a0 0) < 97 then (some false) else (if (bt a0 0) > 122 then (some false) else ((X16.f k a0).bind fun t301 => (some t301)))) else (none)))
theorem X73.mono : ∀ a0 k, LeO (X73.f k a0) (X73.f (k + 1) a0) := by
 intro a0 k
 unfold X73.f
 repeat' first|(with_reducible first|exact X16.mono _ _|exact LeO.refl _|exact LeO.none _|refine LeO.ite ?_ ?_|refine LeO.bind ?_ (fun _ => ?_))|exact X16.mono _ _|exact LeO.none _|refine LeO.ite ?_ ?_|refine LeO.bind ?_ (fun _ => ?_)
set_option maxHeartbeats 8000000 in
set_option maxRecDepth 100000 in
theorem X73.calls (k : Nat) (a0 : ByteArray) (r : Bool) (w : World) (h : X73.f k a0 = some r) :
  Calls Try.prog 93 #[.string a0] w fun e w' => e = .returned (.bool r) ∧ Drawn0 w w' := by
 unfold X73.f at h;have H := h;clear h
 by_cases c2 : (a0.size : Int) < 1
 ·(rw [if_pos c2] at H);have c2b0 := decide_eq_true c2;have c2b1 : decide (a0.size < 1) = true := decide_eq_true (by omega);clear c2;obtain rfl := Option.some.inj H;go_enter Try.func93, Try.ntmps93;go_wp2;go_ret;exact ⟨z8_, z10_⟩
 ·(rw [if_neg c2] at H);have c2b0 := decide_eq_false c2;have c2b1 : decide (a0.size < 1) = false := decide_eq_false (by omega);clear c2;by_cases c3 : (a0.size : Int) > 10
  ·(rw [if_pos c3] at H);have c3b0 : decide (10 < (a0.size : Int)) = true := decide_eq_true c3;have c3b1 : decide (10 < a0.size) = true := decide_eq_true (by omega);clear c3;obtain rfl := Option.some.inj H;go_enter Try.func93, Try.ntmps93;go_wp2;go_ret;exact ⟨z8_, z10_⟩
  ·(rw [if_neg c3] at H);have c3b0 : decide (10 < (a0.size : Int)) = false := decide_eq_false c3;have c3b1 : decide (10 < a0.size) = false := decide_eq_false (by omega);clear c3;obtain ⟨c4,H⟩ := pp_ H;have c4b0 := decide_eq_true c4;have c4b1 : decide (0 < a0.size) = true := decide_eq_true (by omega);clear c4;by_cases c6 : (bt a0 0) < 97
   ·(rw [if_pos c6] at H);have c6b0 := decide_eq_true c6;clear c6;obtain rfl := Option.some.inj H;have p5 : 0 ≤ (0 : Int) := (by omega);have q5 : 0 < a0.size := (by have : (0 : Int) < (a0.size : Int) := of_decide_eq_true (z0_); omega);have hx5 : ∀ h : 0 < a0.size, ((a0[0]'h).toNat : Int) = bt a0 0 := bt_at a0 0;clear p5;have qi5 : (0 < (a0.size : Int)) = True := eq_true (of_decide_eq_true (z0_));replace q5 := eq_true q5;go_enter Try.func93, Try.ntmps93;go_wp2;go_ret;exact ⟨z8_, z10_⟩
   ·(rw [if_neg c6] at H);have c6b0 := decide_eq_false c6;clear c6;by_cases c8 : (bt a0 0) > 122
    ·(rw [if_pos c8] at H);have c8b0 : decide (122 < (bt a0 0)) = true := decide_eq_true c8;clear c8;obtain rfl := Option.some.inj H;have p5 : 0 ≤ (0 : Int) := (by omega);have q5 : 0 < a0.size := (by have : (0 : Int) < (a0.size : Int) := of_decide_eq_true (z0_); omega);have hx5 : ∀ h : 0 < a0.size, ((a0[0]'h).toNat : Int) = bt a0 0 := bt_at a0 0;clear p5;have qi5 : (0 < (a0.size : Int)) = True := eq_true (of_decide_eq_true (z0_));replace q5 := eq_true q5;have p7 : 0 ≤ (0 : Int) := (by omega);have q7 : 0 < a0.size := (by have : (0 : Int) < (a0.size : Int) := of_decide_eq_true (z0_); omega);have hx7 : ∀ h : 0 < a0.size, ((a0[0]'h).toNat : Int) = bt a0 0 := bt_at a0 0;clear p7;have qi7 : (0 < (a0.size : Int)) = True := eq_true (of_decide_eq_true (z0_));replace q7 := eq_true q7;go_enter Try.func93, Try.ntmps93;go_wp2;go_ret;exact ⟨z8_, z10_⟩
    ·(rw [if_neg c8] at H);have c8b0 : decide (122 < (bt a0 0)) = false := decide_eq_false c8;clear c8;obtain ⟨t301, A90, H⟩ := ob_ H;have A9 := am_ A90;clear A90;obtain rfl := Option.some.inj H;have p5 : 0 ≤ (0 : Int) := (by omega);have q5 : 0 < a0.size := (by have : (0 : Int) < (a0.size : Int) := of_decide_eq_true (z0_); omega);have hx5 : ∀ h : 0 < a0.size, ((a0[0]'h).toNat : Int) = bt a0 0 := bt_at a0 0;clear p5;have qi5 : (0 < (a0.size : Int)) = True := eq_true (of_decide_eq_true (z0_));replace q5 := eq_true q5;have p7 : 0 ≤ (0 : Int) := (by omega);have q7 : 0 < a0.size := (by have : (0 : Int) < (a0.size : Int) := of_decide_eq_true (z0_); omega);have hx7 : ∀ h : 0 < a0.size, ((a0[0]'h).toNat : Int) = bt a0 0 := bt_at a0 0;clear p7;have qi7 : (0 < (a0.size : Int)) = True := eq_true (of_decide_eq_true (z0_));replace q7 := eq_true q7;go_enter Try.func93, Try.ntmps93
     go_wp2_with (first | ((with_reducible refine gate_callee (f := 98) rfl ?_); refine goesL_ (some 22) rfl rfl Try.func98 (z13_) rfl #[.string a0] rfl (z1_) ?_; (with_reducible refine (X16.calls k a0 t301 _ A9.out).mono ?_); rintro e w' ⟨rfl, ⟨nd, rfl⟩⟩; refine ⟨_, rfl, ?_⟩))
     go_ret;exact ⟨z8_, z10_⟩

open Go.Proofs.YtnmdcmfhjhgheaaM
def X56.f (a0 : ByteArray) : Option Bool := if a0.size ≤ 9000000000000000000 then some (nameOk a0) else none
theorem X94 (s : ByteArray) (hs : s.size ≤ 9000000000000000000) : ∀ (d k : Nat) (i : Int), 0 ≤ i → (s.size : Int) - i = d → d < k → X16.l0 k s (s.size : Int) i = some (namesFrom s d i) := by
  intro d
  induction d with
  | zero =>
    intro k i h0 hd hk
    obtain ⟨k, rfl⟩ : ∃ m, k = m + 1 := ⟨k - 1, by omega⟩
    simp only [X16.l0]; rw [if_neg (by omega)]; rfl
  | succ d ih =>
    intro k i h0 hd hk
    obtain ⟨k, rfl⟩ : ∃ m, k = m + 1 := ⟨k - 1, by omega⟩
    have := ih k (i + 1) (by omega) (by omega) (by omega)
    simp only [X16.l0]
    rw [if_pos (by omega), if_pos h0, if_pos (by omega), w64 (x := i + 1) (by omega) (by omega), this]
    simp only [namesFrom]
    generalize bt s i = c
    have e : nameByte c = decide (97 ≤ c ∧ c ≤ 122 ∨ 48 ≤ c ∧ c ≤ 57) := by simp [nameByte]
    rw [e]
    by_cases h1 : c < 97 <;> by_cases h2 : c < 48 <;> by_cases h3 : c > 57 <;> by_cases h4 : c > 122 <;> simp only [h1, h2, h3, h4, if_true, if_false] <;> first | omega | (rw [decide_eq_true (by omega)]; simp) | (rw [decide_eq_false (by omega)]; simp)
theorem X56.same (s : ByteArray) (hs : s.size ≤ 9000000000000000000) : X73.f (s.size + 2) s = some (nameOk s) := by
  unfold X73.f X16.f nameOk
  by_cases h0 : s.size = 0
  · rw [if_pos (by omega)]; simp [h0]
  · rw [if_neg (by omega)]
    by_cases h1 : (s.size : Int) > 10
    · rw [if_pos h1]
      have : ¬ s.size ≤ 10 := by omega
      simp [this]
    · rw [if_neg h1, if_pos (by omega), X94 s hs s.size (s.size + 2) 0 (by omega) (by omega) (by omega)]
      have e1 : 1 ≤ s.size := by omega
      have e2 : s.size ≤ 10 := by omega
      simp only [e1, e2, decide_true, Bool.true_and, Option.bind_some]
      by_cases h2 : bt s 0 < 97
      · rw [if_pos h2]
        have : ¬ 97 ≤ bt s 0 := by omega
        simp [this]
      · rw [if_neg h2]
        have h2' : 97 ≤ bt s 0 := by omega
        by_cases h3 : bt s 0 > 122
        · rw [if_pos h3]
          have : ¬ bt s 0 ≤ 122 := by omega
          simp [this]
        · rw [if_neg h3]
          have h3' : bt s 0 ≤ 122 := by omega
          simp [h2', h3']
theorem X56.calls (a0 : ByteArray) (r : Bool) (w : World) (h : X56.f a0 = some r) :
    Calls Try.prog 93 #[.string a0] w fun e w' => e = .returned (.bool r) ∧ Drawn0 w w' := by
  unfold X56.f at h
  split at h
  · rename_i hs
    exact X73.calls (a0.size + 2) a0 r w (by rw [← h]; exact X56.same a0 hs)
  · exact absurd h (by simp)

def X49.f (a0 : Int) : Option (Bool) := (X37.f a0 0 15).bind fun t302 => (some t302)
set_option maxHeartbeats 8000000 in
set_option maxRecDepth 100000 in
theorem X49.calls (a0 : Int) (r : Bool) (w : World) (h : X49.f a0 = some r) :
  Calls Try.prog 94 #[.int .i64 a0] w fun e w' => e = .returned (.bool r) ∧ Drawn0 w w' := by
 unfold X49.f at h;have H := h;clear h
 obtain ⟨t302, A20, H⟩ := ob_ H
 have A2 := am_ A20
 clear A20
 obtain rfl := Option.some.inj H
 go_enter Try.func94, Try.ntmps94
 go_wp2_with (first | ((with_reducible refine gate_callee (f := 65) rfl ?_); refine goesL_ (some 4) rfl rfl Try.func65 (z13_) rfl #[.int .i64 a0, .int .i64 0, .int .i64 15] rfl (z1_) ?_; (with_reducible refine (X37.calls a0 0 15 t302 _ A2.out).mono ?_); rintro e w' ⟨rfl, ⟨nd, rfl⟩⟩; refine ⟨_, rfl, ?_⟩))
 go_ret
 exact ⟨z8_, z10_⟩

def X80.f (a0_0 : ByteArray) (a0_1 : Int) (a0_2 : Int) (a0_3 : Int) (a0_4 : Int) (a0_5 : Int) : Option (Bool) := (X56.f a0_0).bind fun t304 => (if t304 = true then ((X49.f a0_1).bind fun t305 => (if t305 = true then ((X49.f a0_2).bind fun t306 => (if t306 = true then (if a0_1 = a0_2 then (some false) else ((X37.f a0_3 1 10000).bind fun t307 => (if t307 = true then ((X37.f a0_4 20 1000).bind fun t308 => (if t308 = true then ((X37.f a0_5 0 5000).bind fun t309 => (some t309)) else (some false))) else (some false)))) else (some false))) else (some false))) else (some false))
set_option maxHeartbeats 8000000 in
set_option maxRecDepth 100000 in
theorem X80.calls (a0_0 : ByteArray) (a0_1 : Int) (a0_2 : Int) (a0_3 : Int) (a0_4 : Int) (a0_5 : Int) (r : Bool) (w : World) (h : X80.f a0_0 a0_1 a0_2 a0_3 a0_4 a0_5 = some r) :
  Calls Try.prog 81 #[.agg #[.string a0_0, .int .i64 a0_1, .int .i64 a0_2, .int .i64 a0_3, .int .i64 a0_4, .int .i64 a0_5]] w fun e w' => e = .returned (.bool r) ∧ Below w.heap.size w w' := by
 have hu73 := Try.underlying73
 have HB := am_ (Below.refl w.heap.size w)
 unfold X80.f at h;have H := h;clear h
 obtain ⟨t304, A20, H⟩ := ob_ H
 have A2 := am_ A20
 clear A20
 by_cases c3 : t304 = true
 ·subst c3;(rw [if_pos rfl] at H);obtain ⟨t305, A40, H⟩ := ob_ H;have A4 := am_ A40;clear A40;by_cases c5 : t305 = true
  ·subst c5;(rw [if_pos rfl] at H);obtain ⟨t306, A60, H⟩ := ob_ H;have A6 := am_ A60;clear A60;by_cases c7 : t306 = true
   ·subst c7;(rw [if_pos rfl] at H);by_cases c8 : a0_1 = a0_2
    ·(rw [if_pos c8] at H);have c8b0 : (a0_1 == a0_2) = true := beq_iff_eq.mpr c8;have c8b1 : (a0_1 != a0_2) = false := bne_eq_false_iff_eq.mpr c8;clear c8;obtain rfl := Option.some.inj H;go_enter Try.func81, Try.ntmps81
     go_wp2_with (first | ((with_reducible refine gate_dst (N := 1) rfl ?_); refine box_event ?hg (N := 1) ?hd (cs := #[.string a0_0, .int .i64 a0_1, .int .i64 a0_2, .int .i64 a0_3, .int .i64 a0_4, .int .i64 a0_5]) (t := 73) ?hr ?_; (case hd => rfl); (case hg => rfl); (case hr => first | (go_simp; done) | (go_simp; rfl)); intro gb303 hg w9 hbox hb; have BK303 := am_ (hbox); have GW303 := am_ ((z4_ : w.heap.size ≤ gb303)); have GE303 := am_ ((z4_ : w.heap.size ≤ gb303)); replace HB := am_ (below_step (z2_) hb); clear hb hbox hg; obtain ⟨hcz10_0,hcz10_1,hcz10_2,hcz10_3,hcz10_4,hcz10_5,hfz10_0,hfz10_1,hfz10_2,hfz10_3,hfz10_4,hfz10_5⟩ := bz6_ w9 BK303.out) | ((with_reducible refine gate_callee (f := 93) rfl ?_); refine goesL_ (some 5) rfl rfl Try.func93 (z13_) rfl #[.string a0_0] rfl (z1_) ?_; (with_reducible refine (X56.calls a0_0 true _ A2.out).mono ?_); rintro e w' ⟨rfl, ⟨nd, rfl⟩⟩; refine ⟨_, rfl, ?_⟩) | (go_at_call 94; (with_reducible refine (X49.calls a0_1 true _ A4.out).mono ?_); rintro e w' ⟨rfl, ⟨nd, rfl⟩⟩) | (go_at_call 94; (with_reducible refine (X49.calls a0_2 true _ A6.out).mono ?_); rintro e w' ⟨rfl, ⟨nd, rfl⟩⟩))
     go_ret;exact ⟨z6_, z85_⟩
    ·(rw [if_neg c8] at H);have c8b0 : (a0_1 == a0_2) = false := beq_eq_false_iff_ne.mpr c8;have c8b1 : (a0_1 != a0_2) = true := bne_iff_ne.mpr c8;obtain ⟨t307, A110, H⟩ := ob_ H;have A11 := am_ A110;clear A110;by_cases c12 : t307 = true
     ·subst c12;(rw [if_pos rfl] at H);obtain ⟨t308, A130, H⟩ := ob_ H;have A13 := am_ A130;clear A130;by_cases c14 : t308 = true
      ·subst c14;(rw [if_pos rfl] at H);obtain ⟨t309, A150, H⟩ := ob_ H;have A15 := am_ A150;clear A150;obtain rfl := Option.some.inj H;go_enter Try.func81, Try.ntmps81
       go_wp2_with (first | ((with_reducible refine gate_dst (N := 1) rfl ?_); refine box_event ?hg (N := 1) ?hd (cs := #[.string a0_0, .int .i64 a0_1, .int .i64 a0_2, .int .i64 a0_3, .int .i64 a0_4, .int .i64 a0_5]) (t := 73) ?hr ?_; (case hd => rfl); (case hg => rfl); (case hr => first | (go_simp; done) | (go_simp; rfl)); intro gb303 hg w16 hbox hb; have BK303 := am_ (hbox); have GW303 := am_ ((z4_ : w.heap.size ≤ gb303)); have GE303 := am_ ((z4_ : w.heap.size ≤ gb303)); replace HB := am_ (below_step (z2_) hb); clear hb hbox hg; obtain ⟨hcz17_0,hcz17_1,hcz17_2,hcz17_3,hcz17_4,hcz17_5,hfz17_0,hfz17_1,hfz17_2,hfz17_3,hfz17_4,hfz17_5⟩ := bz6_ w16 BK303.out) | ((with_reducible refine gate_callee (f := 93) rfl ?_); refine goesL_ (some 5) rfl rfl Try.func93 (z13_) rfl #[.string a0_0] rfl (z1_) ?_; (with_reducible refine (X56.calls a0_0 true _ A2.out).mono ?_); rintro e w' ⟨rfl, ⟨nd, rfl⟩⟩; refine ⟨_, rfl, ?_⟩) | (go_at_call 94; (with_reducible refine (X49.calls a0_1 true _ A4.out).mono ?_); rintro e w' ⟨rfl, ⟨nd, rfl⟩⟩) | (go_at_call 94; (with_reducible refine (X49.calls a0_2 true _ A6.out).mono ?_); rintro e w' ⟨rfl, ⟨nd, rfl⟩⟩) | (go_at_call 65; (with_reducible refine (X37.calls a0_3 1 10000 true _ A11.out).mono ?_); rintro e w' ⟨rfl, ⟨nd, rfl⟩⟩) | (go_at_call 65; (with_reducible refine (X37.calls a0_4 20 1000 true _ A13.out).mono ?_); rintro e w' ⟨rfl, ⟨nd, rfl⟩⟩) | (go_at_call 65; (with_reducible refine (X37.calls a0_5 0 5000 t309 _ A15.out).mono ?_); rintro e w' ⟨rfl, ⟨nd, rfl⟩⟩))
       go_ret;exact ⟨z6_, z85_⟩
      ·replace c14 := Bool.eq_false_iff.mpr c14;subst c14;(rw [if_neg (show ¬ (false = true) by decide)] at H);obtain rfl := Option.some.inj H;go_enter Try.func81, Try.ntmps81
       go_wp2_with (first | ((with_reducible refine gate_dst (N := 1) rfl ?_); refine box_event ?hg (N := 1) ?hd (cs := #[.string a0_0, .int .i64 a0_1, .int .i64 a0_2, .int .i64 a0_3, .int .i64 a0_4, .int .i64 a0_5]) (t := 73) ?hr ?_; (case hd => rfl); (case hg => rfl); (case hr => first | (go_simp; done) | (go_simp; rfl)); intro gb303 hg w18 hbox hb; have BK303 := am_ (hbox); have GW303 := am_ ((z4_ : w.heap.size ≤ gb303)); have GE303 := am_ ((z4_ : w.heap.size ≤ gb303)); replace HB := am_ (below_step (z2_) hb); clear hb hbox hg; obtain ⟨hcz19_0,hcz19_1,hcz19_2,hcz19_3,hcz19_4,hcz19_5,hfz19_0,hfz19_1,hfz19_2,hfz19_3,hfz19_4,hfz19_5⟩ := bz6_ w18 BK303.out) | ((with_reducible refine gate_callee (f := 93) rfl ?_); refine goesL_ (some 5) rfl rfl Try.func93 (z13_) rfl #[.string a0_0] rfl (z1_) ?_; (with_reducible refine (X56.calls a0_0 true _ A2.out).mono ?_); rintro e w' ⟨rfl, ⟨nd, rfl⟩⟩; refine ⟨_, rfl, ?_⟩) | (go_at_call 94; (with_reducible refine (X49.calls a0_1 true _ A4.out).mono ?_); rintro e w' ⟨rfl, ⟨nd, rfl⟩⟩) | (go_at_call 94; (with_reducible refine (X49.calls a0_2 true _ A6.out).mono ?_); rintro e w' ⟨rfl, ⟨nd, rfl⟩⟩) | (go_at_call 65; (with_reducible refine (X37.calls a0_3 1 10000 true _ A11.out).mono ?_); rintro e w' ⟨rfl, ⟨nd, rfl⟩⟩) | (go_at_call 65; (with_reducible refine (X37.calls a0_4 20 1000 false _ A13.out).mono ?_); rintro e w' ⟨rfl, ⟨nd, rfl⟩⟩))
       go_ret;exact ⟨z6_, z85_⟩
     ·replace c12 := Bool.eq_false_iff.mpr c12;subst c12;(rw [if_neg (show ¬ (false = true) by decide)] at H);obtain rfl := Option.some.inj H;go_enter Try.func81, Try.ntmps81
      go_wp2_with (first | ((with_reducible refine gate_dst (N := 1) rfl ?_); refine box_event ?hg (N := 1) ?hd (cs := #[.string a0_0, .int .i64 a0_1, .int .i64 a0_2, .int .i64 a0_3, .int .i64 a0_4, .int .i64 a0_5]) (t := 73) ?hr ?_; (case hd => rfl); (case hg => rfl); (case hr => first | (go_simp; done) | (go_simp; rfl)); intro gb303 hg w20 hbox hb; have BK303 := am_ (hbox); have GW303 := am_ ((z4_ : w.heap.size ≤ gb303)); have GE303 := am_ ((z4_ : w.heap.size ≤ gb303)); replace HB := am_ (below_step (z2_) hb); clear hb hbox hg; obtain ⟨hcz21_0,hcz21_1,hcz21_2,hcz21_3,hcz21_4,hcz21_5,hfz21_0,hfz21_1,hfz21_2,hfz21_3,hfz21_4,hfz21_5⟩ := bz6_ w20 BK303.out) | ((with_reducible refine gate_callee (f := 93) rfl ?_); refine goesL_ (some 5) rfl rfl Try.func93 (z13_) rfl #[.string a0_0] rfl (z1_) ?_; (with_reducible refine (X56.calls a0_0 true _ A2.out).mono ?_); rintro e w' ⟨rfl, ⟨nd, rfl⟩⟩; refine ⟨_, rfl, ?_⟩) | (go_at_call 94; (with_reducible refine (X49.calls a0_1 true _ A4.out).mono ?_); rintro e w' ⟨rfl, ⟨nd, rfl⟩⟩) | (go_at_call 94; (with_reducible refine (X49.calls a0_2 true _ A6.out).mono ?_); rintro e w' ⟨rfl, ⟨nd, rfl⟩⟩) | (go_at_call 65; (with_reducible refine (X37.calls a0_3 1 10000 false _ A11.out).mono ?_); rintro e w' ⟨rfl, ⟨nd, rfl⟩⟩))
      go_ret;exact ⟨z6_, z85_⟩
   ·replace c7 := Bool.eq_false_iff.mpr c7;subst c7;(rw [if_neg (show ¬ (false = true) by decide)] at H);obtain rfl := Option.some.inj H;go_enter Try.func81, Try.ntmps81
    go_wp2_with (first | ((with_reducible refine gate_dst (N := 1) rfl ?_); refine box_event ?hg (N := 1) ?hd (cs := #[.string a0_0, .int .i64 a0_1, .int .i64 a0_2, .int .i64 a0_3, .int .i64 a0_4, .int .i64 a0_5]) (t := 73) ?hr ?_; (case hd => rfl); (case hg => rfl); (case hr => first | (go_simp; done) | (go_simp; rfl)); intro gb303 hg w22 hbox hb; have BK303 := am_ (hbox); have GW303 := am_ ((z4_ : w.heap.size ≤ gb303)); have GE303 := am_ ((z4_ : w.heap.size ≤ gb303)); replace HB := am_ (below_step (z2_) hb); clear hb hbox hg; obtain ⟨hcz23_0,hcz23_1,hcz23_2,hcz23_3,hcz23_4,hcz23_5,hfz23_0,hfz23_1,hfz23_2,hfz23_3,hfz23_4,hfz23_5⟩ := bz6_ w22 BK303.out) | ((with_reducible refine gate_callee (f := 93) rfl ?_); refine goesL_ (some 5) rfl rfl Try.func93 (z13_) rfl #[.string a0_0] rfl (z1_) ?_; (with_reducible refine (X56.calls a0_0 true _ A2.out).mono ?_); rintro e w' ⟨rfl, ⟨nd, rfl⟩⟩; refine ⟨_, rfl, ?_⟩) | (go_at_call 94; (with_reducible refine (X49.calls a0_1 true _ A4.out).mono ?_); rintro e w' ⟨rfl, ⟨nd, rfl⟩⟩) | (go_at_call 94; (with_reducible refine (X49.calls a0_2 false _ A6.out).mono ?_); rintro e w' ⟨rfl, ⟨nd, rfl⟩⟩))
    go_ret;exact ⟨z6_, z85_⟩
  ·replace c5 := Bool.eq_false_iff.mpr c5;subst c5;(rw [if_neg (show ¬ (false = true) by decide)] at H);obtain rfl := Option.some.inj H;go_enter Try.func81, Try.ntmps81
   go_wp2_with (first | ((with_reducible refine gate_dst (N := 1) rfl ?_); refine box_event ?hg (N := 1) ?hd (cs := #[.string a0_0, .int .i64 a0_1, .int .i64 a0_2, .int .i64 a0_3, .int .i64 a0_4, .int .i64 a0_5]) (t := 73) ?hr ?_; (case hd => rfl); (case hg => rfl); (case hr => first | (go_simp; done) | (go_simp; rfl)); intro gb303 hg w24 hbox hb; have BK303 := am_ (hbox); have GW303 := am_ ((z4_ : w.heap.size ≤ gb303)); have GE303 := am_ ((z4_ : w.heap.size ≤ gb303)); replace HB := am_ (below_step (z2_) hb); clear hb hbox hg; obtain ⟨hcz25_0,hcz25_1,hcz25_2,hcz25_3,hcz25_4,hcz25_5,hfz25_0,hfz25_1,hfz25_2,hfz25_3,hfz25_4,hfz25_5⟩ := bz6_ w24 BK303.out) | ((with_reducible refine gate_callee (f := 93) rfl ?_); refine goesL_ (some 5) rfl rfl Try.func93 (z13_) rfl #[.string a0_0] rfl (z1_) ?_; (with_reducible refine (X56.calls a0_0 true _ A2.out).mono ?_); rintro e w' ⟨rfl, ⟨nd, rfl⟩⟩; refine ⟨_, rfl, ?_⟩) | (go_at_call 94; (with_reducible refine (X49.calls a0_1 false _ A4.out).mono ?_); rintro e w' ⟨rfl, ⟨nd, rfl⟩⟩))
   go_ret;exact ⟨z6_, z85_⟩
 ·replace c3 := Bool.eq_false_iff.mpr c3;subst c3;(rw [if_neg (show ¬ (false = true) by decide)] at H);obtain rfl := Option.some.inj H;go_enter Try.func81, Try.ntmps81
  go_wp2_with (first | ((with_reducible refine gate_dst (N := 1) rfl ?_); refine box_event ?hg (N := 1) ?hd (cs := #[.string a0_0, .int .i64 a0_1, .int .i64 a0_2, .int .i64 a0_3, .int .i64 a0_4, .int .i64 a0_5]) (t := 73) ?hr ?_; (case hd => rfl); (case hg => rfl); (case hr => first | (go_simp; done) | (go_simp; rfl)); intro gb303 hg w26 hbox hb; have BK303 := am_ (hbox); have GW303 := am_ ((z4_ : w.heap.size ≤ gb303)); have GE303 := am_ ((z4_ : w.heap.size ≤ gb303)); replace HB := am_ (below_step (z2_) hb); clear hb hbox hg; obtain ⟨hcz27_0,hcz27_1,hcz27_2,hcz27_3,hcz27_4,hcz27_5,hfz27_0,hfz27_1,hfz27_2,hfz27_3,hfz27_4,hfz27_5⟩ := bz6_ w26 BK303.out) | ((with_reducible refine gate_callee (f := 93) rfl ?_); refine goesL_ (some 5) rfl rfl Try.func93 (z13_) rfl #[.string a0_0] rfl (z1_) ?_; (with_reducible refine (X56.calls a0_0 false _ A2.out).mono ?_); rintro e w' ⟨rfl, ⟨nd, rfl⟩⟩; refine ⟨_, rfl, ?_⟩))
  go_ret;exact ⟨z6_, z85_⟩

open Go.Proofs.YtnmdcmfhjhgheaaM
def X52.f (a0_0 : ByteArray) (a0_1 a0_2 a0_3 a0_4 a0_5 : Int) : Option Bool := if a0_0.size ≤ 9000000000000000000 then some (pipeOk a0_0 a0_1 a0_2 a0_3 a0_4 a0_5) else none
theorem X52.same (s : ByteArray) (f t l d x : Int) (hs : s.size ≤ 9000000000000000000) : X80.f s f t l d x = some (pipeOk s f t l d x) := by
  unfold X80.f X56.f X49.f pipeOk
  rw [if_pos hs]
  simp only [X37.f, Option.bind_some]
  cases nameOk s
  · simp
  · by_cases c1 : 0 ≤ f ∧ f ≤ 15
    · by_cases c2 : 0 ≤ t ∧ t ≤ 15
      · simp only [decide_eq_true c1, decide_eq_true c2, if_true, Bool.true_and]
        by_cases c3 : f = t
        · simp [c3]
        · by_cases c4 : 1 ≤ l ∧ l ≤ 10000
          · by_cases c5 : 20 ≤ d ∧ d ≤ 1000
            · simp [c3, c4, c5]
            · simp [c3, c4, decide_eq_false c5]
          · simp [c3, decide_eq_false c4]
      · simp only [decide_eq_true c1, decide_eq_false c2]; simp
    · simp only [decide_eq_false c1]; simp
theorem X52.calls (a0_0 : ByteArray) (a0_1 : Int) (a0_2 : Int) (a0_3 : Int) (a0_4 : Int) (a0_5 : Int) (r : Bool) (w : World) (h : X52.f a0_0 a0_1 a0_2 a0_3 a0_4 a0_5 = some r) :
    Calls Try.prog 81 #[.agg #[.string a0_0, .int .i64 a0_1, .int .i64 a0_2, .int .i64 a0_3, .int .i64 a0_4, .int .i64 a0_5]] w fun e w' => e = .returned (.bool r) ∧ Below w.heap.size w w' := by
  unfold X52.f at h
  split at h
  · rename_i hs
    exact X80.calls a0_0 a0_1 a0_2 a0_3 a0_4 a0_5 r w (by rw [← h]; exact X52.same a0_0 a0_1 a0_2 a0_3 a0_4 a0_5 hs)
  · exact absurd h (by simp)

def X68.f (l0_0 : List Int) (l0_1 : List (S73)) (a1 : Int) : Option (Bool) := (X37.f a1 0 (wrap64 ((l0_0.length : Int) - 1))).bind fun t311 => (some t311)
set_option maxHeartbeats 8000000 in
set_option maxRecDepth 100000 in
theorem X68.calls (A0_0 : Option Addr) (c0_0 : Nat) (l0_0 : List Int) (A0_1 : Option Addr) (c0_1 : Nat) (l0_1 : List (S73)) (a1 : Int) (r : Bool) (w : World) (hr0_0 : Kd.C (Kd.int .i64) w A0_0 l0_0.length l0_0) (hc0_0 : l0_0.length ≤ c0_0) (hr0_1 : Kd.C k73 w A0_1 l0_1.length l0_1) (hc0_1 : l0_1.length ≤ c0_1) (h : X68.f l0_0 l0_1 a1 = some r) :
  Calls Try.prog 56 #[.agg #[.slice A0_0 l0_0.length c0_0, .slice A0_1 l0_1.length c0_1], .int .i64 a1] w fun e w' => e = .returned (.bool r) ∧ Below w.heap.size w w' := by
 have hu31 := Try.underlying31
 have HR0_0 := am_ hr0_0
 have HC0_0 := am_ hc0_0
 clear hr0_0 hc0_0
 have HR0_1 := am_ hr0_1
 have HC0_1 := am_ hc0_1
 clear hr0_1 hc0_1
 have HB := am_ (Below.refl w.heap.size w)
 unfold X68.f at h;have H := h;clear h
 obtain ⟨t311, A30, H⟩ := ob_ H
 have A3 := am_ A30
 clear A30
 obtain rfl := Option.some.inj H
 go_enter Try.func56, Try.ntmps56
 go_wp2_with (first | ((with_reducible refine gate_dst (N := 2) rfl ?_); refine box_event ?hg (N := 2) ?hd (cs := #[.slice A0_0 l0_0.length c0_0, .slice A0_1 l0_1.length c0_1]) (t := 31) ?hr ?_; (case hd => rfl); (case hg => rfl); (case hr => first | (go_simp; done) | (go_simp; rfl)); intro gb310 hg w4 hbox hb; have BK310 := am_ (hbox); have GW310 := am_ ((z4_ : w.heap.size ≤ gb310)); have GE310 := am_ ((z4_ : w.heap.size ≤ gb310)); replace HB := am_ (below_step (z2_) hb); clear hb hbox hg; obtain ⟨hcz5_0,hcz5_1,hfz5_0,hfz5_1⟩ := bz2_ w4 BK310.out) | ((with_reducible refine gate_callee (f := 65) rfl ?_); refine goesL_ (some 10) rfl rfl Try.func65 (z13_) rfl #[.int .i64 a1, .int .i64 0, .int .i64 (wrap64 ((l0_0.length : Int) - 1))] rfl (z1_) ?_; (with_reducible refine (X37.calls a1 0 (wrap64 ((l0_0.length : Int) - 1)) t311 _ A3.out).mono ?_); rintro e w' ⟨rfl, ⟨nd, rfl⟩⟩; refine ⟨_, rfl, ?_⟩))
 go_ret
 exact ⟨z6_, by repeat (first | (with_reducible first | exact HB.out|apply wA|apply wN|apply wD |refine wS ?_ GE310.out) | exact HB.out)⟩

open Go.Proofs.YtnmdcmfhjhgheaaM
def X26.f (l0_0 : List Int) (l0_1 : List S73) (a1 : Int) : Option Bool := if l0_0.length ≤ 4611686018427387904 then some (decide (0 ≤ a1 ∧ a1 ≤ (l0_0.length : Int) - 1)) else none
theorem X26.same (ns : List Int) (ps : List S73) (x : Int) (h : ns.length ≤ 4611686018427387904) : X68.f ns ps x = some (decide (0 ≤ x ∧ x ≤ (ns.length : Int) - 1)) := by
  unfold X68.f X37.f
  rw [w64 (x := (ns.length : Int) - 1) (by omega) (by omega)]; rfl
theorem X26.calls (A0_0 : Option Addr) (c0_0 : Nat) (l0_0 : List Int) (A0_1 : Option Addr) (c0_1 : Nat) (l0_1 : List (S73)) (a1 : Int) (r : Bool) (w : World) (hr0_0 : Kd.C (Kd.int .i64) w A0_0 l0_0.length l0_0) (hc0_0 : l0_0.length ≤ c0_0) (hr0_1 : Kd.C k73 w A0_1 l0_1.length l0_1) (hc0_1 : l0_1.length ≤ c0_1) (h : X26.f l0_0 l0_1 a1 = some r) :
    Calls Try.prog 56 #[.agg #[.slice A0_0 l0_0.length c0_0, .slice A0_1 l0_1.length c0_1], .int .i64 a1] w fun e w' => e = .returned (.bool r) ∧ Below w.heap.size w w' := by
  unfold X26.f at h
  split at h
  · rename_i hs
    exact X68.calls A0_0 c0_0 l0_0 A0_1 c0_1 l0_1 a1 r w hr0_0 hc0_0 hr0_1 hc0_1 (by rw [← h]; exact X26.same l0_0 l0_1 a1 hs)
  · exact absurd h (by simp)


def X43.f (l0_0 : List Int) (l0_1 : List (S73)) (a1_0 : ByteArray) (a1_1 : Int) (a1_2 : Int) (a1_3 : Int) (a1_4 : Int) (a1_5 : Int) : Option (Bool) := (X26.f l0_0 l0_1 a1_1).bind fun t314 => (if t314 = true then ((X26.f l0_0 l0_1 a1_2).bind fun t315 => (some t315)) else (some false))
set_option maxHeartbeats 8000000 in
set_option maxRecDepth 100000 in
theorem X43.calls (A0_0 : Option Addr) (c0_0 : Nat) (l0_0 : List Int) (A0_1 : Option Addr) (c0_1 : Nat) (l0_1 : List (S73)) (a1_0 : ByteArray) (a1_1 : Int) (a1_2 : Int) (a1_3 : Int) (a1_4 : Int) (a1_5 : Int) (r : Bool) (w : World) (hr0_0 : Kd.C (Kd.int .i64) w A0_0 l0_0.length l0_0) (hc0_0 : l0_0.length ≤ c0_0) (hr0_1 : Kd.C k73 w A0_1 l0_1.length l0_1) (hc0_1 : l0_1.length ≤ c0_1) (h : X43.f l0_0 l0_1 a1_0 a1_1 a1_2 a1_3 a1_4 a1_5 = some r) :
  Calls Try.prog 82 #[.agg #[.slice A0_0 l0_0.length c0_0, .slice A0_1 l0_1.length c0_1], .agg #[.string a1_0, .int .i64 a1_1, .int .i64 a1_2, .int .i64 a1_3, .int .i64 a1_4, .int .i64 a1_5]] w fun e w' => e = .returned (.bool r) ∧ Below w.heap.size w w' := by
 have hu31 := Try.underlying31
 have hu73 := Try.underlying73
 have HR0_0 := am_ hr0_0
 have HC0_0 := am_ hc0_0
 clear hr0_0 hc0_0
 have HR0_1 := am_ hr0_1
 have HC0_1 := am_ hc0_1
 clear hr0_1 hc0_1
 have HB := am_ (Below.refl w.heap.size w)
 unfold X43.f at h;have H := h;clear h
 obtain ⟨t314, A30, H⟩ := ob_ H
 have A3 := am_ A30
 clear A30
 by_cases c4 : t314 = true
 ·subst c4;(rw [if_pos rfl] at H);obtain ⟨t315, A50, H⟩ := ob_ H;have A5 := am_ A50;clear A50;obtain rfl := Option.some.inj H;go_enter Try.func82, Try.ntmps82
  go_wp2_with (first | ((with_reducible refine gate_dst (N := 2) rfl ?_); refine box_event ?hg (N := 2) ?hd (cs := #[.slice A0_0 l0_0.length c0_0, .slice A0_1 l0_1.length c0_1]) (t := 31) ?hr ?_; (case hd => rfl); (case hg => rfl); (case hr => first | (go_simp; done) | (go_simp; rfl)); intro gb312 hg w6 hbox hb; have BK312 := am_ (hbox); have GW312 := am_ ((z4_ : w.heap.size ≤ gb312)); have GE312 := am_ ((z4_ : w.heap.size ≤ gb312)); replace HB := am_ (below_step (z2_) hb); clear hb hbox hg) | ((with_reducible refine gate_dst (N := 3) rfl ?_); refine box_event ?hg (N := 3) ?hd (cs := #[.string a1_0, .int .i64 a1_1, .int .i64 a1_2, .int .i64 a1_3, .int .i64 a1_4, .int .i64 a1_5]) (t := 73) ?hr ?_; (case hd => rfl); (case hg => rfl); (case hr => first | (go_simp; done) | (go_simp; rfl)); intro gb313 hg w7 hbox hb; have BK313 := am_ (hbox); have GW313 := am_ ((z126_ : w.heap.size ≤ gb313)); have GE313 := am_ ((z126_ : w.heap.size ≤ gb313)); replace HB := am_ (below_step (z104_) hb); have NB312_313 := am_ ((z152_ : gb312 ≠ gb313)); have NB313_312 := am_ ((z153_ : gb313 ≠ gb312)); replace BK312 := am_ (blk_below (g := gb312) (o := .cells #[.slice A0_0 l0_0.length c0_0, .slice A0_1 l0_1.length c0_1] 31 (0, 0)) (z80_) hb); clear hb hbox hg; have hnb8 := NB312_313.out; have hnc8 := NB313_312.out; obtain ⟨hcz9_0,hcz9_1,hfz9_0,hfz9_1⟩ := bz2_ w7 BK312.out; obtain ⟨hcz10_0,hcz10_1,hcz10_2,hcz10_3,hcz10_4,hcz10_5,hfz10_0,hfz10_1,hfz10_2,hfz10_3,hfz10_4,hfz10_5⟩ := bz6_ w7 BK313.out) | ((with_reducible refine gate_callee (f := 56) rfl ?_); refine goesL_ (some 8) rfl rfl Try.func56 (z13_) rfl #[.agg #[.slice A0_0 l0_0.length c0_0, .slice A0_1 l0_1.length c0_1], .int .i64 a1_1] rfl (z1_) ?_; (with_reducible refine (X26.calls _ _ l0_0 _ _ l0_1 a1_1 true _ ?side1 ?side2 ?side3 ?side4 A3.out).mono ?_); (case side1 => exact z217_); (case side2 => exact HC0_0.out); (case side3 => exact z219_); (case side4 => exact HC0_1.out); rintro e w11 ⟨rfl, hb⟩; refine ⟨_, rfl, ?_⟩; replace BK312 := am_ (blk_below (g := gb312) (o := .cells #[.slice A0_0 l0_0.length c0_0, .slice A0_1 l0_1.length c0_1] 31 (0, 0)) (z80_) hb); replace BK313 := am_ (blk_below (g := gb313) (o := .cells #[.string a1_0, .int .i64 a1_1, .int .i64 a1_2, .int .i64 a1_3, .int .i64 a1_4, .int .i64 a1_5] 73 (0, 0)) (z202_) hb); replace HB := am_ (below_step (z106_) hb); (try clear hb); obtain ⟨hcz12_0,hcz12_1,hfz12_0,hfz12_1⟩ := bz2_ w11 BK312.out; obtain ⟨hcz13_0,hcz13_1,hcz13_2,hcz13_3,hcz13_4,hcz13_5,hfz13_0,hfz13_1,hfz13_2,hfz13_3,hfz13_4,hfz13_5⟩ := bz6_ w11 BK313.out) | (go_at_call 56; (with_reducible refine (X26.calls _ _ l0_0 _ _ l0_1 a1_2 t315 _ ?side1 ?side2 ?side3 ?side4 A5.out).mono ?_); (case side1 => exact z217_); (case side2 => exact HC0_0.out); (case side3 => exact z219_); (case side4 => exact HC0_1.out); rintro e w14 ⟨rfl, hb⟩; replace BK312 := am_ (blk_below (g := gb312) (o := .cells #[.slice A0_0 l0_0.length c0_0, .slice A0_1 l0_1.length c0_1] 31 (0, 0)) (z80_) hb); replace BK313 := am_ (blk_below (g := gb313) (o := .cells #[.string a1_0, .int .i64 a1_1, .int .i64 a1_2, .int .i64 a1_3, .int .i64 a1_4, .int .i64 a1_5] 73 (0, 0)) (z202_) hb); replace HB := am_ (below_step (z106_) hb); (try clear hb); (try clear hi)))
  go_ret;exact ⟨z6_, z106_⟩
 ·replace c4 := Bool.eq_false_iff.mpr c4;subst c4;(rw [if_neg (show ¬ (false = true) by decide)] at H);obtain rfl := Option.some.inj H;go_enter Try.func82, Try.ntmps82
  go_wp2_with (first | ((with_reducible refine gate_dst (N := 2) rfl ?_); refine box_event ?hg (N := 2) ?hd (cs := #[.slice A0_0 l0_0.length c0_0, .slice A0_1 l0_1.length c0_1]) (t := 31) ?hr ?_; (case hd => rfl); (case hg => rfl); (case hr => first | (go_simp; done) | (go_simp; rfl)); intro gb312 hg w15 hbox hb; have BK312 := am_ (hbox); have GW312 := am_ ((z4_ : w.heap.size ≤ gb312)); have GE312 := am_ ((z4_ : w.heap.size ≤ gb312)); replace HB := am_ (below_step (z2_) hb); clear hb hbox hg) | ((with_reducible refine gate_dst (N := 3) rfl ?_); refine box_event ?hg (N := 3) ?hd (cs := #[.string a1_0, .int .i64 a1_1, .int .i64 a1_2, .int .i64 a1_3, .int .i64 a1_4, .int .i64 a1_5]) (t := 73) ?hr ?_; (case hd => rfl); (case hg => rfl); (case hr => first | (go_simp; done) | (go_simp; rfl)); intro gb313 hg w16 hbox hb; have BK313 := am_ (hbox); have GW313 := am_ ((z126_ : w.heap.size ≤ gb313)); have GE313 := am_ ((z126_ : w.heap.size ≤ gb313)); replace HB := am_ (below_step (z104_) hb); have NB312_313 := am_ ((z152_ : gb312 ≠ gb313)); have NB313_312 := am_ ((z153_ : gb313 ≠ gb312)); replace BK312 := am_ (blk_below (g := gb312) (o := .cells #[.slice A0_0 l0_0.length c0_0, .slice A0_1 l0_1.length c0_1] 31 (0, 0)) (z80_) hb); clear hb hbox hg; have hnb17 := NB312_313.out; have hnc17 := NB313_312.out; obtain ⟨hcz18_0,hcz18_1,hfz18_0,hfz18_1⟩ := bz2_ w16 BK312.out; obtain ⟨hcz19_0,hcz19_1,hcz19_2,hcz19_3,hcz19_4,hcz19_5,hfz19_0,hfz19_1,hfz19_2,hfz19_3,hfz19_4,hfz19_5⟩ := bz6_ w16 BK313.out) | ((with_reducible refine gate_callee (f := 56) rfl ?_); refine goesL_ (some 8) rfl rfl Try.func56 (z13_) rfl #[.agg #[.slice A0_0 l0_0.length c0_0, .slice A0_1 l0_1.length c0_1], .int .i64 a1_1] rfl (z1_) ?_; (with_reducible refine (X26.calls _ _ l0_0 _ _ l0_1 a1_1 false _ ?side1 ?side2 ?side3 ?side4 A3.out).mono ?_); (case side1 => exact z217_); (case side2 => exact HC0_0.out); (case side3 => exact z219_); (case side4 => exact HC0_1.out); rintro e w20 ⟨rfl, hb⟩; refine ⟨_, rfl, ?_⟩; replace BK312 := am_ (blk_below (g := gb312) (o := .cells #[.slice A0_0 l0_0.length c0_0, .slice A0_1 l0_1.length c0_1] 31 (0, 0)) (z80_) hb); replace BK313 := am_ (blk_below (g := gb313) (o := .cells #[.string a1_0, .int .i64 a1_1, .int .i64 a1_2, .int .i64 a1_3, .int .i64 a1_4, .int .i64 a1_5] 73 (0, 0)) (z202_) hb); replace HB := am_ (below_step (z106_) hb); (try clear hb); (try clear hi)))
  go_ret;exact ⟨z6_, z106_⟩

end Go.Proofs.Ytnmdcmfhjhgheaa.PFnExactWorstNode
