-- Printed by a program of this session (wip/hprint.sh: the kit's print with hand-proved contracts put in); not by print.sh itself.
import Derived.Test.YtnmdcmfhjhgheaaPFnExactWorstNodex0
namespace Go.Proofs.Ytnmdcmfhjhgheaa.PFnExactWorstNode
open Go.RowKit Go.Proofs.YtnmdcmfhjhgheaaW.PrintWords Go.Proofs.YtnmdcmfhjhgheaaW.PrintLast Go.Proofs.YtnmdcmfhjhgheaaW.PrintMore Go.Proofs.YtnmdcmfhjhgheaaM
attribute [local go_sem] max2_int min2_int max_two min_two max_three min_three max_four min_four   -- for this text's walks alone
set_option linter.unusedVariables false
set_option linter.unusedSimpArgs false

def X74.f (l0 : List Int) (a1 : Int) : Option (Int) := if (wrap64 (a1 - (l0.length : Int))) < 0 then (some (-1)) else (some (wrap64 (a1 - (l0.length : Int))))
set_option maxHeartbeats 8000000 in
set_option maxRecDepth 100000 in
theorem X74.calls (A0 : Option Addr) (c0 : Nat) (l0 : List Int) (a1 : Int) (r : Int) (w : World) (hr0 : Kd.C (Kd.int .i64) w A0 l0.length l0) (hc0 : l0.length ≤ c0) (h : X74.f l0 a1 = some r) :
  Calls Try.prog 26 #[.slice A0 l0.length c0, .int .i64 a1] w fun e w' => e = .returned (.int .i64 r) ∧ Drawn0 w w' := by
 have HR0 := am_ hr0
 have HC0 := am_ hc0
 clear hr0 hc0
 unfold X74.f at h;have H := h;clear h
 by_cases c3 : (wrap64 (a1 - (l0.length : Int))) < 0
 ·(rw [if_pos c3] at H);have c3b0 := decide_eq_true c3;clear c3;obtain rfl := Option.some.inj H;go_enter Try.func26, Try.ntmps26;go_wp2;go_ret;exact ⟨z8_, z10_⟩
 ·(rw [if_neg c3] at H);have c3b0 := decide_eq_false c3;clear c3;obtain rfl := Option.some.inj H;go_enter Try.func26, Try.ntmps26;go_wp2;go_ret;exact ⟨z8_, z10_⟩

def X81.f (a0_0 : ByteArray) (a0_1 : Int) (a0_2 : Int) (a0_3 : Int) (a0_4 : Int) (a0_5 : Int) (a1 : Int) : Option (Int) := if (wrap64 (a1 - (a0_0.size : Int))) < 0 then (some (-1)) else (some (wrap64 (a1 - (a0_0.size : Int))))
set_option maxHeartbeats 8000000 in
set_option maxRecDepth 100000 in
theorem X81.calls (a0_0 : ByteArray) (a0_1 : Int) (a0_2 : Int) (a0_3 : Int) (a0_4 : Int) (a0_5 : Int) (a1 : Int) (r : Int) (w : World) (h : X81.f a0_0 a0_1 a0_2 a0_3 a0_4 a0_5 a1 = some r) :
  Calls Try.prog 48 #[.agg #[.string a0_0, .int .i64 a0_1, .int .i64 a0_2, .int .i64 a0_3, .int .i64 a0_4, .int .i64 a0_5], .int .i64 a1] w fun e w' => e = .returned (.int .i64 r) ∧ Below w.heap.size w w' := by
 have hu68 := Try.underlying68
 have HB := am_ (Below.refl w.heap.size w)
 unfold X81.f at h;have H := h;clear h
 by_cases c3 : (wrap64 (a1 - (a0_0.size : Int))) < 0
 ·(rw [if_pos c3] at H);have c3b0 := decide_eq_true c3;clear c3;obtain rfl := Option.some.inj H;go_enter Try.func48, Try.ntmps48
  go_wp2_with (first | ((with_reducible refine gate_dst (N := 2) rfl ?_); refine box_event ?hg (N := 2) ?hd (cs := #[.string a0_0, .int .i64 a0_1, .int .i64 a0_2, .int .i64 a0_3, .int .i64 a0_4, .int .i64 a0_5]) (t := 68) ?hr ?_; (case hd => rfl); (case hg => rfl); (case hr => first | (go_simp; done) | (go_simp; rfl)); intro gb101 hg w4 hbox hb; have BK101 := am_ (hbox); have GW101 := am_ ((z4_ : w.heap.size ≤ gb101)); have GE101 := am_ ((z4_ : w.heap.size ≤ gb101)); replace HB := am_ (below_step (z2_) hb); clear hb hbox hg; obtain ⟨hcz5_0,hcz5_1,hcz5_2,hcz5_3,hcz5_4,hcz5_5,hfz5_0,hfz5_1,hfz5_2,hfz5_3,hfz5_4,hfz5_5⟩ := bz6_ w4 BK101.out))
  go_ret;exact ⟨z6_, z206_⟩
 ·(rw [if_neg c3] at H);have c3b0 := decide_eq_false c3;clear c3;obtain rfl := Option.some.inj H;go_enter Try.func48, Try.ntmps48
  go_wp2_with (first | ((with_reducible refine gate_dst (N := 2) rfl ?_); refine box_event ?hg (N := 2) ?hd (cs := #[.string a0_0, .int .i64 a0_1, .int .i64 a0_2, .int .i64 a0_3, .int .i64 a0_4, .int .i64 a0_5]) (t := 68) ?hr ?_; (case hd => rfl); (case hg => rfl); (case hr => first | (go_simp; done) | (go_simp; rfl)); intro gb101 hg w6 hbox hb; have BK101 := am_ (hbox); have GW101 := am_ ((z4_ : w.heap.size ≤ gb101)); have GE101 := am_ ((z4_ : w.heap.size ≤ gb101)); replace HB := am_ (below_step (z2_) hb); clear hb hbox hg; obtain ⟨hcz7_0,hcz7_1,hcz7_2,hcz7_3,hcz7_4,hcz7_5,hfz7_0,hfz7_1,hfz7_2,hfz7_3,hfz7_4,hfz7_5⟩ := bz6_ w6 BK101.out))
  go_ret;exact ⟨z6_, z206_⟩

def X33.l0 : Nat → List (S68) → Int → Int → Option (Int)
 | 0, _, _, _ => none
 | k + 1, x0, x1, x5 => if x5 < (x0.length : Int) then (if 0 ≤ x5 then ((X81.f (X30 x0 x5).f0 (X30 x0 x5).f1 (X30 x0 x5).f2 (X30 x0 x5).f3 (X30 x0 x5).f4 (X30 x0 x5).f5 x1).bind fun t103 => (if t103 < 0 then (some (-1)) else (X33.l0 k x0 t103 (wrap64 (x5 + 1))))) else (none)) else (some x1)
def X33.f (k : Nat) (l0 : List (S68)) (a1 : Int) : Option (Int) := if (wrap64 (a1 - (l0.length : Int))) < 0 then (some (-1)) else (X33.l0 k l0 (wrap64 (a1 - (l0.length : Int))) 0)
theorem X33.mono_l : ∀ k, (∀ y0 y1 y2, LeO (X33.l0 k y0 y1 y2) (X33.l0 (k + 1) y0 y1 y2))
 | 0 => fun _ _ _ r h => by simp [X33.l0] at h
 | k + 1 => by
  have ih0 := X33.mono_l k
  ·intro y0 y1 y2
   unfold X33.l0
   exact z244_
theorem X33.mono : ∀ a0 a1 k, LeO (X33.f k a0 a1) (X33.f (k + 1) a0 a1) := by
 intro a0 a1 k
 have ih0 := X33.mono_l k
 unfold X33.f
 exact z244_
set_option maxHeartbeats 8000000 in
set_option maxRecDepth 100000 in
theorem X33.calls (k : Nat) (A0 : Option Addr) (c0 : Nat) (l0 : List (S68)) (a1 : Int) (r : Int) (w : World) (hr0 : Kd.C k68 w A0 l0.length l0) (hc0 : l0.length ≤ c0) (h : X33.f k l0 a1 = some r) :
  Calls Try.prog 27 #[.slice A0 l0.length c0, .int .i64 a1] w fun e w' => e = .returned (.int .i64 r) ∧ Below w.heap.size w w' := by
 have hu68 := Try.underlying68
 have HR0 := am_ hr0
 have HC0 := am_ hc0
 clear hr0 hc0
 have HB := am_ (Below.refl w.heap.size w)
 unfold X33.f at h;have H := h;clear h
 by_cases c3 : (wrap64 (a1 - (l0.length : Int))) < 0
 ·(rw [if_pos c3] at H);have c3b0 := decide_eq_true c3;clear c3;obtain rfl := Option.some.inj H;go_enter Try.func27, Try.ntmps27;go_wp2;go_ret;exact ⟨z6_, z2_⟩
 ·(rw [if_neg c3] at H);have c3b0 := decide_eq_false c3;clear c3;have H' := am_ H;clear H;go_enter Try.func27, Try.ntmps27;go_wp2
  go_loopg [1, 5] k (fun kq v1 v5 w' => ∃ (x1_1 : Int) (x5_1 : Int), v1 = .int .i64 x1_1 ∧ v5 = .int .i64 x5_1 ∧ Aside0 (X33.l0 kq l0 x1_1 x5_1 = some r) ∧ Aside0 (kq ≤ k) ∧ Aside0 (Below w.heap.size w w'))
  case atStart => exact ⟨(wrap64 (a1 - (l0.length : Int))), (0), (z8_), (z8_), H', ⟨Nat.le_refl _⟩, ⟨z2_⟩⟩
  case round =>
   clear H';(try clear c3);(try clear c3b0);obtain ⟨x1_1, x5_1, rfl, rfl, HA, HK1, HB⟩ := hrel
   cases gk with
   | zero => exact absurd HA.out (by simp [X33.l0])
   | succ k1 =>
    have H := HA.out;clear HA;(simp only [X33.l0] at H);by_cases c4 : x5_1 < (l0.length : Int)
    ·(rw [if_pos c4] at H);have c4b0 := decide_eq_true c4;clear c4;obtain ⟨c5b0,H⟩ := pd_ H;obtain ⟨t103, A60, H⟩ := ob_ H;have A6 := am_ A60;clear A60;by_cases c7 : t103 < 0
     ·(rw [if_pos c7] at H);have c7b0 := decide_eq_true c7;clear c7;obtain rfl := Option.some.inj H;obtain ⟨p102,q102,ad102,e102,hx102_0,hx102_1,hx102_2,hx102_3,hx102_4,hx102_5⟩ := aq_ (X92 (Kd.C_below HR0.out HB.out) x5_1) z0_ z0_;cases e102
      go_wp2_with (first | ((with_reducible refine gate_callee (f := 48) rfl ?_); refine goesL_ (some 23) rfl rfl Try.func48 (z13_) rfl #[.agg #[.string (X30 l0 x5_1).f0, .int .i64 (X30 l0 x5_1).f1, .int .i64 (X30 l0 x5_1).f2, .int .i64 (X30 l0 x5_1).f3, .int .i64 (X30 l0 x5_1).f4, .int .i64 (X30 l0 x5_1).f5], .int .i64 x1_1] rfl (z1_) ?_; (with_reducible refine (X81.calls (X30 l0 x5_1).f0 (X30 l0 x5_1).f1 (X30 l0 x5_1).f2 (X30 l0 x5_1).f3 (X30 l0 x5_1).f4 (X30 l0 x5_1).f5 x1_1 t103 _ A6.out).mono ?_); rintro e w8 ⟨rfl, hb⟩; refine ⟨_, rfl, ?_⟩; replace HB := am_ (below_step (z2_) hb); (try clear hb); (try clear hi)))
      go_ret;exact ⟨z6_, z2_⟩
     ·(rw [if_neg c7] at H);have c7b0 := decide_eq_false c7;clear c7;have H' := am_ H;clear H;obtain ⟨p102,q102,ad102,e102,hx102_0,hx102_1,hx102_2,hx102_3,hx102_4,hx102_5⟩ := aq_ (X92 (Kd.C_below HR0.out HB.out) x5_1) z0_ z0_;cases e102
      go_wp2_with (first | ((with_reducible refine gate_callee (f := 48) rfl ?_); refine goesL_ (some 23) rfl rfl Try.func48 (z13_) rfl #[.agg #[.string (X30 l0 x5_1).f0, .int .i64 (X30 l0 x5_1).f1, .int .i64 (X30 l0 x5_1).f2, .int .i64 (X30 l0 x5_1).f3, .int .i64 (X30 l0 x5_1).f4, .int .i64 (X30 l0 x5_1).f5], .int .i64 x1_1] rfl (z1_) ?_; (with_reducible refine (X81.calls (X30 l0 x5_1).f0 (X30 l0 x5_1).f1 (X30 l0 x5_1).f2 (X30 l0 x5_1).f3 (X30 l0 x5_1).f4 (X30 l0 x5_1).f5 x1_1 t103 _ A6.out).mono ?_); rintro e w9 ⟨rfl, hb⟩; refine ⟨_, rfl, ?_⟩; replace HB := am_ (below_step (z2_) hb); (try clear hb); (try clear hi)))
      go_roundg k1
      case measure => have := HK1.out; omega
      case rel => exact ⟨(t103), (wrap64 (x5_1 + 1)), (z8_), (z8_), H', ⟨z111_⟩, ⟨z2_⟩⟩
    ·(rw [if_neg c4] at H);have c4b0 := decide_eq_false c4;clear c4;obtain rfl := Option.some.inj H;go_wp2;go_ret;exact ⟨z6_, z2_⟩

open Go.Proofs.YtnmdcmfhjhgheaaM
/-- How much a list of pipes takes beside its own length. -/
def sizeP : List S68 → Int
  | [] => 0
  | p :: l => (p.f0.size : Int) + sizeP l
theorem sizeP_nonneg (l : List S68) : 0 ≤ sizeP l := by
  induction l with
  | nil => exact Int.le_refl _
  | cons x l ih => simp only [sizeP]; omega
theorem sizeP_drop (l : List S68) (i : Nat) (h : i < l.length) : sizeP (l.drop i) = ((l.getD i z68).f0.size : Int) + sizeP (l.drop (i + 1)) := by
  rw [List.drop_eq_getElem_cons h]
  simp only [sizeP, List.getD_eq_getElem?_getD, List.getElem?_eq_getElem h, Option.getD_some]
theorem sizeP_elem {l : List S68} {m : Int} (h : sizeP l ≤ m) : ∀ p ∈ l, (p.f0.size : Int) ≤ m := by
  induction l with
  | nil => intro x hx; cases hx
  | cons y l ih =>
    simp only [sizeP] at h
    have := sizeP_nonneg l
    intro x hx
    rcases List.mem_cons.mp hx with e | e
    · rw [e]; omega
    · exact ih (by omega) x e
theorem rdP_law (c : List S68) (i : Nat) : X30 c (i : Int) = c.getD i z68 := by unfold X30; rw [Int.toNat_natCast]
def X65.f (l0 : List S68) (a1 : Int) : Option Int := if (0 ≤ a1 ∧ a1 ≤ 4611686018427387904) ∧ l0.length ≤ 9223372036854775807 ∧ (∀ p ∈ l0, p.f0.size ≤ 9223372036854775807) then some (roomOf a1 ((l0.length : Int) + sizeP l0)) else none
theorem szP_loop (l : List S68) (hl : l.length ≤ 9223372036854775807) (hx : ∀ p ∈ l, p.f0.size ≤ 9223372036854775807) : ∀ (d k : Nat) (i : Nat) (a : Int), i ≤ l.length → l.length - i = d → d < k → 0 ≤ a → a ≤ 4611686018427387904 → X33.l0 k l a (i : Int) = some (roomOf a (sizeP (l.drop i))) := by
  intro d
  induction d with
  | zero =>
    intro k i a h1 hd hk h0 ha
    obtain ⟨k, rfl⟩ : ∃ m, k = m + 1 := ⟨k - 1, by omega⟩
    simp only [X33.l0]; rw [if_neg (by omega), List.drop_of_length_le (by omega)]
    unfold roomOf sizeP
    rw [if_neg (by omega), Int.sub_zero]
  | succ d ih =>
    intro k i a h1 hd hk h0 ha
    obtain ⟨k, rfl⟩ : ∃ m, k = m + 1 := ⟨k - 1, by omega⟩
    simp only [X33.l0]
    have hm := hx _ (getD_mem z68 (show i < l.length by omega))
    have hn := sizeP_nonneg (l.drop (i + 1))
    rw [if_pos (by omega), if_pos (by omega), rdP_law, sizeP_drop l i (by omega)]
    unfold X81.f
    rw [w64 (x := a - ((l.getD i z68).f0.size : Int)) (by omega) (by omega)]
    by_cases c : a - ((l.getD i z68).f0.size : Int) < 0
    · rw [if_pos c]
      simp only [Option.bind_some]
      unfold roomOf
      rw [if_pos (by omega), if_pos (by omega)]
    · rw [if_neg c]
      simp only [Option.bind_some]
      rw [if_neg (by omega), w64 (x := (i : Int) + 1) (by omega) (by omega), show (i : Int) + 1 = ((i + 1 : Nat) : Int) by omega, ih k (i + 1) _ (by omega) (by omega) (by omega) (by omega) (by omega)]
      unfold roomOf
      rw [show a - ((l.getD i z68).f0.size : Int) - sizeP (l.drop (i + 1)) = a - (((l.getD i z68).f0.size : Int) + sizeP (l.drop (i + 1))) by omega]
theorem X65.same (l : List S68) (a : Int) (h : (0 ≤ a ∧ a ≤ 4611686018427387904) ∧ l.length ≤ 9223372036854775807 ∧ (∀ p ∈ l, p.f0.size ≤ 9223372036854775807)) : X33.f (l.length + 1) l a = some (roomOf a ((l.length : Int) + sizeP l)) := by
  unfold X33.f
  have hn := sizeP_nonneg l
  rw [w64 (x := a - (l.length : Int)) (by omega) (by omega)]
  by_cases c : a - (l.length : Int) < 0
  · rw [if_pos c]; unfold roomOf; rw [if_pos (by omega)]
  · rw [if_neg c]
    have := szP_loop l h.2.1 h.2.2 l.length (l.length + 1) 0 (a - (l.length : Int)) (by omega) (by omega) (by omega) (by omega) (by omega)
    rw [List.drop_zero] at this
    rw [show (0 : Int) = ((0 : Nat) : Int) from rfl, this]
    unfold roomOf
    rw [show a - (l.length : Int) - sizeP l = a - ((l.length : Int) + sizeP l) by omega]
theorem X65.calls (A0 : Option Addr) (c0 : Nat) (l0 : List (S68)) (a1 : Int) (r : Int) (w : World) (hr0 : Kd.C k68 w A0 l0.length l0) (hc0 : l0.length ≤ c0) (h : X65.f l0 a1 = some r) :
    Calls Try.prog 27 #[.slice A0 l0.length c0, .int .i64 a1] w fun e w' => e = .returned (.int .i64 r) ∧ Below w.heap.size w w' := by
  unfold X65.f at h
  split at h
  · rename_i hs
    exact X33.calls (l0.length + 1) A0 c0 l0 a1 r w hr0 hc0 (by rw [← h]; exact X65.same l0 a1 hs)
  · exact absurd h (by simp)


def X77.f (l0_0 : List Int) (l0_1 : List (S68)) (a1 : Int) : Option (Int) := (X74.f l0_0 a1).bind fun t105 => (if t105 < 0 then (some (-1)) else ((X65.f l0_1 t105).bind fun t106 => (if t106 < 0 then (some (-1)) else (some t106))))
set_option maxHeartbeats 8000000 in
set_option maxRecDepth 100000 in
theorem X77.calls (A0_0 : Option Addr) (c0_0 : Nat) (l0_0 : List Int) (A0_1 : Option Addr) (c0_1 : Nat) (l0_1 : List (S68)) (a1 : Int) (r : Int) (w : World) (hr0_0 : Kd.C (Kd.int .i64) w A0_0 l0_0.length l0_0) (hc0_0 : l0_0.length ≤ c0_0) (hr0_1 : Kd.C k68 w A0_1 l0_1.length l0_1) (hc0_1 : l0_1.length ≤ c0_1) (h : X77.f l0_0 l0_1 a1 = some r) :
  Calls Try.prog 8 #[.agg #[.slice A0_0 l0_0.length c0_0, .slice A0_1 l0_1.length c0_1], .int .i64 a1] w fun e w' => e = .returned (.int .i64 r) ∧ Below w.heap.size w w' := by
 have hu25 := Try.underlying25
 have HR0_0 := am_ hr0_0
 have HC0_0 := am_ hc0_0
 clear hr0_0 hc0_0
 have HR0_1 := am_ hr0_1
 have HC0_1 := am_ hc0_1
 clear hr0_1 hc0_1
 have HB := am_ (Below.refl w.heap.size w)
 unfold X77.f at h;have H := h;clear h
 obtain ⟨t105, A30, H⟩ := ob_ H
 have A3 := am_ A30
 clear A30
 by_cases c4 : t105 < 0
 ·(rw [if_pos c4] at H);have c4b0 := decide_eq_true c4;clear c4;obtain rfl := Option.some.inj H;go_enter Try.func8, Try.ntmps8
  go_wp2_with (first | ((with_reducible refine gate_dst (N := 2) rfl ?_); refine box_event ?hg (N := 2) ?hd (cs := #[.slice A0_0 l0_0.length c0_0, .slice A0_1 l0_1.length c0_1]) (t := 25) ?hr ?_; (case hd => rfl); (case hg => rfl); (case hr => first | (go_simp; done) | (go_simp; rfl)); intro gb104 hg w5 hbox hb; have BK104 := am_ (hbox); have GW104 := am_ ((z4_ : w.heap.size ≤ gb104)); have GE104 := am_ ((z4_ : w.heap.size ≤ gb104)); replace HB := am_ (below_step (z2_) hb); clear hb hbox hg; obtain ⟨hcz6_0,hcz6_1,hfz6_0,hfz6_1⟩ := bz2_ w5 BK104.out) | ((with_reducible refine gate_callee (f := 26) rfl ?_); refine goesL_ (some 8) rfl rfl Try.func26 (z13_) rfl #[.slice A0_0 l0_0.length c0_0, .int .i64 a1] rfl (z1_) ?_; (with_reducible refine (X74.calls _ _ l0_0 a1 t105 _ ?side1 ?side2 A3.out).mono ?_); (case side1 => exact z217_); (case side2 => exact HC0_0.out); rintro e w' ⟨rfl, ⟨nd, rfl⟩⟩; refine ⟨_, rfl, ?_⟩))
  go_ret;exact ⟨z6_, z84_⟩
 ·(rw [if_neg c4] at H);have c4b0 := decide_eq_false c4;clear c4;obtain ⟨t106, A70, H⟩ := ob_ H;have A7 := am_ A70;clear A70;by_cases c8 : t106 < 0
  ·(rw [if_pos c8] at H);have c8b0 := decide_eq_true c8;clear c8;obtain rfl := Option.some.inj H;go_enter Try.func8, Try.ntmps8
   go_wp2_with (first | ((with_reducible refine gate_dst (N := 2) rfl ?_); refine box_event ?hg (N := 2) ?hd (cs := #[.slice A0_0 l0_0.length c0_0, .slice A0_1 l0_1.length c0_1]) (t := 25) ?hr ?_; (case hd => rfl); (case hg => rfl); (case hr => first | (go_simp; done) | (go_simp; rfl)); intro gb104 hg w9 hbox hb; have BK104 := am_ (hbox); have GW104 := am_ ((z4_ : w.heap.size ≤ gb104)); have GE104 := am_ ((z4_ : w.heap.size ≤ gb104)); replace HB := am_ (below_step (z2_) hb); clear hb hbox hg; obtain ⟨hcz10_0,hcz10_1,hfz10_0,hfz10_1⟩ := bz2_ w9 BK104.out) | ((with_reducible refine gate_callee (f := 26) rfl ?_); refine goesL_ (some 8) rfl rfl Try.func26 (z13_) rfl #[.slice A0_0 l0_0.length c0_0, .int .i64 a1] rfl (z1_) ?_; (with_reducible refine (X74.calls _ _ l0_0 a1 t105 _ ?side1 ?side2 A3.out).mono ?_); (case side1 => exact z217_); (case side2 => exact HC0_0.out); rintro e w' ⟨rfl, ⟨nd, rfl⟩⟩; refine ⟨_, rfl, ?_⟩) | ((with_reducible refine gate_callee (f := 27) rfl ?_); refine goesL_ (some 14) rfl rfl Try.func27 (z13_) rfl #[.slice A0_1 l0_1.length c0_1, .int .i64 t105] rfl (z1_) ?_; (with_reducible refine (X65.calls _ _ l0_1 t105 t106 _ ?side1 ?side2 A7.out).mono ?_); (case side1 => exact z236_); (case side2 => exact HC0_1.out); rintro e w11 ⟨rfl, hb⟩; refine ⟨_, rfl, ?_⟩; replace BK104 := am_ (blk_below (g := gb104) (o := .cells #[.slice A0_0 l0_0.length c0_0, .slice A0_1 l0_1.length c0_1] 25 (0, 0)) (by (with_reducible repeat (first | refine bN ?_ _|refine bW ?_|refine bA ?_ _)); exact BK104.out) hb); replace HB := am_ (below_step (z84_) hb); (try clear hb); (try clear hi)))
   go_ret;exact ⟨z6_, z84_⟩
  ·(rw [if_neg c8] at H);have c8b0 := decide_eq_false c8;clear c8;obtain rfl := Option.some.inj H;go_enter Try.func8, Try.ntmps8
   go_wp2_with (first | ((with_reducible refine gate_dst (N := 2) rfl ?_); refine box_event ?hg (N := 2) ?hd (cs := #[.slice A0_0 l0_0.length c0_0, .slice A0_1 l0_1.length c0_1]) (t := 25) ?hr ?_; (case hd => rfl); (case hg => rfl); (case hr => first | (go_simp; done) | (go_simp; rfl)); intro gb104 hg w12 hbox hb; have BK104 := am_ (hbox); have GW104 := am_ ((z4_ : w.heap.size ≤ gb104)); have GE104 := am_ ((z4_ : w.heap.size ≤ gb104)); replace HB := am_ (below_step (z2_) hb); clear hb hbox hg; obtain ⟨hcz13_0,hcz13_1,hfz13_0,hfz13_1⟩ := bz2_ w12 BK104.out) | ((with_reducible refine gate_callee (f := 26) rfl ?_); refine goesL_ (some 8) rfl rfl Try.func26 (z13_) rfl #[.slice A0_0 l0_0.length c0_0, .int .i64 a1] rfl (z1_) ?_; (with_reducible refine (X74.calls _ _ l0_0 a1 t105 _ ?side1 ?side2 A3.out).mono ?_); (case side1 => exact z217_); (case side2 => exact HC0_0.out); rintro e w' ⟨rfl, ⟨nd, rfl⟩⟩; refine ⟨_, rfl, ?_⟩) | ((with_reducible refine gate_callee (f := 27) rfl ?_); refine goesL_ (some 14) rfl rfl Try.func27 (z13_) rfl #[.slice A0_1 l0_1.length c0_1, .int .i64 t105] rfl (z1_) ?_; (with_reducible refine (X65.calls _ _ l0_1 t105 t106 _ ?side1 ?side2 A7.out).mono ?_); (case side1 => exact z236_); (case side2 => exact HC0_1.out); rintro e w14 ⟨rfl, hb⟩; refine ⟨_, rfl, ?_⟩; replace BK104 := am_ (blk_below (g := gb104) (o := .cells #[.slice A0_0 l0_0.length c0_0, .slice A0_1 l0_1.length c0_1] 25 (0, 0)) (by (with_reducible repeat (first | refine bN ?_ _|refine bW ?_|refine bA ?_ _)); exact BK104.out) hb); replace HB := am_ (below_step (z84_) hb); (try clear hb); (try clear hi)))
   go_ret;exact ⟨z6_, z84_⟩

def X27.l0 : Nat → List Int → List Int → Int → Option (List Int)
 | 0, _, _, _ => none
 | k + 1, x0, x3, x4 => if x4 < (x0.length : Int) then (if 0 ≤ x4 then (if x4 < (x3.length : Int) then (X27.l0 k x0 (x3.set (x4 : Int).toNat (rd x0 x4)) (wrap64 (x4 + 1))) else (none)) else (none)) else (some x3)
def X27.f (k : Nat) (l0 : List Int) : Option (List Int) := if 0 ≤ (l0.length : Int) then (if ((l0.length : Int) : Int).toNat ≤ 35184372088832 then (X27.l0 k l0 (List.replicate ((l0.length : Int) : Int).toNat 0) 0) else (none)) else (none)
theorem X27.mono_l : ∀ k, (∀ y0 y1 y2, LeO (X27.l0 k y0 y1 y2) (X27.l0 (k + 1) y0 y1 y2))
 | 0 => fun _ _ _ r h => by simp [X27.l0] at h
 | k + 1 => by
  have ih0 := X27.mono_l k
  ·intro y0 y1 y2
   unfold X27.l0
   exact z244_
theorem X27.mono : ∀ a0 k, LeO (X27.f k a0) (X27.f (k + 1) a0) := by
 intro a0 k
 have ih0 := X27.mono_l k
 unfold X27.f
 exact z244_
set_option maxHeartbeats 8000000 in
set_option maxRecDepth 100000 in
theorem X27.calls (k : Nat) (A0 : Option Addr) (c0 : Nat) (l0 : List Int) (r : List Int) (w : World) (hr0 : Kd.C (Kd.int .i64) w A0 l0.length l0) (hc0 : l0.length ≤ c0) (h : X27.f k l0 = some r) :
  Calls Try.prog 11 #[.slice A0 l0.length c0] w fun e w' => ∃ v0_ : Value, e = .returned (v0_) ∧ Kd.R (Kd.int .i64) 2 w' w.heap.size (fun _ => True) v0_ r ∧ Below w.heap.size w w' := by
 have HR0 := am_ hr0
 have HC0 := am_ hc0
 clear hr0 hc0
 have HB := am_ (Below.refl w.heap.size w)
 unfold X27.f at h;have H := h;clear h
 obtain ⟨c2,H⟩ := pp_ H;have c2b0 := eq_true c2;have c2b1 := decide_eq_true c2;clear c2;obtain ⟨c3,H⟩ := pp_ H;have c3b0 := eq_true c3;have c3b1 := decide_eq_true c3;clear c3;obtain ⟨y107, hy107⟩ : ∃ y_ : List Int, y_ = (List.replicate ((l0.length : Int) : Int).toNat 0) := ⟨_, rfl⟩;(replace H : (X27.l0 k l0 y107 0) = some r := by first | (rw [hy107]; with_reducible exact H) | (have H2_ := (Option.bind_some _ _).symm.trans H; rw [hy107]; with_reducible exact H2_) | (have H2_ := (Option.bind_some _ _).symm.trans H; with_reducible exact H2_) | with_reducible exact H | (rw [hy107]; exact H) | exact H);have Ny107 := am_ hy107;clear hy107;have H' := am_ H;clear H;go_enter Try.func11, Try.ntmps11
 go_wp2_with (first | ((with_reducible refine gate_dst (N := 7) rfl ?_); refine Kd.R_make (Kd.int .i64) _ 2 rfl (N := 7) rfl 22 _ _ rfl (l0.length : Int) rfl rfl Try.underlying22 (.int .i64 0) 8 info2 rfl (by decide) (by omega) 0 (ok := fun _ => True) (okp := fun _ => True) rfl (fun _ hk => hk) trivial (of_decide_eq_true (z0_)) (Nat.le_trans (Nat.mul_le_mul_right _ (of_decide_eq_true (z0_) : (l0.length : Int).toNat ≤ 35184372088832)) (by omega)) (Below.refl _ _) (Nat.le_refl _) ?_; intro v108 w4 ho5 hb hg_ hnew_; clear hg_ hnew_; (first | rw [← Ny107.out] at ho5 | (simp only [Int.reduceToNat] at ho5; rw [← Ny107.out] at ho5)); have HO109 := am_ (Kd.R_lower ho5 (below_size (z2_))); replace HB := am_ (below_step (z2_) hb); clear hb ho5))
 go_loopg [4] k (fun kq v4 w' => ∃ (x3_1 : List Int) (x4_1 : Int), v4 = .int .i64 x4_1 ∧ Aside0 (X27.l0 kq l0 x3_1 x4_1 = some r) ∧ Aside0 (kq ≤ k) ∧ Aside0 (Kd.R (Kd.int .i64) 2 w' w.heap.size (fun _ => True) v108 x3_1) ∧ Aside0 (Below w.heap.size w w'))
 case atStart => exact ⟨(y107), (0), (z8_), H', ⟨Nat.le_refl _⟩, ⟨by (with_reducible repeat (first | apply rA|apply rN|apply rW)); exact HO109.out⟩, ⟨z2_⟩⟩
 case round =>
  clear H';(try clear c2);(try clear c2b0);(try clear c2b1);(try clear c3);(try clear c3b0);(try clear c3b1);obtain ⟨x3_1, x4_1, rfl, HA, HK1, HO_3, HB⟩ := hrel
  cases gk with
  | zero => exact absurd HA.out (by simp [X27.l0])
  | succ k1 =>
   have H := HA.out;clear HA;(simp only [X27.l0] at H);by_cases c6 : x4_1 < (l0.length : Int)
   ·(rw [if_pos c6] at H);have c6b0 := decide_eq_true c6;clear c6;obtain ⟨c7b0,H⟩ := pd_ H;obtain ⟨c8b0,H⟩ := pd_ H;obtain ⟨y111, hy111⟩ : ∃ y_ : List Int, y_ = (x3_1.set (x4_1 : Int).toNat (rd l0 x4_1)) := ⟨_, rfl⟩;(replace H : (X27.l0 k1 l0 y111 (wrap64 (x4_1 + 1))) = some r := by first | (rw [hy111]; with_reducible exact H) | (have H2_ := (Option.bind_some _ _).symm.trans H; rw [hy111]; with_reducible exact H2_) | (have H2_ := (Option.bind_some _ _).symm.trans H; with_reducible exact H2_) | with_reducible exact H | (rw [hy111]; exact H) | exact H);have Ny111 := am_ hy111;clear hy111;have H' := am_ H;clear H;obtain ⟨p110,q110,ad110,e110,hx110_0⟩ := aq_ (Kd.at_int (Kd.C_below HR0.out HB.out) x4_1) z0_ z0_;cases e110;have p9 : 0 ≤ (x4_1 : Int) := of_decide_eq_true (z0_);have q9 : (x4_1 : Int) < ((x3_1.length : Int) : Int) := of_decide_eq_true (z0_);obtain ⟨go9, co9, eo9, gb9, gl9, cl9, HG9⟩ := Kd.R_form HO_3.out (by omega);(first | cases eo9 | (injection eo9 with ea_ en_ ec_; (first | subst ea_ | (injection ea_ with ea_; subst ea_)); subst ec_; clear en_));have GB9 := am_ gb9;have GG9 := am_ HG9;clear gb9 gl9 HG9;obtain ⟨hx9_0, hf9_0⟩ := Kd.R_celln 0 HO_3.out (x4_1 : Int) p9 q9;replace p9 := eq_true p9;replace q9 := eq_true q9;have HP10 := Kd.R_putg HO_3.out (x4_1 : Int) (rd l0 x4_1)
    go_wp2_with (first | ((with_reducible refine gate_store (t := 2) (p := 20) rfl ?_); refine store_event (t := 2) (p := 20) (v := ?vo_w11) (w1 := (wr.setCell ⟨go9, (x4_1 : Int).toNat, none⟩ (.int .i64 (rd l0 x4_1)))) ?hg ?ho ?hn ?hr ?_; (case ho => rfl); (case hg => rfl); (case hn => rfl); (case hr => first | (go_simp; done) | (go_simp; rfl)); intro w11 hw; have hg : wr.grownBy w11 (some go9) := (by rw [hw]; exact HP10.2); have hp_ : Kd.R (Kd.int .i64) 2 w11 w.heap.size (fun _ => True) (.slice (some ⟨go9, 0, none⟩) x3_1.length co9) y111 := (by rw [hw, Ny111.out]; first | exact HP10.1 | exact Kd.R_mono HP10.1 (fun _ hk => ⟨hk.2.1, hk.2.2, hk.1⟩)); clear HP10; replace HO_3 := am_ (hp_); replace HB := am_ ((by rw [hw]; exact below_set (HB.out) GB9.out : Below w.heap.size w w11)); clear hg hw hp_))
    go_roundg k1
    case measure => have := HK1.out; omega
    case rel => exact ⟨(y111), (wrap64 (x4_1 + 1)), (z8_), H', ⟨z111_⟩, ⟨z102_⟩, ⟨z2_⟩⟩
   ·(rw [if_neg c6] at H);have c6b0 := decide_eq_false c6;clear c6;obtain rfl := Option.some.inj H;go_wp2;go_ret;exact ⟨_, z6_, z102_, z2_⟩

open Go.Proofs.YtnmdcmfhjhgheaaM
def X35.f (l0 : List Int) : Option (List Int) := if l0.length * 8 ≤ 140737488351232 then some l0 else none
theorem copy_set (l : List Int) (i : Nat) (hi : i < l.length) : (l.take i ++ List.replicate (l.length - i) 0).set i (l.getD i 0) = l.take (i + 1) ++ List.replicate (l.length - (i + 1)) 0 := by
  have e : List.replicate (l.length - i) (0 : Int) = 0 :: List.replicate (l.length - (i + 1)) 0 := by rw [show l.length - i = (l.length - (i + 1)) + 1 by omega, List.replicate_succ]
  rw [e, List.set_append_right _ _ (by simp; omega)]
  have : i - (l.take i).length = 0 := by simp; omega
  rw [this, List.set_cons_zero, List.take_succ_eq_append_getElem hi, List.append_assoc]
  simp [List.getD_eq_getElem?_getD, List.getElem?_eq_getElem hi]
theorem copy_loop (l : List Int) (hl : l.length * 8 ≤ 140737488351232) : ∀ (d k : Nat) (i : Nat), i ≤ l.length → l.length - i = d → d < k → X27.l0 k l (l.take i ++ List.replicate (l.length - i) 0) (i : Int) = some l := by
  intro d
  induction d with
  | zero =>
    intro k i h1 hd hk
    obtain ⟨k, rfl⟩ : ∃ m, k = m + 1 := ⟨k - 1, by omega⟩
    obtain rfl : i = l.length := by omega
    simp only [X27.l0]; rw [if_neg (by omega)]; simp
  | succ d ih =>
    intro k i h1 hd hk
    obtain ⟨k, rfl⟩ : ∃ m, k = m + 1 := ⟨k - 1, by omega⟩
    simp only [X27.l0]
    rw [if_pos (by omega), if_pos (by omega), if_pos (by simp; omega), w64 (x := (i : Int) + 1) (by omega) (by omega)]
    have e : rd l (i : Int) = l.getD i 0 := by unfold rd; rw [Int.toNat_natCast]
    rw [e, Int.toNat_natCast, copy_set l i (by omega), show (i : Int) + 1 = ((i + 1 : Nat) : Int) by omega]
    exact ih k (i + 1) (by omega) (by omega) (by omega)
theorem X35.same (l : List Int) (hl : l.length * 8 ≤ 140737488351232) : X27.f (l.length + 1) l = some l := by
  unfold X27.f
  rw [if_pos (by omega), Int.toNat_natCast, if_pos (by omega)]
  have := copy_loop l hl l.length (l.length + 1) 0 (by omega) (by omega) (by omega)
  simpa using this
theorem X35.calls (A0 : Option Addr) (c0 : Nat) (l0 : List Int) (r : List Int) (w : World) (hr0 : Kd.C (Kd.int .i64) w A0 l0.length l0) (hc0 : l0.length ≤ c0) (h : X35.f l0 = some r) :
    Calls Try.prog 11 #[.slice A0 l0.length c0] w fun e w' => ∃ v0_ : Value, e = .returned (v0_) ∧ Kd.R (Kd.int .i64) 2 w' w.heap.size (fun _ => True) v0_ r ∧ Below w.heap.size w w' := by
  unfold X35.f at h
  split at h
  · rename_i hl
    exact X27.calls (l0.length + 1) A0 c0 l0 r w hr0 hc0 (by rw [← h]; exact X35.same l0 hl)
  · exact absurd h (by simp)

def X84.f (a0_0 : ByteArray) (a0_1 : Int) (a0_2 : Int) (a0_3 : Int) (a0_4 : Int) (a0_5 : Int) : Option (ByteArray × Int × Int × Int × Int × Int) := some (a0_0, a0_1, a0_2, a0_3, a0_4, a0_5)
set_option maxHeartbeats 8000000 in
set_option maxRecDepth 100000 in
theorem X84.calls (a0_0 : ByteArray) (a0_1 : Int) (a0_2 : Int) (a0_3 : Int) (a0_4 : Int) (a0_5 : Int) (r1 : ByteArray) (r2 : Int) (r3 : Int) (r4 : Int) (r5 : Int) (r6 : Int) (w : World) (h : X84.f a0_0 a0_1 a0_2 a0_3 a0_4 a0_5 = some (r1, r2, r3, r4, r5, r6)) :
  Calls Try.prog 54 #[.agg #[.string a0_0, .int .i64 a0_1, .int .i64 a0_2, .int .i64 a0_3, .int .i64 a0_4, .int .i64 a0_5]] w fun e w' => e = .returned (.agg #[.string r1, .int .i64 r2, .int .i64 r3, .int .i64 r4, .int .i64 r5, .int .i64 r6]) ∧ Below w.heap.size w w' := by
 have hu68 := Try.underlying68
 have hu73 := Try.underlying73
 have HB := am_ (Below.refl w.heap.size w)
 unfold X84.f at h;have H := h;clear h
 simp only [Option.some.injEq, Prod.mk.injEq] at H
 obtain ⟨rfl, rfl, rfl, rfl, rfl, rfl⟩ := H
 go_enter Try.func54, Try.ntmps54
 go_wp2_with (first | ((with_reducible refine gate_dst (N := 1) rfl ?_); refine box_event ?hg (N := 1) ?hd (cs := #[.string a0_0, .int .i64 a0_1, .int .i64 a0_2, .int .i64 a0_3, .int .i64 a0_4, .int .i64 a0_5]) (t := 68) ?hr ?_; (case hd => rfl); (case hg => rfl); (case hr => first | (go_simp; done) | (go_simp; rfl)); intro gb112 hg w2 hbox hb; have BK112 := am_ (hbox); have GW112 := am_ ((z4_ : w.heap.size ≤ gb112)); have GE112 := am_ ((z4_ : w.heap.size ≤ gb112)); replace HB := am_ (below_step (z2_) hb); clear hb hbox hg) | ((with_reducible refine gate_dst (N := 2) rfl ?_); refine box_event ?hg (N := 2) ?hd (cs := #[.string (⟨#[]⟩ : ByteArray), .int .i64 0, .int .i64 0, .int .i64 0, .int .i64 0, .int .i64 0]) (t := 73) ?hr ?_; (case hd => rfl); (case hg => rfl); (case hr => first | (go_simp; done) | (go_simp; rfl)); intro gb113 hg w3 hbox hb; have BK113 := am_ (hbox); have GW113 := am_ ((z194_ : w.heap.size ≤ gb113)); have GE113 := am_ ((z194_ : w.heap.size ≤ gb113)); replace HB := am_ (below_step (z168_) hb); have NB112_113 := am_ ((z140_ : gb112 ≠ gb113)); have NB113_112 := am_ ((z141_ : gb113 ≠ gb112)); replace BK112 := am_ (blk_below (g := gb112) (o := .cells #[.string a0_0, .int .i64 a0_1, .int .i64 a0_2, .int .i64 a0_3, .int .i64 a0_4, .int .i64 a0_5] 68 (0, 0)) (z131_) hb); clear hb hbox hg) | ((with_reducible refine gate_dst (N := 3) rfl ?_); refine box_event ?hg (N := 3) ?hd (cs := #[.string (⟨#[]⟩ : ByteArray), .int .i64 0, .int .i64 0, .int .i64 0, .int .i64 0, .int .i64 0]) (t := 73) ?hr ?_; (case hd => rfl); (case hg => rfl); (case hr => first | (go_simp; done) | (go_simp; rfl)); intro gb114 hg w4 hbox hb; have BK114 := am_ (hbox); have GW114 := am_ ((z172_ : w.heap.size ≤ gb114)); have GE114 := am_ ((z172_ : w.heap.size ≤ gb114)); replace HB := am_ (below_step (z160_) hb); have NB112_114 := am_ ((z140_ : gb112 ≠ gb114)); have NB114_112 := am_ ((z141_ : gb114 ≠ gb112)); replace BK112 := am_ (blk_below (g := gb112) (o := .cells #[.string a0_0, .int .i64 a0_1, .int .i64 a0_2, .int .i64 a0_3, .int .i64 a0_4, .int .i64 a0_5] 68 (0, 0)) (z131_) hb); have NB113_114 := am_ ((by rw [hg]; exact Nat.ne_of_lt (blk_lt (g := gb113) (o := .cells #[.string (⟨#[]⟩ : ByteArray), .int .i64 0, .int .i64 0, .int .i64 0, .int .i64 0, .int .i64 0] 73 (0, 0)) (z200_)) : gb113 ≠ gb114)); have NB114_113 := am_ ((by rw [hg]; exact Nat.ne_of_gt (blk_lt (g := gb113) (o := .cells #[.string (⟨#[]⟩ : ByteArray), .int .i64 0, .int .i64 0, .int .i64 0, .int .i64 0, .int .i64 0] 73 (0, 0)) (z200_)) : gb114 ≠ gb113)); replace BK113 := am_ (blk_below (g := gb113) (o := .cells #[.string (⟨#[]⟩ : ByteArray), .int .i64 0, .int .i64 0, .int .i64 0, .int .i64 0, .int .i64 0] 73 (0, 0)) (z200_) hb); clear hb hbox hg; have hnb5 := NB112_113.out; have hnc5 := NB113_112.out; have hnb6 := NB112_114.out; have hnc6 := NB114_112.out; obtain ⟨hcz7_0,hcz7_1,hcz7_2,hcz7_3,hcz7_4,hcz7_5,hfz7_0,hfz7_1,hfz7_2,hfz7_3,hfz7_4,hfz7_5⟩ := bz6_ w4 BK112.out; have hnb8 := NB114_113.out; have hnc8 := NB113_114.out; obtain ⟨hcz9_0,hcz9_1,hcz9_2,hcz9_3,hcz9_4,hcz9_5,hfz9_0,hfz9_1,hfz9_2,hfz9_3,hfz9_4,hfz9_5⟩ := bz6_ w4 BK114.out; obtain ⟨hcz10_0,hcz10_1,hcz10_2,hcz10_3,hcz10_4,hcz10_5,hfz10_0,hfz10_1,hfz10_2,hfz10_3,hfz10_4,hfz10_5⟩ := bz6_ w4 BK113.out))
 refine bodyPost_ret (results_cell_row rfl _ _ gb113 73 #[.string a0_0, .int .i64 a0_1, .int .i64 a0_2, .int .i64 a0_3, .int .i64 a0_4, .int .i64 a0_5] (0, 0) _ rfl (by (with_reducible repeat (first | refine bN ?_ _|refine bW ?_|refine bA ?_ _)); refine blk_put (cs := #[.string a0_0, .int .i64 a0_1, .int .i64 a0_2, .int .i64 a0_3, .int .i64 a0_4, .int .i64 0]) ?_ 5 _ rfl; (with_reducible repeat (first | refine bN ?_ _|refine bW ?_|refine bA ?_ _)); refine blk_put (cs := #[.string a0_0, .int .i64 a0_1, .int .i64 a0_2, .int .i64 a0_3, .int .i64 0, .int .i64 0]) ?_ 4 _ rfl; (with_reducible repeat (first | refine bN ?_ _|refine bW ?_|refine bA ?_ _)); refine blk_put (cs := #[.string a0_0, .int .i64 a0_1, .int .i64 a0_2, .int .i64 0, .int .i64 0, .int .i64 0]) ?_ 3 _ rfl; (with_reducible repeat (first | refine bN ?_ _|refine bW ?_|refine bA ?_ _)); refine blk_put (cs := #[.string a0_0, .int .i64 a0_1, .int .i64 0, .int .i64 0, .int .i64 0, .int .i64 0]) ?_ 2 _ rfl; (with_reducible repeat (first | refine bN ?_ _|refine bW ?_|refine bA ?_ _)); refine blk_put (cs := #[.string a0_0, .int .i64 0, .int .i64 0, .int .i64 0, .int .i64 0, .int .i64 0]) ?_ 1 _ rfl; (with_reducible repeat (first | refine bN ?_ _|refine bW ?_|refine bA ?_ _)); refine blk_put (cs := #[.string (⟨#[]⟩ : ByteArray), .int .i64 0, .int .i64 0, .int .i64 0, .int .i64 0, .int .i64 0]) ?_ 0 _ rfl; (with_reducible repeat (first | refine bN ?_ _|refine bW ?_|refine bA ?_ _)); refine blk_far ?_ NB113_114.out _; (with_reducible repeat (first | refine bN ?_ _|refine bW ?_|refine bA ?_ _)); refine blk_far ?_ NB113_114.out _; (with_reducible repeat (first | refine bN ?_ _|refine bW ?_|refine bA ?_ _)); refine blk_far ?_ NB113_114.out _; (with_reducible repeat (first | refine bN ?_ _|refine bW ?_|refine bA ?_ _)); refine blk_far ?_ NB113_114.out _; (with_reducible repeat (first | refine bN ?_ _|refine bW ?_|refine bA ?_ _)); refine blk_far ?_ NB113_114.out _; (with_reducible repeat (first | refine bN ?_ _|refine bW ?_|refine bA ?_ _)); refine blk_far ?_ NB113_114.out _; (with_reducible repeat (first | refine bN ?_ _|refine bW ?_|refine bA ?_ _)); exact BK113.out) Try.underlying73 rfl (z13_)) rfl ?_
 exact ⟨z6_, by repeat (first | (with_reducible first | exact HB.out|apply wA|apply wN|apply wD |refine wS ?_ GE112.out |refine wS ?_ GE113.out |refine wS ?_ GE114.out) | exact HB.out)⟩

def X29.l0 : Nat → List (S68) → List (S73) → Int → Option ((List (S73)))
 | 0, _, _, _ => none
 | k + 1, x0, x3, x4 => if x4 < (x0.length : Int) then (if 0 ≤ x4 then ((X84.f (X30 x0 x4).f0 (X30 x0 x4).f1 (X30 x0 x4).f2 (X30 x0 x4).f3 (X30 x0 x4).f4 (X30 x0 x4).f5).bind fun bt119 => (if x4 < (x3.length : Int) then (X29.l0 k x0 (x3.set (x4 : Int).toNat (⟨bt119.1, bt119.2.1, bt119.2.2.1, bt119.2.2.2.1, bt119.2.2.2.2.1, bt119.2.2.2.2.2⟩ : S73)) (wrap64 (x4 + 1))) else (none))) else (none)) else (some x3)
def X29.f (k : Nat) (l0 : List (S68)) : Option ((List (S73))) := if 0 ≤ (l0.length : Int) then (if ((l0.length : Int) : Int).toNat ≤ 5026338869833 then (X29.l0 k l0 (List.replicate ((l0.length : Int) : Int).toNat z73) 0) else (none)) else (none)
theorem X29.mono_l : ∀ k, (∀ y0 y1 y2, LeO (X29.l0 k y0 y1 y2) (X29.l0 (k + 1) y0 y1 y2))
 | 0 => fun _ _ _ r h => by simp [X29.l0] at h
 | k + 1 => by
  have ih0 := X29.mono_l k
  ·intro y0 y1 y2
   unfold X29.l0
   exact z244_
theorem X29.mono : ∀ a0 k, LeO (X29.f k a0) (X29.f (k + 1) a0) := by
 intro a0 k
 have ih0 := X29.mono_l k
 unfold X29.f
 exact z244_
set_option maxHeartbeats 8000000 in
set_option maxRecDepth 100000 in
theorem X29.calls (k : Nat) (A0 : Option Addr) (c0 : Nat) (l0 : List (S68)) (r : List (S73)) (w : World) (hr0 : Kd.C k68 w A0 l0.length l0) (hc0 : l0.length ≤ c0) (h : X29.f k l0 = some r) :
  Calls Try.prog 30 #[.slice A0 l0.length c0] w fun e w' => ∃ v0_ : Value, e = .returned (v0_) ∧ Kd.R k73 73 w' w.heap.size (fun _ => True) v0_ r ∧ Below w.heap.size w w' := by
 have hu68 := Try.underlying68
 have hu73 := Try.underlying73
 have HR0 := am_ hr0
 have HC0 := am_ hc0
 clear hr0 hc0
 have HB := am_ (Below.refl w.heap.size w)
 unfold X29.f at h;have H := h;clear h
 obtain ⟨c2,H⟩ := pp_ H;have c2b0 := eq_true c2;have c2b1 := decide_eq_true c2;clear c2;obtain ⟨c3,H⟩ := pp_ H;have c3b0 := eq_true c3;have c3b1 := decide_eq_true c3;clear c3;obtain ⟨y115, hy115⟩ : ∃ y_ : List (S73), y_ = (List.replicate ((l0.length : Int) : Int).toNat z73) := ⟨_, rfl⟩;(replace H : (X29.l0 k l0 y115 0) = some r := by first | (rw [hy115]; with_reducible exact H) | (have H2_ := (Option.bind_some _ _).symm.trans H; rw [hy115]; with_reducible exact H2_) | (have H2_ := (Option.bind_some _ _).symm.trans H; with_reducible exact H2_) | with_reducible exact H | (rw [hy115]; exact H) | exact H);have Ny115 := am_ hy115;clear hy115;have H' := am_ H;clear H;go_enter Try.func30, Try.ntmps30
 go_wp2_with (first | ((with_reducible refine gate_dst (N := 7) rfl ?_); refine Kd.R_make k73 _ 73 rfl (N := 7) rfl 29 _ _ rfl (l0.length : Int) rfl rfl Try.underlying29 (.agg #[(.string ⟨#[]⟩), (.int .i64 0), (.int .i64 0), (.int .i64 0), (.int .i64 0), (.int .i64 0)]) 56 info73 rfl (by decide) (by omega) z73 (ok := fun _ => True) (okp := fun _ => True) (k73_mkM _ _ _ z73 ) (fun _ hk => hk) trivial (of_decide_eq_true (z0_)) (Nat.le_trans (Nat.mul_le_mul_right _ (of_decide_eq_true (z0_) : (l0.length : Int).toNat ≤ 5026338869833)) (by omega)) (Below.refl _ _) (Nat.le_refl _) ?_; intro v116 w4 ho5 hb hg_ hnew_; clear hg_ hnew_; (first | rw [← Ny115.out] at ho5 | (simp only [Int.reduceToNat] at ho5; rw [← Ny115.out] at ho5)); have HO117 := am_ (Kd.R_lower ho5 (below_size (z2_))); replace HB := am_ (below_step (z2_) hb); clear hb ho5))
 go_loopg [4] k (fun kq v4 w' => ∃ (x3_1 : List (S73)) (x4_1 : Int), v4 = .int .i64 x4_1 ∧ Aside0 (X29.l0 kq l0 x3_1 x4_1 = some r) ∧ Aside0 (kq ≤ k) ∧ Aside0 (Kd.R k73 73 w' w.heap.size (fun _ => True) v116 x3_1) ∧ Aside0 (Below w.heap.size w w'))
 case atStart => exact ⟨(y115), (0), (z8_), H', ⟨Nat.le_refl _⟩, ⟨by (with_reducible repeat (first | apply rA|apply rN|apply rW)); exact HO117.out⟩, ⟨z2_⟩⟩
 case round =>
  clear H';(try clear c2);(try clear c2b0);(try clear c2b1);(try clear c3);(try clear c3b0);(try clear c3b1);obtain ⟨x3_1, x4_1, rfl, HA, HK1, HO_3, HB⟩ := hrel
  cases gk with
  | zero => exact absurd HA.out (by simp [X29.l0])
  | succ k1 =>
   have H := HA.out;clear HA;(simp only [X29.l0] at H);by_cases c6 : x4_1 < (l0.length : Int)
   ·(rw [if_pos c6] at H);have c6b0 := decide_eq_true c6;clear c6;obtain ⟨c7b0,H⟩ := pd_ H;replace H := Option.bind_eq_some_iff.mp H;obtain ⟨⟨t119, t120, t121, t122, t123, t124⟩, A80, H⟩ := H;replace H : (if x4_1 < (x3_1.length : Int) then (X29.l0 k1 l0 (x3_1.set (x4_1 : Int).toNat (⟨t119, t120, t121, t122, t123, t124⟩ : S73)) (wrap64 (x4_1 + 1))) else (none)) = some r := H;have A8 := am_ A80;clear A80;obtain ⟨c9b0,H⟩ := pd_ H;obtain ⟨y125, hy125⟩ : ∃ y_ : List (S73), y_ = (x3_1.set (x4_1 : Int).toNat (⟨t119, t120, t121, t122, t123, t124⟩ : S73)) := ⟨_, rfl⟩;(replace H : (X29.l0 k1 l0 y125 (wrap64 (x4_1 + 1))) = some r := by first | (rw [hy125]; with_reducible exact H) | (have H2_ := (Option.bind_some _ _).symm.trans H; rw [hy125]; with_reducible exact H2_) | (have H2_ := (Option.bind_some _ _).symm.trans H; with_reducible exact H2_) | with_reducible exact H | (rw [hy125]; exact H) | exact H);have Ny125 := am_ hy125;clear hy125;have H' := am_ H;clear H;obtain ⟨p118,q118,ad118,e118,hx118_0,hx118_1,hx118_2,hx118_3,hx118_4,hx118_5⟩ := aq_ (X92 (Kd.C_below HR0.out HB.out) x4_1) z0_ z0_;cases e118
    go_wp2_with (first | ((with_reducible refine gate_callee (f := 54) rfl ?_); refine goesL_ (some 20) rfl rfl Try.func54 (z13_) rfl #[.agg #[.string (X30 l0 x4_1).f0, .int .i64 (X30 l0 x4_1).f1, .int .i64 (X30 l0 x4_1).f2, .int .i64 (X30 l0 x4_1).f3, .int .i64 (X30 l0 x4_1).f4, .int .i64 (X30 l0 x4_1).f5]] rfl (z1_) ?_; (with_reducible refine (X84.calls (X30 l0 x4_1).f0 (X30 l0 x4_1).f1 (X30 l0 x4_1).f2 (X30 l0 x4_1).f3 (X30 l0 x4_1).f4 (X30 l0 x4_1).f5 t119 t120 t121 t122 t123 t124 _ A8.out).mono ?_); rintro e w11 ⟨rfl, hb⟩; refine ⟨_, rfl, ?_⟩; replace HO_3 := am_ (Kd.R_below (z102_) hb); replace HB := am_ (below_step (z2_) hb); (try clear hb); (try clear hk); have p10 : 0 ≤ (x4_1 : Int) := of_decide_eq_true (z0_); have q10 : (x4_1 : Int) < ((x3_1.length : Int) : Int) := of_decide_eq_true (z0_); obtain ⟨go10, co10, eo10, gb10, gl10, cl10, HG10⟩ := Kd.R_form HO_3.out (by omega); (first | cases eo10 | (injection eo10 with ea_ en_ ec_; (first | subst ea_ | (injection ea_ with ea_; subst ea_)); subst ec_; clear en_)); have GB10 := am_ gb10; have GG10 := am_ HG10; clear gb10 gl10 HG10; obtain ⟨ce10, hcl10, hM10, hcc10, hfr10⟩ := Kd.R_elem HO_3.out z73 (x4_1 : Int) p10 q10; obtain rfl := k73_openM hM10; have hx10_0 : w11.cell? ⟨go10, (x4_1 : Int).toNat * 6, none⟩ = some (.string (X1 x3_1 x4_1).f0) := hcc10 0 _ rfl; have hx10_1 : w11.cell? ⟨go10, (x4_1 : Int).toNat * 6 + 1, none⟩ = some (.int .i64 (X1 x3_1 x4_1).f1) := hcc10 1 _ rfl; have hx10_2 : w11.cell? ⟨go10, (x4_1 : Int).toNat * 6 + 2, none⟩ = some (.int .i64 (X1 x3_1 x4_1).f2) := hcc10 2 _ rfl; have hx10_3 : w11.cell? ⟨go10, (x4_1 : Int).toNat * 6 + 3, none⟩ = some (.int .i64 (X1 x3_1 x4_1).f3) := hcc10 3 _ rfl; have hx10_4 : w11.cell? ⟨go10, (x4_1 : Int).toNat * 6 + 4, none⟩ = some (.int .i64 (X1 x3_1 x4_1).f4) := hcc10 4 _ rfl; have hx10_5 : w11.cell? ⟨go10, (x4_1 : Int).toNat * 6 + 5, none⟩ = some (.int .i64 (X1 x3_1 x4_1).f5) := hcc10 5 _ rfl; have hf10_0 : w11.frozen? ⟨go10, (x4_1 : Int).toNat * 6, none⟩ = false := hfr10 0; have hf10_1 : w11.frozen? ⟨go10, (x4_1 : Int).toNat * 6 + 1, none⟩ = false := hfr10 1; have hf10_2 : w11.frozen? ⟨go10, (x4_1 : Int).toNat * 6 + 2, none⟩ = false := hfr10 2; have hf10_3 : w11.frozen? ⟨go10, (x4_1 : Int).toNat * 6 + 3, none⟩ = false := hfr10 3; have hf10_4 : w11.frozen? ⟨go10, (x4_1 : Int).toNat * 6 + 4, none⟩ = false := hfr10 4; have hf10_5 : w11.frozen? ⟨go10, (x4_1 : Int).toNat * 6 + 5, none⟩ = false := hfr10 5; (try clear hcl10); (try clear hcc10); (try clear hfr10); (try clear hM10); replace p10 := eq_true p10; replace q10 := eq_true q10; have HX12 := am_ (show Kd.R k73 73 w11 w.heap.size (fun _ => True) (.slice (some ⟨go10, 0, none⟩) x3_1.length co10) x3_1 from (z102_)); obtain ⟨ce12, hcl12, hM12, hcc12, hfr12⟩ := Kd.R_elem HX12.out z73 (x4_1 : Int) (of_decide_eq_true (z0_)) (by have h_ : (x4_1 : Int) < ((x3_1.length : Int) : Int) := of_decide_eq_true (z0_); first | exact h_ | (have e_ := (Kd.R_reads' HO_3.out).1; omega) | simpa using h_); obtain rfl := k73_openM hM12; have HP12 := Kd.R_seg HX12.out (x4_1 : Int) (of_decide_eq_true (z0_)) (by have h_ : (x4_1 : Int) < ((x3_1.length : Int) : Int) := of_decide_eq_true (z0_); first | exact h_ | (have e_ := (Kd.R_reads' HO_3.out).1; omega) | simpa using h_) (seg := [.string t119, .int .i64 t120, .int .i64 t121, .int .i64 t122, .int .i64 t123, .int .i64 t124]) (j := 0) hcl12 hcc12 (show 6 ≤ 6 from by decide) (x' := (⟨t119, t120, t121, t122, t123, t124⟩ : S73)) (k73_mkM _ _ _ (⟨t119, t120, t121, t122, t123, t124⟩ : S73) ) (fun _ hk => hk); have hx12_0 := hcc12 0 _ rfl; (try simp only [show (k73).sz = 6 from rfl, Nat.mul_one, Nat.add_zero] at hx12_0); have hf12_0 := hfr12 0; (try simp only [show (k73).sz = 6 from rfl, Nat.mul_one, Nat.add_zero] at hf12_0); have hx12_1 := hcc12 1 _ rfl; (try simp only [show (k73).sz = 6 from rfl, Nat.mul_one, Nat.add_zero] at hx12_1); have hf12_1 := hfr12 1; (try simp only [show (k73).sz = 6 from rfl, Nat.mul_one, Nat.add_zero] at hf12_1); have hx12_2 := hcc12 2 _ rfl; (try simp only [show (k73).sz = 6 from rfl, Nat.mul_one, Nat.add_zero] at hx12_2); have hf12_2 := hfr12 2; (try simp only [show (k73).sz = 6 from rfl, Nat.mul_one, Nat.add_zero] at hf12_2); have hx12_3 := hcc12 3 _ rfl; (try simp only [show (k73).sz = 6 from rfl, Nat.mul_one, Nat.add_zero] at hx12_3); have hf12_3 := hfr12 3; (try simp only [show (k73).sz = 6 from rfl, Nat.mul_one, Nat.add_zero] at hf12_3); have hx12_4 := hcc12 4 _ rfl; (try simp only [show (k73).sz = 6 from rfl, Nat.mul_one, Nat.add_zero] at hx12_4); have hf12_4 := hfr12 4; (try simp only [show (k73).sz = 6 from rfl, Nat.mul_one, Nat.add_zero] at hf12_4); have hx12_5 := hcc12 5 _ rfl; (try simp only [show (k73).sz = 6 from rfl, Nat.mul_one, Nat.add_zero] at hx12_5); have hf12_5 := hfr12 5; (try simp only [show (k73).sz = 6 from rfl, Nat.mul_one, Nat.add_zero] at hf12_5); (try clear hcl12); (try clear hcc12); (try clear hfr12); (try clear hM12)) | ((with_reducible refine gate_store (t := 73) (p := 21) rfl ?_); refine store_event (t := 73) (p := 21) (v := ?vo_w13) (w1 := ((((((w11.setCell ⟨go10, (x4_1 : Int).toNat * 6, none⟩ (.string t119)).setCell ⟨go10, (x4_1 : Int).toNat * 6 + 1, none⟩ (.int .i64 t120)).setCell ⟨go10, (x4_1 : Int).toNat * 6 + 2, none⟩ (.int .i64 t121)).setCell ⟨go10, (x4_1 : Int).toNat * 6 + 3, none⟩ (.int .i64 t122)).setCell ⟨go10, (x4_1 : Int).toNat * 6 + 4, none⟩ (.int .i64 t123)).setCell ⟨go10, (x4_1 : Int).toNat * 6 + 5, none⟩ (.int .i64 t124))) ?hg ?ho ?hn ?hr ?_; (case ho => rfl); (case hg => rfl); (case hn => rfl); (case hr => first | (go_simp; done) | (go_simp; rfl)); intro w13 hw; have hg : w11.grownBy w13 (some go10) := (by rw [hw]; exact HP12.2); have hp_ : Kd.R k73 73 w13 w.heap.size (fun _ => True) (.slice (some ⟨go10, 0, none⟩) x3_1.length co10) y125 := (by rw [hw, Ny125.out]; first | exact HP12.1 | exact Kd.R_mono HP12.1 (fun _ hk => ⟨hk.2.1, hk.2.2, hk.1⟩)); clear HP12; replace HO_3 := am_ (hp_); replace HB := am_ ((by rw [hw]; exact below_set (below_set (below_set (below_set (below_set (below_set (HB.out) GB10.out) GB10.out) GB10.out) GB10.out) GB10.out) GB10.out : Below w.heap.size w w13)); clear hg hw hp_))
    go_roundg k1
    case measure => have := HK1.out; omega
    case rel => exact ⟨(y125), (wrap64 (x4_1 + 1)), (z8_), H', ⟨z111_⟩, ⟨z102_⟩, ⟨z2_⟩⟩
   ·(rw [if_neg c6] at H);have c6b0 := decide_eq_false c6;clear c6;obtain rfl := Option.some.inj H;go_wp2;go_ret;exact ⟨_, z6_, z102_, z2_⟩

open Go.Proofs.YtnmdcmfhjhgheaaM
def cvP (p : S68) : S73 := ⟨p.f0, p.f1, p.f2, p.f3, p.f4, p.f5⟩
def X75.f (l0 : List S68) : Option (List S73) := if l0.length ≤ 1000000000000 then some (l0.map cvP) else none
theorem rdP_law2 (c : List S68) (i : Nat) : X30 c (i : Int) = c.getD i z68 := by unfold X30; rw [Int.toNat_natCast]
theorem copy_setP (l : List S68) (i : Nat) (hi : i < l.length) : ((l.take i).map cvP ++ List.replicate (l.length - i) z73).set i (cvP (l.getD i z68)) = (l.take (i + 1)).map cvP ++ List.replicate (l.length - (i + 1)) z73 := by
  have e : List.replicate (l.length - i) z73 = z73 :: List.replicate (l.length - (i + 1)) z73 := by rw [show l.length - i = (l.length - (i + 1)) + 1 by omega, List.replicate_succ]
  rw [e, List.set_append_right _ _ (by simp; omega)]
  have : i - ((l.take i).map cvP).length = 0 := by simp; omega
  rw [this, List.set_cons_zero, List.take_succ_eq_append_getElem hi, List.map_append, List.append_assoc]
  simp [List.getD_eq_getElem?_getD, List.getElem?_eq_getElem hi]
theorem copy_loopP (l : List S68) (hl : l.length ≤ 1000000000000) : ∀ (d k : Nat) (i : Nat), i ≤ l.length → l.length - i = d → d < k → X29.l0 k l ((l.take i).map cvP ++ List.replicate (l.length - i) z73) (i : Int) = some (l.map cvP) := by
  intro d
  induction d with
  | zero =>
    intro k i h1 hd hk
    obtain ⟨k, rfl⟩ : ∃ m, k = m + 1 := ⟨k - 1, by omega⟩
    obtain rfl : i = l.length := by omega
    simp only [X29.l0]; rw [if_neg (by omega)]; simp
  | succ d ih =>
    intro k i h1 hd hk
    obtain ⟨k, rfl⟩ : ∃ m, k = m + 1 := ⟨k - 1, by omega⟩
    have hi : i < l.length := by omega
    have hs := copy_setP l i hi
    simp only [X29.l0]
    rw [if_pos (by omega), if_pos (by omega), rdP_law2]
    unfold X84.f
    simp only [Option.bind_some]
    rw [if_pos (by simp; omega), w64 (x := (i : Int) + 1) (by omega) (by omega), Int.toNat_natCast, show (i : Int) + 1 = ((i + 1 : Nat) : Int) by omega]
    have e : (⟨(l.getD i z68).f0, (l.getD i z68).f1, (l.getD i z68).f2, (l.getD i z68).f3, (l.getD i z68).f4, (l.getD i z68).f5⟩ : S73) = cvP (l.getD i z68) := rfl
    rw [e, hs]
    exact ih k (i + 1) (by omega) (by omega) (by omega)
theorem X75.same (l : List S68) (h : l.length ≤ 1000000000000) : X29.f (l.length + 1) l = some (l.map cvP) := by
  unfold X29.f
  rw [if_pos (by omega), Int.toNat_natCast, if_pos (by omega)]
  have := copy_loopP l h l.length (l.length + 1) 0 (by omega) (by omega) (by omega)
  simpa using this
theorem X75.calls (A0 : Option Addr) (c0 : Nat) (l0 : List (S68)) (r : List (S73)) (w : World) (hr0 : Kd.C k68 w A0 l0.length l0) (hc0 : l0.length ≤ c0) (h : X75.f l0 = some r) :
    Calls Try.prog 30 #[.slice A0 l0.length c0] w fun e w' => ∃ v0_ : Value, e = .returned (v0_) ∧ Kd.R k73 73 w' w.heap.size (fun _ => True) v0_ r ∧ Below w.heap.size w w' := by
  unfold X75.f at h
  split at h
  · rename_i hs
    exact X29.calls (l0.length + 1) A0 c0 l0 r w hr0 hc0 (by rw [← h]; exact X75.same l0 hs)
  · exact absurd h (by simp)


def X45.f (l0_0 : List Int) (l0_1 : List (S68)) : Option (List Int × (List (S73))) := (X35.f l0_0).bind fun t129 => ((X75.f l0_1).bind fun t132 => (some (t129, t132)))
set_option maxHeartbeats 8000000 in
set_option maxRecDepth 100000 in
theorem X45.calls (A0_0 : Option Addr) (c0_0 : Nat) (l0_0 : List Int) (A0_1 : Option Addr) (c0_1 : Nat) (l0_1 : List (S68)) (r1 : List Int) (r2 : List (S73)) (w : World) (hr0_0 : Kd.C (Kd.int .i64) w A0_0 l0_0.length l0_0) (hc0_0 : l0_0.length ≤ c0_0) (hr0_1 : Kd.C k68 w A0_1 l0_1.length l0_1) (hc0_1 : l0_1.length ≤ c0_1) (h : X45.f l0_0 l0_1 = some (r1, r2)) :
  Calls Try.prog 10 #[.agg #[.slice A0_0 l0_0.length c0_0, .slice A0_1 l0_1.length c0_1]] w fun e w' => ∃ v0_ v1_ : Value, e = .returned (.agg #[v0_, v1_]) ∧ Kd.R (Kd.int .i64) 2 w' w.heap.size (fun _ => True) v0_ r1 ∧ Kd.R k73 73 w' w.heap.size (fun _ => True) v1_ r2 ∧ Below w.heap.size w w' := by
 have hu25 := Try.underlying25
 have hu31 := Try.underlying31
 have HR0_0 := am_ hr0_0
 have HC0_0 := am_ hc0_0
 clear hr0_0 hc0_0
 have HR0_1 := am_ hr0_1
 have HC0_1 := am_ hc0_1
 clear hr0_1 hc0_1
 have HB := am_ (Below.refl w.heap.size w)
 unfold X45.f at h;have H := h;clear h
 obtain ⟨t129, A20, H⟩ := ob_ H
 have A2 := am_ A20
 clear A20
 obtain ⟨t132, A30, H⟩ := ob_ H
 have A3 := am_ A30
 clear A30
 simp only [Option.some.injEq, Prod.mk.injEq] at H
 obtain ⟨rfl, rfl⟩ := H
 go_enter Try.func10, Try.ntmps10
 go_wp2_with (first | ((with_reducible refine gate_dst (N := 1) rfl ?_); refine box_event ?hg (N := 1) ?hd (cs := #[.slice A0_0 l0_0.length c0_0, .slice A0_1 l0_1.length c0_1]) (t := 25) ?hr ?_; (case hd => rfl); (case hg => rfl); (case hr => first | (go_simp; done) | (go_simp; rfl)); intro gb126 hg w4 hbox hb; have BK126 := am_ (hbox); have GW126 := am_ ((z4_ : w.heap.size ≤ gb126)); have GE126 := am_ ((z4_ : w.heap.size ≤ gb126)); replace HB := am_ (below_step (z2_) hb); clear hb hbox hg) | ((with_reducible refine gate_dst (N := 2) rfl ?_); refine box_event ?hg (N := 2) ?hd (cs := #[.slice none 0 0, .slice none 0 0]) (t := 31) ?hr ?_; (case hd => rfl); (case hg => rfl); (case hr => first | (go_simp; done) | (go_simp; rfl)); intro gb127 hg w5 hbox hb; have BK127 := am_ (hbox); have GW127 := am_ ((z195_ : w.heap.size ≤ gb127)); have GE127 := am_ ((z195_ : w.heap.size ≤ gb127)); replace HB := am_ (below_step (z169_) hb); have NB126_127 := am_ ((z150_ : gb126 ≠ gb127)); have NB127_126 := am_ ((z151_ : gb127 ≠ gb126)); replace BK126 := am_ (blk_below (g := gb126) (o := .cells #[.slice A0_0 l0_0.length c0_0, .slice A0_1 l0_1.length c0_1] 25 (0, 0)) (z113_) hb); clear hb hbox hg) | ((with_reducible refine gate_dst (N := 3) rfl ?_); refine box_event ?hg (N := 3) ?hd (cs := #[.slice none 0 0, .slice none 0 0]) (t := 31) ?hr ?_; (case hd => rfl); (case hg => rfl); (case hr => first | (go_simp; done) | (go_simp; rfl)); intro gb128 hg w6 hbox hb; have BK128 := am_ (hbox); have GW128 := am_ ((z173_ : w.heap.size ≤ gb128)); have GE128 := am_ ((z173_ : w.heap.size ≤ gb128)); replace HB := am_ (below_step (z161_) hb); have NB126_128 := am_ ((z150_ : gb126 ≠ gb128)); have NB128_126 := am_ ((z151_ : gb128 ≠ gb126)); replace BK126 := am_ (blk_below (g := gb126) (o := .cells #[.slice A0_0 l0_0.length c0_0, .slice A0_1 l0_1.length c0_1] 25 (0, 0)) (z113_) hb); have NB127_128 := am_ ((by rw [hg]; exact Nat.ne_of_lt (blk_lt (g := gb127) (o := .cells #[.slice none 0 0, .slice none 0 0] 31 (0, 0)) (z166_)) : gb127 ≠ gb128)); have NB128_127 := am_ ((by rw [hg]; exact Nat.ne_of_gt (blk_lt (g := gb127) (o := .cells #[.slice none 0 0, .slice none 0 0] 31 (0, 0)) (z166_)) : gb128 ≠ gb127)); replace BK127 := am_ (blk_below (g := gb127) (o := .cells #[.slice none 0 0, .slice none 0 0] 31 (0, 0)) (z166_) hb); clear hb hbox hg; have hnb7 := NB126_127.out; have hnc7 := NB127_126.out; have hnb8 := NB126_128.out; have hnc8 := NB128_126.out; obtain ⟨hcz9_0,hcz9_1,hfz9_0,hfz9_1⟩ := bz2_ w6 BK126.out) | ((with_reducible refine gate_callee (f := 11) rfl ?_); refine goesL_ (some 6) rfl rfl Try.func11 (z13_) rfl #[.slice A0_0 l0_0.length c0_0] rfl (z1_) ?_; (with_reducible refine (X35.calls _ _ l0_0 t129 _ ?side1 ?side2 A2.out).mono ?_); (case side1 => exact z217_); (case side2 => exact HC0_0.out); rintro e w10 ⟨v130, rfl, ho0, hb⟩; refine ⟨_, rfl, ?_⟩; have HO131 := am_ (Kd.R_lower ho0 (below_size (z65_))); replace BK126 := am_ (blk_below (g := gb126) (o := .cells #[.slice A0_0 l0_0.length c0_0, .slice A0_1 l0_1.length c0_1] 25 (0, 0)) (z113_) hb); replace BK127 := am_ (blk_below (g := gb127) (o := .cells #[.slice none 0 0, .slice none 0 0] 31 (0, 0)) (z166_) hb); replace BK128 := am_ (blk_below (g := gb128) (o := .cells #[.slice none 0 0, .slice none 0 0] 31 (0, 0)) (by (with_reducible repeat (first | refine bN ?_ _|refine bW ?_|refine bA ?_ _)); exact BK128.out) hb); replace HB := am_ (below_step (z65_) hb); (try clear hb); (try clear hk); (try clear ho0); obtain ⟨Ao11, co11, eo11⟩ := Kd.R_slice HO131.out; subst eo11; have hnb12 := NB128_127.out; have hnc12 := NB127_128.out; obtain ⟨hcz13_0,hcz13_1,hfz13_0,hfz13_1⟩ := bz2_ w10 BK128.out; obtain ⟨hcz14_0,hcz14_1,hfz14_0,hfz14_1⟩ := bz2_ w10 BK126.out) | ((with_reducible refine gate_callee (f := 30) rfl ?_); refine goesL_ (some 10) rfl rfl Try.func30 (z13_) rfl #[.slice A0_1 l0_1.length c0_1] rfl (z1_) ?_; (with_reducible refine (X75.calls _ _ l0_1 t132 _ ?side1 ?side2 A3.out).mono ?_); (case side1 => exact Kd.C_below HR0_1.out (z65_)); (case side2 => exact HC0_1.out); rintro e w15 ⟨v133, rfl, ho0, hb⟩; refine ⟨_, rfl, ?_⟩; replace HO131 := am_ (Kd.R_below (by (with_reducible repeat (first | apply rA|apply rN|apply rW)); exact (Kd.R_mono (Kd.R_far (p := ⟨gb128, 0, none⟩) (Kd.R_types HO131.out BK128.out (by decide)) (fun _ hk => hk.2) (.slice Ao11 t129.length co11)) (fun _ h_ => h_.1))) hb); have HO134 := am_ (Kd.R_lower ho0 (below_size (z65_))); replace BK126 := am_ (blk_below (g := gb126) (o := .cells #[.slice A0_0 l0_0.length c0_0, .slice A0_1 l0_1.length c0_1] 25 (0, 0)) (by (with_reducible repeat (first | refine bN ?_ _|refine bW ?_|refine bA ?_ _)); refine blk_far ?_ NB126_128.out _; (with_reducible repeat (first | refine bN ?_ _|refine bW ?_|refine bA ?_ _)); exact BK126.out) hb); replace BK127 := am_ (blk_below (g := gb127) (o := .cells #[.slice none 0 0, .slice none 0 0] 31 (0, 0)) (by (with_reducible repeat (first | refine bN ?_ _|refine bW ?_|refine bA ?_ _)); refine blk_far ?_ NB127_128.out _; (with_reducible repeat (first | refine bN ?_ _|refine bW ?_|refine bA ?_ _)); exact BK127.out) hb); replace BK128 := am_ (blk_below (g := gb128) (o := .cells #[.slice Ao11 t129.length co11, .slice none 0 0] 31 (0, 0)) (by (with_reducible repeat (first | refine bN ?_ _|refine bW ?_|refine bA ?_ _)); refine blk_put (cs := #[.slice none 0 0, .slice none 0 0]) ?_ 0 _ rfl; (with_reducible repeat (first | refine bN ?_ _|refine bW ?_|refine bA ?_ _)); exact BK128.out) hb); replace HB := am_ (below_step (z65_) hb); (try clear hb); (try clear hk); (try clear ho0); obtain ⟨Ao16, co16, eo16⟩ := Kd.R_slice HO134.out; subst eo16; obtain ⟨hcz17_0,hcz17_1,hfz17_0,hfz17_1⟩ := bz2_ w15 BK128.out; obtain ⟨hcz18_0,hcz18_1,hfz18_0,hfz18_1⟩ := bz2_ w15 BK127.out))
 refine bodyPost_ret (results_cell_row rfl _ _ gb127 31 #[.slice Ao11 t129.length co11, .slice Ao16 t132.length co16] (0, 0) _ rfl (by (with_reducible repeat (first | refine bN ?_ _|refine bW ?_|refine bA ?_ _)); refine blk_put (cs := #[.slice Ao11 t129.length co11, .slice none 0 0]) ?_ 1 _ rfl; (with_reducible repeat (first | refine bN ?_ _|refine bW ?_|refine bA ?_ _)); refine blk_put (cs := #[.slice none 0 0, .slice none 0 0]) ?_ 0 _ rfl; (with_reducible repeat (first | refine bN ?_ _|refine bW ?_|refine bA ?_ _)); refine blk_far ?_ NB127_128.out _; (with_reducible repeat (first | refine bN ?_ _|refine bW ?_|refine bA ?_ _)); exact BK127.out) Try.underlying31 rfl (z13_)) rfl ?_
 exact ⟨_, _, z6_, by (with_reducible repeat (first | apply rA|apply rN|apply rW)); exact Kd.R_mono (Kd.R_far (p := ⟨gb127, 1, none⟩) (Kd.R_far (p := ⟨gb127, 0, none⟩) (Kd.R_far (p := ⟨gb128, 1, none⟩) (Kd.R_types (Kd.R_types HO131.out BK128.out (by decide)) BK127.out (by decide)) (fun _ hk => hk.1.2) (.slice Ao16 t132.length co16)) (fun _ hk => hk.2) (.slice Ao11 t129.length co11)) (fun _ hk => hk.2) (.slice Ao16 t132.length co16)) (fun _ hk => trivial), by (with_reducible repeat (first | apply rA|apply rN|apply rW)); exact Kd.R_mono (Kd.R_far (p := ⟨gb127, 1, none⟩) (Kd.R_far (p := ⟨gb127, 0, none⟩) (Kd.R_far (p := ⟨gb128, 1, none⟩) (Kd.R_types (Kd.R_types HO134.out BK128.out (by decide)) BK127.out (by decide)) (fun _ hk => hk.1.2) (.slice Ao16 t132.length co16)) (fun _ hk => hk.2) (.slice Ao11 t129.length co11)) (fun _ hk => hk.2) (.slice Ao16 t132.length co16)) (fun _ hk => trivial), z65_⟩

def X31.l0 : Nat → List Int → List Int → Int → Option (Bool)
 | 0, _, _, _ => none
 | k + 1, x0, x1, x5 => if x5 < (x0.length : Int) then (if 0 ≤ x5 then (if x5 < (x1.length : Int) then (if (rd x0 x5) = (rd x1 x5) then (X31.l0 k x0 x1 (wrap64 (x5 + 1))) else (some false)) else (none)) else (none)) else (some true)
def X31.f (k : Nat) (l0 : List Int) (l1 : List Int) : Option (Bool) := if (l0.length : Int) = (l1.length : Int) then (X31.l0 k l0 l1 0) else (some false)
theorem X31.mono_l : ∀ k, (∀ y0 y1 y2, LeO (X31.l0 k y0 y1 y2) (X31.l0 (k + 1) y0 y1 y2))
 | 0 => fun _ _ _ r h => by simp [X31.l0] at h
 | k + 1 => by
  have ih0 := X31.mono_l k
  ·intro y0 y1 y2
   unfold X31.l0
   exact z244_
theorem X31.mono : ∀ a0 a1 k, LeO (X31.f k a0 a1) (X31.f (k + 1) a0 a1) := by
 intro a0 a1 k
 have ih0 := X31.mono_l k
 unfold X31.f
 exact z244_
set_option maxHeartbeats 8000000 in
set_option maxRecDepth 100000 in
theorem X31.calls (k : Nat) (A0 : Option Addr) (c0 : Nat) (l0 : List Int) (A1 : Option Addr) (c1 : Nat) (l1 : List Int) (r : Bool) (w : World) (hr0 : Kd.C (Kd.int .i64) w A0 l0.length l0) (hc0 : l0.length ≤ c0) (hr1 : Kd.C (Kd.int .i64) w A1 l1.length l1) (hc1 : l1.length ≤ c1) (h : X31.f k l0 l1 = some r) :
  Calls Try.prog 13 #[.slice A0 l0.length c0, .slice A1 l1.length c1] w fun e w' => e = .returned (.bool r) ∧ Drawn0 w w' := by
 have HR0 := am_ hr0
 have HC0 := am_ hc0
 clear hr0 hc0
 have HR1 := am_ hr1
 have HC1 := am_ hc1
 clear hr1 hc1
 unfold X31.f at h;have H := h;clear h
 by_cases c3 : (l0.length : Int) = (l1.length : Int)
 ·(rw [if_pos c3] at H);have c3b0 : ((l0.length : Int) == (l1.length : Int)) = true := beq_iff_eq.mpr c3;have c3b1 : ((l0.length : Int) != (l1.length : Int)) = false := bne_eq_false_iff_eq.mpr c3;(have c3b2 : (l0.length == l1.length) = true := by first | simpa using c3 | (simp at c3 ⊢; omega));clear c3;have H' := am_ H;clear H;go_enter Try.func13, Try.ntmps13;go_wp2
  repeat (go_quiet (fail); try go_wp2)
  go_loopg [5] k (fun kq v5 w' => ∃ (x5_1 : Int), v5 = .int .i64 x5_1 ∧ Aside0 (X31.l0 kq l0 l1 x5_1 = some r) ∧ Aside0 (kq ≤ k) ∧ Drawn0 w w')
  case atStart => exact ⟨(0), (z8_), H', ⟨Nat.le_refl _⟩, z10_⟩
  case round =>
   clear H';(try clear c1);(try clear c3);(try clear c3b0);(try clear c3b1);(try clear c3b2);obtain ⟨x5_1, rfl, HA, HK1, ⟨m1, rfl⟩⟩ := hrel
   cases gk with
   | zero => exact absurd HA.out (by simp [X31.l0])
   | succ k1 =>
    have H := HA.out;clear HA;(simp only [X31.l0] at H);by_cases c4 : x5_1 < (l0.length : Int)
    ·(rw [if_pos c4] at H);have c4b0 := decide_eq_true c4;clear c4;obtain ⟨c5b0,H⟩ := pd_ H;obtain ⟨c6b0,H⟩ := pd_ H;by_cases c7 : (rd l0 x5_1) = (rd l1 x5_1)
     ·(rw [if_pos c7] at H);have c7b0 : ((rd l0 x5_1) == (rd l1 x5_1)) = true := beq_iff_eq.mpr c7;have c7b1 : ((rd l0 x5_1) != (rd l1 x5_1)) = false := bne_eq_false_iff_eq.mpr c7;clear c7;have H' := am_ H;clear H;obtain ⟨p135,q135,ad135,e135,hx135_0⟩ := aq_ (Kd.at_int HR0.out x5_1) z0_ z0_;cases e135;obtain ⟨p136,q136,ad136,e136,hx136_0⟩ := aq_ (Kd.at_int HR1.out x5_1) z0_ z0_;cases e136;go_wp2
      repeat (go_quiet (fail); try go_wp2)
      go_roundg k1
      case measure => have := HK1.out; omega
      case rel => exact ⟨(wrap64 (x5_1 + 1)), (z8_), H', ⟨z111_⟩, z10_⟩
     ·(rw [if_neg c7] at H);have c7b0 : ((rd l0 x5_1) == (rd l1 x5_1)) = false := beq_eq_false_iff_ne.mpr c7;have c7b1 : ((rd l0 x5_1) != (rd l1 x5_1)) = true := bne_iff_ne.mpr c7;obtain rfl := Option.some.inj H;obtain ⟨p135,q135,ad135,e135,hx135_0⟩ := aq_ (Kd.at_int HR0.out x5_1) z0_ z0_;cases e135;obtain ⟨p136,q136,ad136,e136,hx136_0⟩ := aq_ (Kd.at_int HR1.out x5_1) z0_ z0_;cases e136;go_wp2
      repeat (go_quiet (fail); try go_wp2)
      go_ret;exact ⟨z8_, z10_⟩
    ·(rw [if_neg c4] at H);have c4b0 := decide_eq_false c4;clear c4;obtain rfl := Option.some.inj H;go_wp2
     repeat (go_quiet (fail); try go_wp2)
     go_ret;exact ⟨z8_, z10_⟩
 ·(rw [if_neg c3] at H);have c3b0 : ((l0.length : Int) == (l1.length : Int)) = false := beq_eq_false_iff_ne.mpr c3;have c3b1 : ((l0.length : Int) != (l1.length : Int)) = true := bne_iff_ne.mpr c3;(have c3b2 : (l0.length == l1.length) = false := by first | simpa using c3 | (simp at c3 ⊢; omega));obtain rfl := Option.some.inj H;go_enter Try.func13, Try.ntmps13;go_wp2
  repeat (go_quiet (fail); try go_wp2)
  go_ret;exact ⟨z8_, z10_⟩

end Go.Proofs.Ytnmdcmfhjhgheaa.PFnExactWorstNode
