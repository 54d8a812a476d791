-- Printed by a program of this session (wip/hprint.sh: the kit's print with hand-proved contracts put in); not by print.sh itself.
import Derived.Test.YtnmdcmfhjhgheaaPFnExactTreeFlowsx0
namespace Go.Proofs.Ytnmdcmfhjhgheaa.PFnExactTreeFlows
open Go.RowKit Go.Proofs.YtnmdcmfhjhgheaaW.PrintWords Go.Proofs.YtnmdcmfhjhgheaaW.PrintLast Go.Proofs.YtnmdcmfhjhgheaaW.PrintMore Go.Proofs.YtnmdcmfhjhgheaaM
attribute [local go_sem] max2_int min2_int max_two min_two max_three min_three max_four min_four   -- for this text's walks alone
set_option linter.unusedVariables false
set_option linter.unusedSimpArgs false

/-! ### laws_szInt64S: function 26 -/
def laws_szInt64S.f (l0 : List Int) (a1 : Int) : Option (Int) := if (wrap64 (a1 - (l0.length : Int))) < 0 then (some (-1)) else (some (wrap64 (a1 - (l0.length : Int))))
set_option maxHeartbeats 8000000 in
set_option maxRecDepth 100000 in
theorem laws_szInt64S.calls (A0 : Option Addr) (c0 : Nat) (l0 : List Int) (a1 : Int) (r : Int) (w : World) (hr0 : Kd.C (Kd.int .i64) w A0 l0.length l0) (hc0 : l0.length ≤ c0) (h : laws_szInt64S.f l0 a1 = some r) :
  Calls Try.prog 26 #[.slice A0 l0.length c0, .int .i64 a1] w fun e w' => e = .returned (.int .i64 r) ∧ Drawn0 w w' := by
 have HR0 := Aside0.mk hr0
 have HC0 := Aside0.mk hc0
 clear hr0 hc0
 unfold laws_szInt64S.f at h;have H := h;clear h
 by_cases c3 : (wrap64 (a1 - (l0.length : Int))) < 0
 ·(rw [if_pos c3] at H);have c3b0 := decide_eq_true c3;clear c3;obtain rfl := Option.some.inj H;go_enter Try.func26, Try.ntmps26;go_wp2;go_ret;exact ⟨z8_, z11_⟩
 ·(rw [if_neg c3] at H);have c3b0 := decide_eq_false c3;clear c3;obtain rfl := Option.some.inj H;go_enter Try.func26, Try.ntmps26;go_wp2;go_ret;exact ⟨z8_, z11_⟩

/-! ### laws_szPipe: function 48 -/
def laws_szPipe.f (a0_0 : ByteArray) (a0_1 : Int) (a0_2 : Int) (a0_3 : Int) (a0_4 : Int) (a0_5 : Int) (a1 : Int) : Option (Int) := if (wrap64 (a1 - (a0_0.size : Int))) < 0 then (some (-1)) else (some (wrap64 (a1 - (a0_0.size : Int))))
set_option maxHeartbeats 8000000 in
set_option maxRecDepth 100000 in
theorem laws_szPipe.calls (a0_0 : ByteArray) (a0_1 : Int) (a0_2 : Int) (a0_3 : Int) (a0_4 : Int) (a0_5 : Int) (a1 : Int) (r : Int) (w : World) (h : laws_szPipe.f a0_0 a0_1 a0_2 a0_3 a0_4 a0_5 a1 = some r) :
  Calls Try.prog 48 #[.agg #[.string a0_0, .int .i64 a0_1, .int .i64 a0_2, .int .i64 a0_3, .int .i64 a0_4, .int .i64 a0_5], .int .i64 a1] w fun e w' => e = .returned (.int .i64 r) ∧ Below w.heap.size w w' := by
 have hu68 := Try.underlying68
 have HB := Aside0.mk (Below.refl w.heap.size w)
 unfold laws_szPipe.f at h;have H := h;clear h
 by_cases c3 : (wrap64 (a1 - (a0_0.size : Int))) < 0
 ·(rw [if_pos c3] at H);have c3b0 := decide_eq_true c3;clear c3;obtain rfl := Option.some.inj H;go_enter Try.func48, Try.ntmps48
  go_wp2_with (first | ((with_reducible refine gate_dst (N := 2) rfl ?_); refine box_event ?hg (N := 2) ?hd (cs := #[.string a0_0, .int .i64 a0_1, .int .i64 a0_2, .int .i64 a0_3, .int .i64 a0_4, .int .i64 a0_5]) (t := 68) ?hr ?_; (case hd => rfl); (case hg => rfl); (case hr => first | (go_simp; done) | (go_simp; rfl)); intro gb101 hg w4 hbox hb; have BK101 := Aside0.mk (hbox); have GW101 := Aside0.mk ((z3_ : w.heap.size ≤ gb101)); have GE101 := Aside0.mk ((z3_ : w.heap.size ≤ gb101)); replace HB := Aside0.mk (below_step (z2_) hb); clear hb hbox hg; obtain ⟨hcz5_0,hcz5_1,hcz5_2,hcz5_3,hcz5_4,hcz5_5,hfz5_0,hfz5_1,hfz5_2,hfz5_3,hfz5_4,hfz5_5⟩ := bz6_ w4 BK101.out))
  go_ret;exact ⟨z6_, z209_⟩
 ·(rw [if_neg c3] at H);have c3b0 := decide_eq_false c3;clear c3;obtain rfl := Option.some.inj H;go_enter Try.func48, Try.ntmps48
  go_wp2_with (first | ((with_reducible refine gate_dst (N := 2) rfl ?_); refine box_event ?hg (N := 2) ?hd (cs := #[.string a0_0, .int .i64 a0_1, .int .i64 a0_2, .int .i64 a0_3, .int .i64 a0_4, .int .i64 a0_5]) (t := 68) ?hr ?_; (case hd => rfl); (case hg => rfl); (case hr => first | (go_simp; done) | (go_simp; rfl)); intro gb101 hg w6 hbox hb; have BK101 := Aside0.mk (hbox); have GW101 := Aside0.mk ((z3_ : w.heap.size ≤ gb101)); have GE101 := Aside0.mk ((z3_ : w.heap.size ≤ gb101)); replace HB := Aside0.mk (below_step (z2_) hb); clear hb hbox hg; obtain ⟨hcz7_0,hcz7_1,hcz7_2,hcz7_3,hcz7_4,hcz7_5,hfz7_0,hfz7_1,hfz7_2,hfz7_3,hfz7_4,hfz7_5⟩ := bz6_ w6 BK101.out))
  go_ret;exact ⟨z6_, z209_⟩

/-! ### laws_szPipeS: function 27 -/
def laws_szPipeS.l0 : Nat → List (S68) → Int → Int → Option (Int)
 | 0, _, _, _ => none
 | k + 1, x0, x1, x5 => if x5 < (x0.length : Int) then (if 0 ≤ x5 then ((laws_szPipe.f ((rd_T68 x0 x5).f0) ((rd_T68 x0 x5).f1) ((rd_T68 x0 x5).f2) ((rd_T68 x0 x5).f3) ((rd_T68 x0 x5).f4) ((rd_T68 x0 x5).f5) x1).bind fun t103 => (if t103 < 0 then (some (-1)) else (laws_szPipeS.l0 k x0 t103 (wrap64 (x5 + 1))))) else (none)) else (some x1)
def laws_szPipeS.f (k : Nat) (l0 : List (S68)) (a1 : Int) : Option (Int) := if (wrap64 (a1 - (l0.length : Int))) < 0 then (some (-1)) else (laws_szPipeS.l0 k l0 (wrap64 (a1 - (l0.length : Int))) 0)
theorem laws_szPipeS.mono_l : ∀ k, (∀ y0 y1 y2, LeO (laws_szPipeS.l0 k y0 y1 y2) (laws_szPipeS.l0 (k + 1) y0 y1 y2))
 | 0 => fun _ _ _ r h => by simp [laws_szPipeS.l0] at h
 | k + 1 => by
  have ih0 := laws_szPipeS.mono_l k
  ·intro y0 y1 y2
   unfold laws_szPipeS.l0
   exact z244_
theorem laws_szPipeS.mono : ∀ a0 a1 k, LeO (laws_szPipeS.f k a0 a1) (laws_szPipeS.f (k + 1) a0 a1) := by
 intro a0 a1 k
 have ih0 := laws_szPipeS.mono_l k
 unfold laws_szPipeS.f
 exact z244_
set_option maxHeartbeats 8000000 in
set_option maxRecDepth 100000 in
theorem laws_szPipeS.calls (k : Nat) (A0 : Option Addr) (c0 : Nat) (l0 : List (S68)) (a1 : Int) (r : Int) (w : World) (hr0 : Kd.C k68 w A0 l0.length l0) (hc0 : l0.length ≤ c0) (h : laws_szPipeS.f k l0 a1 = some r) :
  Calls Try.prog 27 #[.slice A0 l0.length c0, .int .i64 a1] w fun e w' => e = .returned (.int .i64 r) ∧ Below w.heap.size w w' := by
 have hu68 := Try.underlying68
 have HR0 := Aside0.mk hr0
 have HC0 := Aside0.mk hc0
 clear hr0 hc0
 have HB := Aside0.mk (Below.refl w.heap.size w)
 unfold laws_szPipeS.f at h;have H := h;clear h
 by_cases c3 : (wrap64 (a1 - (l0.length : Int))) < 0
 ·(rw [if_pos c3] at H);have c3b0 := decide_eq_true c3;clear c3;obtain rfl := Option.some.inj H;go_enter Try.func27, Try.ntmps27;go_wp2;go_ret;exact ⟨z6_, z2_⟩
 ·(rw [if_neg c3] at H);have c3b0 := decide_eq_false c3;clear c3;have H' := Aside0.mk H;clear H;go_enter Try.func27, Try.ntmps27;go_wp2
  go_loopg [1, 5] k (fun kq v1 v5 w' => ∃ (x1_1 : Int) (x5_1 : Int), v1 = .int .i64 x1_1 ∧ v5 = .int .i64 x5_1 ∧ Aside0 (laws_szPipeS.l0 kq l0 x1_1 x5_1 = some r) ∧ Aside0 (kq ≤ k) ∧ Aside0 (Below w.heap.size w w'))
  case atStart => exact ⟨(wrap64 (a1 - (l0.length : Int))), (0), (z8_), (z8_), H', ⟨Nat.le_refl _⟩, ⟨z2_⟩⟩
  case round =>
   clear H';(try clear c3);(try clear c3b0);obtain ⟨x1_1, x5_1, rfl, rfl, HA, HK1, HB⟩ := hrel
   cases gk with
   | zero => exact absurd HA.out (by simp [laws_szPipeS.l0])
   | succ k1 =>
    have H := HA.out;clear HA;(simp only [laws_szPipeS.l0] at H);by_cases c4 : x5_1 < (l0.length : Int)
    ·(rw [if_pos c4] at H);have c4b0 := decide_eq_true c4;clear c4;obtain ⟨c5b0,H⟩ := pd_ H;replace H := Option.bind_eq_some_iff.mp H;obtain ⟨t103, A60, H⟩ := H;have A6 := Aside0.mk A60;clear A60;by_cases c7 : t103 < 0
     ·(rw [if_pos c7] at H);have c7b0 := decide_eq_true c7;clear c7;obtain rfl := Option.some.inj H;obtain ⟨p102,q102,ad102,e102,hx102_0,hx102_1,hx102_2,hx102_3,hx102_4,hx102_5⟩ := aq_ (at_T68 (Kd.C_below HR0.out HB.out) x5_1) z0_ z0_;cases e102
      go_wp2_with (first | ((with_reducible refine gate_callee (f := 48) rfl ?_); refine goesL_ (some 23) rfl rfl Try.func48 (z14_) rfl #[.agg #[.string ((rd_T68 l0 x5_1).f0), .int .i64 ((rd_T68 l0 x5_1).f1), .int .i64 ((rd_T68 l0 x5_1).f2), .int .i64 ((rd_T68 l0 x5_1).f3), .int .i64 ((rd_T68 l0 x5_1).f4), .int .i64 ((rd_T68 l0 x5_1).f5)], .int .i64 x1_1] rfl (z1_) ?_; (with_reducible refine (laws_szPipe.calls ((rd_T68 l0 x5_1).f0) ((rd_T68 l0 x5_1).f1) ((rd_T68 l0 x5_1).f2) ((rd_T68 l0 x5_1).f3) ((rd_T68 l0 x5_1).f4) ((rd_T68 l0 x5_1).f5) x1_1 t103 _ A6.out).mono ?_); rintro e w8 ⟨rfl, hb⟩; refine ⟨_, rfl, ?_⟩; replace HB := Aside0.mk (below_step (z2_) hb); (try clear hb); (try clear hi)))
      go_ret;exact ⟨z6_, z2_⟩
     ·(rw [if_neg c7] at H);have c7b0 := decide_eq_false c7;clear c7;have H' := Aside0.mk H;clear H;obtain ⟨p102,q102,ad102,e102,hx102_0,hx102_1,hx102_2,hx102_3,hx102_4,hx102_5⟩ := aq_ (at_T68 (Kd.C_below HR0.out HB.out) x5_1) z0_ z0_;cases e102
      go_wp2_with (first | ((with_reducible refine gate_callee (f := 48) rfl ?_); refine goesL_ (some 23) rfl rfl Try.func48 (z14_) rfl #[.agg #[.string ((rd_T68 l0 x5_1).f0), .int .i64 ((rd_T68 l0 x5_1).f1), .int .i64 ((rd_T68 l0 x5_1).f2), .int .i64 ((rd_T68 l0 x5_1).f3), .int .i64 ((rd_T68 l0 x5_1).f4), .int .i64 ((rd_T68 l0 x5_1).f5)], .int .i64 x1_1] rfl (z1_) ?_; (with_reducible refine (laws_szPipe.calls ((rd_T68 l0 x5_1).f0) ((rd_T68 l0 x5_1).f1) ((rd_T68 l0 x5_1).f2) ((rd_T68 l0 x5_1).f3) ((rd_T68 l0 x5_1).f4) ((rd_T68 l0 x5_1).f5) x1_1 t103 _ A6.out).mono ?_); rintro e w9 ⟨rfl, hb⟩; refine ⟨_, rfl, ?_⟩; replace HB := Aside0.mk (below_step (z2_) hb); (try clear hb); (try clear hi)))
      go_roundg k1
      case measure => have := HK1.out; omega
      case rel => exact ⟨(t103), (wrap64 (x5_1 + 1)), (z8_), (z8_), H', ⟨z136_⟩, ⟨z2_⟩⟩
    ·(rw [if_neg c4] at H);have c4b0 := decide_eq_false c4;clear c4;obtain rfl := Option.some.inj H;go_wp2;go_ret;exact ⟨z6_, z2_⟩

open Go.Proofs.YtnmdcmfhjhgheaaM
/-- How much a list of pipes takes beside its own length. -/
def sizeP : List S68 → Int
  | [] => 0
  | p :: l => (p.f0.size : Int) + sizeP l
theorem sizeP_nonneg (l : List S68) : 0 ≤ sizeP l := by
  induction l with
  | nil => exact Int.le_refl _
  | cons x l ih => simp only [sizeP]; omega
theorem sizeP_drop (l : List S68) (i : Nat) (h : i < l.length) : sizeP (l.drop i) = ((l.getD i z68).f0.size : Int) + sizeP (l.drop (i + 1)) := by
  rw [List.drop_eq_getElem_cons h]
  simp only [sizeP, List.getD_eq_getElem?_getD, List.getElem?_eq_getElem h, Option.getD_some]
theorem sizeP_elem {l : List S68} {m : Int} (h : sizeP l ≤ m) : ∀ p ∈ l, (p.f0.size : Int) ≤ m := by
  induction l with
  | nil => intro x hx; cases hx
  | cons y l ih =>
    simp only [sizeP] at h
    have := sizeP_nonneg l
    intro x hx
    rcases List.mem_cons.mp hx with e | e
    · rw [e]; omega
    · exact ih (by omega) x e
theorem rdP_law (c : List S68) (i : Nat) : rd_T68 c (i : Int) = c.getD i z68 := by unfold rd_T68; rw [Int.toNat_natCast]
def laws_szPipeS_.f (l0 : List S68) (a1 : Int) : Option Int := if (0 ≤ a1 ∧ a1 ≤ 4611686018427387904) ∧ l0.length ≤ 9223372036854775807 ∧ (∀ p ∈ l0, p.f0.size ≤ 9223372036854775807) then some (roomOf a1 ((l0.length : Int) + sizeP l0)) else none
theorem szP_loop (l : List S68) (hl : l.length ≤ 9223372036854775807) (hx : ∀ p ∈ l, p.f0.size ≤ 9223372036854775807) : ∀ (d k : Nat) (i : Nat) (a : Int), i ≤ l.length → l.length - i = d → d < k → 0 ≤ a → a ≤ 4611686018427387904 → laws_szPipeS.l0 k l a (i : Int) = some (roomOf a (sizeP (l.drop i))) := by
  intro d
  induction d with
  | zero =>
    intro k i a h1 hd hk h0 ha
    obtain ⟨k, rfl⟩ : ∃ m, k = m + 1 := ⟨k - 1, by omega⟩
    simp only [laws_szPipeS.l0]; rw [if_neg (by omega), List.drop_of_length_le (by omega)]
    unfold roomOf sizeP
    rw [if_neg (by omega), Int.sub_zero]
  | succ d ih =>
    intro k i a h1 hd hk h0 ha
    obtain ⟨k, rfl⟩ : ∃ m, k = m + 1 := ⟨k - 1, by omega⟩
    simp only [laws_szPipeS.l0]
    have hm := hx _ (getD_mem z68 (show i < l.length by omega))
    have hn := sizeP_nonneg (l.drop (i + 1))
    rw [if_pos (by omega), if_pos (by omega), rdP_law, sizeP_drop l i (by omega)]
    unfold laws_szPipe.f
    rw [w64 (x := a - ((l.getD i z68).f0.size : Int)) (by omega) (by omega)]
    by_cases c : a - ((l.getD i z68).f0.size : Int) < 0
    · rw [if_pos c]
      simp only [Option.bind_some]
      unfold roomOf
      rw [if_pos (by omega), if_pos (by omega)]
    · rw [if_neg c]
      simp only [Option.bind_some]
      rw [if_neg (by omega), w64 (x := (i : Int) + 1) (by omega) (by omega), show (i : Int) + 1 = ((i + 1 : Nat) : Int) by omega, ih k (i + 1) _ (by omega) (by omega) (by omega) (by omega) (by omega)]
      unfold roomOf
      rw [show a - ((l.getD i z68).f0.size : Int) - sizeP (l.drop (i + 1)) = a - (((l.getD i z68).f0.size : Int) + sizeP (l.drop (i + 1))) by omega]
theorem laws_szPipeS_.same (l : List S68) (a : Int) (h : (0 ≤ a ∧ a ≤ 4611686018427387904) ∧ l.length ≤ 9223372036854775807 ∧ (∀ p ∈ l, p.f0.size ≤ 9223372036854775807)) : laws_szPipeS.f (l.length + 1) l a = some (roomOf a ((l.length : Int) + sizeP l)) := by
  unfold laws_szPipeS.f
  have hn := sizeP_nonneg l
  rw [w64 (x := a - (l.length : Int)) (by omega) (by omega)]
  by_cases c : a - (l.length : Int) < 0
  · rw [if_pos c]; unfold roomOf; rw [if_pos (by omega)]
  · rw [if_neg c]
    have := szP_loop l h.2.1 h.2.2 l.length (l.length + 1) 0 (a - (l.length : Int)) (by omega) (by omega) (by omega) (by omega) (by omega)
    rw [List.drop_zero] at this
    rw [show (0 : Int) = ((0 : Nat) : Int) from rfl, this]
    unfold roomOf
    rw [show a - (l.length : Int) - sizeP l = a - ((l.length : Int) + sizeP l) by omega]
theorem laws_szPipeS_.calls (A0 : Option Addr) (c0 : Nat) (l0 : List (S68)) (a1 : Int) (r : Int) (w : World) (hr0 : Kd.C k68 w A0 l0.length l0) (hc0 : l0.length ≤ c0) (h : laws_szPipeS_.f l0 a1 = some r) :
    Calls Try.prog 27 #[.slice A0 l0.length c0, .int .i64 a1] w fun e w' => e = .returned (.int .i64 r) ∧ Below w.heap.size w w' := by
  unfold laws_szPipeS_.f at h
  split at h
  · rename_i hs
    exact laws_szPipeS.calls (l0.length + 1) A0 c0 l0 a1 r w hr0 hc0 (by rw [← h]; exact laws_szPipeS_.same l0 a1 hs)
  · exact absurd h (by simp)


/-! ### laws_szNetwork: function 8 -/
def laws_szNetwork.f (l0_0 : List Int) (l0_1 : List (S68)) (a1 : Int) : Option (Int) := (laws_szInt64S.f l0_0 a1).bind fun t105 => (if t105 < 0 then (some (-1)) else ((laws_szPipeS_.f l0_1 t105).bind fun t106 => (if t106 < 0 then (some (-1)) else (some t106))))
set_option maxHeartbeats 8000000 in
set_option maxRecDepth 100000 in
theorem laws_szNetwork.calls (A0_0 : Option Addr) (c0_0 : Nat) (l0_0 : List Int) (A0_1 : Option Addr) (c0_1 : Nat) (l0_1 : List (S68)) (a1 : Int) (r : Int) (w : World) (hr0_0 : Kd.C (Kd.int .i64) w A0_0 l0_0.length l0_0) (hc0_0 : l0_0.length ≤ c0_0) (hr0_1 : Kd.C k68 w A0_1 l0_1.length l0_1) (hc0_1 : l0_1.length ≤ c0_1) (h : laws_szNetwork.f l0_0 l0_1 a1 = some r) :
  Calls Try.prog 8 #[.agg #[.slice A0_0 l0_0.length c0_0, .slice A0_1 l0_1.length c0_1], .int .i64 a1] w fun e w' => e = .returned (.int .i64 r) ∧ Below w.heap.size w w' := by
 have hu25 := Try.underlying25
 have HR0_0 := Aside0.mk hr0_0
 have HC0_0 := Aside0.mk hc0_0
 clear hr0_0 hc0_0
 have HR0_1 := Aside0.mk hr0_1
 have HC0_1 := Aside0.mk hc0_1
 clear hr0_1 hc0_1
 have HB := Aside0.mk (Below.refl w.heap.size w)
 unfold laws_szNetwork.f at h;have H := h;clear h
 replace H := Option.bind_eq_some_iff.mp H
 obtain ⟨t105, A30, H⟩ := H
 have A3 := Aside0.mk A30
 clear A30
 by_cases c4 : t105 < 0
 ·(rw [if_pos c4] at H);have c4b0 := decide_eq_true c4;clear c4;obtain rfl := Option.some.inj H;go_enter Try.func8, Try.ntmps8
  go_wp2_with (first | ((with_reducible refine gate_dst (N := 2) rfl ?_); refine box_event ?hg (N := 2) ?hd (cs := #[.slice A0_0 l0_0.length c0_0, .slice A0_1 l0_1.length c0_1]) (t := 25) ?hr ?_; (case hd => rfl); (case hg => rfl); (case hr => first | (go_simp; done) | (go_simp; rfl)); intro gb104 hg w5 hbox hb; have BK104 := Aside0.mk (hbox); have GW104 := Aside0.mk ((z3_ : w.heap.size ≤ gb104)); have GE104 := Aside0.mk ((z3_ : w.heap.size ≤ gb104)); replace HB := Aside0.mk (below_step (z2_) hb); clear hb hbox hg; obtain ⟨hcz6_0,hcz6_1,hfz6_0,hfz6_1⟩ := bz2_ w5 BK104.out) | ((with_reducible refine gate_callee (f := 26) rfl ?_); refine goesL_ (some 8) rfl rfl Try.func26 (z14_) rfl #[.slice A0_0 l0_0.length c0_0, .int .i64 a1] rfl (z1_) ?_; (with_reducible refine (laws_szInt64S.calls _ _ l0_0 a1 t105 _ ?side1 ?side2 A3.out).mono ?_); (case side1 => exact z223_); (case side2 => exact HC0_0.out); rintro e w' ⟨rfl, ⟨nd, rfl⟩⟩; refine ⟨_, rfl, ?_⟩))
  go_ret;exact ⟨z6_, z79_⟩
 ·(rw [if_neg c4] at H);have c4b0 := decide_eq_false c4;clear c4;replace H := Option.bind_eq_some_iff.mp H;obtain ⟨t106, A70, H⟩ := H;have A7 := Aside0.mk A70;clear A70;by_cases c8 : t106 < 0
  ·(rw [if_pos c8] at H);have c8b0 := decide_eq_true c8;clear c8;obtain rfl := Option.some.inj H;go_enter Try.func8, Try.ntmps8
   go_wp2_with (first | ((with_reducible refine gate_dst (N := 2) rfl ?_); refine box_event ?hg (N := 2) ?hd (cs := #[.slice A0_0 l0_0.length c0_0, .slice A0_1 l0_1.length c0_1]) (t := 25) ?hr ?_; (case hd => rfl); (case hg => rfl); (case hr => first | (go_simp; done) | (go_simp; rfl)); intro gb104 hg w9 hbox hb; have BK104 := Aside0.mk (hbox); have GW104 := Aside0.mk ((z3_ : w.heap.size ≤ gb104)); have GE104 := Aside0.mk ((z3_ : w.heap.size ≤ gb104)); replace HB := Aside0.mk (below_step (z2_) hb); clear hb hbox hg; obtain ⟨hcz10_0,hcz10_1,hfz10_0,hfz10_1⟩ := bz2_ w9 BK104.out) | ((with_reducible refine gate_callee (f := 26) rfl ?_); refine goesL_ (some 8) rfl rfl Try.func26 (z14_) rfl #[.slice A0_0 l0_0.length c0_0, .int .i64 a1] rfl (z1_) ?_; (with_reducible refine (laws_szInt64S.calls _ _ l0_0 a1 t105 _ ?side1 ?side2 A3.out).mono ?_); (case side1 => exact z223_); (case side2 => exact HC0_0.out); rintro e w' ⟨rfl, ⟨nd, rfl⟩⟩; refine ⟨_, rfl, ?_⟩) | ((with_reducible refine gate_callee (f := 27) rfl ?_); refine goesL_ (some 14) rfl rfl Try.func27 (z14_) rfl #[.slice A0_1 l0_1.length c0_1, .int .i64 t105] rfl (z1_) ?_; (with_reducible refine (laws_szPipeS_.calls _ _ l0_1 t105 t106 _ ?side1 ?side2 A7.out).mono ?_); (case side1 => exact z234_); (case side2 => exact HC0_1.out); rintro e w11 ⟨rfl, hb⟩; refine ⟨_, rfl, ?_⟩; replace BK104 := Aside0.mk (blk_below (g := gb104) (o := .cells #[.slice A0_0 l0_0.length c0_0, .slice A0_1 l0_1.length c0_1] 25 (0, 0)) (by (with_reducible repeat (first | refine bN ?_ _|refine bW ?_|refine bA ?_ _)); exact BK104.out) hb); replace HB := Aside0.mk (below_step (z79_) hb); (try clear hb); (try clear hi)))
   go_ret;exact ⟨z6_, z79_⟩
  ·(rw [if_neg c8] at H);have c8b0 := decide_eq_false c8;clear c8;obtain rfl := Option.some.inj H;go_enter Try.func8, Try.ntmps8
   go_wp2_with (first | ((with_reducible refine gate_dst (N := 2) rfl ?_); refine box_event ?hg (N := 2) ?hd (cs := #[.slice A0_0 l0_0.length c0_0, .slice A0_1 l0_1.length c0_1]) (t := 25) ?hr ?_; (case hd => rfl); (case hg => rfl); (case hr => first | (go_simp; done) | (go_simp; rfl)); intro gb104 hg w12 hbox hb; have BK104 := Aside0.mk (hbox); have GW104 := Aside0.mk ((z3_ : w.heap.size ≤ gb104)); have GE104 := Aside0.mk ((z3_ : w.heap.size ≤ gb104)); replace HB := Aside0.mk (below_step (z2_) hb); clear hb hbox hg; obtain ⟨hcz13_0,hcz13_1,hfz13_0,hfz13_1⟩ := bz2_ w12 BK104.out) | ((with_reducible refine gate_callee (f := 26) rfl ?_); refine goesL_ (some 8) rfl rfl Try.func26 (z14_) rfl #[.slice A0_0 l0_0.length c0_0, .int .i64 a1] rfl (z1_) ?_; (with_reducible refine (laws_szInt64S.calls _ _ l0_0 a1 t105 _ ?side1 ?side2 A3.out).mono ?_); (case side1 => exact z223_); (case side2 => exact HC0_0.out); rintro e w' ⟨rfl, ⟨nd, rfl⟩⟩; refine ⟨_, rfl, ?_⟩) | ((with_reducible refine gate_callee (f := 27) rfl ?_); refine goesL_ (some 14) rfl rfl Try.func27 (z14_) rfl #[.slice A0_1 l0_1.length c0_1, .int .i64 t105] rfl (z1_) ?_; (with_reducible refine (laws_szPipeS_.calls _ _ l0_1 t105 t106 _ ?side1 ?side2 A7.out).mono ?_); (case side1 => exact z234_); (case side2 => exact HC0_1.out); rintro e w14 ⟨rfl, hb⟩; refine ⟨_, rfl, ?_⟩; replace BK104 := Aside0.mk (blk_below (g := gb104) (o := .cells #[.slice A0_0 l0_0.length c0_0, .slice A0_1 l0_1.length c0_1] 25 (0, 0)) (by (with_reducible repeat (first | refine bN ?_ _|refine bW ?_|refine bA ?_ _)); exact BK104.out) hb); replace HB := Aside0.mk (below_step (z79_) hb); (try clear hb); (try clear hi)))
   go_ret;exact ⟨z6_, z79_⟩

/-! ### spec_l00In: function 79 -/
def spec_l00In.f (a0 : Int) (a1 : Int) (a2 : Int) : Option (Bool) := if a0 ≥ a1 then (some (decide (a0 ≤ a2))) else (some false)
set_option maxHeartbeats 8000000 in
set_option maxRecDepth 100000 in
theorem spec_l00In.calls (a0 : Int) (a1 : Int) (a2 : Int) (r : Bool) (w : World) (h : spec_l00In.f a0 a1 a2 = some r) :
  Calls Try.prog 79 #[.int .i64 a0, .int .i64 a1, .int .i64 a2] w fun e w' => e = .returned (.bool r) ∧ Drawn0 w w' := by
 unfold spec_l00In.f at h;have H := h;clear h
 by_cases c4 : a0 ≥ a1
 ·(rw [if_pos c4] at H);have c4b0 : decide (a1 ≤ a0) = true := decide_eq_true c4;clear c4;obtain rfl := Option.some.inj H;go_enter Try.func79, Try.ntmps79;go_wp2;go_ret;exact ⟨z8_, z11_⟩
 ·(rw [if_neg c4] at H);have c4b0 : decide (a1 ≤ a0) = false := decide_eq_false c4;clear c4;obtain rfl := Option.some.inj H;go_enter Try.func79, Try.ntmps79;go_wp2;go_ret;exact ⟨z8_, z11_⟩

open Go.Proofs.YtnmdcmfhjhgheaaM
def spec_l00In_.f (a0 a1 a2 : Int) : Option Bool := some (decide (a1 ≤ a0 ∧ a0 ≤ a2))
theorem spec_l00In_.calls (a0 a1 a2 : Int) (r : Bool) (w : World) (h : spec_l00In_.f a0 a1 a2 = some r) :
    Calls Try.prog 79 #[.int .i64 a0, .int .i64 a1, .int .i64 a2] w fun e w' => e = .returned (.bool r) ∧ Drawn0 w w' :=
  spec_l00In.calls a0 a1 a2 r w ((in_both a0 a1 a2).trans h)

/-! ### spec_l01Small: function 113 -/
def spec_l01Small.f (a0 : Int) : Option (Bool) := if a0 ≥ 97 then (some (decide (a0 ≤ 122))) else (some false)
set_option maxHeartbeats 8000000 in
set_option maxRecDepth 100000 in
theorem spec_l01Small.calls (a0 : Int) (r : Bool) (w : World) (h : spec_l01Small.f a0 = some r) :
  Calls Try.prog 113 #[.int .u8 a0] w fun e w' => e = .returned (.bool r) ∧ Drawn0 w w' := by
 unfold spec_l01Small.f at h;have H := h;clear h
 by_cases c2 : a0 ≥ 97
 ·(rw [if_pos c2] at H);have c2b0 : decide (97 ≤ a0) = true := decide_eq_true c2;clear c2;obtain rfl := Option.some.inj H;go_enter Try.func113, Try.ntmps113;go_wp2;go_ret;exact ⟨z8_, z11_⟩
 ·(rw [if_neg c2] at H);have c2b0 : decide (97 ≤ a0) = false := decide_eq_false c2;clear c2;obtain rfl := Option.some.inj H;go_enter Try.func113, Try.ntmps113;go_wp2;go_ret;exact ⟨z8_, z11_⟩

/-! ### spec_l01Digit: function 114 -/
def spec_l01Digit.f (a0 : Int) : Option (Bool) := if a0 ≥ 48 then (some (decide (a0 ≤ 57))) else (some false)
set_option maxHeartbeats 8000000 in
set_option maxRecDepth 100000 in
theorem spec_l01Digit.calls (a0 : Int) (r : Bool) (w : World) (h : spec_l01Digit.f a0 = some r) :
  Calls Try.prog 114 #[.int .u8 a0] w fun e w' => e = .returned (.bool r) ∧ Drawn0 w w' := by
 unfold spec_l01Digit.f at h;have H := h;clear h
 by_cases c2 : a0 ≥ 48
 ·(rw [if_pos c2] at H);have c2b0 : decide (48 ≤ a0) = true := decide_eq_true c2;clear c2;obtain rfl := Option.some.inj H;go_enter Try.func114, Try.ntmps114;go_wp2;go_ret;exact ⟨z8_, z11_⟩
 ·(rw [if_neg c2] at H);have c2b0 : decide (48 ≤ a0) = false := decide_eq_false c2;clear c2;obtain rfl := Option.some.inj H;go_enter Try.func114, Try.ntmps114;go_wp2;go_ret;exact ⟨z8_, z11_⟩

/-! ### spec_l01Name: function 101 -/
mutual
def spec_l01Name.j0 : Nat → ByteArray → Bool → Option (Bool)
 | 0, _, _ => none
 | k + 1, x0, x16 => if x16 = true then (some false) else (spec_l01Name.l0 k x0 0)
def spec_l01Name.l0 : Nat → ByteArray → Int → Option (Bool)
 | 0, _, _ => none
 | k + 1, x0, x3 => if x3 < (x0.size : Int) then (if 0 ≤ x3 then ((spec_l01Small.f (bt x0 x3)).bind fun t108 => (if t108 = true then (spec_l01Name.l0 k x0 (wrap64 (x3 + 1))) else ((spec_l01Digit.f (bt x0 x3)).bind fun t109 => (if t109 = true then (spec_l01Name.l0 k x0 (wrap64 (x3 + 1))) else (some false))))) else (none)) else (some true)
end
def spec_l01Name.f (k : Nat) (a0 : ByteArray) : Option (Bool) := if a0.toList = ([] : List UInt8) then (spec_l01Name.j0 k a0 true) else (if (a0.size : Int) > 10 then (spec_l01Name.j0 k a0 true) else (if 0 < (a0.size : Int) then ((spec_l01Small.f (bt a0 0)).bind fun t107 => (spec_l01Name.j0 k a0 (!t107))) else (none)))
theorem spec_l01Name.mono_l : ∀ k, (∀ y0 y1, LeO (spec_l01Name.j0 k y0 y1) (spec_l01Name.j0 (k + 1) y0 y1)) ∧ (∀ y0 y1, LeO (spec_l01Name.l0 k y0 y1) (spec_l01Name.l0 (k + 1) y0 y1))
 | 0 => ⟨fun _ _ r h => by simp [spec_l01Name.j0] at h, fun _ _ r h => by simp [spec_l01Name.l0] at h⟩
 | k + 1 => by
  obtain ⟨ih0, ih1⟩ := spec_l01Name.mono_l k
  refine ⟨?_, ?_⟩
  ·intro y0 y1
   unfold spec_l01Name.j0
   exact z245_
  ·intro y0 y1
   unfold spec_l01Name.l0
   exact z245_
theorem spec_l01Name.mono : ∀ a0 k, LeO (spec_l01Name.f k a0) (spec_l01Name.f (k + 1) a0) := by
 intro a0 k
 obtain ⟨ih0, ih1⟩ := spec_l01Name.mono_l k
 unfold spec_l01Name.f
 exact z245_
set_option maxHeartbeats 8000000 in
set_option maxRecDepth 100000 in
theorem spec_l01Name.calls (k : Nat) (a0 : ByteArray) (r : Bool) (w : World) (h : spec_l01Name.f k a0 = some r) :
  Calls Try.prog 101 #[.string a0] w fun e w' => e = .returned (.bool r) ∧ Drawn0 w w' := by
 unfold spec_l01Name.f at h;have H := h;clear h
 have HC2 := Aside0.mk H
 clear H
 go_enter Try.func101, Try.ntmps101
 go_upto_region 1 with (fail)
 go_cut [16] (fun v16 wc => ∃ (kq : Nat) (x16_1 : Bool), v16 = .bool x16_1 ∧ Aside0 (spec_l01Name.j0 kq a0 x16_1 = some r) ∧ Aside0 (kq ≤ k) ∧ Drawn0 w wc)
 case first =>
  have H := HC2.out;clear HC2;by_cases c3 : a0.toList = ([] : List UInt8)
  ·(rw [if_pos c3] at H);have c3b0 : (a0.toList == ([] : List UInt8)) = true := beq_iff_eq.mpr c3;have c3b1 : (a0.toList != ([] : List UInt8)) = false := bne_eq_false_iff_eq.mpr c3;(try (have c3b2 : a0.toList.isEmpty = true := by simpa using c3));clear c3;(first | rw [c3b0] | (simp only [i64_w, i32_w]; rw [c3b0]) | rw [c3b2] | skip);have H' := Aside0.mk H;clear H;go_wp2;go_meet
   case rel => exact ⟨_, (true), (z8_), H', ⟨z160_⟩, z11_⟩
  ·(rw [if_neg c3] at H);have c3b0 : (a0.toList == ([] : List UInt8)) = false := beq_eq_false_iff_ne.mpr c3;have c3b1 : (a0.toList != ([] : List UInt8)) = true := bne_iff_ne.mpr c3;(try (have c3b2 : a0.toList.isEmpty = false := by simpa using c3));(first | rw [c3b0] | (simp only [i64_w, i32_w]; rw [c3b0]) | rw [c3b2] | skip);by_cases c4 : (a0.size : Int) > 10
   ·(rw [if_pos c4] at H);have c4b0 : decide (10 < (a0.size : Int)) = true := decide_eq_true c4;have c4b1 : decide (10 < a0.size) = true := decide_eq_true (by omega);clear c4;have H' := Aside0.mk H;clear H;go_wp2;go_meet
    case rel => exact ⟨_, (true), (z8_), H', ⟨z160_⟩, z11_⟩
   ·(rw [if_neg c4] at H);have c4b0 : decide (10 < (a0.size : Int)) = false := decide_eq_false c4;have c4b1 : decide (10 < a0.size) = false := decide_eq_false (by omega);clear c4;obtain ⟨c5,H⟩ := pp_ H;have c5b0 := decide_eq_true c5;have c5b1 : decide (0 < a0.size) = true := decide_eq_true (by omega);clear c5;replace H := Option.bind_eq_some_iff.mp H;obtain ⟨t107, A70, H⟩ := H;have A7 := Aside0.mk A70;clear A70;have H' := Aside0.mk H;clear H;have p6 : 0 ≤ (0 : Int) := (by omega);have q6 : 0 < a0.size := (by have : (0 : Int) < (a0.size : Int) := of_decide_eq_true (z0_); omega);have hx6 : ∀ h : 0 < a0.size, ((a0[0]'h).toNat : Int) = bt a0 0 := bt_at a0 0;clear p6;have qi6 : (0 < (a0.size : Int)) = True := eq_true (of_decide_eq_true (z0_));replace q6 := eq_true q6
    go_wp2_with (first | (go_at_call 113; (with_reducible refine (spec_l01Small.calls (bt a0 0) t107 _ A7.out).mono ?_); rintro e w' ⟨rfl, ⟨nd, rfl⟩⟩))
    go_meet
    case rel => exact ⟨_, (!t107), (z8_), H', ⟨z160_⟩, z11_⟩
 case rest =>
  clear HC2;(try clear c3);(try clear c3b0);(try clear c3b1);(try clear c3b2);(try clear c4);(try clear c4b0);(try clear c4b1);(try clear c5);(try clear c5b0);(try clear c5b1);(try clear p6);(try clear q6);(try clear hx6);(try clear qi6);(try clear p6);(try clear q6);obtain ⟨kq, x16_1, rfl, HA, HJ1, ⟨mc1, rfl⟩⟩ := hcut
  cases kq with
  | zero => exact absurd HA.out (by simp [spec_l01Name.j0])
  | succ kj1 =>
   have H := HA.out;clear HA;(simp only [spec_l01Name.j0] at H);by_cases c8 : x16_1 = true
   ·subst c8;(rw [if_pos rfl] at H);obtain rfl := Option.some.inj H;go_wp2;go_ret;exact ⟨z8_, z11_⟩
   ·replace c8 := Bool.eq_false_iff.mpr c8;subst c8;(rw [if_neg (show ¬ (false = true) by decide)] at H);have H' := Aside0.mk H;clear H;go_wp2
    go_loopg [3] kj1 (fun kq v3 w' => ∃ (x3_2 : Int), v3 = .int .i64 x3_2 ∧ Aside0 (spec_l01Name.l0 kq a0 x3_2 = some r) ∧ Aside0 (kq ≤ kj1) ∧ Drawn0 w w')
    case atStart => exact ⟨(0), (z8_), H', ⟨Nat.le_refl _⟩, z11_⟩
    case round =>
     clear H';(try clear c3);(try clear c3b0);(try clear c3b1);(try clear c3b2);(try clear c4);(try clear c4b0);(try clear c4b1);(try clear c5);(try clear c5b0);(try clear c5b1);(try clear p6);(try clear q6);(try clear hx6);(try clear qi6);(try clear c8);(try clear p6);(try clear q6);obtain ⟨x3_2, rfl, HA, HK2, ⟨m2, rfl⟩⟩ := hrel
     cases gk with
     | zero => exact absurd HA.out (by simp [spec_l01Name.l0])
     | succ k2 =>
      have H := HA.out;clear HA;(simp only [spec_l01Name.l0] at H);by_cases c9 : x3_2 < (a0.size : Int)
      ·(rw [if_pos c9] at H);have c9b0 := decide_eq_true c9;clear c9;obtain ⟨c10b0,H⟩ := pd_ H;replace H := Option.bind_eq_some_iff.mp H;obtain ⟨t108, A120, H⟩ := H;have A12 := Aside0.mk A120;clear A120;by_cases c13 : t108 = true
       ·subst c13;(rw [if_pos rfl] at H);have H' := Aside0.mk H;clear H;have p11 : 0 ≤ (x3_2 : Int) := of_decide_eq_true (z0_);have q11 : x3_2 < (a0.size : Int) := of_decide_eq_true (z0_);have hx11 := bt_at a0 x3_2;replace p11 := eq_true p11;replace q11 := eq_true q11
        go_wp2_with (first | ((with_reducible refine gate_callee (f := 113) rfl ?_); refine goesL_ (some 26) rfl rfl Try.func113 (z14_) rfl #[.int .u8 (bt a0 x3_2)] rfl (z1_) ?_; (with_reducible refine (spec_l01Small.calls (bt a0 x3_2) true _ A12.out).mono ?_); rintro e w' ⟨rfl, ⟨nd, rfl⟩⟩; refine ⟨_, rfl, ?_⟩))
        go_roundg k2
        case measure => have := HJ1.out; have := HK2.out; omega
        case rel => exact ⟨(wrap64 (x3_2 + 1)), (z8_), H', ⟨z221_⟩, z11_⟩
       ·replace c13 := Bool.eq_false_iff.mpr c13;subst c13;(rw [if_neg (show ¬ (false = true) by decide)] at H);replace H := Option.bind_eq_some_iff.mp H;obtain ⟨t109, A150, H⟩ := H;have A15 := Aside0.mk A150;clear A150;by_cases c16 : t109 = true
        ·subst c16;(rw [if_pos rfl] at H);have H' := Aside0.mk H;clear H;have p11 : 0 ≤ (x3_2 : Int) := of_decide_eq_true (z0_);have q11 : x3_2 < (a0.size : Int) := of_decide_eq_true (z0_);have hx11 := bt_at a0 x3_2;replace p11 := eq_true p11;replace q11 := eq_true q11
         go_wp2_with (first | ((with_reducible refine gate_callee (f := 113) rfl ?_); refine goesL_ (some 26) rfl rfl Try.func113 (z14_) rfl #[.int .u8 (bt a0 x3_2)] rfl (z1_) ?_; (with_reducible refine (spec_l01Small.calls (bt a0 x3_2) false _ A12.out).mono ?_); rintro e w' ⟨rfl, ⟨nd, rfl⟩⟩; refine ⟨_, rfl, ?_⟩; have p14 : 0 ≤ (x3_2 : Int) := of_decide_eq_true (z0_); have q14 : x3_2 < (a0.size : Int) := of_decide_eq_true (z0_); have hx14 := bt_at a0 x3_2; replace p14 := eq_true p14; replace q14 := eq_true q14) | (go_at_call 114; (with_reducible refine (spec_l01Digit.calls (bt a0 x3_2) true _ A15.out).mono ?_); rintro e w' ⟨rfl, ⟨nd, rfl⟩⟩))
         go_roundg k2
         case measure => have := HJ1.out; have := HK2.out; omega
         case rel => exact ⟨(wrap64 (x3_2 + 1)), (z8_), H', ⟨z221_⟩, z11_⟩
        ·replace c16 := Bool.eq_false_iff.mpr c16;subst c16;(rw [if_neg (show ¬ (false = true) by decide)] at H);obtain rfl := Option.some.inj H;have p11 : 0 ≤ (x3_2 : Int) := of_decide_eq_true (z0_);have q11 : x3_2 < (a0.size : Int) := of_decide_eq_true (z0_);have hx11 := bt_at a0 x3_2;replace p11 := eq_true p11;replace q11 := eq_true q11
         go_wp2_with (first | ((with_reducible refine gate_callee (f := 113) rfl ?_); refine goesL_ (some 26) rfl rfl Try.func113 (z14_) rfl #[.int .u8 (bt a0 x3_2)] rfl (z1_) ?_; (with_reducible refine (spec_l01Small.calls (bt a0 x3_2) false _ A12.out).mono ?_); rintro e w' ⟨rfl, ⟨nd, rfl⟩⟩; refine ⟨_, rfl, ?_⟩; have p14 : 0 ≤ (x3_2 : Int) := of_decide_eq_true (z0_); have q14 : x3_2 < (a0.size : Int) := of_decide_eq_true (z0_); have hx14 := bt_at a0 x3_2; replace p14 := eq_true p14; replace q14 := eq_true q14) | (go_at_call 114; (with_reducible refine (spec_l01Digit.calls (bt a0 x3_2) false _ A15.out).mono ?_); rintro e w' ⟨rfl, ⟨nd, rfl⟩⟩))
         go_ret;exact ⟨z8_, z11_⟩
      ·(rw [if_neg c9] at H);have c9b0 := decide_eq_false c9;clear c9;obtain rfl := Option.some.inj H;go_wp2;go_ret;exact ⟨z8_, z11_⟩

open Go.Proofs.YtnmdcmfhjhgheaaM
def spec_l01Name_.f (a0 : ByteArray) : Option Bool := if a0.size ≤ 9000000000000000000 then some (nameOk a0) else none
theorem small_f (c : Int) : spec_l01Small.f c = some (decide (97 ≤ c) && decide (c ≤ 122)) := by
  unfold spec_l01Small.f
  by_cases h : 97 ≤ c
  · rw [if_pos h]; simp [h]
  · rw [if_neg h]; simp [h]
theorem digit_f (c : Int) : spec_l01Digit.f c = some (decide (48 ≤ c) && decide (c ≤ 57)) := by
  unfold spec_l01Digit.f
  by_cases h : 48 ≤ c
  · rw [if_pos h]; simp [h]
  · rw [if_neg h]; simp [h]
theorem spec_names (s : ByteArray) (hs : s.size ≤ 9000000000000000000) : ∀ (d k : Nat) (i : Int), 0 ≤ i → (s.size : Int) - i = d → d < k → spec_l01Name.l0 k s i = some (namesFrom s d i) := by
  intro d
  induction d with
  | zero =>
    intro k i h0 hd hk
    obtain ⟨k, rfl⟩ : ∃ m, k = m + 1 := ⟨k - 1, by omega⟩
    simp only [spec_l01Name.l0]; rw [if_neg (by omega)]; rfl
  | succ d ih =>
    intro k i h0 hd hk
    obtain ⟨k, rfl⟩ : ∃ m, k = m + 1 := ⟨k - 1, by omega⟩
    have := ih k (i + 1) (by omega) (by omega) (by omega)
    simp only [spec_l01Name.l0]
    rw [if_pos (by omega), if_pos h0, small_f, digit_f, w64 (x := i + 1) (by omega) (by omega), this]
    simp only [Option.bind_some, namesFrom, nameByte]
    cases (decide (97 ≤ bt s i) && decide (bt s i ≤ 122)) <;> cases (decide (48 ≤ bt s i) && decide (bt s i ≤ 57)) <;> simp
theorem spec_l01Name_.same (s : ByteArray) (hs : s.size ≤ 9000000000000000000) : spec_l01Name.f (s.size + 2) s = some (nameOk s) := by
  unfold spec_l01Name.f nameOk
  rw [small_f]
  simp only [Option.bind_some, spec_l01Name.j0]
  by_cases h0 : s.size = 0
  · rw [if_pos ((size_empty s).2 h0)]; simp [h0]
  · rw [if_neg (fun h => h0 ((size_empty s).1 h))]
    by_cases h1 : (s.size : Int) > 10
    · rw [if_pos h1]
      have : ¬ s.size ≤ 10 := by omega
      simp [this]
    · rw [if_neg h1, if_pos (by omega), spec_names s hs s.size (s.size + 1) 0 (by omega) (by omega) (by omega)]
      have e1 : 1 ≤ s.size := by omega
      have e2 : s.size ≤ 10 := by omega
      simp only [e1, e2, decide_true, Bool.true_and]
      cases decide (97 ≤ bt s 0) <;> cases decide (bt s 0 ≤ 122) <;> simp
theorem spec_l01Name_.calls (a0 : ByteArray) (r : Bool) (w : World) (h : spec_l01Name_.f a0 = some r) :
    Calls Try.prog 101 #[.string a0] w fun e w' => e = .returned (.bool r) ∧ Drawn0 w w' := by
  unfold spec_l01Name_.f at h
  split at h
  · rename_i hs
    exact spec_l01Name.calls (a0.size + 2) a0 r w (by rw [← h]; exact spec_l01Name_.same a0 hs)
  · exact absurd h (by simp)


/-! ### spec_l03Ok: function 97 -/
open Go.Proofs.YtnmdcmfhjhgheaaM
theorem l00In_b (x lo hi : Int) (w : World) (b : Bool) (h : decide (lo ≤ x ∧ x ≤ hi) = b) : Calls Try.prog 79 #[.int .i64 x, .int .i64 lo, .int .i64 hi] w fun e w' => e = .returned (.bool b) ∧ Drawn0 w w' :=
  spec_l00In_.calls x lo hi b w (by rw [← h]; rfl)
set_option maxHeartbeats 4000000 in
set_option maxRecDepth 100000 in
/-- l03Ok of a pipe anywhere in memory. -/
theorem l03Ok_core (q : Addr) (s : ByteArray) (f t l d x : Int) (w : World) (b1 b2 b3 b4 b5 b6 b7 : Bool) (C1 : Aside0 (spec_l01Name_.f s = some b1)) (C2 : Aside0 (decide (0 ≤ f ∧ f ≤ 15) = b2)) (C3 : Aside0 (decide (0 ≤ t ∧ t ≤ 15) = b3))
    (h4 : (f == t) = b4) (C5 : Aside0 (decide (1 ≤ l ∧ l ≤ 10000) = b5)) (C6 : Aside0 (decide (20 ≤ d ∧ d ≤ 1000) = b6)) (C7 : Aside0 (decide (0 ≤ x ∧ x ≤ 5000) = b7))
    (c0 : w.cell? q = some (.string s)) (c1 : w.cell? ⟨q.block, q.off + 1, none⟩ = some (.int .i64 f)) (c2 : w.cell? ⟨q.block, q.off + 2, none⟩ = some (.int .i64 t)) (c3 : w.cell? ⟨q.block, q.off + 3, none⟩ = some (.int .i64 l)) (c4 : w.cell? ⟨q.block, q.off + 4, none⟩ = some (.int .i64 d)) (c5 : w.cell? ⟨q.block, q.off + 5, none⟩ = some (.int .i64 x)) :
    Calls Try.prog 97 #[.pointer (some q)] w fun e w' => e = .returned (.bool (b1 && (b2 && (b3 && (!b4 && (b5 && (b6 && b7))))))) ∧ Drawn0 w w' := by
  cases b1
  · go_enter Try.func97, Try.ntmps97
    go_wp2_with fail
    go_quiet ((first | (go_at_call 101; refine Calls.quiet_of (v := .bool false) ?_; (with_reducible refine (spec_l01Name_.calls s false _ C1.out).mono ?_); exact fun e w' hd => ⟨hd.1, hd.2.out⟩) | (go_at_call 79; refine Calls.quiet_of (v := .bool b2) ?_; (with_reducible refine (l00In_b f 0 15 _ b2 C2.out).mono ?_); exact fun e w' hd => ⟨hd.1, hd.2.out⟩) | (go_at_call 79; refine Calls.quiet_of (v := .bool b3) ?_; (with_reducible refine (l00In_b t 0 15 _ b3 C3.out).mono ?_); exact fun e w' hd => ⟨hd.1, hd.2.out⟩)))
    go_wp2
    go_ret
    exact ⟨z214_, z11_⟩
  cases b2
  · go_enter Try.func97, Try.ntmps97
    go_wp2_with fail
    go_quiet ((first | (go_at_call 101; refine Calls.quiet_of (v := .bool true) ?_; (with_reducible refine (spec_l01Name_.calls s true _ C1.out).mono ?_); exact fun e w' hd => ⟨hd.1, hd.2.out⟩) | (go_at_call 79; refine Calls.quiet_of (v := .bool false) ?_; (with_reducible refine (l00In_b f 0 15 _ false C2.out).mono ?_); exact fun e w' hd => ⟨hd.1, hd.2.out⟩) | (go_at_call 79; refine Calls.quiet_of (v := .bool b3) ?_; (with_reducible refine (l00In_b t 0 15 _ b3 C3.out).mono ?_); exact fun e w' hd => ⟨hd.1, hd.2.out⟩)))
    go_wp2
    go_ret
    exact ⟨z214_, z11_⟩
  cases b3
  · go_enter Try.func97, Try.ntmps97
    go_wp2_with fail
    go_quiet ((first | (go_at_call 101; refine Calls.quiet_of (v := .bool true) ?_; (with_reducible refine (spec_l01Name_.calls s true _ C1.out).mono ?_); exact fun e w' hd => ⟨hd.1, hd.2.out⟩) | (go_at_call 79; refine Calls.quiet_of (v := .bool true) ?_; (with_reducible refine (l00In_b f 0 15 _ true C2.out).mono ?_); exact fun e w' hd => ⟨hd.1, hd.2.out⟩) | (go_at_call 79; refine Calls.quiet_of (v := .bool false) ?_; (with_reducible refine (l00In_b t 0 15 _ false C3.out).mono ?_); exact fun e w' hd => ⟨hd.1, hd.2.out⟩)))
    go_wp2
    go_ret
    exact ⟨z214_, z11_⟩
  cases b4
  · cases b5
    · go_enter Try.func97, Try.ntmps97
      go_wp2_with fail
      go_quiet ((first | (go_at_call 101; refine Calls.quiet_of (v := .bool true) ?_; (with_reducible refine (spec_l01Name_.calls s true _ C1.out).mono ?_); exact fun e w' hd => ⟨hd.1, hd.2.out⟩) | (go_at_call 79; refine Calls.quiet_of (v := .bool true) ?_; (with_reducible refine (l00In_b f 0 15 _ true C2.out).mono ?_); exact fun e w' hd => ⟨hd.1, hd.2.out⟩) | (go_at_call 79; refine Calls.quiet_of (v := .bool true) ?_; (with_reducible refine (l00In_b t 0 15 _ true C3.out).mono ?_); exact fun e w' hd => ⟨hd.1, hd.2.out⟩)))
      go_wp2_with (first | (go_at_call 79; (with_reducible refine (l00In_b l 1 10000 _ false C5.out).mono ?_); rintro e w' ⟨rfl, ⟨nd, rfl⟩⟩) | (go_at_call 79; (with_reducible refine (l00In_b d 20 1000 _ b6 C6.out).mono ?_); rintro e w' ⟨rfl, ⟨nd, rfl⟩⟩) | (go_at_call 79; (with_reducible refine (l00In_b x 0 5000 _ b7 C7.out).mono ?_); rintro e w' ⟨rfl, ⟨nd, rfl⟩⟩))
      go_ret
      exact ⟨z214_, z11_⟩
    cases b6
    · go_enter Try.func97, Try.ntmps97
      go_wp2_with fail
      go_quiet ((first | (go_at_call 101; refine Calls.quiet_of (v := .bool true) ?_; (with_reducible refine (spec_l01Name_.calls s true _ C1.out).mono ?_); exact fun e w' hd => ⟨hd.1, hd.2.out⟩) | (go_at_call 79; refine Calls.quiet_of (v := .bool true) ?_; (with_reducible refine (l00In_b f 0 15 _ true C2.out).mono ?_); exact fun e w' hd => ⟨hd.1, hd.2.out⟩) | (go_at_call 79; refine Calls.quiet_of (v := .bool true) ?_; (with_reducible refine (l00In_b t 0 15 _ true C3.out).mono ?_); exact fun e w' hd => ⟨hd.1, hd.2.out⟩)))
      go_wp2_with (first | (go_at_call 79; (with_reducible refine (l00In_b l 1 10000 _ true C5.out).mono ?_); rintro e w' ⟨rfl, ⟨nd, rfl⟩⟩) | (go_at_call 79; (with_reducible refine (l00In_b d 20 1000 _ false C6.out).mono ?_); rintro e w' ⟨rfl, ⟨nd, rfl⟩⟩) | (go_at_call 79; (with_reducible refine (l00In_b x 0 5000 _ b7 C7.out).mono ?_); rintro e w' ⟨rfl, ⟨nd, rfl⟩⟩))
      go_ret
      exact ⟨z214_, z11_⟩
    cases b7
    · go_enter Try.func97, Try.ntmps97
      go_wp2_with fail
      go_quiet ((first | (go_at_call 101; refine Calls.quiet_of (v := .bool true) ?_; (with_reducible refine (spec_l01Name_.calls s true _ C1.out).mono ?_); exact fun e w' hd => ⟨hd.1, hd.2.out⟩) | (go_at_call 79; refine Calls.quiet_of (v := .bool true) ?_; (with_reducible refine (l00In_b f 0 15 _ true C2.out).mono ?_); exact fun e w' hd => ⟨hd.1, hd.2.out⟩) | (go_at_call 79; refine Calls.quiet_of (v := .bool true) ?_; (with_reducible refine (l00In_b t 0 15 _ true C3.out).mono ?_); exact fun e w' hd => ⟨hd.1, hd.2.out⟩)))
      go_wp2_with (first | (go_at_call 79; (with_reducible refine (l00In_b l 1 10000 _ true C5.out).mono ?_); rintro e w' ⟨rfl, ⟨nd, rfl⟩⟩) | (go_at_call 79; (with_reducible refine (l00In_b d 20 1000 _ true C6.out).mono ?_); rintro e w' ⟨rfl, ⟨nd, rfl⟩⟩) | (go_at_call 79; (with_reducible refine (l00In_b x 0 5000 _ false C7.out).mono ?_); rintro e w' ⟨rfl, ⟨nd, rfl⟩⟩))
      go_ret
      exact ⟨z214_, z11_⟩
    · go_enter Try.func97, Try.ntmps97
      go_wp2_with fail
      go_quiet ((first | (go_at_call 101; refine Calls.quiet_of (v := .bool true) ?_; (with_reducible refine (spec_l01Name_.calls s true _ C1.out).mono ?_); exact fun e w' hd => ⟨hd.1, hd.2.out⟩) | (go_at_call 79; refine Calls.quiet_of (v := .bool true) ?_; (with_reducible refine (l00In_b f 0 15 _ true C2.out).mono ?_); exact fun e w' hd => ⟨hd.1, hd.2.out⟩) | (go_at_call 79; refine Calls.quiet_of (v := .bool true) ?_; (with_reducible refine (l00In_b t 0 15 _ true C3.out).mono ?_); exact fun e w' hd => ⟨hd.1, hd.2.out⟩)))
      go_wp2_with (first | (go_at_call 79; (with_reducible refine (l00In_b l 1 10000 _ true C5.out).mono ?_); rintro e w' ⟨rfl, ⟨nd, rfl⟩⟩) | (go_at_call 79; (with_reducible refine (l00In_b d 20 1000 _ true C6.out).mono ?_); rintro e w' ⟨rfl, ⟨nd, rfl⟩⟩) | (go_at_call 79; (with_reducible refine (l00In_b x 0 5000 _ true C7.out).mono ?_); rintro e w' ⟨rfl, ⟨nd, rfl⟩⟩))
      go_ret
      exact ⟨z214_, z11_⟩
  · go_enter Try.func97, Try.ntmps97
    go_wp2_with fail
    go_quiet ((first | (go_at_call 101; refine Calls.quiet_of (v := .bool true) ?_; (with_reducible refine (spec_l01Name_.calls s true _ C1.out).mono ?_); exact fun e w' hd => ⟨hd.1, hd.2.out⟩) | (go_at_call 79; refine Calls.quiet_of (v := .bool true) ?_; (with_reducible refine (l00In_b f 0 15 _ true C2.out).mono ?_); exact fun e w' hd => ⟨hd.1, hd.2.out⟩) | (go_at_call 79; refine Calls.quiet_of (v := .bool true) ?_; (with_reducible refine (l00In_b t 0 15 _ true C3.out).mono ?_); exact fun e w' hd => ⟨hd.1, hd.2.out⟩)))
    go_wp2
    go_ret
    exact ⟨z214_, z11_⟩
theorem l03Ok_addr (q : Addr) (s : ByteArray) (f t l d x : Int) (w : World) (hs : s.size ≤ 9000000000000000000)
    (c0 : w.cell? q = some (.string s)) (c1 : w.cell? ⟨q.block, q.off + 1, none⟩ = some (.int .i64 f)) (c2 : w.cell? ⟨q.block, q.off + 2, none⟩ = some (.int .i64 t)) (c3 : w.cell? ⟨q.block, q.off + 3, none⟩ = some (.int .i64 l)) (c4 : w.cell? ⟨q.block, q.off + 4, none⟩ = some (.int .i64 d)) (c5 : w.cell? ⟨q.block, q.off + 5, none⟩ = some (.int .i64 x)) :
    Calls Try.prog 97 #[.pointer (some q)] w fun e w' => e = .returned (.bool (pipeOk s f t l d x)) ∧ Drawn0 w w' := by
  have h4 : (f == t) = decide (f = t) := by by_cases c : f = t <;> simp [c]
  exact l03Ok_core q s f t l d x w _ _ _ _ _ _ _ ⟨by unfold spec_l01Name_.f; rw [if_pos hs]⟩ ⟨rfl⟩ ⟨rfl⟩ h4 ⟨rfl⟩ ⟨rfl⟩ ⟨rfl⟩ c0 c1 c2 c3 c4 c5
theorem l03Ok_any (b o : Nat) (s : ByteArray) (f t l d x : Int) (w : World) (hs : s.size ≤ 9000000000000000000)
    (c0 : w.cell? ⟨b, o, none⟩ = some (.string s)) (c1 : w.cell? ⟨b, o + 1, none⟩ = some (.int .i64 f)) (c2 : w.cell? ⟨b, o + 2, none⟩ = some (.int .i64 t)) (c3 : w.cell? ⟨b, o + 3, none⟩ = some (.int .i64 l)) (c4 : w.cell? ⟨b, o + 4, none⟩ = some (.int .i64 d)) (c5 : w.cell? ⟨b, o + 5, none⟩ = some (.int .i64 x)) :
    Calls Try.prog 97 #[.pointer (some ⟨b, o, none⟩)] w fun e w' => e = .returned (.bool (pipeOk s f t l d x)) ∧ Drawn0 w w' :=
  l03Ok_addr ⟨b, o, none⟩ s f t l d x w hs c0 c1 c2 c3 c4 c5
def spec_l03Ok.f (a0_0 : ByteArray) (a0_1 a0_2 a0_3 a0_4 a0_5 : Int) : Option Bool := if a0_0.size ≤ 9000000000000000000 then some (pipeOk a0_0 a0_1 a0_2 a0_3 a0_4 a0_5) else none
theorem spec_l03Ok.calls (gr0 : Addr) (a0_0 : ByteArray) (a0_1 a0_2 a0_3 a0_4 a0_5 : Int) (r : Bool) (w : World) (c0 : w.cell? gr0 = some (.string a0_0)) (c1 : w.cell? ⟨gr0.block, gr0.off + 1, none⟩ = some (.int .i64 a0_1)) (c2 : w.cell? ⟨gr0.block, gr0.off + 2, none⟩ = some (.int .i64 a0_2)) (c3 : w.cell? ⟨gr0.block, gr0.off + 3, none⟩ = some (.int .i64 a0_3)) (c4 : w.cell? ⟨gr0.block, gr0.off + 4, none⟩ = some (.int .i64 a0_4)) (c5 : w.cell? ⟨gr0.block, gr0.off + 5, none⟩ = some (.int .i64 a0_5)) (h : spec_l03Ok.f a0_0 a0_1 a0_2 a0_3 a0_4 a0_5 = some r) :
    Calls Try.prog 97 #[.pointer (some gr0)] w fun e w' => e = .returned (.bool r) ∧ Drawn0 w w' := by
  unfold spec_l03Ok.f at h
  split at h
  · rename_i hs
    obtain rfl := Option.some.inj h
    exact l03Ok_addr gr0 a0_0 a0_1 a0_2 a0_3 a0_4 a0_5 w hs c0 c1 c2 c3 c4 c5
  · exact absurd h (by simp)


/-! ### spec_l04Fits: function 92 -/
open Go.Proofs.YtnmdcmfhjhgheaaM
/-- Whether a pipe fits in a network of so many nodes. -/
def fitsOk (n : Nat) (p : S73) : Bool := pipeOk p.f0 p.f1 p.f2 p.f3 p.f4 p.f5 && (decide (p.f1 < (n : Int)) && decide (p.f2 < (n : Int)))
set_option maxHeartbeats 4000000 in
set_option maxRecDepth 100000 in
theorem l04Fits_core (b o : Nat) (q : Addr) (s : ByteArray) (f t l d x : Int) (N : Option Addr) (n cn : Nat) (W : World) (b1 b2 b3 : Bool)
    (H1 : Aside0 (∀ V : World, Below W.heap.size W V → Calls Try.prog 97 #[.pointer (some q)] V fun e w' => e = .returned (.bool b1) ∧ Drawn0 V w')) (h2 : decide (f < (n : Int)) = b2) (h3 : decide (t < (n : Int)) = b3)
    (cN : W.cell? ⟨b, o, none⟩ = some (.slice N n cn)) (c1 : W.cell? ⟨q.block, q.off + 1, none⟩ = some (.int .i64 f)) (c2 : W.cell? ⟨q.block, q.off + 2, none⟩ = some (.int .i64 t)) :
    Calls Try.prog 92 #[.pointer (some ⟨b, o, none⟩), .pointer (some q)] W fun e w' => e = .returned (.bool (b1 && (b2 && b3))) ∧ Drawn0 W w' := by
  cases b1
  · go_enter Try.func92, Try.ntmps92
    go_wp2_with fail
    go_quiet ((go_at_call 97; refine Calls.quiet_of (v := .bool false) ?_; (with_reducible refine (H1.out _ (z176_)).mono ?_); exact fun e w' hd => ⟨hd.1, hd.2.out⟩))
    go_wp2
    go_ret
    exact ⟨z214_, z11_⟩
  cases b2
  · go_enter Try.func92, Try.ntmps92
    go_wp2_with fail
    go_quiet ((go_at_call 97; refine Calls.quiet_of (v := .bool true) ?_; (with_reducible refine (H1.out _ (z176_)).mono ?_); exact fun e w' hd => ⟨hd.1, hd.2.out⟩))
    go_wp2
    go_ret
    exact ⟨z214_, z11_⟩
  · go_enter Try.func92, Try.ntmps92
    go_wp2_with fail
    go_quiet ((go_at_call 97; refine Calls.quiet_of (v := .bool true) ?_; (with_reducible refine (H1.out _ (z176_)).mono ?_); exact fun e w' hd => ⟨hd.1, hd.2.out⟩))
    go_wp2
    go_ret
    exact ⟨z214_, z11_⟩
theorem l04Fits_any (b o : Nat) (q : Addr) (p : S73) (N : Option Addr) (n cn : Nat) (W : World) (hs : p.f0.size ≤ 9000000000000000000) (cN : W.cell? ⟨b, o, none⟩ = some (.slice N n cn))
    (c0 : W.cell? q = some (.string p.f0)) (c1 : W.cell? ⟨q.block, q.off + 1, none⟩ = some (.int .i64 p.f1)) (c2 : W.cell? ⟨q.block, q.off + 2, none⟩ = some (.int .i64 p.f2)) (c3 : W.cell? ⟨q.block, q.off + 3, none⟩ = some (.int .i64 p.f3)) (c4 : W.cell? ⟨q.block, q.off + 4, none⟩ = some (.int .i64 p.f4)) (c5 : W.cell? ⟨q.block, q.off + 5, none⟩ = some (.int .i64 p.f5)) :
    Calls Try.prog 92 #[.pointer (some ⟨b, o, none⟩), .pointer (some q)] W fun e w' => e = .returned (.bool (fitsOk n p)) ∧ Drawn0 W w' :=
  l04Fits_core b o q p.f0 p.f1 p.f2 p.f3 p.f4 p.f5 N n cn W _ _ _ ⟨fun V hb => l03Ok_addr q p.f0 p.f1 p.f2 p.f3 p.f4 p.f5 V hs (pw_cell_below hb c0) (pw_cell_below hb c1) (pw_cell_below hb c2) (pw_cell_below hb c3) (pw_cell_below hb c4) (pw_cell_below hb c5)⟩ rfl rfl cN c1 c2
def spec_l04Fits.f (l0_0 : List Int) (l0_1 : List S73) (a1_0 : ByteArray) (a1_1 a1_2 a1_3 a1_4 a1_5 : Int) : Option Bool := if a1_0.size ≤ 9000000000000000000 then some (fitsOk l0_0.length ⟨a1_0, a1_1, a1_2, a1_3, a1_4, a1_5⟩) else none
theorem spec_l04Fits.calls (gr0 : Nat) (A0_0 : Option Addr) (c0_0 : Nat) (l0_0 : List Int) (A0_1 : Option Addr) (c0_1 : Nat) (l0_1 : List S73) (gr1 : Addr) (a1_0 : ByteArray) (a1_1 a1_2 a1_3 a1_4 a1_5 : Int) (r : Bool) (w : World) (hb0 : w.heap[gr0]? = some (.cells #[.slice A0_0 l0_0.length c0_0, .slice A0_1 l0_1.length c0_1] 31 (0, 0))) (hr0_0 : Kd.C (Kd.int .i64) w A0_0 l0_0.length l0_0) (hc0_0 : l0_0.length ≤ c0_0) (hr0_1 : Kd.C k73 w A0_1 l0_1.length l0_1) (hc0_1 : l0_1.length ≤ c0_1) (c0 : w.cell? gr1 = some (.string a1_0)) (c1 : w.cell? ⟨gr1.block, gr1.off + 1, none⟩ = some (.int .i64 a1_1)) (c2 : w.cell? ⟨gr1.block, gr1.off + 2, none⟩ = some (.int .i64 a1_2)) (c3 : w.cell? ⟨gr1.block, gr1.off + 3, none⟩ = some (.int .i64 a1_3)) (c4 : w.cell? ⟨gr1.block, gr1.off + 4, none⟩ = some (.int .i64 a1_4)) (c5 : w.cell? ⟨gr1.block, gr1.off + 5, none⟩ = some (.int .i64 a1_5)) (h : spec_l04Fits.f l0_0 l0_1 a1_0 a1_1 a1_2 a1_3 a1_4 a1_5 = some r) :
    Calls Try.prog 92 #[.pointer (some ⟨gr0, 0, none⟩), .pointer (some gr1)] w fun e w' => e = .returned (.bool r) ∧ Drawn0 w w' := by
  unfold spec_l04Fits.f at h
  split at h
  · rename_i hs
    obtain rfl := Option.some.inj h
    exact l04Fits_any gr0 0 gr1 ⟨a1_0, a1_1, a1_2, a1_3, a1_4, a1_5⟩ A0_0 l0_0.length c0_0 w hs ((blk_cell hb0 0).trans rfl) c0 c1 c2 c3 c4 c5
  · exact absurd h (by simp)

end Go.Proofs.Ytnmdcmfhjhgheaa.PFnExactTreeFlows
