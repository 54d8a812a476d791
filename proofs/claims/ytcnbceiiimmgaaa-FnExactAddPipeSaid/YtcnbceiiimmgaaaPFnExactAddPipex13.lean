-- Printed by a program of this session (wip/hprint.sh: the kit's print with hand-proved contracts put in); not by print.sh itself.
import Derived.Test.YtcnbceiiimmgaaaPFnExactAddPipex0
import Derived.Test.YtcnbceiiimmgaaaPFnExactAddPipex11
import Derived.Test.YtcnbceiiimmgaaaPFnExactAddPipex12
namespace Go.Proofs.Ytcnbceiiimmgaaa.PFnExactAddPipe
open Go.RowKit Go.Proofs.YtcnbceiiimmgaaaW.PrintWords Go.Proofs.YtcnbceiiimmgaaaW.PrintLast Go.Proofs.YtcnbceiiimmgaaaW.PrintMore Go.Proofs.YtcnbceiiimmgaaaM
attribute [local go_sem] max2_int min2_int max_two min_two max_three min_three max_four min_four   -- for this text's walks alone
set_option linter.unusedVariables false
set_option linter.unusedSimpArgs false

open Go.Proofs.YtcnbceiiimmgaaaM
def heldP : List S36 → Int → Int
  | [], a => a
  | p :: l, a => if p.f0.toList = (mtext a).toList ∧ p.f1 = a + 1 ∧ p.f2 = a + 2 ∧ p.f3 = a + 3 ∧ p.f4 = a + 4 ∧ p.f5 = a + 5 then heldP l (a + 6) else -1
theorem held_marksP (d : Nat) : ∀ a, heldP (marksP a d) a = a + 6 * d := by
  induction d with
  | zero => intro a; simp [marksP, heldP]
  | succ d ih =>
    intro a
    simp only [marksP, heldP]
    rw [if_pos (by simp), ih]
    push_cast; omega
theorem ifs6 {p0 p1 p2 p3 p4 p5 : Prop} [Decidable p0] [Decidable p1] [Decidable p2] [Decidable p3] [Decidable p4] [Decidable p5] (x y : Option Int) : (if p0 then (if p1 then (if p2 then (if p3 then (if p4 then (if p5 then x else y) else y) else y) else y) else y) else y) = if p0 ∧ p1 ∧ p2 ∧ p3 ∧ p4 ∧ p5 then x else y := by
  by_cases h0 : p0 <;> by_cases h1 : p1 <;> by_cases h2 : p2 <;> by_cases h3 : p3 <;> by_cases h4 : p4 <;> by_cases h5 : p5 <;> simp [h0, h1, h2, h3, h4, h5]
theorem rdP_held (c : List S36) (i : Nat) (h : i < c.length) : rd_T36 c (i : Int) = c[i] := by
  unfold rd_T36; rw [Int.toNat_natCast, List.getD_eq_getElem?_getD, List.getElem?_eq_getElem h]; rfl
def laws_heldPipeS_.f (l0 : List S36) (a1 : Int) : Option Int := if (0 ≤ a1 ∧ a1 ≤ 1000000000000) ∧ l0.length ≤ 1000000000000 then some (heldP l0 a1) else none
theorem heldP_loop (l : List S36) (hl : l.length ≤ 1000000000000) : ∀ (d k i : Nat) (a : Int), i ≤ l.length → l.length - i = d → d < k → 0 ≤ a → a + 6 * d ≤ 20000000000000 → laws_heldPipeS.l0 k l a (i : Int) = some (heldP (l.drop i) a) := by
  intro d
  induction d with
  | zero =>
    intro k i a h1 hd hk h0 ha
    obtain ⟨k, rfl⟩ : ∃ m, k = m + 1 := ⟨k - 1, by omega⟩
    simp only [laws_heldPipeS.l0]; rw [if_neg (by omega), List.drop_of_length_le (by omega)]; rfl
  | succ d ih =>
    intro k i a h1 hd hk h0 ha
    obtain ⟨k, rfl⟩ : ∃ m, k = m + 1 := ⟨k - 1, by omega⟩
    have hi : i < l.length := by omega
    have ht : laws_markText_.f a = some (mtext a) := by unfold laws_markText_.f; rw [if_pos (by omega)]
    simp only [laws_heldPipeS.l0]
    rw [if_pos (by omega), if_pos (by omega), ht, rdP_held l i hi]
    simp only [Option.bind_some]
    rw [w64 (x := a + 1) (by omega) (by omega)]
    rw [w64 (x := a + 1 + 1) (by omega) (by omega)]
    rw [w64 (x := a + 1 + 1 + 1) (by omega) (by omega)]
    rw [w64 (x := a + 1 + 1 + 1 + 1) (by omega) (by omega)]
    rw [w64 (x := a + 1 + 1 + 1 + 1 + 1) (by omega) (by omega)]
    rw [w64 (x := a + 1 + 1 + 1 + 1 + 1 + 1) (by omega) (by omega), w64 (x := (i : Int) + 1) (by omega) (by omega)]
    rw [show a + 1 + 1 + 1 + 1 + 1 + 1 = a + 6 by omega, show a + 1 + 1 + 1 + 1 + 1 = a + 5 by omega, show a + 1 + 1 + 1 + 1 = a + 4 by omega, show a + 1 + 1 + 1 = a + 3 by omega, show a + 1 + 1 = a + 2 by omega, show (i : Int) + 1 = ((i + 1 : Nat) : Int) by omega, ih k (i + 1) (a + 6) (by omega) (by omega) (by omega) (by omega) (by omega), ifs6, List.drop_eq_getElem_cons hi]
    simp only [heldP]
    split <;> rfl
theorem laws_heldPipeS_.same (l : List S36) (a : Int) (h : (0 ≤ a ∧ a ≤ 1000000000000) ∧ l.length ≤ 1000000000000) : laws_heldPipeS.f (l.length + 1) l a = some (heldP l a) := by
  unfold laws_heldPipeS.f
  have := heldP_loop l h.2 l.length (l.length + 1) 0 a (by omega) (by omega) (by omega) h.1.1 (by omega)
  simpa using this
theorem laws_heldPipeS_.calls (A0 : Option Addr) (c0 : Nat) (l0 : List (S36)) (a1 : Int) (r : Int) (w : World) (hr0 : Kd.C k36 w A0 l0.length l0) (hc0 : l0.length ≤ c0) (h : laws_heldPipeS_.f l0 a1 = some r) :
    Calls Try.prog 34 #[.slice A0 l0.length c0, .int .i64 a1] w fun e w' => e = .returned (.int .i64 r) ∧ Below w.heap.size w w' := by
  unfold laws_heldPipeS_.f at h
  split at h
  · rename_i hs
    exact laws_heldPipeS.calls (l0.length + 1) A0 c0 l0 a1 r w hr0 hc0 (by rw [← h]; exact laws_heldPipeS_.same l0 a1 hs)
  · exact absurd h (by simp)


/-! ### laws_heldNetwork: function 12 -/
def laws_heldNetwork.f (l0_0 : List Int) (l0_1 : List (S36)) (a1 : Int) : Option (Int) := (laws_heldInt64S_.f l0_0 a1).bind fun t268 => (if t268 < 0 then (some (-1)) else ((laws_heldPipeS_.f l0_1 t268).bind fun t269 => (if t269 < 0 then (some (-1)) else (some t269))))
set_option maxHeartbeats 8000000 in
set_option maxRecDepth 100000 in
theorem laws_heldNetwork.calls (A0_0 : Option Addr) (c0_0 : Nat) (l0_0 : List Int) (A0_1 : Option Addr) (c0_1 : Nat) (l0_1 : List (S36)) (a1 : Int) (r : Int) (w : World) (hr0_0 : Kd.C (Kd.int .i64) w A0_0 l0_0.length l0_0) (hc0_0 : l0_0.length ≤ c0_0) (hr0_1 : Kd.C k36 w A0_1 l0_1.length l0_1) (hc0_1 : l0_1.length ≤ c0_1) (h : laws_heldNetwork.f l0_0 l0_1 a1 = some r) :
  Calls Try.prog 12 #[.agg #[.slice A0_0 l0_0.length c0_0, .slice A0_1 l0_1.length c0_1], .int .i64 a1] w fun e w' => e = .returned (.int .i64 r) ∧ Below w.heap.size w w' := by
 have hu32 := Try.underlying32
 have HR0_0 := Aside0.mk hr0_0
 have HC0_0 := Aside0.mk hc0_0
 clear hr0_0 hc0_0
 have HR0_1 := Aside0.mk hr0_1
 have HC0_1 := Aside0.mk hc0_1
 clear hr0_1 hc0_1
 have HB := Aside0.mk (Below.refl w.heap.size w)
 have H : ((laws_heldInt64S_.f l0_0 a1).bind fun t268 => (if t268 < 0 then (some (-1)) else ((laws_heldPipeS_.f l0_1 t268).bind fun t269 => (if t269 < 0 then (some (-1)) else (some t269))))) = some r := h
 clear h
 replace H := Option.bind_eq_some_iff.mp H
 obtain ⟨t268, A30, H⟩ := H
 have A3 := Aside0.mk A30
 clear A30
 by_cases c4 : t268 < 0
 ·(rw [if_pos c4] at H);have c4b0 := decide_eq_true c4;clear c4;obtain rfl := Option.some.inj H;go_enter Try.func12, Try.ntmps12
  go_wp2_with (first | ((with_reducible refine gate_dst (N := 2) rfl ?_); refine box_event ?hg (N := 2) ?hd (cs := #[.slice A0_0 l0_0.length c0_0, .slice A0_1 l0_1.length c0_1]) (t := 32) ?hr ?_; (case hd => rfl); (case hg => rfl); (case hr => first | (go_simp; done) | (go_simp; rfl)); intro gb267 hg w5 hbox hb; have BK267 := Aside0.mk (hbox); have GW267 := Aside0.mk ((z6_ : w.heap.size ≤ gb267)); have GE267 := Aside0.mk ((z6_ : w.heap.size ≤ gb267)); replace HB := Aside0.mk (below_step (z1_) hb); clear hb hbox hg; have hcz6_0 := bc0_ w5 BK267.out; have hcz6_1 := bc1_ w5 BK267.out; have hfz6_0 := blk_frozen BK267.out 0; have hfz6_1 := blk_frozen BK267.out 1) | ((with_reducible refine gate_callee (f := 33) rfl ?_); refine goesL_ (some 8) rfl rfl Try.func33 (z22_) rfl #[.slice A0_0 l0_0.length c0_0, .int .i64 a1] rfl (z0_) ?_; (with_reducible refine (laws_heldInt64S_.calls _ _ l0_0 a1 t268 _ ?side1 ?side2 A3.out).mono ?_); (case side1 => repeat (first | exact (Kd.C_below HR0_0.out HB.out) | (with_reducible first|refine Kd.C_alloc ?_ _|refine Kd.C_drewN ?_ _|refine Kd.C_drew ?_))); (case side2 => exact HC0_0.out); rintro e w' ⟨rfl, ⟨nd, rfl⟩⟩; refine ⟨_, rfl, ?_⟩))
  go_ret;exact ⟨z13_, z111_⟩
 ·(rw [if_neg c4] at H);have c4b0 := decide_eq_false c4;clear c4;replace H := Option.bind_eq_some_iff.mp H;obtain ⟨t269, A70, H⟩ := H;have A7 := Aside0.mk A70;clear A70;by_cases c8 : t269 < 0
  ·(rw [if_pos c8] at H);have c8b0 := decide_eq_true c8;clear c8;obtain rfl := Option.some.inj H;go_enter Try.func12, Try.ntmps12
   go_wp2_with (first | ((with_reducible refine gate_dst (N := 2) rfl ?_); refine box_event ?hg (N := 2) ?hd (cs := #[.slice A0_0 l0_0.length c0_0, .slice A0_1 l0_1.length c0_1]) (t := 32) ?hr ?_; (case hd => rfl); (case hg => rfl); (case hr => first | (go_simp; done) | (go_simp; rfl)); intro gb267 hg w9 hbox hb; have BK267 := Aside0.mk (hbox); have GW267 := Aside0.mk ((z6_ : w.heap.size ≤ gb267)); have GE267 := Aside0.mk ((z6_ : w.heap.size ≤ gb267)); replace HB := Aside0.mk (below_step (z1_) hb); clear hb hbox hg; have hcz10_0 := bc0_ w9 BK267.out; have hcz10_1 := bc1_ w9 BK267.out; have hfz10_0 := blk_frozen BK267.out 0; have hfz10_1 := blk_frozen BK267.out 1) | ((with_reducible refine gate_callee (f := 33) rfl ?_); refine goesL_ (some 8) rfl rfl Try.func33 (z22_) rfl #[.slice A0_0 l0_0.length c0_0, .int .i64 a1] rfl (z0_) ?_; (with_reducible refine (laws_heldInt64S_.calls _ _ l0_0 a1 t268 _ ?side1 ?side2 A3.out).mono ?_); (case side1 => repeat (first | exact (Kd.C_below HR0_0.out HB.out) | (with_reducible first|refine Kd.C_alloc ?_ _|refine Kd.C_drewN ?_ _|refine Kd.C_drew ?_))); (case side2 => exact HC0_0.out); rintro e w' ⟨rfl, ⟨nd, rfl⟩⟩; refine ⟨_, rfl, ?_⟩) | ((with_reducible refine gate_callee (f := 34) rfl ?_); refine goesL_ (some 14) rfl rfl Try.func34 (z22_) rfl #[.slice A0_1 l0_1.length c0_1, .int .i64 t268] rfl (z0_) ?_; (with_reducible refine (laws_heldPipeS_.calls _ _ l0_1 t268 t269 _ ?side1 ?side2 A7.out).mono ?_); (case side1 => repeat (first | exact (Kd.C_below HR0_1.out (z111_)) | (with_reducible first|refine Kd.C_alloc ?_ _|refine Kd.C_drewN ?_ _|refine Kd.C_drew ?_))); (case side2 => exact HC0_1.out); rintro e w11 ⟨rfl, hb⟩; refine ⟨_, rfl, ?_⟩; replace BK267 := Aside0.mk (blk_below (g := gb267) (o := .cells #[.slice A0_0 l0_0.length c0_0, .slice A0_1 l0_1.length c0_1] 32 (0, 0)) (by (with_reducible repeat (first | refine bN ?_ _|refine bW ?_|refine bA ?_ _)); exact BK267.out) hb); replace HB := Aside0.mk (below_step (z111_) hb); (try clear hb); (try clear hb2); (try clear hk); (try clear hi)))
   go_ret;exact ⟨z13_, z111_⟩
  ·(rw [if_neg c8] at H);have c8b0 := decide_eq_false c8;clear c8;obtain rfl := Option.some.inj H;go_enter Try.func12, Try.ntmps12
   go_wp2_with (first | ((with_reducible refine gate_dst (N := 2) rfl ?_); refine box_event ?hg (N := 2) ?hd (cs := #[.slice A0_0 l0_0.length c0_0, .slice A0_1 l0_1.length c0_1]) (t := 32) ?hr ?_; (case hd => rfl); (case hg => rfl); (case hr => first | (go_simp; done) | (go_simp; rfl)); intro gb267 hg w12 hbox hb; have BK267 := Aside0.mk (hbox); have GW267 := Aside0.mk ((z6_ : w.heap.size ≤ gb267)); have GE267 := Aside0.mk ((z6_ : w.heap.size ≤ gb267)); replace HB := Aside0.mk (below_step (z1_) hb); clear hb hbox hg; have hcz13_0 := bc0_ w12 BK267.out; have hcz13_1 := bc1_ w12 BK267.out; have hfz13_0 := blk_frozen BK267.out 0; have hfz13_1 := blk_frozen BK267.out 1) | ((with_reducible refine gate_callee (f := 33) rfl ?_); refine goesL_ (some 8) rfl rfl Try.func33 (z22_) rfl #[.slice A0_0 l0_0.length c0_0, .int .i64 a1] rfl (z0_) ?_; (with_reducible refine (laws_heldInt64S_.calls _ _ l0_0 a1 t268 _ ?side1 ?side2 A3.out).mono ?_); (case side1 => repeat (first | exact (Kd.C_below HR0_0.out HB.out) | (with_reducible first|refine Kd.C_alloc ?_ _|refine Kd.C_drewN ?_ _|refine Kd.C_drew ?_))); (case side2 => exact HC0_0.out); rintro e w' ⟨rfl, ⟨nd, rfl⟩⟩; refine ⟨_, rfl, ?_⟩) | ((with_reducible refine gate_callee (f := 34) rfl ?_); refine goesL_ (some 14) rfl rfl Try.func34 (z22_) rfl #[.slice A0_1 l0_1.length c0_1, .int .i64 t268] rfl (z0_) ?_; (with_reducible refine (laws_heldPipeS_.calls _ _ l0_1 t268 t269 _ ?side1 ?side2 A7.out).mono ?_); (case side1 => repeat (first | exact (Kd.C_below HR0_1.out (z111_)) | (with_reducible first|refine Kd.C_alloc ?_ _|refine Kd.C_drewN ?_ _|refine Kd.C_drew ?_))); (case side2 => exact HC0_1.out); rintro e w14 ⟨rfl, hb⟩; refine ⟨_, rfl, ?_⟩; replace BK267 := Aside0.mk (blk_below (g := gb267) (o := .cells #[.slice A0_0 l0_0.length c0_0, .slice A0_1 l0_1.length c0_1] 32 (0, 0)) (by (with_reducible repeat (first | refine bN ?_ _|refine bW ?_|refine bA ?_ _)); exact BK267.out) hb); replace HB := Aside0.mk (below_step (z111_) hb); (try clear hb); (try clear hb2); (try clear hk); (try clear hi)))
   go_ret;exact ⟨z13_, z111_⟩

end Go.Proofs.Ytcnbceiiimmgaaa.PFnExactAddPipe
