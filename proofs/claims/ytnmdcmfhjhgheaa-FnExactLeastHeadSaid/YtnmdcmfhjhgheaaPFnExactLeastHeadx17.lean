-- Printed by a program of this session (wip/hprint.sh: the kit's print with hand-proved contracts put in); not by print.sh itself.
import Derived.Test.YtnmdcmfhjhgheaaPFnExactLeastHeadx0
namespace Go.Proofs.Ytnmdcmfhjhgheaa.PFnExactLeastHead
open Go.RowKit Go.Proofs.YtnmdcmfhjhgheaaW.PrintWords Go.Proofs.YtnmdcmfhjhgheaaW.PrintLast Go.Proofs.YtnmdcmfhjhgheaaW.PrintMore Go.Proofs.YtnmdcmfhjhgheaaM
attribute [local go_sem] max2_int min2_int max_two min_two max_three min_three max_four min_four   -- for this text's walks alone
set_option linter.unusedVariables false
set_option linter.unusedSimpArgs false


open Go.Proofs.YtnmdcmfhjhgheaaM
def X53.f (a0 : Int) : Option Int := if -9223372036854775808 < a0 ∧ a0 ≤ 9223372036854775807 then some (absI a0) else none
theorem absI_mx (a : Int) (h : -9223372036854775808 < a ∧ a ≤ 9223372036854775807) : mx a (wrap64 (-a)) = absI a := by
  rw [w64 (by omega) (by omega)]
  unfold mx absI
  by_cases c : a < 0
  · rw [if_pos (by omega), if_pos c]
  · rw [if_neg c]
    by_cases c' : a < -a
    · omega
    · rw [if_neg c']
set_option maxHeartbeats 1000000 in
theorem X53.calls (a0 : Int) (r : Int) (w : World) (h : X53.f a0 = some r) :
    Calls Try.prog 72 #[.int .i64 a0] w fun e w' => e = .returned (.int .i64 r) ∧ Drawn0 w w' := by
  unfold X53.f at h
  split at h
  · rename_i hb
    obtain rfl := Option.some.inj h;have H := am_ (absI_mx a0 hb);clear h hb;rw [← H.out];go_enter Try.func72, Try.ntmps72;go_wp2
    all_goals go_ret
    all_goals exact ⟨by unfold mx; split <;> first | rfl | (exfalso; omega), z10_⟩
  · exact absurd h (by simp)


open Go.Proofs.YtnmdcmfhjhgheaaM
def X54.f (a0 a1 : Int) : Option Int := if a1 ≠ 0 ∧ -2305843009213693952 ≤ a0 ∧ a0 ≤ 2305843009213693952 ∧ -2305843009213693952 ≤ a1 ∧ a1 ≤ 2305843009213693952 then some (rdiv a0 a1) else none
theorem tmod_abs (a b : Int) (hb : b ≠ 0) (b1 : -2305843009213693952 ≤ b) (b2 : b ≤ 2305843009213693952) : -2305843009213693952 ≤ Int.tmod a b ∧ Int.tmod a b ≤ 2305843009213693952 := by
  have hm : Int.natAbs (Int.tmod a b) < Int.natAbs b := by rw [Int.natAbs_tmod]; exact Nat.mod_lt _ (by omega)
  omega
def X54.val (a b t t' : Int) : Int := if wrap64 (t' - t) ≤ t then (if (decide (a < 0) == decide (b < 0)) = true then wrap64 (wrap64 (Int.tdiv a b) + 1) else wrap64 (wrap64 (Int.tdiv a b) - 1)) else wrap64 (Int.tdiv a b)
set_option maxHeartbeats 2000000 in
set_option maxRecDepth 100000 in
theorem X54.core (a b t t' : Int) (w : World) (hb : ¬ b = 0) (z0 : (b == 0) = false) (z1 : (b != 0) = true) (A : Aside0 (X53.f (Int.tmod a b) = some t)) (B : Aside0 (X53.f b = some t')) :
    Calls Try.prog 76 #[.int .i64 a, .int .i64 b] w fun e w' => e = .returned (.int .i64 (X54.val a b t t')) ∧ Drawn0 w w' := by
  unfold X54.val
  by_cases c1 : wrap64 (t' - t) ≤ t
  · rw [if_pos c1]
    have c1b : decide (wrap64 (t' - t) ≤ t) = true := decide_eq_true c1
    clear c1
    by_cases c2 : (decide (a < 0) == decide (b < 0)) = true
    · rw [if_pos c2]
      go_enter Try.func76, Try.ntmps76
      go_wp2
      go_quiet ((go_at_call 72; exact Calls.quiet_of ((X53.calls _ t _ A.out).mono fun e w' ⟨he, hd⟩ => ⟨he, hd.out⟩)))
      go_wp2_with (go_at_call 72; (with_reducible refine (X53.calls b t' _ B.out).mono ?_); rintro e w' ⟨rfl, ⟨nd, rfl⟩⟩)
      go_ret
      exact ⟨rfl, z10_⟩
    · rw [if_neg c2]
      have c2b : (decide (a < 0) == decide (b < 0)) = false := by simpa using c2
      (try (have c7b1 : decide ((decide (a < 0)) = (decide (b < 0))) = false := by simpa using c2))
      (try (have c7b3 : ¬ ((decide (a < 0)) = (decide (b < 0))) := by simpa using c2))
      clear c2
      go_enter Try.func76, Try.ntmps76
      go_wp2
      go_quiet ((go_at_call 72; exact Calls.quiet_of ((X53.calls _ t _ A.out).mono fun e w' ⟨he, hd⟩ => ⟨he, hd.out⟩)))
      go_wp2_with (go_at_call 72; (with_reducible refine (X53.calls b t' _ B.out).mono ?_); rintro e w' ⟨rfl, ⟨nd, rfl⟩⟩)
      go_ret
      exact ⟨rfl, z10_⟩
  · rw [if_neg c1]
    have c1b : decide (wrap64 (t' - t) ≤ t) = false := decide_eq_false c1
    clear c1
    go_enter Try.func76, Try.ntmps76
    go_wp2
    go_quiet ((go_at_call 72; exact Calls.quiet_of ((X53.calls _ t _ A.out).mono fun e w' ⟨he, hd⟩ => ⟨he, hd.out⟩)))
    go_wp2_with (go_at_call 72; (with_reducible refine (X53.calls b t' _ B.out).mono ?_); rintro e w' ⟨rfl, ⟨nd, rfl⟩⟩)
    go_ret
    exact ⟨rfl, z10_⟩
theorem X54.calls (a0 a1 : Int) (r : Int) (w : World) (h : X54.f a0 a1 = some r) :
    Calls Try.prog 76 #[.int .i64 a0, .int .i64 a1] w fun e w' => e = .returned (.int .i64 r) ∧ Drawn0 w w' := by
  unfold X54.f at h
  split at h
  · rename_i hc
    obtain ⟨hb, h1, h2, h3, h4⟩ := hc
    have hm := tmod_abs a0 a1 hb h3 h4
    have A : X53.f (Int.tmod a0 a1) = some (absI (Int.tmod a0 a1)) := by unfold X53.f; rw [if_pos (by omega)]
    have B : X53.f a1 = some (absI a1) := by unfold X53.f; rw [if_pos (by omega)]
    have key := impl_div a0 a1 hb h1 h2 h3 h4 (absI (Int.tmod a0 a1)) (absI a1) (by unfold absI; split <;> split <;> omega) (by unfold absI; split <;> split <;> omega)
    have e : X54.val a0 a1 (absI (Int.tmod a0 a1)) (absI a1) = r := by
      rw [← Option.some.inj h]
      refine Option.some.inj (Eq.trans ?_ key)
      unfold X54.val
      simp only [ge_iff_le]
      split
      · split <;> rfl
      · rfl
    have := X54.core a0 a1 _ _ w hb (beq_eq_false_iff_ne.mpr hb) (bne_iff_ne.mpr hb) ⟨A⟩ ⟨B⟩
    rw [e] at this
    exact this
  · exact absurd h (by simp)


open Go.Proofs.YtnmdcmfhjhgheaaM
def X59.f (a0_0 : ByteArray) (a0_1 a0_2 a0_3 a0_4 a0_5 : Int) (a1 : Int) : Option Int := if (1 ≤ a0_3 ∧ a0_3 ≤ 10000) ∧ (20 ≤ a0_4 ∧ a0_4 ≤ 1000) ∧ (-100000 ≤ a1 ∧ a1 ≤ 100000) then some (dropI a0_3 a0_4 a1) else none
set_option maxHeartbeats 2000000 in
set_option maxRecDepth 100000 in
theorem X59.calls (a0_0 : ByteArray) (a0_1 : Int) (a0_2 : Int) (a0_3 : Int) (a0_4 : Int) (a0_5 : Int) (a1 : Int) (r : Int) (w : World) (h : X59.f a0_0 a0_1 a0_2 a0_3 a0_4 a0_5 a1 = some r) :
    Calls Try.prog 73 #[.agg #[.string a0_0, .int .i64 a0_1, .int .i64 a0_2, .int .i64 a0_3, .int .i64 a0_4, .int .i64 a0_5], .int .i64 a1] w fun e w' => e = .returned (.int .i64 r) ∧ Below w.heap.size w w' := by
  unfold X59.f at h
  split at h
  case isFalse => exact absurd h (by simp)
  rename_i hc
  obtain ⟨⟨h1, h2⟩, ⟨h3, h4⟩, h5, h6⟩ := hc;have A := am_ (show X53.f a1 = some (absI a1) by unfold X53.f; rw [if_pos (by omega)])
  have B := am_ (show X54.f (wrap64 ((wrap64 ((wrap64 (a0_3 * 16200)) * a1)) * absI a1)) (wrap64 ((wrap64 ((wrap64 ((wrap64 (a0_4 * a0_4)) * a0_4)) * a0_4)) * a0_4)) = some r by
    rw [drop_num_w h1 h2 h5 h6, drop_den_w h3 h4]
    have := drop_num h1 h2 h5 h6
    have := drop_den h3 h4
    unfold X54.f
    rw [if_pos (by omega)]
    exact h)
  (generalize absI a1 = s at A B);clear h1 h2 h3 h4 h5 h6 h;have hu39 := Try.underlying73;go_enter Try.func73, Try.ntmps73
  go_wp2_with fail
  go_quiet ((first | (go_at_call 72; refine Calls.quiet_of (v := .int .i64 s) ?_; (with_reducible refine (X53.calls a1 s _ A.out).mono ?_); exact fun e w' hd => ⟨hd.1, hd.2.out⟩) | (go_at_call 76; refine Calls.quiet_of (v := .int .i64 r) ?_; (with_reducible refine (X54.calls _ _ r _ B.out).mono ?_); exact fun e w' hd => ⟨hd.1, hd.2.out⟩)))
  go_wp2;go_ret;exact ⟨z188_, z101_⟩

def X10.l0 : Nat → List Int → List (S73) → Int → Int → Option (Bool)
 | 0, _, _, _, _ => none
 | k + 1, x1, x8, x9, x10 => if x10 < x9 then (if 0 ≤ x10 then (if x10 < (x8.length : Int) then (if x10 < (x1.length : Int) then ((X59.f (X1 x8 x10).f0 (X1 x8 x10).f1 (X1 x8 x10).f2 (X1 x8 x10).f3 (X1 x8 x10).f4 (X1 x8 x10).f5 (rd x1 x10)).bind fun t396 => ((X53.f t396).bind fun t397 => (if t397 > 100000000 then (some false) else (X10.l0 k x1 x8 x9 (wrap64 (x10 + 1)))))) else (none)) else (none)) else (none)) else (some true)
def X10.f (k : Nat) (l0_0 : List Int) (l0_1 : List (S73)) (l1 : List Int) : Option (Bool) := X10.l0 k l1 l0_1 (l0_1.length : Int) 0
theorem X10.mono_l : ∀ k, (∀ y0 y1 y2 y3, LeO (X10.l0 k y0 y1 y2 y3) (X10.l0 (k + 1) y0 y1 y2 y3))
 | 0 => fun _ _ _ _ r h => by simp [X10.l0] at h
 | k + 1 => by
  have ih0 := X10.mono_l k
  ·intro y0 y1 y2 y3
   unfold X10.l0
   exact z244_
theorem X10.mono : ∀ a0 a1 a2 k, LeO (X10.f k a0 a1 a2) (X10.f (k + 1) a0 a1 a2) := by
 intro a0 a1 a2 k
 have ih0 := X10.mono_l k
 unfold X10.f
 exact z244_
def X10.T4 : Bool × List (List Nat × List Nat) := (true, [([], []), ([], []), ([], []), ([1, 2], [1, 2]), ([3], [3]), ([0, 4], [0, 4]), ([5, 5], [5]), ([6], [6])])
def X10.B4 : List Nat := [0, 0, 0, 6, 14, 31, 63, 127]
theorem X10.tab4 : rtab .any (opsOf Try.f39 4) = X10.T4 := by kernel_rfl
theorem X10.bits4 : waitsOk X10.T4.2 X10.B4 = true := by kernel_rfl
set_option maxHeartbeats 8000000 in
set_option maxRecDepth 100000 in
theorem X10.calls (k : Nat) (A0_0 : Option Addr) (c0_0 : Nat) (l0_0 : List Int) (A0_1 : Option Addr) (c0_1 : Nat) (l0_1 : List (S73)) (A1 : Option Addr) (c1 : Nat) (l1 : List Int) (r : Bool) (w : World) (hr0_0 : Kd.C (Kd.int .i64) w A0_0 l0_0.length l0_0) (hc0_0 : l0_0.length ≤ c0_0) (hr0_1 : Kd.C k73 w A0_1 l0_1.length l0_1) (hc0_1 : l0_1.length ≤ c0_1) (hr1 : Kd.C (Kd.int .i64) w A1 l1.length l1) (hc1 : l1.length ≤ c1) (h : X10.f k l0_0 l0_1 l1 = some r) :
  Calls Try.prog 39 #[.agg #[.slice A0_0 l0_0.length c0_0, .slice A0_1 l0_1.length c0_1], .slice A1 l1.length c1] w fun e w' => e = .returned (.bool r) ∧ Below w.heap.size w w' := by
 have hu31 := Try.underlying31
 have hu73 := Try.underlying73
 have HR0_0 := am_ hr0_0
 have HC0_0 := am_ hc0_0
 clear hr0_0 hc0_0
 have HR0_1 := am_ hr0_1
 have HC0_1 := am_ hc0_1
 clear hr0_1 hc0_1
 have HR1 := am_ hr1
 have HC1 := am_ hc1
 clear hr1 hc1
 have HB := am_ (Below.refl w.heap.size w)
 unfold X10.f at h;have H := h;clear h
 have H' := am_ H
 clear H
 go_enter Try.func39, Try.ntmps39
 go_wp2_with (first | ((with_reducible refine gate_dst (N := 2) rfl ?_); refine box_event ?hg (N := 2) ?hd (cs := #[.slice A0_0 l0_0.length c0_0, .slice A0_1 l0_1.length c0_1]) (t := 31) ?hr ?_; (case hd => rfl); (case hg => rfl); (case hr => first | (go_simp; done) | (go_simp; rfl)); intro gb392 hg w3 hbox hb; have BK392 := am_ (hbox); have GW392 := am_ ((z4_ : w.heap.size ≤ gb392)); have GE392 := am_ ((z4_ : w.heap.size ≤ gb392)); replace HB := am_ (below_step (z2_) hb); clear hb hbox hg; obtain ⟨hcz4_0,hcz4_1,hfz4_0,hfz4_1⟩ := bz2_ w3 BK392.out))
 go_loopg [10] k (fun kq v10 w' => ∃ (x10_1 : Int), v10 = .int .i64 x10_1 ∧ Aside0 (X10.l0 kq l1 l0_1 (l0_1.length : Int) x10_1 = some r) ∧ Aside0 (kq ≤ k) ∧ Aside0 (w'.heap[gb392]? = some (.cells #[(.slice A0_0 l0_0.length c0_0), (.slice A0_1 l0_1.length c0_1)] 31 (0, 0))) ∧ Aside0 (Below w.heap.size w w'))
 case atStart => exact ⟨(0), (z8_), H', ⟨Nat.le_refl _⟩, ⟨z69_⟩, ⟨z66_⟩⟩
 case round =>
  clear H';(try clear c1);(try clear hcz4_0);(try clear hcz4_1);(try clear hfz4_0);(try clear hfz4_1);obtain ⟨x10_1, rfl, HA, HK1, BK392, HB⟩ := hrel
  cases gk with
  | zero => exact absurd HA.out (by simp [X10.l0])
  | succ k1 =>
   have H := HA.out;clear HA;(simp only [X10.l0] at H);by_cases c5 : x10_1 < (l0_1.length : Int)
   ·(rw [if_pos c5] at H);have c5b0 := decide_eq_true c5;clear c5;obtain ⟨c6b0,H⟩ := pd_ H;obtain ⟨c7b0,H⟩ := pd_ H;obtain ⟨c8b0,H⟩ := pd_ H;obtain ⟨t396, A90, H⟩ := ob_ H;have A9 := am_ A90;clear A90;obtain ⟨t397, A100, H⟩ := ob_ H;have A10 := am_ A100;clear A100;by_cases c11 : t397 > 100000000
    ·(rw [if_pos c11] at H);have c11b0 : decide (100000000 < t397) = true := decide_eq_true c11;clear c11;obtain rfl := Option.some.inj H;obtain ⟨p393,q393,ad393,e393,hx393_0,hx393_1,hx393_2,hx393_3,hx393_4,hx393_5⟩ := aq_ (X25 (Kd.C_below HR0_1.out HB.out) x10_1) z0_ z0_;cases e393;(try go_wp2_with (first | ((with_reducible refine gate_dst (N := 6) rfl ?_); refine box_event ?hg (N := 6) ?hd (cs := #[.string (⟨#[]⟩ : ByteArray), .int .i64 0, .int .i64 0, .int .i64 0, .int .i64 0, .int .i64 0]) (t := 73) ?hr ?_; (case hd => rfl); (case hg => rfl); (case hr => first | (go_simp; done) | (go_simp; rfl)); intro gb394 hg w12 hbox hb; have BK394 := am_ (hbox); have GW394 := am_ ((z126_ : w.heap.size ≤ gb394)); have GE394 := am_ ((z126_ : w.heap.size ≤ gb394)); replace HB := am_ (below_step (z66_) hb); have NB392_394 := am_ ((z143_ : gb392 ≠ gb394)); have NB394_392 := am_ ((z144_ : gb394 ≠ gb392)); replace BK392 := am_ (blk_below (g := gb392) (o := .cells #[.slice A0_0 l0_0.length c0_0, .slice (some ad393) l0_1.length c0_1] 31 (0, 0)) (z69_) hb); clear hb hbox hg; have hnb13 := NB394_392.out; have hnc13 := NB392_394.out; obtain ⟨hcz14_0,hcz14_1,hcz14_2,hcz14_3,hcz14_4,hcz14_5,hfz14_0,hfz14_1,hfz14_2,hfz14_3,hfz14_4,hfz14_5⟩ := bz6_ w12 BK394.out)));have n0_ : Aside0 (((((((w12.setCell ⟨gb394, 0, none⟩ (.string (X1 l0_1 x10_1).f0)).setCell ⟨gb394, 1, none⟩ (.int .i64 (X1 l0_1 x10_1).f1)).setCell ⟨gb394, 2, none⟩ (.int .i64 (X1 l0_1 x10_1).f2)).setCell ⟨gb394, 3, none⟩ (.int .i64 (X1 l0_1 x10_1).f3)).setCell ⟨gb394, 4, none⟩ (.int .i64 (X1 l0_1 x10_1).f4)).setCell ⟨gb394, 5, none⟩ (.int .i64 (X1 l0_1 x10_1).f5)).heap[gb392]? = some (.cells #[.slice A0_0 l0_0.length c0_0, .slice (some ad393) l0_1.length c0_1] 31 (0, 0))) := ⟨z41_⟩;have n1_ : Aside0 (((((((w12.setCell ⟨gb394, 0, none⟩ (.string (X1 l0_1 x10_1).f0)).setCell ⟨gb394, 1, none⟩ (.int .i64 (X1 l0_1 x10_1).f1)).setCell ⟨gb394, 2, none⟩ (.int .i64 (X1 l0_1 x10_1).f2)).setCell ⟨gb394, 3, none⟩ (.int .i64 (X1 l0_1 x10_1).f3)).setCell ⟨gb394, 4, none⟩ (.int .i64 (X1 l0_1 x10_1).f4)).setCell ⟨gb394, 5, none⟩ (.int .i64 (X1 l0_1 x10_1).f5)).heap[gb394]? = some (.cells #[.string (X1 l0_1 x10_1).f0, .int .i64 (X1 l0_1 x10_1).f1, .int .i64 (X1 l0_1 x10_1).f2, .int .i64 (X1 l0_1 x10_1).f3, .int .i64 (X1 l0_1 x10_1).f4, .int .i64 (X1 l0_1 x10_1).f5] 73 (0, 0))) := ⟨z15_⟩;have n2_ : Aside0 (Below w.heap.size w ((((((w12.setCell ⟨gb394, 0, none⟩ (.string (X1 l0_1 x10_1).f0)).setCell ⟨gb394, 1, none⟩ (.int .i64 (X1 l0_1 x10_1).f1)).setCell ⟨gb394, 2, none⟩ (.int .i64 (X1 l0_1 x10_1).f2)).setCell ⟨gb394, 3, none⟩ (.int .i64 (X1 l0_1 x10_1).f3)).setCell ⟨gb394, 4, none⟩ (.int .i64 (X1 l0_1 x10_1).f4)).setCell ⟨gb394, 5, none⟩ (.int .i64 (X1 l0_1 x10_1).f5))) := ⟨z73_⟩;(try clear BK392);(try clear BK394);(try clear HB);(generalize ((((((w12.setCell ⟨gb394, 0, none⟩ (.string (X1 l0_1 x10_1).f0)).setCell ⟨gb394, 1, none⟩ (.int .i64 (X1 l0_1 x10_1).f1)).setCell ⟨gb394, 2, none⟩ (.int .i64 (X1 l0_1 x10_1).f2)).setCell ⟨gb394, 3, none⟩ (.int .i64 (X1 l0_1 x10_1).f3)).setCell ⟨gb394, 4, none⟩ (.int .i64 (X1 l0_1 x10_1).f4)).setCell ⟨gb394, 5, none⟩ (.int .i64 (X1 l0_1 x10_1).f5)) = w15 at n0_ n1_ n2_ ⊢);have BK392 := n0_;have BK394 := n1_;have HB := n2_;clear n0_ n1_ n2_;replace BK392 := am_ (blk_drew BK392.out);replace BK394 := am_ (blk_drew BK394.out);replace HB := am_ (below_drew1 HB.out);have p395 : 0 ≤ (x10_1 : Int) := of_decide_eq_true (z0_);have q395 : x10_1 < (l1.length : Int) := of_decide_eq_true (z0_);obtain ⟨ad395, e395, hx395_0⟩ := Kd.at_int HR1.out x10_1 p395 q395;have hw395_0 := hx395_0;cases e395;replace hx395_0 := hc_ HB hx395_0;replace p395 := eq_true p395;replace q395 := eq_true q395;refine start_ (n := 8) (S := fun w' => w'.cell? ⟨gb394, 0, none⟩ = some (.string (X1 l0_1 x10_1).f0) ∧ w'.cell? ⟨gb394, 1, none⟩ = some (.int .i64 (X1 l0_1 x10_1).f1) ∧ w'.cell? ⟨gb394, 2, none⟩ = some (.int .i64 (X1 l0_1 x10_1).f2) ∧ w'.cell? ⟨gb394, 3, none⟩ = some (.int .i64 (X1 l0_1 x10_1).f3) ∧ w'.cell? ⟨gb394, 4, none⟩ = some (.int .i64 (X1 l0_1 x10_1).f4) ∧ w'.cell? ⟨gb394, 5, none⟩ = some (.int .i64 (X1 l0_1 x10_1).f5) ∧ w'.cell? (ad395.add (x10_1).toNat) = some (.int .i64 (rd l1 x10_1))) (ds := []) #[J,J,J,J,J,J,J,J] (z12_) rfl rfl ⟨bt_ BK394 0, bt_ BK394 1, bt_ BK394 2, bt_ BK394 3, bt_ BK394 4, bt_ BK394 5, (hc_ HB hw395_0:)⟩ (fun hHeld => ?_); refine with_tabW X10.tab4 X10.bits4 (fun HT_ HW_ => ?_);(generalize w15.drew = w16 at BK392 BK394 HB hx395_0 hHeld ⊢);refine pz_ 1 16 #[J,Y,J,J,J,J,J,J] HT_ ?_;refine pz_ 2 17 #[J,Y,Y,J,J,J,J,J] HT_ ?_;refine pz_ 3 18 #[J,Y,Y,Y,J,J,J,J] HT_ ?_;refine take_ (i := 0) (N := some 15) (v := ?_) (a' := ?_) #[Y,Y,Y,Y,J,J,J,J] rfl rfl (take_ofW HT_.out HW_.out (z12_)) (fun _ _ _ h => h) (Or.inl ⟨by rfl, ?_⟩) hHeld ?_ ?_; rotate_left
     ·rintro w' ⟨s0, s1, s2, s3, s4, s5, s6⟩; go_simp; with_reducible rfl
     rotate_left
     ·simp only [pU,pN,sB,sZ,sS,i64_w,i32_w]; rfl
     refine take_ (i := 4) (N := some 19) (v := ?_) (a' := ?_) #[Y,Y,Y,Y,Y,J,J,J] rfl rfl (take_ofW HT_.out HW_.out (z12_)) (fun _ _ _ h => h) (Or.inl ⟨by rfl, ?_⟩) hHeld ?_ ?_; rotate_left
     ·rintro w' ⟨s0, s1, s2, s3, s4, s5, s6⟩; go_simp; with_reducible rfl
     rotate_left
     ·simp only [pU,pN,sB,sZ,sS,i64_w,i32_w]; rfl
     refine one_ (i := 5) (N := some 20) #[Y,Y,Y,Y,Y,Y,J,J] rfl rfl (one_of HT_.out (z12_)) (by decide) (fun K hK => ?_);refine goes_ Try.func73 (z12_) rfl #[.agg #[.string (X1 l0_1 x10_1).f0, .int .i64 (X1 l0_1 x10_1).f1, .int .i64 (X1 l0_1 x10_1).f2, .int .i64 (X1 l0_1 x10_1).f3, .int .i64 (X1 l0_1 x10_1).f4, .int .i64 (X1 l0_1 x10_1).f5], .int .i64 (rd l1 x10_1)] (by rfl) rfl rfl (z1_) ?_;(with_reducible refine (X59.calls (X1 l0_1 x10_1).f0 (X1 l0_1 x10_1).f1 (X1 l0_1 x10_1).f2 (X1 l0_1 x10_1).f3 (X1 l0_1 x10_1).f4 (X1 l0_1 x10_1).f5 (rd l1 x10_1) t396 _ A9.out).mono ?_);rintro e w17 ⟨rfl, hb⟩;refine ⟨_, rfl, ?_⟩;replace BK392 := am_ (blk_below (g := gb392) (o := .cells #[.slice A0_0 l0_0.length c0_0, .slice (some ad393) l0_1.length c0_1] 31 (0, 0)) (z69_) hb);replace BK394 := am_ (blk_below (g := gb394) (o := .cells #[.string (X1 l0_1 x10_1).f0, .int .i64 (X1 l0_1 x10_1).f1, .int .i64 (X1 l0_1 x10_1).f2, .int .i64 (X1 l0_1 x10_1).f3, .int .i64 (X1 l0_1 x10_1).f4, .int .i64 (X1 l0_1 x10_1).f5] 73 (0, 0)) (by (with_reducible repeat (first | refine bN ?_ _|refine bW ?_|refine bA ?_ _)); exact BK394.out) hb);replace HB := am_ (below_step (z73_) hb);(try clear hb);refine hK.out _ _ ⟨bt_ BK394 0, bt_ BK394 1, bt_ BK394 2, bt_ BK394 3, bt_ BK394 4, bt_ BK394 5, (hc_ HB hw395_0:)⟩ (fun hHeld => ?_);clear hK K;refine norm_ (a' := ?_) ?_ ?_
     rotate_left
     ·show Act.put _ (some 20) _ = _
      simp only [pU,pN,sB,sZ,sS,i64_w,i32_w]
      rfl
     refine one_ (i := 6) (N := some 21) #[Y,Y,Y,Y,Y,Y,Y,J] rfl rfl (one_of HT_.out (z12_)) (by decide) (fun K hK => ?_);refine goes_ Try.func72 (z12_) rfl #[.int .i64 t396] (by rfl) rfl rfl (z1_) ?_;(with_reducible refine (X53.calls t396 t397 _ A10.out).mono ?_);rintro e w' ⟨rfl, ⟨nd, rfl⟩⟩;refine ⟨_, rfl, ?_⟩;refine hK.out _ _ ⟨bt_ BK394 0, bt_ BK394 1, bt_ BK394 2, bt_ BK394 3, bt_ BK394 4, bt_ BK394 5, (hc_ HB hw395_0:)⟩ (fun hHeld => ?_);clear hK K;refine norm_ (a' := ?_) ?_ ?_
     rotate_left
     ·show Act.put _ (some 21) _ = _
      simp only [pU,pN,sB,sZ,sS,i64_w,i32_w]
      rfl
     refine pz_ 7 22 #[Y,Y,Y,Y,Y,Y,Y,Y] HT_ ?_;refine done_ (done_of HT_.out (z12_)) ?_;(try go_wp2);go_ret;exact ⟨z6_, z73_⟩
    ·(rw [if_neg c11] at H);have c11b0 : decide (100000000 < t397) = false := decide_eq_false c11;clear c11;have H' := am_ H;clear H;obtain ⟨p393,q393,ad393,e393,hx393_0,hx393_1,hx393_2,hx393_3,hx393_4,hx393_5⟩ := aq_ (X25 (Kd.C_below HR0_1.out HB.out) x10_1) z0_ z0_;cases e393;(try go_wp2_with (first | ((with_reducible refine gate_dst (N := 6) rfl ?_); refine box_event ?hg (N := 6) ?hd (cs := #[.string (⟨#[]⟩ : ByteArray), .int .i64 0, .int .i64 0, .int .i64 0, .int .i64 0, .int .i64 0]) (t := 73) ?hr ?_; (case hd => rfl); (case hg => rfl); (case hr => first | (go_simp; done) | (go_simp; rfl)); intro gb394 hg w18 hbox hb; have BK394 := am_ (hbox); have GW394 := am_ ((z126_ : w.heap.size ≤ gb394)); have GE394 := am_ ((z126_ : w.heap.size ≤ gb394)); replace HB := am_ (below_step (z66_) hb); have NB392_394 := am_ ((z143_ : gb392 ≠ gb394)); have NB394_392 := am_ ((z144_ : gb394 ≠ gb392)); replace BK392 := am_ (blk_below (g := gb392) (o := .cells #[.slice A0_0 l0_0.length c0_0, .slice (some ad393) l0_1.length c0_1] 31 (0, 0)) (z69_) hb); clear hb hbox hg; have hnb19 := NB394_392.out; have hnc19 := NB392_394.out; obtain ⟨hcz20_0,hcz20_1,hcz20_2,hcz20_3,hcz20_4,hcz20_5,hfz20_0,hfz20_1,hfz20_2,hfz20_3,hfz20_4,hfz20_5⟩ := bz6_ w18 BK394.out)));have n0_ : Aside0 (((((((w18.setCell ⟨gb394, 0, none⟩ (.string (X1 l0_1 x10_1).f0)).setCell ⟨gb394, 1, none⟩ (.int .i64 (X1 l0_1 x10_1).f1)).setCell ⟨gb394, 2, none⟩ (.int .i64 (X1 l0_1 x10_1).f2)).setCell ⟨gb394, 3, none⟩ (.int .i64 (X1 l0_1 x10_1).f3)).setCell ⟨gb394, 4, none⟩ (.int .i64 (X1 l0_1 x10_1).f4)).setCell ⟨gb394, 5, none⟩ (.int .i64 (X1 l0_1 x10_1).f5)).heap[gb392]? = some (.cells #[.slice A0_0 l0_0.length c0_0, .slice (some ad393) l0_1.length c0_1] 31 (0, 0))) := ⟨z41_⟩;have n1_ : Aside0 (((((((w18.setCell ⟨gb394, 0, none⟩ (.string (X1 l0_1 x10_1).f0)).setCell ⟨gb394, 1, none⟩ (.int .i64 (X1 l0_1 x10_1).f1)).setCell ⟨gb394, 2, none⟩ (.int .i64 (X1 l0_1 x10_1).f2)).setCell ⟨gb394, 3, none⟩ (.int .i64 (X1 l0_1 x10_1).f3)).setCell ⟨gb394, 4, none⟩ (.int .i64 (X1 l0_1 x10_1).f4)).setCell ⟨gb394, 5, none⟩ (.int .i64 (X1 l0_1 x10_1).f5)).heap[gb394]? = some (.cells #[.string (X1 l0_1 x10_1).f0, .int .i64 (X1 l0_1 x10_1).f1, .int .i64 (X1 l0_1 x10_1).f2, .int .i64 (X1 l0_1 x10_1).f3, .int .i64 (X1 l0_1 x10_1).f4, .int .i64 (X1 l0_1 x10_1).f5] 73 (0, 0))) := ⟨z15_⟩;have n2_ : Aside0 (Below w.heap.size w ((((((w18.setCell ⟨gb394, 0, none⟩ (.string (X1 l0_1 x10_1).f0)).setCell ⟨gb394, 1, none⟩ (.int .i64 (X1 l0_1 x10_1).f1)).setCell ⟨gb394, 2, none⟩ (.int .i64 (X1 l0_1 x10_1).f2)).setCell ⟨gb394, 3, none⟩ (.int .i64 (X1 l0_1 x10_1).f3)).setCell ⟨gb394, 4, none⟩ (.int .i64 (X1 l0_1 x10_1).f4)).setCell ⟨gb394, 5, none⟩ (.int .i64 (X1 l0_1 x10_1).f5))) := ⟨z73_⟩;(try clear BK392);(try clear BK394);(try clear HB);(generalize ((((((w18.setCell ⟨gb394, 0, none⟩ (.string (X1 l0_1 x10_1).f0)).setCell ⟨gb394, 1, none⟩ (.int .i64 (X1 l0_1 x10_1).f1)).setCell ⟨gb394, 2, none⟩ (.int .i64 (X1 l0_1 x10_1).f2)).setCell ⟨gb394, 3, none⟩ (.int .i64 (X1 l0_1 x10_1).f3)).setCell ⟨gb394, 4, none⟩ (.int .i64 (X1 l0_1 x10_1).f4)).setCell ⟨gb394, 5, none⟩ (.int .i64 (X1 l0_1 x10_1).f5)) = w21 at n0_ n1_ n2_ ⊢);have BK392 := n0_;have BK394 := n1_;have HB := n2_;clear n0_ n1_ n2_;replace BK392 := am_ (blk_drew BK392.out);replace BK394 := am_ (blk_drew BK394.out);replace HB := am_ (below_drew1 HB.out);have p395 : 0 ≤ (x10_1 : Int) := of_decide_eq_true (z0_);have q395 : x10_1 < (l1.length : Int) := of_decide_eq_true (z0_);obtain ⟨ad395, e395, hx395_0⟩ := Kd.at_int HR1.out x10_1 p395 q395;have hw395_0 := hx395_0;cases e395;replace hx395_0 := hc_ HB hx395_0;replace p395 := eq_true p395;replace q395 := eq_true q395;refine start_ (n := 8) (S := fun w' => w'.cell? ⟨gb394, 0, none⟩ = some (.string (X1 l0_1 x10_1).f0) ∧ w'.cell? ⟨gb394, 1, none⟩ = some (.int .i64 (X1 l0_1 x10_1).f1) ∧ w'.cell? ⟨gb394, 2, none⟩ = some (.int .i64 (X1 l0_1 x10_1).f2) ∧ w'.cell? ⟨gb394, 3, none⟩ = some (.int .i64 (X1 l0_1 x10_1).f3) ∧ w'.cell? ⟨gb394, 4, none⟩ = some (.int .i64 (X1 l0_1 x10_1).f4) ∧ w'.cell? ⟨gb394, 5, none⟩ = some (.int .i64 (X1 l0_1 x10_1).f5) ∧ w'.cell? (ad395.add (x10_1).toNat) = some (.int .i64 (rd l1 x10_1))) (ds := []) #[J,J,J,J,J,J,J,J] (z12_) rfl rfl ⟨bt_ BK394 0, bt_ BK394 1, bt_ BK394 2, bt_ BK394 3, bt_ BK394 4, bt_ BK394 5, (hc_ HB hw395_0:)⟩ (fun hHeld => ?_); refine with_tabW X10.tab4 X10.bits4 (fun HT_ HW_ => ?_);(generalize w21.drew = w22 at BK392 BK394 HB hx395_0 hHeld ⊢);refine pz_ 1 16 #[J,Y,J,J,J,J,J,J] HT_ ?_;refine pz_ 2 17 #[J,Y,Y,J,J,J,J,J] HT_ ?_;refine pz_ 3 18 #[J,Y,Y,Y,J,J,J,J] HT_ ?_;refine take_ (i := 0) (N := some 15) (v := ?_) (a' := ?_) #[Y,Y,Y,Y,J,J,J,J] rfl rfl (take_ofW HT_.out HW_.out (z12_)) (fun _ _ _ h => h) (Or.inl ⟨by rfl, ?_⟩) hHeld ?_ ?_; rotate_left
     ·rintro w' ⟨s0, s1, s2, s3, s4, s5, s6⟩; go_simp; with_reducible rfl
     rotate_left
     ·simp only [pU,pN,sB,sZ,sS,i64_w,i32_w]; rfl
     refine take_ (i := 4) (N := some 19) (v := ?_) (a' := ?_) #[Y,Y,Y,Y,Y,J,J,J] rfl rfl (take_ofW HT_.out HW_.out (z12_)) (fun _ _ _ h => h) (Or.inl ⟨by rfl, ?_⟩) hHeld ?_ ?_; rotate_left
     ·rintro w' ⟨s0, s1, s2, s3, s4, s5, s6⟩; go_simp; with_reducible rfl
     rotate_left
     ·simp only [pU,pN,sB,sZ,sS,i64_w,i32_w]; rfl
     refine one_ (i := 5) (N := some 20) #[Y,Y,Y,Y,Y,Y,J,J] rfl rfl (one_of HT_.out (z12_)) (by decide) (fun K hK => ?_);refine goes_ Try.func73 (z12_) rfl #[.agg #[.string (X1 l0_1 x10_1).f0, .int .i64 (X1 l0_1 x10_1).f1, .int .i64 (X1 l0_1 x10_1).f2, .int .i64 (X1 l0_1 x10_1).f3, .int .i64 (X1 l0_1 x10_1).f4, .int .i64 (X1 l0_1 x10_1).f5], .int .i64 (rd l1 x10_1)] (by rfl) rfl rfl (z1_) ?_;(with_reducible refine (X59.calls (X1 l0_1 x10_1).f0 (X1 l0_1 x10_1).f1 (X1 l0_1 x10_1).f2 (X1 l0_1 x10_1).f3 (X1 l0_1 x10_1).f4 (X1 l0_1 x10_1).f5 (rd l1 x10_1) t396 _ A9.out).mono ?_);rintro e w23 ⟨rfl, hb⟩;refine ⟨_, rfl, ?_⟩;replace BK392 := am_ (blk_below (g := gb392) (o := .cells #[.slice A0_0 l0_0.length c0_0, .slice (some ad393) l0_1.length c0_1] 31 (0, 0)) (z69_) hb);replace BK394 := am_ (blk_below (g := gb394) (o := .cells #[.string (X1 l0_1 x10_1).f0, .int .i64 (X1 l0_1 x10_1).f1, .int .i64 (X1 l0_1 x10_1).f2, .int .i64 (X1 l0_1 x10_1).f3, .int .i64 (X1 l0_1 x10_1).f4, .int .i64 (X1 l0_1 x10_1).f5] 73 (0, 0)) (by (with_reducible repeat (first | refine bN ?_ _|refine bW ?_|refine bA ?_ _)); exact BK394.out) hb);replace HB := am_ (below_step (z73_) hb);(try clear hb);refine hK.out _ _ ⟨bt_ BK394 0, bt_ BK394 1, bt_ BK394 2, bt_ BK394 3, bt_ BK394 4, bt_ BK394 5, (hc_ HB hw395_0:)⟩ (fun hHeld => ?_);clear hK K;refine norm_ (a' := ?_) ?_ ?_
     rotate_left
     ·show Act.put _ (some 20) _ = _
      simp only [pU,pN,sB,sZ,sS,i64_w,i32_w]
      rfl
     refine one_ (i := 6) (N := some 21) #[Y,Y,Y,Y,Y,Y,Y,J] rfl rfl (one_of HT_.out (z12_)) (by decide) (fun K hK => ?_);refine goes_ Try.func72 (z12_) rfl #[.int .i64 t396] (by rfl) rfl rfl (z1_) ?_;(with_reducible refine (X53.calls t396 t397 _ A10.out).mono ?_);rintro e w' ⟨rfl, ⟨nd, rfl⟩⟩;refine ⟨_, rfl, ?_⟩;refine hK.out _ _ ⟨bt_ BK394 0, bt_ BK394 1, bt_ BK394 2, bt_ BK394 3, bt_ BK394 4, bt_ BK394 5, (hc_ HB hw395_0:)⟩ (fun hHeld => ?_);clear hK K;refine norm_ (a' := ?_) ?_ ?_
     rotate_left
     ·show Act.put _ (some 21) _ = _
      simp only [pU,pN,sB,sZ,sS,i64_w,i32_w]
      rfl
     refine pz_ 7 22 #[Y,Y,Y,Y,Y,Y,Y,Y] HT_ ?_;refine done_ (done_of HT_.out (z12_)) ?_;(try go_wp2)
     go_roundg k1
     case measure => have := HK1.out; omega
     case rel => exact ⟨(wrap64 (x10_1 + 1)), (z8_), H', ⟨z134_⟩, ⟨z69_⟩, ⟨z73_⟩⟩
   ·(rw [if_neg c5] at H);have c5b0 := decide_eq_false c5;clear c5;obtain rfl := Option.some.inj H;go_wp2;go_ret;exact ⟨z6_, z66_⟩

def X72.f (a0_0 : Int) (a0_1 : Int) (a0_2 : Int) (l1_0 : List Int) (l1_1 : List (S73)) (l2 : List Int) : Option (Int) := if 0 ≤ a0_2 then (if a0_2 < (l1_1.length : Int) then (if (X1 l1_1 a0_2).f2 = a0_0 then (if a0_2 < (l2.length : Int) then (some (rd l2 a0_2)) else (none)) else (if a0_2 < (l2.length : Int) then (some (wrap64 (-(rd l2 a0_2)))) else (none))) else (none)) else (none)
set_option maxHeartbeats 8000000 in
set_option maxRecDepth 100000 in
theorem X72.calls (a0_0 : Int) (a0_1 : Int) (a0_2 : Int) (A1_0 : Option Addr) (c1_0 : Nat) (l1_0 : List Int) (A1_1 : Option Addr) (c1_1 : Nat) (l1_1 : List (S73)) (A2 : Option Addr) (c2 : Nat) (l2 : List Int) (r : Int) (w : World) (hr1_0 : Kd.C (Kd.int .i64) w A1_0 l1_0.length l1_0) (hc1_0 : l1_0.length ≤ c1_0) (hr1_1 : Kd.C k73 w A1_1 l1_1.length l1_1) (hc1_1 : l1_1.length ≤ c1_1) (hr2 : Kd.C (Kd.int .i64) w A2 l2.length l2) (hc2 : l2.length ≤ c2) (h : X72.f a0_0 a0_1 a0_2 l1_0 l1_1 l2 = some r) :
  Calls Try.prog 74 #[.agg #[.int .i64 a0_0, .int .i64 a0_1, .int .i64 a0_2], .agg #[.slice A1_0 l1_0.length c1_0, .slice A1_1 l1_1.length c1_1], .slice A2 l2.length c2] w fun e w' => e = .returned (.int .i64 r) ∧ Below w.heap.size w w' := by
 have hu82 := Try.underlying82
 have hu31 := Try.underlying31
 have HR1_0 := am_ hr1_0
 have HC1_0 := am_ hc1_0
 clear hr1_0 hc1_0
 have HR1_1 := am_ hr1_1
 have HC1_1 := am_ hc1_1
 clear hr1_1 hc1_1
 have HR2 := am_ hr2
 have HC2 := am_ hc2
 clear hr2 hc2
 have HB := am_ (Below.refl w.heap.size w)
 unfold X72.f at h;have H := h;clear h
 obtain ⟨c4b0,H⟩ := pd_ H;obtain ⟨c5b0,H⟩ := pd_ H;by_cases c6 : (X1 l1_1 a0_2).f2 = a0_0
 ·(rw [if_pos c6] at H);have c6b0 : ((X1 l1_1 a0_2).f2 == a0_0) = true := beq_iff_eq.mpr c6;have c6b1 : ((X1 l1_1 a0_2).f2 != a0_0) = false := bne_eq_false_iff_eq.mpr c6;clear c6;obtain ⟨c7b0,H⟩ := pd_ H;obtain rfl := Option.some.inj H;go_enter Try.func74, Try.ntmps74
  iterate 2 ((try go_quiet (fail)); (try go_wp2_with (first | ((with_reducible refine gate_dst (N := 3) rfl ?_); refine box_event ?hg (N := 3) ?hd (cs := #[.int .i64 a0_0, .int .i64 a0_1, .int .i64 a0_2]) (t := 82) ?hr ?_; (case hd => rfl); (case hg => rfl); (case hr => first | (go_simp; done) | (go_simp; rfl)); intro gb398 hg w8 hbox hb; have BK398 := am_ (hbox); have GW398 := am_ ((z4_ : w.heap.size ≤ gb398)); have GE398 := am_ ((z4_ : w.heap.size ≤ gb398)); replace HB := am_ (below_step (z2_) hb); clear hb hbox hg) | ((with_reducible refine gate_dst (N := 4) rfl ?_); refine box_event ?hg (N := 4) ?hd (cs := #[.slice A1_0 l1_0.length c1_0, .slice A1_1 l1_1.length c1_1]) (t := 31) ?hr ?_; (case hd => rfl); (case hg => rfl); (case hr => first | (go_simp; done) | (go_simp; rfl)); intro gb399 hg w9 hbox hb; have BK399 := am_ (hbox); have GW399 := am_ ((z127_ : w.heap.size ≤ gb399)); have GE399 := am_ ((z127_ : w.heap.size ≤ gb399)); replace HB := am_ (below_step (z105_) hb); have NB398_399 := am_ ((z157_ : gb398 ≠ gb399)); have NB399_398 := am_ ((z158_ : gb399 ≠ gb398)); replace BK398 := am_ (blk_below (g := gb398) (o := .cells #[.int .i64 a0_0, .int .i64 a0_1, .int .i64 a0_2] 82 (0, 0)) (z133_) hb); clear hb hbox hg; have hnb10 := NB399_398.out; have hnc10 := NB398_399.out; obtain ⟨hcz11_0,hcz11_1,hfz11_0,hfz11_1⟩ := bz2_ w9 BK399.out; obtain ⟨hcz12_0,hcz12_1,hcz12_2,hfz12_0,hfz12_1,hfz12_2⟩ := bz3_ w9 BK398.out; obtain ⟨p400,q400,ad400,e400,hx400_0,hx400_1,hx400_2,hx400_3,hx400_4,hx400_5⟩ := aq_ (X25 (Kd.C_below HR1_1.out HB.out) a0_2) z0_ z0_;cases e400; obtain ⟨p401,q401,ad401,e401,hx401_0⟩ := aq_ (Kd.at_int (Kd.C_below HR2.out HB.out) a0_2) z0_ z0_;cases e401))))
  go_ret;exact ⟨z6_, z194_⟩
 ·(rw [if_neg c6] at H);have c6b0 : ((X1 l1_1 a0_2).f2 == a0_0) = false := beq_eq_false_iff_ne.mpr c6;have c6b1 : ((X1 l1_1 a0_2).f2 != a0_0) = true := bne_iff_ne.mpr c6;obtain ⟨c13b0,H⟩ := pd_ H;obtain rfl := Option.some.inj H;go_enter Try.func74, Try.ntmps74
  iterate 2 ((try go_quiet (fail)); (try go_wp2_with (first | ((with_reducible refine gate_dst (N := 3) rfl ?_); refine box_event ?hg (N := 3) ?hd (cs := #[.int .i64 a0_0, .int .i64 a0_1, .int .i64 a0_2]) (t := 82) ?hr ?_; (case hd => rfl); (case hg => rfl); (case hr => first | (go_simp; done) | (go_simp; rfl)); intro gb398 hg w14 hbox hb; have BK398 := am_ (hbox); have GW398 := am_ ((z4_ : w.heap.size ≤ gb398)); have GE398 := am_ ((z4_ : w.heap.size ≤ gb398)); replace HB := am_ (below_step (z2_) hb); clear hb hbox hg) | ((with_reducible refine gate_dst (N := 4) rfl ?_); refine box_event ?hg (N := 4) ?hd (cs := #[.slice A1_0 l1_0.length c1_0, .slice A1_1 l1_1.length c1_1]) (t := 31) ?hr ?_; (case hd => rfl); (case hg => rfl); (case hr => first | (go_simp; done) | (go_simp; rfl)); intro gb399 hg w15 hbox hb; have BK399 := am_ (hbox); have GW399 := am_ ((z127_ : w.heap.size ≤ gb399)); have GE399 := am_ ((z127_ : w.heap.size ≤ gb399)); replace HB := am_ (below_step (z105_) hb); have NB398_399 := am_ ((z157_ : gb398 ≠ gb399)); have NB399_398 := am_ ((z158_ : gb399 ≠ gb398)); replace BK398 := am_ (blk_below (g := gb398) (o := .cells #[.int .i64 a0_0, .int .i64 a0_1, .int .i64 a0_2] 82 (0, 0)) (z133_) hb); clear hb hbox hg; have hnb16 := NB399_398.out; have hnc16 := NB398_399.out; obtain ⟨hcz17_0,hcz17_1,hfz17_0,hfz17_1⟩ := bz2_ w15 BK399.out; obtain ⟨hcz18_0,hcz18_1,hcz18_2,hfz18_0,hfz18_1,hfz18_2⟩ := bz3_ w15 BK398.out; obtain ⟨p400,q400,ad400,e400,hx400_0,hx400_1,hx400_2,hx400_3,hx400_4,hx400_5⟩ := aq_ (X25 (Kd.C_below HR1_1.out HB.out) a0_2) z0_ z0_;cases e400; obtain ⟨p402,q402,ad402,e402,hx402_0⟩ := aq_ (Kd.at_int (Kd.C_below HR2.out HB.out) a0_2) z0_ z0_;cases e402))))
  go_ret;exact ⟨z6_, z194_⟩

end Go.Proofs.Ytnmdcmfhjhgheaa.PFnExactLeastHead
