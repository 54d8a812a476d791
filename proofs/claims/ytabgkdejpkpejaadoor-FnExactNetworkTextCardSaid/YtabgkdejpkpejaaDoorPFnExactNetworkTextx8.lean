-- Printed by a program of this session (wip/hprint.sh: the kit's print with hand-proved contracts put in); not by print.sh itself.
import Derived.Test.YtabgkdejpkpejaaDoorPFnExactNetworkTextx0
import Derived.Test.YtabgkdejpkpejaaDoorPFnExactNetworkTextx1
import Derived.Test.YtabgkdejpkpejaaDoorPFnExactNetworkTextx4
import Derived.Test.YtabgkdejpkpejaaDoorPFnExactNetworkTextx7
namespace Go.Proofs.YtabgkdejpkpejaaDoor.PFnExactNetworkText
open Go.RowKit Go.Proofs.YtabgkdejpkpejaaDoorW.PrintWords Go.Proofs.YtabgkdejpkpejaaDoorW.PrintLast Go.Proofs.YtabgkdejpkpejaaDoorW.PrintMore Go.Proofs.YtabgkdejpkpejaaDoorM
attribute [local go_sem] max2_int min2_int max_two min_two max_three min_three max_four min_four   -- for this text's walks alone
set_option linter.unusedVariables false
set_option linter.unusedSimpArgs false

open Go.Proofs.YtabgkdejpkpejaaDoorM
def pipeEq (p q : S43) : Bool := decide (p.f0.toList = q.f0.toList) && (decide (p.f1 = q.f1) && (decide (p.f2 = q.f2) && (decide (p.f3 = q.f3) && (decide (p.f4 = q.f4) && decide (p.f5 = q.f5)))))
def pipesEq : List S43 → List S43 → Bool
  | [], [] => true
  | p :: l, q :: m => pipeEq p q && pipesEq l m
  | _, _ => false
theorem pipeEq_refl (p : S43) : pipeEq p p = true := by simp [pipeEq]
theorem pipesEq_refl (l : List S43) : pipesEq l l = true := by
  induction l with
  | nil => rfl
  | cons p l ih => simp [pipesEq, pipeEq_refl, ih]
theorem pipesEq_len : ∀ (l m : List S43), l.length ≠ m.length → pipesEq l m = false
  | [], [], h => absurd rfl h
  | [], _ :: _, _ => rfl
  | _ :: _, [], _ => rfl
  | p :: l, q :: m, h => by simp only [pipesEq]; rw [pipesEq_len l m (fun e => h (by simp [e])), Bool.and_false]
theorem rdP_impl (c : List S43) (i : Nat) : rd_T43 c (i : Int) = c.getD i z43 := by unfold rd_T43; rw [Int.toNat_natCast]
theorem dropP (c : List S43) (i : Nat) (h : i < c.length) : c.drop i = c.getD i z43 :: c.drop (i + 1) := by
  rw [List.drop_eq_getElem_cons h, List.getD_eq_getElem?_getD, List.getElem?_eq_getElem h]; rfl
theorem eqPipe_f (p q : S43) : laws_eqPipe.f p.f0 p.f1 p.f2 p.f3 p.f4 p.f5 q.f0 q.f1 q.f2 q.f3 q.f4 q.f5 = some (pipeEq p q) := by
  unfold laws_eqPipe.f pipeEq
  by_cases h0 : p.f0.toList = q.f0.toList
  · by_cases h1 : p.f1 = q.f1
    · by_cases h2 : p.f2 = q.f2
      · by_cases h3 : p.f3 = q.f3
        · by_cases h4 : p.f4 = q.f4
          · by_cases h5 : p.f5 = q.f5
            · simp [h0, h1, h2, h3, h4, h5]
            · simp [h0, h1, h2, h3, h4, h5]
          · simp [h0, h1, h2, h3, h4]
        · simp [h0, h1, h2, h3]
      · simp [h0, h1, h2]
    · simp [h0, h1]
  · simp [h0]
def laws_eqPipeS_.f (l0 l1 : List S43) : Option Bool := if l0.length ≤ 4611686018427387904 then some (pipesEq l0 l1) else none
theorem eqP_loop (l m : List S43) (he : l.length = m.length) (hl : l.length ≤ 4611686018427387904) : ∀ (d k : Nat) (i : Nat), i ≤ l.length → l.length - i = d → d < k → laws_eqPipeS.l0 k l m (i : Int) = some (pipesEq (l.drop i) (m.drop i)) := by
  intro d
  induction d with
  | zero =>
    intro k i h1 hd hk
    obtain ⟨k, rfl⟩ : ∃ m, k = m + 1 := ⟨k - 1, by omega⟩
    simp only [laws_eqPipeS.l0]; rw [if_neg (by omega), List.drop_of_length_le (by omega), List.drop_of_length_le (by omega)]; rfl
  | succ d ih =>
    intro k i h1 hd hk
    obtain ⟨k, rfl⟩ : ∃ m, k = m + 1 := ⟨k - 1, by omega⟩
    simp only [laws_eqPipeS.l0]
    rw [if_pos (by omega), if_pos (by omega), if_pos (by omega), rdP_impl, rdP_impl, eqPipe_f, w64 (x := (i : Int) + 1) (by omega) (by omega), show (i : Int) + 1 = ((i + 1 : Nat) : Int) by omega, ih k (i + 1) (by omega) (by omega) (by omega), dropP l i (by omega), dropP m i (by omega)]
    simp only [Option.bind_some, pipesEq]
    cases pipeEq (l.getD i z43) (m.getD i z43) <;> simp
theorem laws_eqPipeS_.same (l m : List S43) (h : l.length ≤ 4611686018427387904) : laws_eqPipeS.f (l.length + 1) l m = some (pipesEq l m) := by
  unfold laws_eqPipeS.f
  by_cases he : l.length = m.length
  · rw [if_pos (by omega)]
    exact eqP_loop l m he h l.length (l.length + 1) 0 (by omega) (by omega) (by omega)
  · rw [if_neg (by omega), pipesEq_len l m he]
theorem laws_eqPipeS_.calls (A0 : Option Addr) (c0 : Nat) (l0 : List (S43)) (A1 : Option Addr) (c1 : Nat) (l1 : List (S43)) (r : Bool) (w : World) (hr0 : Kd.C k43 w A0 l0.length l0) (hc0 : l0.length ≤ c0) (hr1 : Kd.C k43 w A1 l1.length l1) (hc1 : l1.length ≤ c1) (h : laws_eqPipeS_.f l0 l1 = some r) :
    Calls Tryd.prog 79 #[.slice A0 l0.length c0, .slice A1 l1.length c1] w fun e w' => e = .returned (.bool r) ∧ Below w.heap.size w w' := by
  unfold laws_eqPipeS_.f at h
  split at h
  · rename_i hs
    exact laws_eqPipeS.calls (l0.length + 1) A0 c0 l0 A1 c1 l1 r w hr0 hc0 hr1 hc1 (by rw [← h]; exact laws_eqPipeS_.same l0 l1 hs)
  · exact absurd h (by simp)


/-! ### laws_eqNetwork: function 45 -/
def laws_eqNetwork.f (l0_0 : List Int) (l0_1 : List (S43)) (l1_0 : List Int) (l1_1 : List (S43)) : Option (Bool) := (laws_eqInt64S_.f l0_0 l1_0).bind fun t233 => (if t233 = true then ((laws_eqPipeS_.f l0_1 l1_1).bind fun t234 => (if t234 = true then (some true) else (some false))) else (some false))
set_option maxHeartbeats 8000000 in
set_option maxRecDepth 100000 in
theorem laws_eqNetwork.calls (A0_0 : Option Addr) (c0_0 : Nat) (l0_0 : List Int) (A0_1 : Option Addr) (c0_1 : Nat) (l0_1 : List (S43)) (A1_0 : Option Addr) (c1_0 : Nat) (l1_0 : List Int) (A1_1 : Option Addr) (c1_1 : Nat) (l1_1 : List (S43)) (r : Bool) (w : World) (hr0_0 : Kd.C (Kd.int .i64) w A0_0 l0_0.length l0_0) (hc0_0 : l0_0.length ≤ c0_0) (hr0_1 : Kd.C k43 w A0_1 l0_1.length l0_1) (hc0_1 : l0_1.length ≤ c0_1) (hr1_0 : Kd.C (Kd.int .i64) w A1_0 l1_0.length l1_0) (hc1_0 : l1_0.length ≤ c1_0) (hr1_1 : Kd.C k43 w A1_1 l1_1.length l1_1) (hc1_1 : l1_1.length ≤ c1_1) (h : laws_eqNetwork.f l0_0 l0_1 l1_0 l1_1 = some r) :
  Calls Tryd.prog 45 #[.agg #[.slice A0_0 l0_0.length c0_0, .slice A0_1 l0_1.length c0_1], .agg #[.slice A1_0 l1_0.length c1_0, .slice A1_1 l1_1.length c1_1]] w fun e w' => e = .returned (.bool r) ∧ Below w.heap.size w w' := by
 have hu56 := Tryd.underlying56
 have HR0_0 := Aside0.mk hr0_0
 have HC0_0 := Aside0.mk hc0_0
 clear hr0_0 hc0_0
 have HR0_1 := Aside0.mk hr0_1
 have HC0_1 := Aside0.mk hc0_1
 clear hr0_1 hc0_1
 have HR1_0 := Aside0.mk hr1_0
 have HC1_0 := Aside0.mk hc1_0
 clear hr1_0 hc1_0
 have HR1_1 := Aside0.mk hr1_1
 have HC1_1 := Aside0.mk hc1_1
 clear hr1_1 hc1_1
 have HB := Aside0.mk (Below.refl w.heap.size w)
 have H : ((laws_eqInt64S_.f l0_0 l1_0).bind fun t233 => (if t233 = true then ((laws_eqPipeS_.f l0_1 l1_1).bind fun t234 => (if t234 = true then (some true) else (some false))) else (some false))) = some r := h
 clear h
 replace H := Option.bind_eq_some_iff.mp H
 obtain ⟨t233, A30, H⟩ := H
 replace H : (if t233 = true then ((laws_eqPipeS_.f l0_1 l1_1).bind fun t234 => (if t234 = true then (some true) else (some false))) else (some false)) = some r := H
 have A3 := Aside0.mk A30
 clear A30
 by_cases c4 : t233 = true
 ·subst c4
  have H1 : ((laws_eqPipeS_.f l0_1 l1_1).bind fun t234 => (if t234 = true then (some true) else (some false))) = some r := by rw [if_pos rfl] at H; exact H
  clear H
  have H := H1
  clear H1
  replace H := Option.bind_eq_some_iff.mp H
  obtain ⟨t234, A50, H⟩ := H
  replace H : (if t234 = true then (some true) else (some false)) = some r := H
  have A5 := Aside0.mk A50
  clear A50
  by_cases c6 : t234 = true
  ·subst c6
   have H1 : (some true) = some r := by rw [if_pos rfl] at H; exact H
   clear H
   have H := H1
   clear H1
   obtain rfl := Option.some.inj H
   go_enter Tryd.func45, Tryd.ntmps45
   go_wp2_with (first | ((with_reducible refine gate_dst (N := 2) rfl ?_); refine box_event ?hg (N := 2) ?hd (cs := #[.slice A0_0 l0_0.length c0_0, .slice A0_1 l0_1.length c0_1]) (t := 56) ?hr ?_; (case hd => rfl); (case hg => rfl); (case hr => first | (go_simp; done) | (go_simp; rfl)); intro gb231 hg w7 hbox hb; have n0_ := Aside0.mk (below_step (by repeat (first | (with_reducible first | exact HB.out|apply wA|apply wN|apply wD) | exact HB.out)) hb); have n1_ := Aside0.mk (hbox); have n2_ := Aside0.mk ((by rw [hg]; exact (below_size (by repeat (first | (with_reducible first | exact HB.out|apply wA|apply wN|apply wD) | exact HB.out))) : w.heap.size ≤ gb231)); have n3_ := Aside0.mk ((by rw [hg]; exact (below_size (by repeat (first | (with_reducible first | exact HB.out|apply wA|apply wN|apply wD) | exact HB.out))) : w.heap.size ≤ gb231)); clear HB; have HB := n0_; have BK231 := n1_; have GW231 := n2_; have GE231 := n3_; clear n0_ n1_ n2_ n3_; clear hb hbox hg) | ((with_reducible refine gate_dst (N := 3) rfl ?_); refine box_event ?hg (N := 3) ?hd (cs := #[.slice A1_0 l1_0.length c1_0, .slice A1_1 l1_1.length c1_1]) (t := 56) ?hr ?_; (case hd => rfl); (case hg => rfl); (case hr => first | (go_simp; done) | (go_simp; rfl)); intro gb232 hg w8 hbox hb; have n0_ := Aside0.mk (blk_below (g := gb231) (o := .cells #[.slice A0_0 l0_0.length c0_0, .slice A0_1 l0_1.length c0_1] 56 (0, 0)) (by (with_reducible repeat (first | refine bN ?_ _|refine bW ?_|refine bA ?_ _)); exact BK231.out) hb); have n1_ := Aside0.mk (below_step (by repeat (first | (with_reducible first | exact HB.out|apply wA|apply wN|apply wD |refine wS ?_ GE231.out) | exact HB.out)) hb); have n2_ := Aside0.mk (hbox); have n3_ := Aside0.mk ((by rw [hg]; exact (below_size (by repeat (first | (with_reducible first | exact HB.out|apply wA|apply wN|apply wD |refine wS ?_ GE231.out) | exact HB.out))) : w.heap.size ≤ gb232)); have n4_ := Aside0.mk ((by rw [hg]; exact (below_size (by repeat (first | (with_reducible first | exact HB.out|apply wA|apply wN|apply wD |refine wS ?_ GE231.out) | exact HB.out))) : w.heap.size ≤ gb232)); have n5_ := Aside0.mk ((by rw [hg]; exact Nat.ne_of_lt (blk_lt (g := gb231) (o := .cells #[.slice A0_0 l0_0.length c0_0, .slice A0_1 l0_1.length c0_1] 56 (0, 0)) (by (with_reducible repeat (first | refine bN ?_ _|refine bW ?_|refine bA ?_ _)); exact BK231.out)) : gb231 ≠ gb232)); have n6_ := Aside0.mk ((by rw [hg]; exact Nat.ne_of_gt (blk_lt (g := gb231) (o := .cells #[.slice A0_0 l0_0.length c0_0, .slice A0_1 l0_1.length c0_1] 56 (0, 0)) (by (with_reducible repeat (first | refine bN ?_ _|refine bW ?_|refine bA ?_ _)); exact BK231.out)) : gb232 ≠ gb231)); clear BK231; clear HB; have BK231 := n0_; have HB := n1_; have BK232 := n2_; have GW232 := n3_; have GE232 := n4_; have NB231_232 := n5_; have NB232_231 := n6_; clear n0_ n1_ n2_ n3_ n4_ n5_ n6_; clear hb hbox hg; have hnb9 := NB231_232.out; have hnc9 := NB232_231.out; have hcz10_0 : w8.cell? ⟨gb231, 0, none⟩ = some (.slice A0_0 l0_0.length c0_0) := (blk_cell BK231.out 0).trans rfl; have hcz10_1 : w8.cell? ⟨gb231, 1, none⟩ = some (.slice A0_1 l0_1.length c0_1) := (blk_cell BK231.out 1).trans rfl; have hfz10_0 := blk_frozen BK231.out 0; have hfz10_1 := blk_frozen BK231.out 1; have hcz11_0 : w8.cell? ⟨gb232, 0, none⟩ = some (.slice A1_0 l1_0.length c1_0) := (blk_cell BK232.out 0).trans rfl; have hcz11_1 : w8.cell? ⟨gb232, 1, none⟩ = some (.slice A1_1 l1_1.length c1_1) := (blk_cell BK232.out 1).trans rfl; have hfz11_0 := blk_frozen BK232.out 0; have hfz11_1 := blk_frozen BK232.out 1) | ((with_reducible refine gate_callee (f := 29) rfl ?_); refine goesL_ (some 9) rfl rfl Tryd.func29 (by kernel_rfl) rfl #[.slice A0_0 l0_0.length c0_0, .slice A1_0 l1_0.length c1_0] rfl (by (try simp only [List.map_toArray, List.map_cons, List.map_nil]); first | done | rfl | (simp only [List.length_drop, List.length_take]; rfl)) ?_; (with_reducible refine (laws_eqInt64S_.calls _ _ l0_0 _ _ l1_0 true _ ?side1 ?side2 ?side3 ?side4 A3.out).mono ?_); (case side1 => repeat (first | exact (Kd.C_below HR0_0.out HB.out) | (with_reducible first|refine Kd.C_alloc ?_ _|refine Kd.C_drewN ?_ _|refine Kd.C_drew ?_))); (case side2 => exact HC0_0.out); (case side3 => repeat (first | exact (Kd.C_below HR1_0.out HB.out) | (with_reducible first|refine Kd.C_alloc ?_ _|refine Kd.C_drewN ?_ _|refine Kd.C_drew ?_))); (case side4 => exact HC1_0.out); rintro e w' ⟨rfl, ⟨nd, rfl⟩⟩; refine ⟨_, rfl, ?_⟩) | ((with_reducible refine gate_callee (f := 79) rfl ?_); refine goesL_ (some 15) rfl rfl Tryd.func79 (by kernel_rfl) rfl #[.slice A0_1 l0_1.length c0_1, .slice A1_1 l1_1.length c1_1] rfl (by (try simp only [List.map_toArray, List.map_cons, List.map_nil]); first | done | rfl | (simp only [List.length_drop, List.length_take]; rfl)) ?_; (with_reducible refine (laws_eqPipeS_.calls _ _ l0_1 _ _ l1_1 true _ ?side1 ?side2 ?side3 ?side4 A5.out).mono ?_); (case side1 => repeat (first | exact (Kd.C_below HR0_1.out (by repeat (first | (with_reducible first | exact HB.out|apply wA|apply wN|apply wD |refine wS ?_ GE231.out |refine wS ?_ GE232.out) | exact HB.out))) | (with_reducible first|refine Kd.C_alloc ?_ _|refine Kd.C_drewN ?_ _|refine Kd.C_drew ?_))); (case side2 => exact HC0_1.out); (case side3 => repeat (first | exact (Kd.C_below HR1_1.out (by repeat (first | (with_reducible first | exact HB.out|apply wA|apply wN|apply wD |refine wS ?_ GE231.out |refine wS ?_ GE232.out) | exact HB.out))) | (with_reducible first|refine Kd.C_alloc ?_ _|refine Kd.C_drewN ?_ _|refine Kd.C_drew ?_))); (case side4 => exact HC1_1.out); rintro e w12 ⟨rfl, hb⟩; refine ⟨_, rfl, ?_⟩; have n0_ := Aside0.mk (blk_below (g := gb231) (o := .cells #[.slice A0_0 l0_0.length c0_0, .slice A0_1 l0_1.length c0_1] 56 (0, 0)) (by (with_reducible repeat (first | refine bN ?_ _|refine bW ?_|refine bA ?_ _)); exact BK231.out) hb); have n1_ := Aside0.mk (blk_below (g := gb232) (o := .cells #[.slice A1_0 l1_0.length c1_0, .slice A1_1 l1_1.length c1_1] 56 (0, 0)) (by (with_reducible repeat (first | refine bN ?_ _|refine bW ?_|refine bA ?_ _)); exact BK232.out) hb); have n2_ := Aside0.mk (below_step (by repeat (first | (with_reducible first | exact HB.out|apply wA|apply wN|apply wD |refine wS ?_ GE231.out |refine wS ?_ GE232.out) | exact HB.out)) hb); clear BK231; clear BK232; clear HB; have BK231 := n0_; have BK232 := n1_; have HB := n2_; clear n0_ n1_ n2_; (try clear hb); (try clear hb2); (try clear hk); (try clear hi)))
   go_ret
   exact ⟨by first | rfl | (simp [errW_none, errW_some] <;> rfl) | (simp [*, errW_none, errW_some] <;> rfl), by repeat (first | (with_reducible first | exact HB.out|apply wA|apply wN|apply wD |refine wS ?_ GE231.out |refine wS ?_ GE232.out) | exact HB.out)⟩
  ·replace c6 := Bool.eq_false_iff.mpr c6
   subst c6
   have H1 : (some false) = some r := by rw [if_neg (show ¬ (false = true) by decide)] at H; exact H
   clear H
   have H := H1
   clear H1
   obtain rfl := Option.some.inj H
   go_enter Tryd.func45, Tryd.ntmps45
   go_wp2_with (first | ((with_reducible refine gate_dst (N := 2) rfl ?_); refine box_event ?hg (N := 2) ?hd (cs := #[.slice A0_0 l0_0.length c0_0, .slice A0_1 l0_1.length c0_1]) (t := 56) ?hr ?_; (case hd => rfl); (case hg => rfl); (case hr => first | (go_simp; done) | (go_simp; rfl)); intro gb231 hg w13 hbox hb; have n0_ := Aside0.mk (below_step (by repeat (first | (with_reducible first | exact HB.out|apply wA|apply wN|apply wD) | exact HB.out)) hb); have n1_ := Aside0.mk (hbox); have n2_ := Aside0.mk ((by rw [hg]; exact (below_size (by repeat (first | (with_reducible first | exact HB.out|apply wA|apply wN|apply wD) | exact HB.out))) : w.heap.size ≤ gb231)); have n3_ := Aside0.mk ((by rw [hg]; exact (below_size (by repeat (first | (with_reducible first | exact HB.out|apply wA|apply wN|apply wD) | exact HB.out))) : w.heap.size ≤ gb231)); clear HB; have HB := n0_; have BK231 := n1_; have GW231 := n2_; have GE231 := n3_; clear n0_ n1_ n2_ n3_; clear hb hbox hg) | ((with_reducible refine gate_dst (N := 3) rfl ?_); refine box_event ?hg (N := 3) ?hd (cs := #[.slice A1_0 l1_0.length c1_0, .slice A1_1 l1_1.length c1_1]) (t := 56) ?hr ?_; (case hd => rfl); (case hg => rfl); (case hr => first | (go_simp; done) | (go_simp; rfl)); intro gb232 hg w14 hbox hb; have n0_ := Aside0.mk (blk_below (g := gb231) (o := .cells #[.slice A0_0 l0_0.length c0_0, .slice A0_1 l0_1.length c0_1] 56 (0, 0)) (by (with_reducible repeat (first | refine bN ?_ _|refine bW ?_|refine bA ?_ _)); exact BK231.out) hb); have n1_ := Aside0.mk (below_step (by repeat (first | (with_reducible first | exact HB.out|apply wA|apply wN|apply wD |refine wS ?_ GE231.out) | exact HB.out)) hb); have n2_ := Aside0.mk (hbox); have n3_ := Aside0.mk ((by rw [hg]; exact (below_size (by repeat (first | (with_reducible first | exact HB.out|apply wA|apply wN|apply wD |refine wS ?_ GE231.out) | exact HB.out))) : w.heap.size ≤ gb232)); have n4_ := Aside0.mk ((by rw [hg]; exact (below_size (by repeat (first | (with_reducible first | exact HB.out|apply wA|apply wN|apply wD |refine wS ?_ GE231.out) | exact HB.out))) : w.heap.size ≤ gb232)); have n5_ := Aside0.mk ((by rw [hg]; exact Nat.ne_of_lt (blk_lt (g := gb231) (o := .cells #[.slice A0_0 l0_0.length c0_0, .slice A0_1 l0_1.length c0_1] 56 (0, 0)) (by (with_reducible repeat (first | refine bN ?_ _|refine bW ?_|refine bA ?_ _)); exact BK231.out)) : gb231 ≠ gb232)); have n6_ := Aside0.mk ((by rw [hg]; exact Nat.ne_of_gt (blk_lt (g := gb231) (o := .cells #[.slice A0_0 l0_0.length c0_0, .slice A0_1 l0_1.length c0_1] 56 (0, 0)) (by (with_reducible repeat (first | refine bN ?_ _|refine bW ?_|refine bA ?_ _)); exact BK231.out)) : gb232 ≠ gb231)); clear BK231; clear HB; have BK231 := n0_; have HB := n1_; have BK232 := n2_; have GW232 := n3_; have GE232 := n4_; have NB231_232 := n5_; have NB232_231 := n6_; clear n0_ n1_ n2_ n3_ n4_ n5_ n6_; clear hb hbox hg; have hnb15 := NB231_232.out; have hnc15 := NB232_231.out; have hcz16_0 : w14.cell? ⟨gb231, 0, none⟩ = some (.slice A0_0 l0_0.length c0_0) := (blk_cell BK231.out 0).trans rfl; have hcz16_1 : w14.cell? ⟨gb231, 1, none⟩ = some (.slice A0_1 l0_1.length c0_1) := (blk_cell BK231.out 1).trans rfl; have hfz16_0 := blk_frozen BK231.out 0; have hfz16_1 := blk_frozen BK231.out 1; have hcz17_0 : w14.cell? ⟨gb232, 0, none⟩ = some (.slice A1_0 l1_0.length c1_0) := (blk_cell BK232.out 0).trans rfl; have hcz17_1 : w14.cell? ⟨gb232, 1, none⟩ = some (.slice A1_1 l1_1.length c1_1) := (blk_cell BK232.out 1).trans rfl; have hfz17_0 := blk_frozen BK232.out 0; have hfz17_1 := blk_frozen BK232.out 1) | ((with_reducible refine gate_callee (f := 29) rfl ?_); refine goesL_ (some 9) rfl rfl Tryd.func29 (by kernel_rfl) rfl #[.slice A0_0 l0_0.length c0_0, .slice A1_0 l1_0.length c1_0] rfl (by (try simp only [List.map_toArray, List.map_cons, List.map_nil]); first | done | rfl | (simp only [List.length_drop, List.length_take]; rfl)) ?_; (with_reducible refine (laws_eqInt64S_.calls _ _ l0_0 _ _ l1_0 true _ ?side1 ?side2 ?side3 ?side4 A3.out).mono ?_); (case side1 => repeat (first | exact (Kd.C_below HR0_0.out HB.out) | (with_reducible first|refine Kd.C_alloc ?_ _|refine Kd.C_drewN ?_ _|refine Kd.C_drew ?_))); (case side2 => exact HC0_0.out); (case side3 => repeat (first | exact (Kd.C_below HR1_0.out HB.out) | (with_reducible first|refine Kd.C_alloc ?_ _|refine Kd.C_drewN ?_ _|refine Kd.C_drew ?_))); (case side4 => exact HC1_0.out); rintro e w' ⟨rfl, ⟨nd, rfl⟩⟩; refine ⟨_, rfl, ?_⟩) | ((with_reducible refine gate_callee (f := 79) rfl ?_); refine goesL_ (some 15) rfl rfl Tryd.func79 (by kernel_rfl) rfl #[.slice A0_1 l0_1.length c0_1, .slice A1_1 l1_1.length c1_1] rfl (by (try simp only [List.map_toArray, List.map_cons, List.map_nil]); first | done | rfl | (simp only [List.length_drop, List.length_take]; rfl)) ?_; (with_reducible refine (laws_eqPipeS_.calls _ _ l0_1 _ _ l1_1 false _ ?side1 ?side2 ?side3 ?side4 A5.out).mono ?_); (case side1 => repeat (first | exact (Kd.C_below HR0_1.out (by repeat (first | (with_reducible first | exact HB.out|apply wA|apply wN|apply wD |refine wS ?_ GE231.out |refine wS ?_ GE232.out) | exact HB.out))) | (with_reducible first|refine Kd.C_alloc ?_ _|refine Kd.C_drewN ?_ _|refine Kd.C_drew ?_))); (case side2 => exact HC0_1.out); (case side3 => repeat (first | exact (Kd.C_below HR1_1.out (by repeat (first | (with_reducible first | exact HB.out|apply wA|apply wN|apply wD |refine wS ?_ GE231.out |refine wS ?_ GE232.out) | exact HB.out))) | (with_reducible first|refine Kd.C_alloc ?_ _|refine Kd.C_drewN ?_ _|refine Kd.C_drew ?_))); (case side4 => exact HC1_1.out); rintro e w18 ⟨rfl, hb⟩; refine ⟨_, rfl, ?_⟩; have n0_ := Aside0.mk (blk_below (g := gb231) (o := .cells #[.slice A0_0 l0_0.length c0_0, .slice A0_1 l0_1.length c0_1] 56 (0, 0)) (by (with_reducible repeat (first | refine bN ?_ _|refine bW ?_|refine bA ?_ _)); exact BK231.out) hb); have n1_ := Aside0.mk (blk_below (g := gb232) (o := .cells #[.slice A1_0 l1_0.length c1_0, .slice A1_1 l1_1.length c1_1] 56 (0, 0)) (by (with_reducible repeat (first | refine bN ?_ _|refine bW ?_|refine bA ?_ _)); exact BK232.out) hb); have n2_ := Aside0.mk (below_step (by repeat (first | (with_reducible first | exact HB.out|apply wA|apply wN|apply wD |refine wS ?_ GE231.out |refine wS ?_ GE232.out) | exact HB.out)) hb); clear BK231; clear BK232; clear HB; have BK231 := n0_; have BK232 := n1_; have HB := n2_; clear n0_ n1_ n2_; (try clear hb); (try clear hb2); (try clear hk); (try clear hi)))
   go_ret
   exact ⟨by first | rfl | (simp [errW_none, errW_some] <;> rfl) | (simp [*, errW_none, errW_some] <;> rfl), by repeat (first | (with_reducible first | exact HB.out|apply wA|apply wN|apply wD |refine wS ?_ GE231.out |refine wS ?_ GE232.out) | exact HB.out)⟩
 ·replace c4 := Bool.eq_false_iff.mpr c4
  subst c4
  have H1 : (some false) = some r := by rw [if_neg (show ¬ (false = true) by decide)] at H; exact H
  clear H
  have H := H1
  clear H1
  obtain rfl := Option.some.inj H
  go_enter Tryd.func45, Tryd.ntmps45
  go_wp2_with (first | ((with_reducible refine gate_dst (N := 2) rfl ?_); refine box_event ?hg (N := 2) ?hd (cs := #[.slice A0_0 l0_0.length c0_0, .slice A0_1 l0_1.length c0_1]) (t := 56) ?hr ?_; (case hd => rfl); (case hg => rfl); (case hr => first | (go_simp; done) | (go_simp; rfl)); intro gb231 hg w19 hbox hb; have n0_ := Aside0.mk (below_step (by repeat (first | (with_reducible first | exact HB.out|apply wA|apply wN|apply wD) | exact HB.out)) hb); have n1_ := Aside0.mk (hbox); have n2_ := Aside0.mk ((by rw [hg]; exact (below_size (by repeat (first | (with_reducible first | exact HB.out|apply wA|apply wN|apply wD) | exact HB.out))) : w.heap.size ≤ gb231)); have n3_ := Aside0.mk ((by rw [hg]; exact (below_size (by repeat (first | (with_reducible first | exact HB.out|apply wA|apply wN|apply wD) | exact HB.out))) : w.heap.size ≤ gb231)); clear HB; have HB := n0_; have BK231 := n1_; have GW231 := n2_; have GE231 := n3_; clear n0_ n1_ n2_ n3_; clear hb hbox hg) | ((with_reducible refine gate_dst (N := 3) rfl ?_); refine box_event ?hg (N := 3) ?hd (cs := #[.slice A1_0 l1_0.length c1_0, .slice A1_1 l1_1.length c1_1]) (t := 56) ?hr ?_; (case hd => rfl); (case hg => rfl); (case hr => first | (go_simp; done) | (go_simp; rfl)); intro gb232 hg w20 hbox hb; have n0_ := Aside0.mk (blk_below (g := gb231) (o := .cells #[.slice A0_0 l0_0.length c0_0, .slice A0_1 l0_1.length c0_1] 56 (0, 0)) (by (with_reducible repeat (first | refine bN ?_ _|refine bW ?_|refine bA ?_ _)); exact BK231.out) hb); have n1_ := Aside0.mk (below_step (by repeat (first | (with_reducible first | exact HB.out|apply wA|apply wN|apply wD |refine wS ?_ GE231.out) | exact HB.out)) hb); have n2_ := Aside0.mk (hbox); have n3_ := Aside0.mk ((by rw [hg]; exact (below_size (by repeat (first | (with_reducible first | exact HB.out|apply wA|apply wN|apply wD |refine wS ?_ GE231.out) | exact HB.out))) : w.heap.size ≤ gb232)); have n4_ := Aside0.mk ((by rw [hg]; exact (below_size (by repeat (first | (with_reducible first | exact HB.out|apply wA|apply wN|apply wD |refine wS ?_ GE231.out) | exact HB.out))) : w.heap.size ≤ gb232)); have n5_ := Aside0.mk ((by rw [hg]; exact Nat.ne_of_lt (blk_lt (g := gb231) (o := .cells #[.slice A0_0 l0_0.length c0_0, .slice A0_1 l0_1.length c0_1] 56 (0, 0)) (by (with_reducible repeat (first | refine bN ?_ _|refine bW ?_|refine bA ?_ _)); exact BK231.out)) : gb231 ≠ gb232)); have n6_ := Aside0.mk ((by rw [hg]; exact Nat.ne_of_gt (blk_lt (g := gb231) (o := .cells #[.slice A0_0 l0_0.length c0_0, .slice A0_1 l0_1.length c0_1] 56 (0, 0)) (by (with_reducible repeat (first | refine bN ?_ _|refine bW ?_|refine bA ?_ _)); exact BK231.out)) : gb232 ≠ gb231)); clear BK231; clear HB; have BK231 := n0_; have HB := n1_; have BK232 := n2_; have GW232 := n3_; have GE232 := n4_; have NB231_232 := n5_; have NB232_231 := n6_; clear n0_ n1_ n2_ n3_ n4_ n5_ n6_; clear hb hbox hg; have hnb21 := NB231_232.out; have hnc21 := NB232_231.out; have hcz22_0 : w20.cell? ⟨gb231, 0, none⟩ = some (.slice A0_0 l0_0.length c0_0) := (blk_cell BK231.out 0).trans rfl; have hcz22_1 : w20.cell? ⟨gb231, 1, none⟩ = some (.slice A0_1 l0_1.length c0_1) := (blk_cell BK231.out 1).trans rfl; have hfz22_0 := blk_frozen BK231.out 0; have hfz22_1 := blk_frozen BK231.out 1; have hcz23_0 : w20.cell? ⟨gb232, 0, none⟩ = some (.slice A1_0 l1_0.length c1_0) := (blk_cell BK232.out 0).trans rfl; have hcz23_1 : w20.cell? ⟨gb232, 1, none⟩ = some (.slice A1_1 l1_1.length c1_1) := (blk_cell BK232.out 1).trans rfl; have hfz23_0 := blk_frozen BK232.out 0; have hfz23_1 := blk_frozen BK232.out 1) | ((with_reducible refine gate_callee (f := 29) rfl ?_); refine goesL_ (some 9) rfl rfl Tryd.func29 (by kernel_rfl) rfl #[.slice A0_0 l0_0.length c0_0, .slice A1_0 l1_0.length c1_0] rfl (by (try simp only [List.map_toArray, List.map_cons, List.map_nil]); first | done | rfl | (simp only [List.length_drop, List.length_take]; rfl)) ?_; (with_reducible refine (laws_eqInt64S_.calls _ _ l0_0 _ _ l1_0 false _ ?side1 ?side2 ?side3 ?side4 A3.out).mono ?_); (case side1 => repeat (first | exact (Kd.C_below HR0_0.out HB.out) | (with_reducible first|refine Kd.C_alloc ?_ _|refine Kd.C_drewN ?_ _|refine Kd.C_drew ?_))); (case side2 => exact HC0_0.out); (case side3 => repeat (first | exact (Kd.C_below HR1_0.out HB.out) | (with_reducible first|refine Kd.C_alloc ?_ _|refine Kd.C_drewN ?_ _|refine Kd.C_drew ?_))); (case side4 => exact HC1_0.out); rintro e w' ⟨rfl, ⟨nd, rfl⟩⟩; refine ⟨_, rfl, ?_⟩))
  go_ret
  exact ⟨by first | rfl | (simp [errW_none, errW_some] <;> rfl) | (simp [*, errW_none, errW_some] <;> rfl), by repeat (first | (with_reducible first | exact HB.out|apply wA|apply wN|apply wD |refine wS ?_ GE231.out |refine wS ?_ GE232.out) | exact HB.out)⟩

/-! ### laws_FnExactNetworkText: function 12 -/
mutual
def laws_FnExactNetworkText.j0 : Nat → List Int → List (S40) → Option (Bool)
 | 0, _, _ => none
 | k + 1, x236000, x236001 => (laws_toNetwork.f x236000 x236001).bind fun bt237 => ((spec_NetworkText.f k bt237.1 bt237.2).bind fun t243 => ((laws_toNetwork.f x236000 x236001).bind fun bt244 => ((impl_NetworkText.f k bt244.1 bt244.2).bind fun t251 => (if t251.toList = t243.toList then (laws_FnExactNetworkText.j1 k x236000 x236001 bt244.1 bt244.2) else (some false)))))
def laws_FnExactNetworkText.j1 : Nat → List Int → List (S40) → List Int → List (S43) → Option (Bool)
 | 0, _, _, _, _ => none
 | k + 1, x236000, x236001, x251000, x251001 => (laws_toNetwork.f x236000 x236001).bind fun bt252 => ((laws_eqNetwork.f x251000 x251001 bt252.1 bt252.2).bind fun t258 => (if t258 = true then (some true) else (some false)))
end
def laws_FnExactNetworkText.f (k : Nat) (l0_0 : List Int) (l0_1 : List (S40)) : Option (Bool) := (laws_szNetwork.f l0_0 l0_1 1048576).bind fun t236 => (if t236 < 0 then (some true) else (laws_FnExactNetworkText.j0 k l0_0 l0_1))
theorem laws_FnExactNetworkText.mono_l : ∀ k, (∀ y0 y1, LeO (laws_FnExactNetworkText.j0 k y0 y1) (laws_FnExactNetworkText.j0 (k + 1) y0 y1)) ∧ (∀ y0 y1 y2 y3, LeO (laws_FnExactNetworkText.j1 k y0 y1 y2 y3) (laws_FnExactNetworkText.j1 (k + 1) y0 y1 y2 y3))
 | 0 => ⟨fun _ _ r h => by simp [laws_FnExactNetworkText.j0] at h, fun _ _ _ _ r h => by simp [laws_FnExactNetworkText.j1] at h⟩
 | k + 1 => by
  obtain ⟨ih0, ih1⟩ := laws_FnExactNetworkText.mono_l k
  refine ⟨?_, ?_⟩
  ·intro y0 y1
   unfold laws_FnExactNetworkText.j0
   repeat' first
   | (with_reducible exact ih0 _ _)
   | (with_reducible exact ih1 _ _ _ _)
   | (with_reducible exact impl_NetworkText.mono _ _ _)
   | (with_reducible exact spec_NetworkText.mono _ _ _)
   | (with_reducible exact LeO.refl _)
   | (with_reducible exact LeO.none _)
   | (with_reducible refine LeO.ite ?_ ?_)
   | (with_reducible refine LeO.bind ?_ (fun _ => ?_))
   | exact ih0 _ _
   | exact ih1 _ _ _ _
   | exact impl_NetworkText.mono _ _ _
   | exact spec_NetworkText.mono _ _ _
   | exact LeO.none _
   | refine LeO.ite ?_ ?_
   | refine LeO.bind ?_ (fun _ => ?_)
  ·intro y0 y1 y2 y3
   unfold laws_FnExactNetworkText.j1
   repeat' first
   | (with_reducible exact ih0 _ _)
   | (with_reducible exact ih1 _ _ _ _)
   | (with_reducible exact impl_NetworkText.mono _ _ _)
   | (with_reducible exact spec_NetworkText.mono _ _ _)
   | (with_reducible exact LeO.refl _)
   | (with_reducible exact LeO.none _)
   | (with_reducible refine LeO.ite ?_ ?_)
   | (with_reducible refine LeO.bind ?_ (fun _ => ?_))
   | exact ih0 _ _
   | exact ih1 _ _ _ _
   | exact impl_NetworkText.mono _ _ _
   | exact spec_NetworkText.mono _ _ _
   | exact LeO.none _
   | refine LeO.ite ?_ ?_
   | refine LeO.bind ?_ (fun _ => ?_)
theorem laws_FnExactNetworkText.mono : ∀ a0 a1 k, LeO (laws_FnExactNetworkText.f k a0 a1) (laws_FnExactNetworkText.f (k + 1) a0 a1) := by
 intro a0 a1 k
 obtain ⟨ih0, ih1⟩ := laws_FnExactNetworkText.mono_l k
 unfold laws_FnExactNetworkText.f
 repeat' first
   | (with_reducible exact ih0 _ _)
   | (with_reducible exact ih1 _ _ _ _)
   | (with_reducible exact impl_NetworkText.mono _ _ _)
   | (with_reducible exact spec_NetworkText.mono _ _ _)
   | (with_reducible exact LeO.refl _)
   | (with_reducible exact LeO.none _)
   | (with_reducible refine LeO.ite ?_ ?_)
   | (with_reducible refine LeO.bind ?_ (fun _ => ?_))
   | exact ih0 _ _
   | exact ih1 _ _ _ _
   | exact impl_NetworkText.mono _ _ _
   | exact spec_NetworkText.mono _ _ _
   | exact LeO.none _
   | refine LeO.ite ?_ ?_
   | refine LeO.bind ?_ (fun _ => ?_)
set_option maxHeartbeats 8000000 in
set_option maxRecDepth 100000 in
theorem laws_FnExactNetworkText.calls (k : Nat) (A0_0 : Option Addr) (c0_0 : Nat) (l0_0 : List Int) (A0_1 : Option Addr) (c0_1 : Nat) (l0_1 : List (S40)) (r : Bool) (w : World) (hr0_0 : Kd.C (Kd.int .i64) w A0_0 l0_0.length l0_0) (hc0_0 : l0_0.length ≤ c0_0) (hr0_1 : Kd.C k40 w A0_1 l0_1.length l0_1) (hc0_1 : l0_1.length ≤ c0_1) (ht : Tabs true false false w) (h : laws_FnExactNetworkText.f k l0_0 l0_1 = some r) :
  Calls Tryd.prog 12 #[.agg #[.slice A0_0 l0_0.length c0_0, .slice A0_1 l0_1.length c0_1]] w fun e w' => e = .returned (.bool r) ∧ Below w.heap.size w w' := by
 have HT := Aside0.mk ht
 clear ht
 have hu51 := Tryd.underlying51
 have hu56 := Tryd.underlying56
 have HR0_0 := Aside0.mk hr0_0
 have HC0_0 := Aside0.mk hc0_0
 clear hr0_0 hc0_0
 have HR0_1 := Aside0.mk hr0_1
 have HC0_1 := Aside0.mk hc0_1
 clear hr0_1 hc0_1
 have HB := Aside0.mk (Below.refl w.heap.size w)
 have H : ((laws_szNetwork.f l0_0 l0_1 1048576).bind fun t236 => (if t236 < 0 then (some true) else (laws_FnExactNetworkText.j0 k l0_0 l0_1))) = some r := h
 clear h
 replace H := Option.bind_eq_some_iff.mp H
 obtain ⟨t236, A20, H⟩ := H
 replace H : (if t236 < 0 then (some true) else (laws_FnExactNetworkText.j0 k l0_0 l0_1)) = some r := H
 have A2 := Aside0.mk A20
 clear A20
 have HC3 := Aside0.mk H
 clear H
 go_enter Tryd.func12, Tryd.ntmps12
 go_upto_if 11 with (first | ((with_reducible refine gate_dst (N := 1) rfl ?_); refine box_event ?hg (N := 1) ?hd (cs := #[.slice A0_0 l0_0.length c0_0, .slice A0_1 l0_1.length c0_1]) (t := 51) ?hr ?_; (case hd => rfl); (case hg => rfl); (case hr => first | (go_simp; done) | (go_simp; rfl)); intro gb235 hg w4 hbox hb; have n0_ := Aside0.mk (below_step (by repeat (first | (with_reducible first | exact HB.out|apply wA|apply wN|apply wD) | exact HB.out)) hb); have n1_ := Aside0.mk (hbox); have n2_ := Aside0.mk ((by rw [hg]; exact (below_size (by repeat (first | (with_reducible first | exact HB.out|apply wA|apply wN|apply wD) | exact HB.out))) : w.heap.size ≤ gb235)); have n3_ := Aside0.mk ((by rw [hg]; exact (below_size (by repeat (first | (with_reducible first | exact HB.out|apply wA|apply wN|apply wD) | exact HB.out))) : w.heap.size ≤ gb235)); clear HB; have HB := n0_; have BK235 := n1_; have GW235 := n2_; have GE235 := n3_; clear n0_ n1_ n2_ n3_; clear hb hbox hg; have hcz5_0 : w4.cell? ⟨gb235, 0, none⟩ = some (.slice A0_0 l0_0.length c0_0) := (blk_cell BK235.out 0).trans rfl; have hcz5_1 : w4.cell? ⟨gb235, 1, none⟩ = some (.slice A0_1 l0_1.length c0_1) := (blk_cell BK235.out 1).trans rfl; have hfz5_0 := blk_frozen BK235.out 0; have hfz5_1 := blk_frozen BK235.out 1) | ((with_reducible refine gate_callee (f := 41) rfl ?_); refine goesL_ (some 9) rfl rfl Tryd.func41 (by kernel_rfl) rfl #[.agg #[.slice A0_0 l0_0.length c0_0, .slice A0_1 l0_1.length c0_1], .int .i64 1048576] rfl (by (try simp only [List.map_toArray, List.map_cons, List.map_nil]); first | done | rfl | (simp only [List.length_drop, List.length_take]; rfl)) ?_; (with_reducible refine (laws_szNetwork.calls _ _ l0_0 _ _ l0_1 1048576 t236 _ ?side1 ?side2 ?side3 ?side4 A2.out).mono ?_); (case side1 => repeat (first | exact (Kd.C_below HR0_0.out HB.out) | (with_reducible first|refine Kd.C_alloc ?_ _|refine Kd.C_drewN ?_ _|refine Kd.C_drew ?_))); (case side2 => exact HC0_0.out); (case side3 => repeat (first | exact (Kd.C_below HR0_1.out HB.out) | (with_reducible first|refine Kd.C_alloc ?_ _|refine Kd.C_drewN ?_ _|refine Kd.C_drew ?_))); (case side4 => exact HC0_1.out); rintro e w6 ⟨rfl, hb⟩; refine ⟨_, rfl, ?_⟩; have n0_ := Aside0.mk (blk_below (g := gb235) (o := .cells #[.slice A0_0 l0_0.length c0_0, .slice A0_1 l0_1.length c0_1] 51 (0, 0)) (by (with_reducible repeat (first | refine bN ?_ _|refine bW ?_|refine bA ?_ _)); exact BK235.out) hb); have n1_ := Aside0.mk (below_step (by repeat (first | (with_reducible first | exact HB.out|apply wA|apply wN|apply wD |refine wS ?_ GE235.out) | exact HB.out)) hb); clear BK235; clear HB; have BK235 := n0_; have HB := n1_; clear n0_ n1_; (try clear hb); (try clear hb2); (try clear hk); (try clear hi)))
 (try simp only [Act.put, List.setIfInBounds_toArray, List.set_cons_zero, List.set_cons_succ])
 go_cut [] (fun wc => ∃ (kq : Nat), Aside0 (laws_FnExactNetworkText.j0 kq l0_0 l0_1 = some r) ∧ Aside0 (kq ≤ k) ∧ Aside0 (wc.heap[gb235]? = some (.cells #[(.slice A0_0 l0_0.length c0_0), (.slice A0_1 l0_1.length c0_1)] 51 (0, 0))) ∧ Aside0 (Below w.heap.size w wc))
 case first =>
  have H := HC3.out
  clear HC3
  by_cases c7 : t236 < 0
  ·rw [if_pos c7] at H
   have c7b0 : decide (t236 < 0) = true := decide_eq_true c7
   clear c7
   (first | rw [c7b0] | (simp only [i64_w, i32_w]; rw [c7b0]) | rw [c7b2] | skip)
   obtain rfl := Option.some.inj H
   go_wp2
   go_ret
   exact ⟨by first | rfl | (simp [errW_none, errW_some] <;> rfl) | (simp [*, errW_none, errW_some] <;> rfl), by repeat (first | (with_reducible first | exact HB.out|apply wA|apply wN|apply wD |refine wS ?_ GE235.out) | exact HB.out)⟩
  ·rw [if_neg c7] at H
   have c7b0 : decide (t236 < 0) = false := decide_eq_false c7
   clear c7
   (first | rw [c7b0] | (simp only [i64_w, i32_w]; rw [c7b0]) | rw [c7b2] | skip)
   have H' := Aside0.mk H
   clear H
   go_wp2
   go_meet
   case rel => exact ⟨_, H', ⟨by first | omega | exact Nat.le_refl _⟩, ⟨by (with_reducible repeat (first | refine bN ?_ _|refine bW ?_|refine bA ?_ _)); exact BK235.out⟩, ⟨by repeat (first | (with_reducible first | exact HB.out|apply wA|apply wN|apply wD |refine wS ?_ GE235.out) | exact HB.out)⟩⟩
 case rest =>
  clear HC3
  try clear c1
  try clear p2
  try clear c4
  try clear c7
  try clear c7b0
  try clear c7b2
  try clear hcz5_0
  try clear hcz5_1
  try clear hfz5_0
  try clear hfz5_1
  obtain ⟨kq, HA, HJ2, BK235, HB⟩ := hcut
  cases kq with
  | zero => exact absurd HA.out (by simp [laws_FnExactNetworkText.j0])
  | succ kj2 =>
   have H := HA.out
   clear HA
   simp only [laws_FnExactNetworkText.j0] at H
   replace H := Option.bind_eq_some_iff.mp H
   obtain ⟨⟨t237, t240⟩, A80, H⟩ := H
   replace H : ((spec_NetworkText.f kj2 t237 t240).bind fun t243 => ((laws_toNetwork.f l0_0 l0_1).bind fun bt244 => ((impl_NetworkText.f kj2 bt244.1 bt244.2).bind fun t251 => (if t251.toList = t243.toList then (laws_FnExactNetworkText.j1 kj2 l0_0 l0_1 bt244.1 bt244.2) else (some false))))) = some r := H
   have A8 := Aside0.mk A80
   clear A80
   replace H := Option.bind_eq_some_iff.mp H
   obtain ⟨t243, A90, H⟩ := H
   replace H : ((laws_toNetwork.f l0_0 l0_1).bind fun bt244 => ((impl_NetworkText.f kj2 bt244.1 bt244.2).bind fun t251 => (if t251.toList = t243.toList then (laws_FnExactNetworkText.j1 kj2 l0_0 l0_1 bt244.1 bt244.2) else (some false)))) = some r := H
   have A9 := Aside0.mk A90
   clear A90
   replace H := Option.bind_eq_some_iff.mp H
   obtain ⟨⟨t244, t247⟩, A100, H⟩ := H
   replace H : ((impl_NetworkText.f kj2 t244 t247).bind fun t251 => (if t251.toList = t243.toList then (laws_FnExactNetworkText.j1 kj2 l0_0 l0_1 t244 t247) else (some false))) = some r := H
   have A10 := Aside0.mk A100
   clear A100
   replace H := Option.bind_eq_some_iff.mp H
   obtain ⟨t251, A110, H⟩ := H
   replace H : (if t251.toList = t243.toList then (laws_FnExactNetworkText.j1 kj2 l0_0 l0_1 t244 t247) else (some false)) = some r := H
   have A11 := Aside0.mk A110
   clear A110
   have HC12 := Aside0.mk H
   clear H
   have hcz13_0 : wc.cell? ⟨gb235, 0, none⟩ = some (.slice A0_0 l0_0.length c0_0) := (blk_cell BK235.out 0).trans rfl
   have hcz13_1 : wc.cell? ⟨gb235, 1, none⟩ = some (.slice A0_1 l0_1.length c0_1) := (blk_cell BK235.out 1).trans rfl
   have hfz13_0 := blk_frozen BK235.out 0
   have hfz13_1 := blk_frozen BK235.out 1
   go_upto_if 21 with (first | ((with_reducible refine gate_callee (f := 43) rfl ?_); refine goesL_ (some 13) rfl rfl Tryd.func43 (by kernel_rfl) rfl #[.agg #[.slice A0_0 l0_0.length c0_0, .slice A0_1 l0_1.length c0_1]] rfl (by (try simp only [List.map_toArray, List.map_cons, List.map_nil]); first | done | rfl | (simp only [List.length_drop, List.length_take]; rfl)) ?_; (with_reducible refine (laws_toNetwork.calls _ _ l0_0 _ _ l0_1 t237 t240 _ ?side1 ?side2 ?side3 ?side4 A8.out).mono ?_); (case side1 => repeat (first | exact (Kd.C_below HR0_0.out HB.out) | (with_reducible first|refine Kd.C_alloc ?_ _|refine Kd.C_drewN ?_ _|refine Kd.C_drew ?_))); (case side2 => exact HC0_0.out); (case side3 => repeat (first | exact (Kd.C_below HR0_1.out HB.out) | (with_reducible first|refine Kd.C_alloc ?_ _|refine Kd.C_drewN ?_ _|refine Kd.C_drew ?_))); (case side4 => exact HC0_1.out); rintro e w14 ⟨v238, v241, rfl, ho0, ho1, hb⟩; refine ⟨_, rfl, ?_⟩; have n0_ := Aside0.mk (Kd.R_lower ho0 (below_size (by repeat (first | (with_reducible first | exact HB.out|apply wA|apply wN|apply wD |refine wS ?_ GE235.out) | exact HB.out)))); have n1_ := Aside0.mk (Kd.R_lower ho1 (below_size (by repeat (first | (with_reducible first | exact HB.out|apply wA|apply wN|apply wD |refine wS ?_ GE235.out) | exact HB.out)))); have n2_ := Aside0.mk (blk_below (g := gb235) (o := .cells #[.slice A0_0 l0_0.length c0_0, .slice A0_1 l0_1.length c0_1] 51 (0, 0)) (by (with_reducible repeat (first | refine bN ?_ _|refine bW ?_|refine bA ?_ _)); exact BK235.out) hb); have n3_ := Aside0.mk (below_step (by repeat (first | (with_reducible first | exact HB.out|apply wA|apply wN|apply wD |refine wS ?_ GE235.out) | exact HB.out)) hb); clear BK235; clear HB; have HO239 := n0_; have HO242 := n1_; have BK235 := n2_; have HB := n3_; clear n0_ n1_ n2_ n3_; (try clear hb); (try clear hb2); (try clear hk); (try clear hi); (try clear ho0); (try clear ho1); obtain ⟨Ao15, co15, eo15⟩ := Kd.R_slice HO239.out; subst eo15; obtain ⟨Ao16, co16, eo16⟩ := Kd.R_slice HO242.out; subst eo16) | ((with_reducible refine gate_callee (f := 42) rfl ?_); refine goesL_ (some 14) rfl rfl Tryd.func42 (by kernel_rfl) rfl #[.agg #[.slice Ao15 t237.length co15, .slice Ao16 t240.length co16]] rfl (by (try simp only [List.map_toArray, List.map_cons, List.map_nil]); first | done | rfl | (simp only [List.length_drop, List.length_take]; rfl)) ?_; (with_reducible refine (spec_NetworkText.calls kj2 _ _ t237 _ _ t240 t243 _ ?side1 ?side2 ?side3 ?side4 A9.out).mono ?_); (case side1 => repeat (first | exact (Kd.R_reads' HO239.out).2.2 | (with_reducible first|refine Kd.C_alloc ?_ _|refine Kd.C_drewN ?_ _|refine Kd.C_drew ?_))); (case side2 => exact (Kd.R_reads' HO239.out).2.1); (case side3 => repeat (first | exact (Kd.R_reads' HO242.out).2.2 | (with_reducible first|refine Kd.C_alloc ?_ _|refine Kd.C_drewN ?_ _|refine Kd.C_drew ?_))); (case side4 => exact (Kd.R_reads' HO242.out).2.1); rintro e w17 ⟨rfl, hb⟩; refine ⟨_, rfl, ?_⟩; have n0_ := Aside0.mk (Kd.R_below (by (with_reducible repeat (first | apply rA|apply rN|apply rW)); exact HO239.out) hb); have n1_ := Aside0.mk (Kd.R_below (by (with_reducible repeat (first | apply rA|apply rN|apply rW)); exact HO242.out) hb); have n2_ := Aside0.mk (blk_below (g := gb235) (o := .cells #[.slice A0_0 l0_0.length c0_0, .slice A0_1 l0_1.length c0_1] 51 (0, 0)) (by (with_reducible repeat (first | refine bN ?_ _|refine bW ?_|refine bA ?_ _)); exact BK235.out) hb); have n3_ := Aside0.mk (below_step (by repeat (first | (with_reducible first | exact HB.out|apply wA|apply wN|apply wD |refine wS ?_ GE235.out) | exact HB.out)) hb); clear HO239; clear HO242; clear BK235; clear HB; have HO239 := n0_; have HO242 := n1_; have BK235 := n2_; have HB := n3_; clear n0_ n1_ n2_ n3_; (try clear hb); (try clear hb2); (try clear hk); (try clear hi); have hcz18_0 : w17.cell? ⟨gb235, 0, none⟩ = some (.slice A0_0 l0_0.length c0_0) := (blk_cell BK235.out 0).trans rfl; have hcz18_1 : w17.cell? ⟨gb235, 1, none⟩ = some (.slice A0_1 l0_1.length c0_1) := (blk_cell BK235.out 1).trans rfl; have hfz18_0 := blk_frozen BK235.out 0; have hfz18_1 := blk_frozen BK235.out 1) | ((with_reducible refine gate_callee (f := 43) rfl ?_); refine goesL_ (some 16) rfl rfl Tryd.func43 (by kernel_rfl) rfl #[.agg #[.slice A0_0 l0_0.length c0_0, .slice A0_1 l0_1.length c0_1]] rfl (by (try simp only [List.map_toArray, List.map_cons, List.map_nil]); first | done | rfl | (simp only [List.length_drop, List.length_take]; rfl)) ?_; (with_reducible refine (laws_toNetwork.calls _ _ l0_0 _ _ l0_1 t244 t247 _ ?side1 ?side2 ?side3 ?side4 A10.out).mono ?_); (case side1 => repeat (first | exact (Kd.C_below HR0_0.out HB.out) | (with_reducible first|refine Kd.C_alloc ?_ _|refine Kd.C_drewN ?_ _|refine Kd.C_drew ?_))); (case side2 => exact HC0_0.out); (case side3 => repeat (first | exact (Kd.C_below HR0_1.out HB.out) | (with_reducible first|refine Kd.C_alloc ?_ _|refine Kd.C_drewN ?_ _|refine Kd.C_drew ?_))); (case side4 => exact HC0_1.out); rintro e w19 ⟨v245, v248, rfl, ho0, ho1, hb⟩; refine ⟨_, rfl, ?_⟩; have n0_ := Aside0.mk (Kd.R_elder' (by (with_reducible repeat (first | apply rA|apply rN|apply rW)); exact HO239.out) (Kd.R_base ho0) hb); have n1_ := Aside0.mk (Kd.R_elder' (by (with_reducible repeat (first | apply rA|apply rN|apply rW)); exact HO242.out) (Kd.R_base ho1) hb); have n2_ := Aside0.mk (Kd.R_lower (Kd.R_new' ho0 (Kd.R_lt (by (with_reducible repeat (first | apply rA|apply rN|apply rW)); exact HO239.out))) (below_size (by repeat (first | (with_reducible first | exact HB.out|apply wA|apply wN|apply wD |refine wS ?_ GE235.out) | exact HB.out)))); have n3_ := Aside0.mk (Kd.R_lower (Kd.R_new' ho1 (Kd.R_lt (by (with_reducible repeat (first | apply rA|apply rN|apply rW)); exact HO242.out))) (below_size (by repeat (first | (with_reducible first | exact HB.out|apply wA|apply wN|apply wD |refine wS ?_ GE235.out) | exact HB.out)))); have n4_ := Aside0.mk (blk_below (g := gb235) (o := .cells #[.slice A0_0 l0_0.length c0_0, .slice A0_1 l0_1.length c0_1] 51 (0, 0)) (by (with_reducible repeat (first | refine bN ?_ _|refine bW ?_|refine bA ?_ _)); exact BK235.out) hb); have n5_ := Aside0.mk (below_step (by repeat (first | (with_reducible first | exact HB.out|apply wA|apply wN|apply wD |refine wS ?_ GE235.out) | exact HB.out)) hb); clear HO239; clear HO242; clear BK235; clear HB; have HO239 := n0_; have HO242 := n1_; have HO246 := n2_; have HO249 := n3_; have BK235 := n4_; have HB := n5_; clear n0_ n1_ n2_ n3_ n4_ n5_; (try clear hb); (try clear hb2); (try clear hk); (try clear hi); (try clear ho0); (try clear ho1)) | ((with_reducible refine gate_dst (N := 5) rfl ?_); refine box_event ?hg (N := 5) ?hd (cs := #[.slice none 0 0, .slice none 0 0]) (t := 56) ?hr ?_; (case hd => rfl); (case hg => rfl); (case hr => first | (go_simp; done) | (go_simp; rfl)); intro gb250 hg w20 hbox hb; have n0_ := Aside0.mk (Kd.R_below (by (with_reducible repeat (first | apply rA|apply rN|apply rW)); exact HO239.out) hb); have n1_ := Aside0.mk (Kd.R_below (by (with_reducible repeat (first | apply rA|apply rN|apply rW)); exact HO242.out) hb); have n2_ := Aside0.mk (Kd.R_below (by (with_reducible repeat (first | apply rA|apply rN|apply rW)); exact HO246.out) hb); have n3_ := Aside0.mk (Kd.R_below (by (with_reducible repeat (first | apply rA|apply rN|apply rW)); exact HO249.out) hb); have n4_ := Aside0.mk (blk_below (g := gb235) (o := .cells #[.slice A0_0 l0_0.length c0_0, .slice A0_1 l0_1.length c0_1] 51 (0, 0)) (by (with_reducible repeat (first | refine bN ?_ _|refine bW ?_|refine bA ?_ _)); exact BK235.out) hb); have n5_ := Aside0.mk (below_step (by repeat (first | (with_reducible first | exact HB.out|apply wA|apply wN|apply wD |refine wS ?_ GE235.out) | exact HB.out)) hb); have n6_ := Aside0.mk (hbox); have n7_ := Aside0.mk ((by rw [hg]; exact (below_size (by repeat (first | (with_reducible first | exact HB.out|apply wA|apply wN|apply wD |refine wS ?_ GE235.out) | exact HB.out))) : w.heap.size ≤ gb250)); have n8_ := Aside0.mk ((by rw [hg]; exact (below_size (by repeat (first | (with_reducible first | exact HB.out|apply wA|apply wN|apply wD |refine wS ?_ GE235.out) | exact HB.out))) : w.heap.size ≤ gb250)); have n9_ := Aside0.mk ((by rw [hg]; exact Nat.ne_of_lt (blk_lt (g := gb235) (o := .cells #[.slice A0_0 l0_0.length c0_0, .slice A0_1 l0_1.length c0_1] 51 (0, 0)) (by (with_reducible repeat (first | refine bN ?_ _|refine bW ?_|refine bA ?_ _)); exact BK235.out)) : gb235 ≠ gb250)); have n10_ := Aside0.mk ((by rw [hg]; exact Nat.ne_of_gt (blk_lt (g := gb235) (o := .cells #[.slice A0_0 l0_0.length c0_0, .slice A0_1 l0_1.length c0_1] 51 (0, 0)) (by (with_reducible repeat (first | refine bN ?_ _|refine bW ?_|refine bA ?_ _)); exact BK235.out)) : gb250 ≠ gb235)); clear HO239; clear HO242; clear HO246; clear HO249; clear BK235; clear HB; have HO239 := n0_; have HO242 := n1_; have HO246 := n2_; have HO249 := n3_; have BK235 := n4_; have HB := n5_; have BK250 := n6_; have GW250 := n7_; have GE250 := n8_; have NB235_250 := n9_; have NB250_235 := n10_; clear n0_ n1_ n2_ n3_ n4_ n5_ n6_ n7_ n8_ n9_ n10_; clear hb hbox hg; obtain ⟨Ao21, co21, eo21⟩ := Kd.R_slice HO246.out; subst eo21; have hnb22 := NB250_235.out; have hnc22 := NB235_250.out; have hcz23_0 : w20.cell? ⟨gb250, 0, none⟩ = some (.slice none 0 0) := (blk_cell BK250.out 0).trans rfl; have hcz23_1 : w20.cell? ⟨gb250, 1, none⟩ = some (.slice none 0 0) := (blk_cell BK250.out 1).trans rfl; have hfz23_0 := blk_frozen BK250.out 0; have hfz23_1 := blk_frozen BK250.out 1; obtain ⟨Ao24, co24, eo24⟩ := Kd.R_slice HO249.out; subst eo24) | ((with_reducible refine gate_callee (f := 44) rfl ?_); refine goesL_ (some 18) rfl rfl Tryd.func44 (by kernel_rfl) rfl #[.agg #[.slice Ao21 t244.length co21, .slice Ao24 t247.length co24]] rfl (by (try simp only [List.map_toArray, List.map_cons, List.map_nil]); first | done | rfl | (simp only [List.length_drop, List.length_take]; rfl)) ?_; (with_reducible refine (impl_NetworkText.calls kj2 _ _ t244 _ _ t247 t251 _ ?side1 ?side2 ?side3 ?side4 ?sideT A11.out).mono ?_); (case sideT => exact HT.out.now (by repeat (first | (with_reducible first | exact HB.out|apply wA|apply wN|apply wD |refine wS ?_ GE231.out |refine wS ?_ GE232.out |refine wS ?_ GE235.out |refine wS ?_ GE250.out) | exact HB.out))); (case side1 => refine (Kd.R_reads' (e := 2) (base := w.heap.size) (ok := fun k_ => (True ∧ some k_ ≠ (.slice Ao15 t237.length co15 : Value).ownBlock)) (n := t244.length) (c := co21) ?_).2.2; exact (by (with_reducible repeat (first | apply rA|apply rN|apply rW)); exact (Kd.R_mono (Kd.R_far (p := ⟨gb250, 1, none⟩) (Kd.R_far (p := ⟨gb250, 0, none⟩) (Kd.R_types HO246.out BK250.out (by decide)) (fun _ hk => hk.2) (.slice Ao21 t244.length co21)) (fun _ hk => hk.2) (.slice Ao24 t247.length co24)) (fun _ h_ => h_.1)))); (case side2 => exact (Kd.R_reads' HO246.out).2.1); (case side3 => refine (Kd.R_reads' (e := 43) (base := w.heap.size) (ok := fun k_ => (True ∧ some k_ ≠ (.slice Ao16 t240.length co16 : Value).ownBlock)) (n := t247.length) (c := co24) ?_).2.2; exact (by (with_reducible repeat (first | apply rA|apply rN|apply rW)); exact (Kd.R_mono (Kd.R_far (p := ⟨gb250, 1, none⟩) (Kd.R_far (p := ⟨gb250, 0, none⟩) (Kd.R_types HO249.out BK250.out (by decide)) (fun _ hk => hk.2) (.slice Ao21 t244.length co21)) (fun _ hk => hk.2) (.slice Ao24 t247.length co24)) (fun _ h_ => h_.1)))); (case side4 => exact (Kd.R_reads' HO249.out).2.1); rintro e w25 ⟨rfl, hb⟩; refine ⟨_, rfl, ?_⟩; have n0_ := Aside0.mk (Kd.R_below (by (with_reducible repeat (first | apply rA|apply rN|apply rW)); exact (Kd.R_mono (Kd.R_far (p := ⟨gb250, 1, none⟩) (Kd.R_far (p := ⟨gb250, 0, none⟩) (Kd.R_types HO239.out BK250.out (by decide)) (fun _ hk => hk.2) (.slice Ao21 t244.length co21)) (fun _ hk => hk.2) (.slice Ao24 t247.length co24)) (fun _ h_ => h_.1))) hb); have n1_ := Aside0.mk (Kd.R_below (by (with_reducible repeat (first | apply rA|apply rN|apply rW)); exact (Kd.R_mono (Kd.R_far (p := ⟨gb250, 1, none⟩) (Kd.R_far (p := ⟨gb250, 0, none⟩) (Kd.R_types HO242.out BK250.out (by decide)) (fun _ hk => hk.2) (.slice Ao21 t244.length co21)) (fun _ hk => hk.2) (.slice Ao24 t247.length co24)) (fun _ h_ => h_.1))) hb); have n2_ := Aside0.mk (Kd.R_below (by (with_reducible repeat (first | apply rA|apply rN|apply rW)); exact (Kd.R_mono (Kd.R_far (p := ⟨gb250, 1, none⟩) (Kd.R_far (p := ⟨gb250, 0, none⟩) (Kd.R_types HO246.out BK250.out (by decide)) (fun _ hk => hk.2) (.slice Ao21 t244.length co21)) (fun _ hk => hk.2) (.slice Ao24 t247.length co24)) (fun _ h_ => h_.1))) hb); have n3_ := Aside0.mk (Kd.R_below (by (with_reducible repeat (first | apply rA|apply rN|apply rW)); exact (Kd.R_mono (Kd.R_far (p := ⟨gb250, 1, none⟩) (Kd.R_far (p := ⟨gb250, 0, none⟩) (Kd.R_types HO249.out BK250.out (by decide)) (fun _ hk => hk.2) (.slice Ao21 t244.length co21)) (fun _ hk => hk.2) (.slice Ao24 t247.length co24)) (fun _ h_ => h_.1))) hb); have n4_ := Aside0.mk (blk_below (g := gb235) (o := .cells #[.slice A0_0 l0_0.length c0_0, .slice A0_1 l0_1.length c0_1] 51 (0, 0)) (by (with_reducible repeat (first | refine bN ?_ _|refine bW ?_|refine bA ?_ _)); refine blk_far ?_ NB235_250.out _; (with_reducible repeat (first | refine bN ?_ _|refine bW ?_|refine bA ?_ _)); refine blk_far ?_ NB235_250.out _; (with_reducible repeat (first | refine bN ?_ _|refine bW ?_|refine bA ?_ _)); exact BK235.out) hb); have n5_ := Aside0.mk (blk_below (g := gb250) (o := .cells #[.slice Ao21 t244.length co21, .slice Ao24 t247.length co24] 56 (0, 0)) (by (with_reducible repeat (first | refine bN ?_ _|refine bW ?_|refine bA ?_ _)); refine blk_put (cs := #[.slice Ao21 t244.length co21, .slice none 0 0]) ?_ 1 _ rfl; (with_reducible repeat (first | refine bN ?_ _|refine bW ?_|refine bA ?_ _)); refine blk_put (cs := #[.slice none 0 0, .slice none 0 0]) ?_ 0 _ rfl; (with_reducible repeat (first | refine bN ?_ _|refine bW ?_|refine bA ?_ _)); exact BK250.out) hb); have n6_ := Aside0.mk (below_step (by repeat (first | (with_reducible first | exact HB.out|apply wA|apply wN|apply wD |refine wS ?_ GE235.out |refine wS ?_ GE250.out) | exact HB.out)) hb); clear HO239; clear HO242; clear HO246; clear HO249; clear BK235; clear BK250; clear HB; have HO239 := n0_; have HO242 := n1_; have HO246 := n2_; have HO249 := n3_; have BK235 := n4_; have BK250 := n5_; have HB := n6_; clear n0_ n1_ n2_ n3_ n4_ n5_ n6_; (try clear hb); (try clear hb2); (try clear hk); (try clear hi)))
   (try simp only [Act.put, List.setIfInBounds_toArray, List.set_cons_zero, List.set_cons_succ])
   go_cut [] (fun wc => ∃ (kq : Nat), Aside0 (laws_FnExactNetworkText.j1 kq l0_0 l0_1 t244 t247 = some r) ∧ Aside0 (kq ≤ kj2) ∧ Aside0 (Kd.R (Kd.int .i64) 2 wc w.heap.size (fun _ => True) (.slice Ao21 t244.length co21) t244) ∧ Aside0 (Kd.R k43 43 wc w.heap.size (fun _ => True) (.slice Ao24 t247.length co24) t247) ∧ Aside0 (wc.heap[gb235]? = some (.cells #[(.slice A0_0 l0_0.length c0_0), (.slice A0_1 l0_1.length c0_1)] 51 (0, 0))) ∧ Aside0 (wc.heap[gb250]? = some (.cells #[(.slice Ao21 t244.length co21), (.slice Ao24 t247.length co24)] 56 (0, 0))) ∧ Aside0 (Below w.heap.size w wc))
   case first =>
    have H := HC12.out
    clear HC12
    by_cases c26 : t251.toList = t243.toList
    ·rw [if_pos c26] at H
     have c26b0 : (t251.toList == t243.toList) = true := beq_iff_eq.mpr c26
     have c26b1 : (t251.toList != t243.toList) = false := bne_eq_false_iff_eq.mpr c26
     clear c26
     (first | rw [c26b0] | (simp only [i64_w, i32_w]; rw [c26b0]) | rw [c26b2] | skip)
     have H' := Aside0.mk H
     clear H
     go_wp2
     go_meet
     case rel => exact ⟨_, H', ⟨by have := HJ2.out; first | omega | exact Nat.le_refl _⟩, ⟨by (with_reducible repeat (first | apply rA|apply rN|apply rW)); exact Kd.R_mono HO246.out (fun _ hk => trivial)⟩, ⟨by (with_reducible repeat (first | apply rA|apply rN|apply rW)); exact Kd.R_mono HO249.out (fun _ hk => trivial)⟩, ⟨by (with_reducible repeat (first | refine bN ?_ _|refine bW ?_|refine bA ?_ _)); exact BK235.out⟩, ⟨by (with_reducible repeat (first | refine bN ?_ _|refine bW ?_|refine bA ?_ _)); exact BK250.out⟩, ⟨by repeat (first | (with_reducible first | exact HB.out|apply wA|apply wN|apply wD |refine wS ?_ GE235.out |refine wS ?_ GE250.out) | exact HB.out)⟩⟩
    ·rw [if_neg c26] at H
     have c26b0 : (t251.toList == t243.toList) = false := beq_eq_false_iff_ne.mpr c26
     have c26b1 : (t251.toList != t243.toList) = true := bne_iff_ne.mpr c26
     (first | rw [c26b0] | (simp only [i64_w, i32_w]; rw [c26b0]) | rw [c26b2] | skip)
     obtain rfl := Option.some.inj H
     go_wp2
     go_ret
     exact ⟨by first | rfl | (simp [errW_none, errW_some] <;> rfl) | (simp [*, errW_none, errW_some] <;> rfl), by repeat (first | (with_reducible first | exact HB.out|apply wA|apply wN|apply wD |refine wS ?_ GE235.out |refine wS ?_ GE250.out) | exact HB.out)⟩
   case rest =>
    clear HC12
    try clear c1
    try clear c2
    try clear p2
    try clear c4
    try clear c7
    try clear c7b0
    try clear c7b2
    try clear c12
    try clear c22
    try clear c26
    try clear c26b0
    try clear c26b1
    try clear c26b2
    try clear hcz13_0
    try clear hcz13_1
    try clear hcz18_0
    try clear hcz18_1
    try clear hcz23_0
    try clear hcz23_1
    try clear hcz5_0
    try clear hcz5_1
    try clear hfz13_0
    try clear hfz13_1
    try clear hfz18_0
    try clear hfz18_1
    try clear hfz23_0
    try clear hfz23_1
    try clear hfz5_0
    try clear hfz5_1
    try clear p2
    obtain ⟨kq, HA, HJ11, HO_251000, HO_251001, BK235, BK250, HB⟩ := hcut
    cases kq with
    | zero => exact absurd HA.out (by simp [laws_FnExactNetworkText.j1])
    | succ kj11 =>
     have H := HA.out
     clear HA
     simp only [laws_FnExactNetworkText.j1] at H
     replace H := Option.bind_eq_some_iff.mp H
     obtain ⟨⟨t252, t255⟩, A270, H⟩ := H
     replace H : ((laws_eqNetwork.f t244 t247 t252 t255).bind fun t258 => (if t258 = true then (some true) else (some false))) = some r := H
     have A27 := Aside0.mk A270
     clear A270
     replace H := Option.bind_eq_some_iff.mp H
     obtain ⟨t258, A280, H⟩ := H
     replace H : (if t258 = true then (some true) else (some false)) = some r := H
     have A28 := Aside0.mk A280
     clear A280
     by_cases c29 : t258 = true
     ·subst c29
      have H1 : (some true) = some r := by rw [if_pos rfl] at H; exact H
      clear H
      have H := H1
      clear H1
      obtain rfl := Option.some.inj H
      try go_wp2
      have n0_ := Aside0.mk (Kd.R_drew HO_251000.out)
      have n1_ := Aside0.mk (Kd.R_drew HO_251001.out)
      have n2_ := Aside0.mk (blk_drew BK235.out)
      have n3_ := Aside0.mk (blk_drew BK250.out)
      have n4_ := Aside0.mk (below_drew1 HB.out)
      clear HO_251000
      clear HO_251001
      clear BK235
      clear BK250
      clear HB
      have HO_251000 := n0_
      have HO_251001 := n1_
      have BK235 := n2_
      have BK250 := n3_
      have HB := n4_
      clear n0_ n1_ n2_ n3_ n4_
      refine start_ (n := 5) (S := fun w' => w'.cell? ⟨gb250, 0, none⟩ = some (.slice Ao21 t244.length co21) ∧ w'.cell? ⟨gb250, 1, none⟩ = some (.slice Ao24 t247.length co24) ∧ w'.cell? ⟨gb235, 0, none⟩ = some (.slice A0_0 l0_0.length c0_0) ∧ w'.cell? ⟨gb235, 1, none⟩ = some (.slice A0_1 l0_1.length c0_1)) (ds := []) #[J,J,J,J,J] (by kernel_rfl) rfl rfl ⟨(blk_cell BK250.out 0).trans rfl, (blk_cell BK250.out 1).trans rfl, (blk_cell BK235.out 0).trans rfl, (blk_cell BK235.out 1).trans rfl⟩ (fun hHeld => ?_)
      generalize wc.drew = w30 at HO_251000 HO_251001 BK235 BK250 HB hHeld ⊢
      refine take_ (i := 0) (N := some 22) (v := ?_) (a' := ?_) #[Y,J,J,J,J] rfl rfl (by kernel_rfl) (fun _ _ _ h => h) (Or.inl ⟨by rfl, ?_⟩) hHeld ?_ ?_; rotate_left
      ·rintro w' ⟨s0, s1, s2, s3⟩; go_simp; with_reducible rfl
      rotate_left
      ·simp only [pU,pN,sB,sZ,sS,i64_w,i32_w]; rfl
      refine take_ (i := 1) (N := some 23) (v := ?_) (a' := ?_) #[Y,Y,J,J,J] rfl rfl (by kernel_rfl) (fun _ _ _ h => h) (Or.inl ⟨by rfl, ?_⟩) hHeld ?_ ?_; rotate_left
      ·rintro w' ⟨s0, s1, s2, s3⟩; go_simp; with_reducible rfl
      rotate_left
      ·simp only [pU,pN,sB,sZ,sS,i64_w,i32_w]; rfl
      refine one_ (i := 2) (N := some 24) #[Y,Y,Y,J,J] rfl rfl (by kernel_rfl) (by decide) (fun K hK => ?_)
      refine goes_ Tryd.func43 (by kernel_rfl) rfl #[.agg #[.slice A0_0 l0_0.length c0_0, .slice A0_1 l0_1.length c0_1]] (by rfl) rfl rfl (by (try simp only [List.map_toArray, List.map_cons, List.map_nil]); first | done | rfl | (simp only [List.length_drop, List.length_take]; rfl)) ?_
      with_reducible refine (laws_toNetwork.calls _ _ l0_0 _ _ l0_1 t252 t255 _ ?side1 ?side2 ?side3 ?side4 A27.out).mono ?_
      (case side1 => repeat (first | exact (Kd.C_below HR0_0.out HB.out) | (with_reducible first|refine Kd.C_alloc ?_ _|refine Kd.C_drewN ?_ _|refine Kd.C_drew ?_)))
      (case side2 => exact HC0_0.out)
      (case side3 => repeat (first | exact (Kd.C_below HR0_1.out HB.out) | (with_reducible first|refine Kd.C_alloc ?_ _|refine Kd.C_drewN ?_ _|refine Kd.C_drew ?_)))
      (case side4 => exact HC0_1.out)
      rintro e w31 ⟨v253, v256, rfl, ho0, ho1, hb⟩
      refine ⟨_, rfl, ?_⟩
      have n0_ := Aside0.mk (Kd.R_elder' (by (with_reducible repeat (first | apply rA|apply rN|apply rW)); exact HO_251000.out) (Kd.R_base ho0) hb)
      have n1_ := Aside0.mk (Kd.R_elder' (by (with_reducible repeat (first | apply rA|apply rN|apply rW)); exact HO_251001.out) (Kd.R_base ho1) hb)
      have n2_ := Aside0.mk (Kd.R_lower (Kd.R_new' ho0 (Kd.R_lt (by (with_reducible repeat (first | apply rA|apply rN|apply rW)); exact HO_251000.out))) (below_size (by repeat (first | (with_reducible first | exact HB.out|apply wA|apply wN|apply wD |refine wS ?_ GE235.out |refine wS ?_ GE250.out) | exact HB.out))))
      have n3_ := Aside0.mk (Kd.R_lower (Kd.R_new' ho1 (Kd.R_lt (by (with_reducible repeat (first | apply rA|apply rN|apply rW)); exact HO_251001.out))) (below_size (by repeat (first | (with_reducible first | exact HB.out|apply wA|apply wN|apply wD |refine wS ?_ GE235.out |refine wS ?_ GE250.out) | exact HB.out))))
      have n4_ := Aside0.mk (blk_below (g := gb235) (o := .cells #[.slice A0_0 l0_0.length c0_0, .slice A0_1 l0_1.length c0_1] 51 (0, 0)) (by (with_reducible repeat (first | refine bN ?_ _|refine bW ?_|refine bA ?_ _)); exact BK235.out) hb)
      have n5_ := Aside0.mk (blk_below (g := gb250) (o := .cells #[.slice Ao21 t244.length co21, .slice Ao24 t247.length co24] 56 (0, 0)) (by (with_reducible repeat (first | refine bN ?_ _|refine bW ?_|refine bA ?_ _)); exact BK250.out) hb)
      have n6_ := Aside0.mk (below_step (by repeat (first | (with_reducible first | exact HB.out|apply wA|apply wN|apply wD |refine wS ?_ GE235.out |refine wS ?_ GE250.out) | exact HB.out)) hb)
      clear HO_251000
      clear HO_251001
      clear BK235
      clear BK250
      clear HB
      have HO_251000 := n0_
      have HO_251001 := n1_
      have HO254 := n2_
      have HO257 := n3_
      have BK235 := n4_
      have BK250 := n5_
      have HB := n6_
      clear n0_ n1_ n2_ n3_ n4_ n5_ n6_
      (try clear hb)
      (try clear hb2)
      (try clear hk)
      (try clear hi)
      (try clear ho0)
      (try clear ho1)
      obtain ⟨Ao32, co32, eo32⟩ := Kd.R_slice HO254.out
      (first | subst eo32 | (injection eo32 with f1_ f2_ f3_; have f4_ := f1_.symm; have f5_ := f3_.symm; clear f1_ f2_ f3_; subst f4_; subst f5_))
      obtain ⟨Ao33, co33, eo33⟩ := Kd.R_slice HO257.out
      (first | subst eo33 | (injection eo33 with f1_ f2_ f3_; have f4_ := f1_.symm; have f5_ := f3_.symm; clear f1_ f2_ f3_; subst f4_; subst f5_))
      refine hK.out _ _ ⟨(blk_cell BK250.out 0).trans rfl, (blk_cell BK250.out 1).trans rfl, (blk_cell BK235.out 0).trans rfl, (blk_cell BK235.out 1).trans rfl⟩ (fun hHeld => ?_)
      clear hK K
      refine norm_ (a' := ?_) ?_ ?_
      rotate_left
      ·show Act.put _ (some 24) _ = _
       simp only [pU,pN,sB,sZ,sS,i64_w,i32_w]
       rfl
      refine one_ (i := 3) (N := some 25) #[Y,Y,Y,Y,J] rfl rfl (by kernel_rfl) (by decide) (fun K hK => ?_)
      refine goes_ Tryd.func45 (by kernel_rfl) rfl #[.agg #[.slice Ao21 t244.length co21, .slice Ao24 t247.length co24], .agg #[.slice Ao32 t252.length co32, .slice Ao33 t255.length co33]] (by rfl) rfl rfl (by (try simp only [List.map_toArray, List.map_cons, List.map_nil]); first | done | rfl | (simp only [List.length_drop, List.length_take]; rfl)) ?_
      with_reducible refine (laws_eqNetwork.calls _ _ t244 _ _ t247 _ _ t252 _ _ t255 true _ ?side1 ?side2 ?side3 ?side4 ?side5 ?side6 ?side7 ?side8 A28.out).mono ?_
      (case side1 => repeat (first | exact (Kd.R_reads' HO_251000.out).2.2 | (with_reducible first|refine Kd.C_alloc ?_ _|refine Kd.C_drewN ?_ _|refine Kd.C_drew ?_)))
      (case side2 => exact (Kd.R_reads' HO_251000.out).2.1)
      (case side3 => repeat (first | exact (Kd.R_reads' HO_251001.out).2.2 | (with_reducible first|refine Kd.C_alloc ?_ _|refine Kd.C_drewN ?_ _|refine Kd.C_drew ?_)))
      (case side4 => exact (Kd.R_reads' HO_251001.out).2.1)
      (case side5 => repeat (first | exact (Kd.R_reads' HO254.out).2.2 | (with_reducible first|refine Kd.C_alloc ?_ _|refine Kd.C_drewN ?_ _|refine Kd.C_drew ?_)))
      (case side6 => exact (Kd.R_reads' HO254.out).2.1)
      (case side7 => repeat (first | exact (Kd.R_reads' HO257.out).2.2 | (with_reducible first|refine Kd.C_alloc ?_ _|refine Kd.C_drewN ?_ _|refine Kd.C_drew ?_)))
      (case side8 => exact (Kd.R_reads' HO257.out).2.1)
      rintro e w34 ⟨rfl, hb⟩
      refine ⟨_, rfl, ?_⟩
      have n0_ := Aside0.mk (Kd.R_below (by (with_reducible repeat (first | apply rA|apply rN|apply rW)); exact HO_251000.out) hb)
      have n1_ := Aside0.mk (Kd.R_below (by (with_reducible repeat (first | apply rA|apply rN|apply rW)); exact HO_251001.out) hb)
      have n2_ := Aside0.mk (Kd.R_below (by (with_reducible repeat (first | apply rA|apply rN|apply rW)); exact HO254.out) hb)
      have n3_ := Aside0.mk (Kd.R_below (by (with_reducible repeat (first | apply rA|apply rN|apply rW)); exact HO257.out) hb)
      have n4_ := Aside0.mk (blk_below (g := gb235) (o := .cells #[.slice A0_0 l0_0.length c0_0, .slice A0_1 l0_1.length c0_1] 51 (0, 0)) (by (with_reducible repeat (first | refine bN ?_ _|refine bW ?_|refine bA ?_ _)); exact BK235.out) hb)
      have n5_ := Aside0.mk (blk_below (g := gb250) (o := .cells #[.slice Ao21 t244.length co21, .slice Ao24 t247.length co24] 56 (0, 0)) (by (with_reducible repeat (first | refine bN ?_ _|refine bW ?_|refine bA ?_ _)); exact BK250.out) hb)
      have n6_ := Aside0.mk (below_step (by repeat (first | (with_reducible first | exact HB.out|apply wA|apply wN|apply wD |refine wS ?_ GE235.out |refine wS ?_ GE250.out) | exact HB.out)) hb)
      clear HO_251000
      clear HO_251001
      clear HO254
      clear HO257
      clear BK235
      clear BK250
      clear HB
      have HO_251000 := n0_
      have HO_251001 := n1_
      have HO254 := n2_
      have HO257 := n3_
      have BK235 := n4_
      have BK250 := n5_
      have HB := n6_
      clear n0_ n1_ n2_ n3_ n4_ n5_ n6_
      (try clear hb)
      (try clear hb2)
      (try clear hk)
      (try clear hi)
      refine hK.out _ _ ⟨(blk_cell BK250.out 0).trans rfl, (blk_cell BK250.out 1).trans rfl, (blk_cell BK235.out 0).trans rfl, (blk_cell BK235.out 1).trans rfl⟩ (fun hHeld => ?_)
      clear hK K
      refine norm_ (a' := ?_) ?_ ?_
      rotate_left
      ·show Act.put _ (some 25) _ = _
       simp only [pU,pN,sB,sZ,sS,i64_w,i32_w]
       rfl
      refine pure_ (i := 4) (N := some 26) (v := ?_) (a' := ?_) #[Y,Y,Y,Y,Y] rfl rfl (by kernel_rfl) (fun _ _ _ h => h) (Or.inl ⟨by rfl, ?_⟩) ?_ ?_; rotate_left
      ·intro w'; go_simp; with_reducible rfl
      rotate_left
      ·simp only [pU,pN,sB,sZ,sS,i64_w,i32_w]; rfl
      refine done_ (by kernel_rfl) ?_
      try go_wp2
      go_ret
      exact ⟨by first | rfl | (simp [errW_none, errW_some] <;> rfl) | (simp [*, errW_none, errW_some] <;> rfl), by repeat (first | (with_reducible first | exact HB.out|apply wA|apply wN|apply wD |refine wS ?_ GE235.out |refine wS ?_ GE250.out) | exact HB.out)⟩
     ·replace c29 := Bool.eq_false_iff.mpr c29
      subst c29
      have H1 : (some false) = some r := by rw [if_neg (show ¬ (false = true) by decide)] at H; exact H
      clear H
      have H := H1
      clear H1
      obtain rfl := Option.some.inj H
      try go_wp2
      have n0_ := Aside0.mk (Kd.R_drew HO_251000.out)
      have n1_ := Aside0.mk (Kd.R_drew HO_251001.out)
      have n2_ := Aside0.mk (blk_drew BK235.out)
      have n3_ := Aside0.mk (blk_drew BK250.out)
      have n4_ := Aside0.mk (below_drew1 HB.out)
      clear HO_251000
      clear HO_251001
      clear BK235
      clear BK250
      clear HB
      have HO_251000 := n0_
      have HO_251001 := n1_
      have BK235 := n2_
      have BK250 := n3_
      have HB := n4_
      clear n0_ n1_ n2_ n3_ n4_
      refine start_ (n := 5) (S := fun w' => w'.cell? ⟨gb250, 0, none⟩ = some (.slice Ao21 t244.length co21) ∧ w'.cell? ⟨gb250, 1, none⟩ = some (.slice Ao24 t247.length co24) ∧ w'.cell? ⟨gb235, 0, none⟩ = some (.slice A0_0 l0_0.length c0_0) ∧ w'.cell? ⟨gb235, 1, none⟩ = some (.slice A0_1 l0_1.length c0_1)) (ds := []) #[J,J,J,J,J] (by kernel_rfl) rfl rfl ⟨(blk_cell BK250.out 0).trans rfl, (blk_cell BK250.out 1).trans rfl, (blk_cell BK235.out 0).trans rfl, (blk_cell BK235.out 1).trans rfl⟩ (fun hHeld => ?_)
      generalize wc.drew = w35 at HO_251000 HO_251001 BK235 BK250 HB hHeld ⊢
      refine take_ (i := 0) (N := some 22) (v := ?_) (a' := ?_) #[Y,J,J,J,J] rfl rfl (by kernel_rfl) (fun _ _ _ h => h) (Or.inl ⟨by rfl, ?_⟩) hHeld ?_ ?_; rotate_left
      ·rintro w' ⟨s0, s1, s2, s3⟩; go_simp; with_reducible rfl
      rotate_left
      ·simp only [pU,pN,sB,sZ,sS,i64_w,i32_w]; rfl
      refine take_ (i := 1) (N := some 23) (v := ?_) (a' := ?_) #[Y,Y,J,J,J] rfl rfl (by kernel_rfl) (fun _ _ _ h => h) (Or.inl ⟨by rfl, ?_⟩) hHeld ?_ ?_; rotate_left
      ·rintro w' ⟨s0, s1, s2, s3⟩; go_simp; with_reducible rfl
      rotate_left
      ·simp only [pU,pN,sB,sZ,sS,i64_w,i32_w]; rfl
      refine one_ (i := 2) (N := some 24) #[Y,Y,Y,J,J] rfl rfl (by kernel_rfl) (by decide) (fun K hK => ?_)
      refine goes_ Tryd.func43 (by kernel_rfl) rfl #[.agg #[.slice A0_0 l0_0.length c0_0, .slice A0_1 l0_1.length c0_1]] (by rfl) rfl rfl (by (try simp only [List.map_toArray, List.map_cons, List.map_nil]); first | done | rfl | (simp only [List.length_drop, List.length_take]; rfl)) ?_
      with_reducible refine (laws_toNetwork.calls _ _ l0_0 _ _ l0_1 t252 t255 _ ?side1 ?side2 ?side3 ?side4 A27.out).mono ?_
      (case side1 => repeat (first | exact (Kd.C_below HR0_0.out HB.out) | (with_reducible first|refine Kd.C_alloc ?_ _|refine Kd.C_drewN ?_ _|refine Kd.C_drew ?_)))
      (case side2 => exact HC0_0.out)
      (case side3 => repeat (first | exact (Kd.C_below HR0_1.out HB.out) | (with_reducible first|refine Kd.C_alloc ?_ _|refine Kd.C_drewN ?_ _|refine Kd.C_drew ?_)))
      (case side4 => exact HC0_1.out)
      rintro e w36 ⟨v253, v256, rfl, ho0, ho1, hb⟩
      refine ⟨_, rfl, ?_⟩
      have n0_ := Aside0.mk (Kd.R_elder' (by (with_reducible repeat (first | apply rA|apply rN|apply rW)); exact HO_251000.out) (Kd.R_base ho0) hb)
      have n1_ := Aside0.mk (Kd.R_elder' (by (with_reducible repeat (first | apply rA|apply rN|apply rW)); exact HO_251001.out) (Kd.R_base ho1) hb)
      have n2_ := Aside0.mk (Kd.R_lower (Kd.R_new' ho0 (Kd.R_lt (by (with_reducible repeat (first | apply rA|apply rN|apply rW)); exact HO_251000.out))) (below_size (by repeat (first | (with_reducible first | exact HB.out|apply wA|apply wN|apply wD |refine wS ?_ GE235.out |refine wS ?_ GE250.out) | exact HB.out))))
      have n3_ := Aside0.mk (Kd.R_lower (Kd.R_new' ho1 (Kd.R_lt (by (with_reducible repeat (first | apply rA|apply rN|apply rW)); exact HO_251001.out))) (below_size (by repeat (first | (with_reducible first | exact HB.out|apply wA|apply wN|apply wD |refine wS ?_ GE235.out |refine wS ?_ GE250.out) | exact HB.out))))
      have n4_ := Aside0.mk (blk_below (g := gb235) (o := .cells #[.slice A0_0 l0_0.length c0_0, .slice A0_1 l0_1.length c0_1] 51 (0, 0)) (by (with_reducible repeat (first | refine bN ?_ _|refine bW ?_|refine bA ?_ _)); exact BK235.out) hb)
      have n5_ := Aside0.mk (blk_below (g := gb250) (o := .cells #[.slice Ao21 t244.length co21, .slice Ao24 t247.length co24] 56 (0, 0)) (by (with_reducible repeat (first | refine bN ?_ _|refine bW ?_|refine bA ?_ _)); exact BK250.out) hb)
      have n6_ := Aside0.mk (below_step (by repeat (first | (with_reducible first | exact HB.out|apply wA|apply wN|apply wD |refine wS ?_ GE235.out |refine wS ?_ GE250.out) | exact HB.out)) hb)
      clear HO_251000
      clear HO_251001
      clear BK235
      clear BK250
      clear HB
      have HO_251000 := n0_
      have HO_251001 := n1_
      have HO254 := n2_
      have HO257 := n3_
      have BK235 := n4_
      have BK250 := n5_
      have HB := n6_
      clear n0_ n1_ n2_ n3_ n4_ n5_ n6_
      (try clear hb)
      (try clear hb2)
      (try clear hk)
      (try clear hi)
      (try clear ho0)
      (try clear ho1)
      obtain ⟨Ao37, co37, eo37⟩ := Kd.R_slice HO254.out
      (first | subst eo37 | (injection eo37 with f1_ f2_ f3_; have f4_ := f1_.symm; have f5_ := f3_.symm; clear f1_ f2_ f3_; subst f4_; subst f5_))
      obtain ⟨Ao38, co38, eo38⟩ := Kd.R_slice HO257.out
      (first | subst eo38 | (injection eo38 with f1_ f2_ f3_; have f4_ := f1_.symm; have f5_ := f3_.symm; clear f1_ f2_ f3_; subst f4_; subst f5_))
      refine hK.out _ _ ⟨(blk_cell BK250.out 0).trans rfl, (blk_cell BK250.out 1).trans rfl, (blk_cell BK235.out 0).trans rfl, (blk_cell BK235.out 1).trans rfl⟩ (fun hHeld => ?_)
      clear hK K
      refine norm_ (a' := ?_) ?_ ?_
      rotate_left
      ·show Act.put _ (some 24) _ = _
       simp only [pU,pN,sB,sZ,sS,i64_w,i32_w]
       rfl
      refine one_ (i := 3) (N := some 25) #[Y,Y,Y,Y,J] rfl rfl (by kernel_rfl) (by decide) (fun K hK => ?_)
      refine goes_ Tryd.func45 (by kernel_rfl) rfl #[.agg #[.slice Ao21 t244.length co21, .slice Ao24 t247.length co24], .agg #[.slice Ao37 t252.length co37, .slice Ao38 t255.length co38]] (by rfl) rfl rfl (by (try simp only [List.map_toArray, List.map_cons, List.map_nil]); first | done | rfl | (simp only [List.length_drop, List.length_take]; rfl)) ?_
      with_reducible refine (laws_eqNetwork.calls _ _ t244 _ _ t247 _ _ t252 _ _ t255 false _ ?side1 ?side2 ?side3 ?side4 ?side5 ?side6 ?side7 ?side8 A28.out).mono ?_
      (case side1 => repeat (first | exact (Kd.R_reads' HO_251000.out).2.2 | (with_reducible first|refine Kd.C_alloc ?_ _|refine Kd.C_drewN ?_ _|refine Kd.C_drew ?_)))
      (case side2 => exact (Kd.R_reads' HO_251000.out).2.1)
      (case side3 => repeat (first | exact (Kd.R_reads' HO_251001.out).2.2 | (with_reducible first|refine Kd.C_alloc ?_ _|refine Kd.C_drewN ?_ _|refine Kd.C_drew ?_)))
      (case side4 => exact (Kd.R_reads' HO_251001.out).2.1)
      (case side5 => repeat (first | exact (Kd.R_reads' HO254.out).2.2 | (with_reducible first|refine Kd.C_alloc ?_ _|refine Kd.C_drewN ?_ _|refine Kd.C_drew ?_)))
      (case side6 => exact (Kd.R_reads' HO254.out).2.1)
      (case side7 => repeat (first | exact (Kd.R_reads' HO257.out).2.2 | (with_reducible first|refine Kd.C_alloc ?_ _|refine Kd.C_drewN ?_ _|refine Kd.C_drew ?_)))
      (case side8 => exact (Kd.R_reads' HO257.out).2.1)
      rintro e w39 ⟨rfl, hb⟩
      refine ⟨_, rfl, ?_⟩
      have n0_ := Aside0.mk (Kd.R_below (by (with_reducible repeat (first | apply rA|apply rN|apply rW)); exact HO_251000.out) hb)
      have n1_ := Aside0.mk (Kd.R_below (by (with_reducible repeat (first | apply rA|apply rN|apply rW)); exact HO_251001.out) hb)
      have n2_ := Aside0.mk (Kd.R_below (by (with_reducible repeat (first | apply rA|apply rN|apply rW)); exact HO254.out) hb)
      have n3_ := Aside0.mk (Kd.R_below (by (with_reducible repeat (first | apply rA|apply rN|apply rW)); exact HO257.out) hb)
      have n4_ := Aside0.mk (blk_below (g := gb235) (o := .cells #[.slice A0_0 l0_0.length c0_0, .slice A0_1 l0_1.length c0_1] 51 (0, 0)) (by (with_reducible repeat (first | refine bN ?_ _|refine bW ?_|refine bA ?_ _)); exact BK235.out) hb)
      have n5_ := Aside0.mk (blk_below (g := gb250) (o := .cells #[.slice Ao21 t244.length co21, .slice Ao24 t247.length co24] 56 (0, 0)) (by (with_reducible repeat (first | refine bN ?_ _|refine bW ?_|refine bA ?_ _)); exact BK250.out) hb)
      have n6_ := Aside0.mk (below_step (by repeat (first | (with_reducible first | exact HB.out|apply wA|apply wN|apply wD |refine wS ?_ GE235.out |refine wS ?_ GE250.out) | exact HB.out)) hb)
      clear HO_251000
      clear HO_251001
      clear HO254
      clear HO257
      clear BK235
      clear BK250
      clear HB
      have HO_251000 := n0_
      have HO_251001 := n1_
      have HO254 := n2_
      have HO257 := n3_
      have BK235 := n4_
      have BK250 := n5_
      have HB := n6_
      clear n0_ n1_ n2_ n3_ n4_ n5_ n6_
      (try clear hb)
      (try clear hb2)
      (try clear hk)
      (try clear hi)
      refine hK.out _ _ ⟨(blk_cell BK250.out 0).trans rfl, (blk_cell BK250.out 1).trans rfl, (blk_cell BK235.out 0).trans rfl, (blk_cell BK235.out 1).trans rfl⟩ (fun hHeld => ?_)
      clear hK K
      refine norm_ (a' := ?_) ?_ ?_
      rotate_left
      ·show Act.put _ (some 25) _ = _
       simp only [pU,pN,sB,sZ,sS,i64_w,i32_w]
       rfl
      refine pure_ (i := 4) (N := some 26) (v := ?_) (a' := ?_) #[Y,Y,Y,Y,Y] rfl rfl (by kernel_rfl) (fun _ _ _ h => h) (Or.inl ⟨by rfl, ?_⟩) ?_ ?_; rotate_left
      ·intro w'; go_simp; with_reducible rfl
      rotate_left
      ·simp only [pU,pN,sB,sZ,sS,i64_w,i32_w]; rfl
      refine done_ (by kernel_rfl) ?_
      try go_wp2
      go_ret
      exact ⟨by first | rfl | (simp [errW_none, errW_some] <;> rfl) | (simp [*, errW_none, errW_some] <;> rfl), by repeat (first | (with_reducible first | exact HB.out|apply wA|apply wN|apply wD |refine wS ?_ GE235.out |refine wS ?_ GE250.out) | exact HB.out)⟩

end Go.Proofs.YtabgkdejpkpejaaDoor.PFnExactNetworkText
