-- Printed by a program of this session (wip/hprint.sh: the kit's print with hand-proved contracts put in); not by print.sh itself.
import Derived.Test.YtabgkdejpkpejaaGreatDoorPFnExactReadNetworkx0
import Derived.Test.YtabgkdejpkpejaaGreatDoorPFnExactReadNetworkx3
import Derived.Test.YtabgkdejpkpejaaGreatDoorPFnExactReadNetworkx4
import Derived.Test.YtabgkdejpkpejaaGreatDoorPFnExactReadNetworkx5
import Derived.Test.YtabgkdejpkpejaaGreatDoorPFnExactReadNetworkx6
import Derived.Test.YtabgkdejpkpejaaGreatDoorPFnExactReadNetworkx7
import Derived.Test.YtabgkdejpkpejaaGreatDoorPFnExactReadNetworkx8
import Derived.Test.YtabgkdejpkpejaaGreatDoorPFnExactReadNetworkx9
namespace Go.Proofs.YtabgkdejpkpejaaGreatDoor.PFnExactReadNetwork
open Go.RowKit Go.Proofs.YtabgkdejpkpejaaGreatDoorW.PrintWords Go.Proofs.YtabgkdejpkpejaaGreatDoorW.PrintLast Go.Proofs.YtabgkdejpkpejaaGreatDoorW.PrintMore Go.Proofs.YtabgkdejpkpejaaGreatDoorM
attribute [local go_sem] max2_int min2_int max_two min_two max_three min_three max_four min_four   -- for this text's walks alone
set_option linter.unusedVariables false
set_option linter.unusedSimpArgs false

open Go.Proofs.YtabgkdejpkpejaaGreatDoorM
def impl_ValidNetwork_.f (l0_0 : List Int) (l0_1 : List S36) : Option Bool := if l0_0.length ≤ 4611686018427387904 ∧ (∀ p ∈ l0_1, p.f0.size ≤ 9000000000000000000) then some (netOk l0_0 l0_1) else none
theorem hasNode_f (ns : List Int) (ps : List S36) (x : Int) (h : 1 ≤ ns.length ∧ ns.length ≤ 16) : impl_Network_hasNode_.f ns ps x = some (decide (0 ≤ x ∧ x ≤ (ns.length : Int) - 1)) := by
  unfold impl_Network_hasNode_.f
  rw [if_pos (by omega)]
theorem hasEnds_f (ns : List Int) (ps : List S36) (p : S36) (h : 1 ≤ ns.length ∧ ns.length ≤ 16) (hp : pipeOk p.f0 p.f1 p.f2 p.f3 p.f4 p.f5 = true) : impl_Network_hasEnds.f ns ps p.f0 p.f1 p.f2 p.f3 p.f4 p.f5 = some (fitsOk ns.length p) := by
  have hr := pipeOk_range hp
  unfold impl_Network_hasEnds.f fitsOk
  rw [hasNode_f ns ps _ h, hasNode_f ns ps _ h, hp]
  simp only [Option.bind_some, Bool.true_and]
  by_cases c1 : p.f1 < (ns.length : Int)
  · rw [decide_eq_true c1, decide_eq_true (show 0 ≤ p.f1 ∧ p.f1 ≤ (ns.length : Int) - 1 by omega)]
    by_cases c2 : p.f2 < (ns.length : Int)
    · rw [decide_eq_true c2, decide_eq_true (show 0 ≤ p.f2 ∧ p.f2 ≤ (ns.length : Int) - 1 by omega)]; rfl
    · rw [decide_eq_false c2, decide_eq_false (show ¬ (0 ≤ p.f2 ∧ p.f2 ≤ (ns.length : Int) - 1) by omega)]; rfl
  · rw [decide_eq_false c1, decide_eq_false (show ¬ (0 ≤ p.f1 ∧ p.f1 ≤ (ns.length : Int) - 1) by omega)]; rfl
theorem vnP_loop (ns : List Int) (ps : List S36) (hn : 1 ≤ ns.length ∧ ns.length ≤ 16) (hp : ps.length ≤ 20) (hs : ∀ p ∈ ps, p.f0.size ≤ 9000000000000000000) : ∀ (d k i : Nat), i ≤ ps.length → ps.length - i = d → d < k → impl_ValidNetwork.l0 k ps (ps.length : Int) (i : Int) ns ps = some (stepsFrom ns.length ps d i) := by
  intro d
  induction d with
  | zero =>
    intro k i h1 hd hk
    obtain ⟨k, rfl⟩ : ∃ m, k = m + 1 := ⟨k - 1, by omega⟩
    simp only [impl_ValidNetwork.l0]; rw [if_neg (by omega)]; rfl
  | succ d ih =>
    intro k i h1 hd hk
    obtain ⟨k, rfl⟩ : ∃ m, k = m + 1 := ⟨k - 1, by omega⟩
    simp only [impl_ValidNetwork.l0]
    have hm := hs _ (getD_mem z36 (show i < ps.length by omega))
    have e : stepsFrom ns.length ps (d + 1) i = (stepOk ns.length ps i && stepsFrom ns.length ps d (i + 1)) := rfl
    rw [if_pos (by omega), if_pos (by omega), if_pos (by omega), rdP_ok, e, w64 (x := (i : Int) + 1) (by omega) (by omega), show (i : Int) + 1 = ((i + 1 : Nat) : Int) by omega, ih k (i + 1) (by omega) (by omega) (by omega)]
    unfold impl_ValidPipe_.f
    rw [if_pos hm]
    simp only [Option.bind_some]
    unfold stepOk
    by_cases hv : pipeOk (ps.getD i z36).f0 (ps.getD i z36).f1 (ps.getD i z36).f2 (ps.getD i z36).f3 (ps.getD i z36).f4 (ps.getD i z36).f5 = true
    · rw [if_pos hv, hasEnds_f ns ps _ hn hv]
      simp only [Option.bind_some]
      cases hf : fitsOk ns.length (ps.getD i z36)
      · simp
      · rw [if_pos rfl]
        by_cases h0 : i = 0
        · subst h0; simp
        · have e1 : wrap64 ((i : Int) - 1) = ((i - 1 : Nat) : Int) := by rw [w64 (by omega) (by omega)]; omega
          rw [if_pos (by omega), e1, if_pos (by omega), if_pos (by omega), rdP_ok, decide_eq_false h0, bytes_tri (ps.getD (i - 1) z36).f0.toList (ps.getD i z36).f0.toList]
          cases (Op.bytesLess (ps.getD i z36).f0.toList (ps.getD (i - 1) z36).f0.toList || (ps.getD i z36).f0.toList == (ps.getD (i - 1) z36).f0.toList) <;> simp
    · have hf : fitsOk ns.length (ps.getD i z36) = false := by unfold fitsOk; rw [Bool.eq_false_iff.mpr hv]; rfl
      rw [if_neg hv, hf]; rfl
theorem impl_ValidNetwork_.same (ns : List Int) (ps : List S36) (h : ns.length ≤ 4611686018427387904 ∧ ∀ p ∈ ps, p.f0.size ≤ 9000000000000000000) : impl_ValidNetwork.f 25 ns ps = some (netOk ns ps) := by
  unfold impl_ValidNetwork.f netOk tailOk
  simp only [impl_ValidNetwork.j0]
  by_cases c1 : (ns.length : Int) < 1
  · rw [if_pos c1, decide_eq_false (show ¬ 1 ≤ ns.length by omega)]; simp
  · rw [if_neg c1, decide_eq_true (show 1 ≤ ns.length by omega)]
    by_cases c2 : (ns.length : Int) > 16
    · rw [if_pos c2, decide_eq_false (show ¬ ns.length ≤ 16 by omega)]; simp
    · rw [if_neg c2, decide_eq_true (show ns.length ≤ 16 by omega)]
      unfold impl_allWithin.f
      rw [if_pos (by omega)]
      have ha : allIn (-100000) 100000 ns = nodesOk ns := rfl
      rw [ha]
      simp only [Option.bind_some]
      cases nodesOk ns
      · simp
      · by_cases c3 : (ps.length : Int) > 20
        · rw [decide_eq_true c3, decide_eq_false (show ¬ ps.length ≤ 20 by omega)]; simp
        · rw [decide_eq_false c3, decide_eq_true (show ps.length ≤ 20 by omega)]
          have := vnP_loop ns ps (by omega) (by omega) h.2 ps.length 24 0 (by omega) (by omega) (by omega)
          simpa using this
theorem impl_ValidNetwork_.calls (A0_0 : Option Addr) (c0_0 : Nat) (l0_0 : List Int) (A0_1 : Option Addr) (c0_1 : Nat) (l0_1 : List (S36)) (r : Bool) (w : World) (hr0_0 : Kd.C (Kd.int .i64) w A0_0 l0_0.length l0_0) (hc0_0 : l0_0.length ≤ c0_0) (hr0_1 : Kd.C k36 w A0_1 l0_1.length l0_1) (hc0_1 : l0_1.length ≤ c0_1) (h : impl_ValidNetwork_.f l0_0 l0_1 = some r) :
    Calls Tryz.prog 29 #[.agg #[.slice A0_0 l0_0.length c0_0, .slice A0_1 l0_1.length c0_1]] w fun e w' => e = .returned (.bool r) ∧ Below w.heap.size w w' := by
  unfold impl_ValidNetwork_.f at h
  split at h
  · rename_i hs
    exact impl_ValidNetwork.calls 25 A0_0 c0_0 l0_0 A0_1 c0_1 l0_1 r w hr0_0 hc0_0 hr0_1 hc0_1 (by rw [← h]; exact impl_ValidNetwork_.same l0_0 l0_1 hs)
  · exact absurd h (by simp)


/-! ### impl_NetworkText: function 13 -/
def impl_NetworkText.l0 : Nat → List ByteArray → List (S36) → Int → Int → Option (ByteArray)
 | 0, _, _, _, _ => none
 | k + 1, x3, x14, x15, x16 => if x16 < x15 then (if 0 ≤ x16 then (if x16 < (x14.length : Int) then ((impl_PipeText.f k ((rd_T36 x14 x16).f0) ((rd_T36 x14 x16).f1) ((rd_T36 x14 x16).f2) ((rd_T36 x14 x16).f3) ((rd_T36 x14 x16).f4) ((rd_T36 x14 x16).f5)).bind fun t271 => (if x3.length < 8796093022208 then (impl_NetworkText.l0 k (x3 ++ [t271]) x14 x15 (wrap64 (x16 + 1))) else (none))) else (none)) else (none)) else ((strings_Join.f x3 (⟨#[47]⟩ : ByteArray)).bind fun t275 => (some t275))
def impl_NetworkText.f (k : Nat) (l0_0 : List Int) (l0_1 : List (S36)) : Option (ByteArray) := (impl_ValidNetwork_.f l0_0 l0_1).bind fun t264 => (if t264 = true then ((impl_ListText.f k l0_0).bind fun t265 => (impl_NetworkText.l0 k (([t265] : List ByteArray)) l0_1 (l0_1.length : Int) 0)) else (some (⟨#[]⟩ : ByteArray)))
theorem impl_NetworkText.mono_l : ∀ k, (∀ y0 y1 y2 y3, LeO (impl_NetworkText.l0 k y0 y1 y2 y3) (impl_NetworkText.l0 (k + 1) y0 y1 y2 y3))
 | 0 => fun _ _ _ _ r h => by simp [impl_NetworkText.l0] at h
 | k + 1 => by
  have ih0 := impl_NetworkText.mono_l k
  ·intro y0 y1 y2 y3
   unfold impl_NetworkText.l0
   repeat' first|(with_reducible first|exact ih0 _ _ _ _|exact impl_ListText.mono _ _|exact impl_PipeText.mono _ _ _ _ _ _ _|exact LeO.refl _|exact LeO.none _|refine LeO.ite ?_ ?_|refine LeO.bind ?_ (fun _ => ?_))|exact ih0 _ _ _ _|exact impl_ListText.mono _ _|exact impl_PipeText.mono _ _ _ _ _ _ _|exact LeO.none _|refine LeO.ite ?_ ?_|refine LeO.bind ?_ (fun _ => ?_)
theorem impl_NetworkText.mono : ∀ a0 a1 k, LeO (impl_NetworkText.f k a0 a1) (impl_NetworkText.f (k + 1) a0 a1) := by
 intro a0 a1 k
 have ih0 := impl_NetworkText.mono_l k
 unfold impl_NetworkText.f
 repeat' first|(with_reducible first|exact ih0 _ _ _ _|exact impl_ListText.mono _ _|exact impl_PipeText.mono _ _ _ _ _ _ _|exact LeO.refl _|exact LeO.none _|refine LeO.ite ?_ ?_|refine LeO.bind ?_ (fun _ => ?_))|exact ih0 _ _ _ _|exact impl_ListText.mono _ _|exact impl_PipeText.mono _ _ _ _ _ _ _|exact LeO.none _|refine LeO.ite ?_ ?_|refine LeO.bind ?_ (fun _ => ?_)
set_option maxHeartbeats 8000000 in
set_option maxRecDepth 100000 in
theorem impl_NetworkText.calls (k : Nat) (A0_0 : Option Addr) (c0_0 : Nat) (l0_0 : List Int) (A0_1 : Option Addr) (c0_1 : Nat) (l0_1 : List (S36)) (r : ByteArray) (w : World) (hr0_0 : Kd.C (Kd.int .i64) w A0_0 l0_0.length l0_0) (hc0_0 : l0_0.length ≤ c0_0) (hr0_1 : Kd.C k36 w A0_1 l0_1.length l0_1) (hc0_1 : l0_1.length ≤ c0_1) (ht : Tabs true true true w) (h : impl_NetworkText.f k l0_0 l0_1 = some r) :
  Calls Tryz.prog 13 #[.agg #[.slice A0_0 l0_0.length c0_0, .slice A0_1 l0_1.length c0_1]] w fun e w' => e = .returned (.string r) ∧ Below w.heap.size w w' := by
 have HT := Aside0.mk ht
 clear ht
 have hu25 := Tryz.underlying25
 have hu36 := Tryz.underlying36
 have HR0_0 := Aside0.mk hr0_0
 have HC0_0 := Aside0.mk hc0_0
 clear hr0_0 hc0_0
 have HR0_1 := Aside0.mk hr0_1
 have HC0_1 := Aside0.mk hc0_1
 clear hr0_1 hc0_1
 have HB := Aside0.mk (Below.refl w.heap.size w)
 have H : ((impl_ValidNetwork_.f l0_0 l0_1).bind fun t264 => (if t264 = true then ((impl_ListText.f k l0_0).bind fun t265 => (impl_NetworkText.l0 k (([t265] : List ByteArray)) l0_1 (l0_1.length : Int) 0)) else (some (⟨#[]⟩ : ByteArray)))) = some r := h
 clear h
 replace H := Option.bind_eq_some_iff.mp H
 obtain ⟨t264, A20, H⟩ := H
 have A2 := Aside0.mk A20
 clear A20
 by_cases c3 : t264 = true
 ·subst c3
  rw [if_pos rfl] at H
  replace H := Option.bind_eq_some_iff.mp H
  obtain ⟨t265, A40, H⟩ := H
  have A4 := Aside0.mk A40
  clear A40
  obtain ⟨y266, hy266⟩ : ∃ y_ : List ByteArray, y_ = (([t265] : List ByteArray)) := ⟨_, rfl⟩
  replace H : (impl_NetworkText.l0 k y266 l0_1 (l0_1.length : Int) 0) = some r := by first | (rw [hy266]; with_reducible exact H) | (have H2_ := (Option.bind_some _ _).symm.trans H; rw [hy266]; with_reducible exact H2_) | (have H2_ := (Option.bind_some _ _).symm.trans H; with_reducible exact H2_) | with_reducible exact H | (rw [hy266]; exact H) | exact H
  have Ny266 := Aside0.mk hy266
  clear hy266
  have H' := Aside0.mk H
  clear H
  go_enter Tryz.func13, Tryz.ntmps13
  go_wp2_with (first | ((with_reducible refine gate_dst (N := 1) rfl ?_); refine box_event ?hg (N := 1) ?hd (cs := #[.slice A0_0 l0_0.length c0_0, .slice A0_1 l0_1.length c0_1]) (t := 25) ?hr ?_; (case hd => rfl); (case hg => rfl); (case hr => first | (go_simp; done) | (go_simp; rfl)); intro gb263 hg w5 hbox hb; have n0_ := Aside0.mk (below_step (z0_) hb); have n1_ := Aside0.mk (hbox); have n2_ := Aside0.mk ((z4_ : w.heap.size ≤ gb263)); have n3_ := Aside0.mk ((z4_ : w.heap.size ≤ gb263)); clear HB; have HB := n0_; have BK263 := n1_; have GW263 := n2_; have GE263 := n3_; clear n0_ n1_ n2_ n3_; clear hb hbox hg; have hcz6_0 := bc0_ w5 BK263.out; have hcz6_1 := bc1_ w5 BK263.out; have hfz6_0 := blk_frozen BK263.out 0; have hfz6_1 := blk_frozen BK263.out 1) | ((with_reducible refine gate_callee (f := 29) rfl ?_); refine goesL_ (some 7) rfl rfl Tryz.func29 (z11_) rfl #[.agg #[.slice A0_0 l0_0.length c0_0, .slice A0_1 l0_1.length c0_1]] rfl (z1_) ?_; (with_reducible refine (impl_ValidNetwork_.calls _ _ l0_0 _ _ l0_1 true _ ?side1 ?side2 ?side3 ?side4 A2.out).mono ?_); (case side1 => repeat (first | exact (Kd.C_below HR0_0.out HB.out) | (with_reducible first|refine Kd.C_alloc ?_ _|refine Kd.C_drewN ?_ _|refine Kd.C_drew ?_))); (case side2 => exact HC0_0.out); (case side3 => repeat (first | exact (Kd.C_below HR0_1.out HB.out) | (with_reducible first|refine Kd.C_alloc ?_ _|refine Kd.C_drewN ?_ _|refine Kd.C_drew ?_))); (case side4 => exact HC0_1.out); rintro e w7 ⟨rfl, hb⟩; refine ⟨_, rfl, ?_⟩; have n0_ := Aside0.mk (blk_below (g := gb263) (o := .cells #[.slice A0_0 l0_0.length c0_0, .slice A0_1 l0_1.length c0_1] 25 (0, 0)) (z54_) hb); have n1_ := Aside0.mk (below_step (z30_) hb); clear BK263; clear HB; have BK263 := n0_; have HB := n1_; clear n0_ n1_; (try clear hb); (try clear hb2); (try clear hk); (try clear hi); have hcz8_0 := bc0_ w7 BK263.out; have hcz8_1 := bc1_ w7 BK263.out; have hfz8_0 := blk_frozen BK263.out 0; have hfz8_1 := blk_frozen BK263.out 1) | ((with_reducible refine gate_callee (f := 26) rfl ?_); refine goesL_ (some 11) rfl rfl Tryz.func26 (z11_) rfl #[.slice A0_0 l0_0.length c0_0] rfl (z1_) ?_; (with_reducible refine (impl_ListText.calls k _ _ l0_0 t265 _ ?side1 ?side2 ?sideT A4.out).mono ?_); (case sideT => exact HT.out.now (z30_)); (case side1 => repeat (first | exact (Kd.C_below HR0_0.out HB.out) | (with_reducible first|refine Kd.C_alloc ?_ _|refine Kd.C_drewN ?_ _|refine Kd.C_drew ?_))); (case side2 => exact HC0_0.out); rintro e w9 ⟨rfl, hb⟩; refine ⟨_, rfl, ?_⟩; have n0_ := Aside0.mk (blk_below (g := gb263) (o := .cells #[.slice A0_0 l0_0.length c0_0, .slice A0_1 l0_1.length c0_1] 25 (0, 0)) (z54_) hb); have n1_ := Aside0.mk (below_step (z30_) hb); clear BK263; clear HB; have BK263 := n0_; have HB := n1_; clear n0_ n1_; (try clear hb); (try clear hb2); (try clear hk); (try clear hi)) | ((with_reducible refine gate_dst (N := 12) rfl ?_); refine Kd.R_lit Kd.string _ 9 ?hg (N := 12) ?hd (xs := ([t265] : List ByteArray)) (inner := [.string t265]) (ok := fun _ => True) (okp := fun _ => True) ?hr ?hp (fun _ hk => hk) trivial (Below.refl _ _) (Nat.le_refl _) (by simp) ?_; (case hd => rfl); (case hg => rfl); (case hr => first | (go_simp; done) | (go_simp; rfl)); (case hp => exact (Reps.one (show Kd.M Kd.string _ _ _ t265 [.string t265] from rfl) (Reps.none _ _))); intro v267 w10 ho11 hb hg_ hnew_; clear hg_ hnew_; (first | rw [← Ny266.out] at ho11 | (simp only [Int.reduceToNat] at ho11; rw [← Ny266.out] at ho11)); have n0_ := Aside0.mk (Kd.R_lower ho11 (below_size (z30_))); have n1_ := Aside0.mk (blk_below (g := gb263) (o := .cells #[.slice A0_0 l0_0.length c0_0, .slice A0_1 l0_1.length c0_1] 25 (0, 0)) (z54_) hb); have n2_ := Aside0.mk (below_step (z30_) hb); clear BK263; clear HB; have HO268 := n0_; have BK263 := n1_; have HB := n2_; clear n0_ n1_ n2_; clear hb ho11; have hcz12_0 := bc0_ w10 BK263.out; have hcz12_1 := bc1_ w10 BK263.out; have hfz12_0 := blk_frozen BK263.out 0; have hfz12_1 := blk_frozen BK263.out 1))
  go_loopg [3, 16] k (fun kq v3 v16 w' => ∃ (x3_1 : List ByteArray) (x16_1 : Int), v16 = .int .i64 x16_1 ∧ Aside0 (impl_NetworkText.l0 kq x3_1 l0_1 (l0_1.length : Int) x16_1 = some r) ∧ Aside0 (kq ≤ k) ∧ Aside0 (Kd.R Kd.string 9 w' w.heap.size (fun _ => True) v3 x3_1) ∧ Aside0 (w'.heap[gb263]? = some (.cells #[(.slice A0_0 l0_0.length c0_0), (.slice A0_1 l0_1.length c0_1)] 25 (0, 0))) ∧ Aside0 (Below w.heap.size w w'))
  case atStart => exact ⟨(y266), (0), (z7_), H', ⟨Nat.le_refl _⟩, ⟨by (with_reducible repeat (first | apply rA|apply rN|apply rW)); exact HO268.out⟩, ⟨z54_⟩, ⟨z30_⟩⟩
  case round =>
   clear H'
   try clear c1
   try clear c2
   try clear p2
   try clear c3
   try clear hcz12_0
   try clear hcz12_1
   try clear hcz6_0
   try clear hcz6_1
   try clear hcz8_0
   try clear hcz8_1
   try clear hfz12_0
   try clear hfz12_1
   try clear hfz6_0
   try clear hfz6_1
   try clear hfz8_0
   try clear hfz8_1
   obtain ⟨x3_1, x16_1, rfl, HA, HK1, HO_3, BK263, HB⟩ := hrel
   cases gk with
   | zero => exact absurd HA.out (by simp [impl_NetworkText.l0])
   | succ k1 =>
    have H := HA.out
    clear HA
    simp only [impl_NetworkText.l0] at H
    by_cases c13 : x16_1 < (l0_1.length : Int)
    ·rw [if_pos c13] at H
     have c13b0 := decide_eq_true c13
     clear c13
     by_cases c14 : 0 ≤ x16_1
     ·rw [if_pos c14] at H
      have c14b0 := decide_eq_true c14
      clear c14
      by_cases c15 : x16_1 < (l0_1.length : Int)
      ·rw [if_pos c15] at H
       have c15b0 := decide_eq_true c15
       clear c15
       replace H := Option.bind_eq_some_iff.mp H
       obtain ⟨t271, A160, H⟩ := H
       have A16 := Aside0.mk A160
       clear A160
       by_cases c17 : x3_1.length < 8796093022208
       ·rw [if_pos c17] at H
        have LMc17 := Aside0.mk c17
        clear c17
        obtain ⟨y272, hy272⟩ : ∃ y_ : List ByteArray, y_ = (x3_1 ++ [t271]) := ⟨_, rfl⟩
        replace H : (impl_NetworkText.l0 k1 y272 l0_1 (l0_1.length : Int) (wrap64 (x16_1 + 1))) = some r := by first | (rw [hy272]; with_reducible exact H) | (have H2_ := (Option.bind_some _ _).symm.trans H; rw [hy272]; with_reducible exact H2_) | (have H2_ := (Option.bind_some _ _).symm.trans H; with_reducible exact H2_) | with_reducible exact H | (rw [hy272]; exact H) | exact H
        have Ny272 := Aside0.mk hy272
        clear hy272
        have H' := Aside0.mk H
        clear H
        have p269 : 0 ≤ (x16_1 : Int) := of_decide_eq_true (z2_)
        have q269 : x16_1 < (l0_1.length : Int) := of_decide_eq_true (z2_)
        obtain ⟨ad269, e269, hx269_0, hx269_1, hx269_2, hx269_3, hx269_4, hx269_5⟩ := at_T36 HR0_1.out x16_1 p269 q269
        cases e269
        replace hx269_0 := (HB.out.cell (World.block_lt_of_cell? w _ hx269_0)).trans hx269_0
        replace hx269_1 := (HB.out.cell (World.block_lt_of_cell? w _ hx269_1)).trans hx269_1
        replace hx269_2 := (HB.out.cell (World.block_lt_of_cell? w _ hx269_2)).trans hx269_2
        replace hx269_3 := (HB.out.cell (World.block_lt_of_cell? w _ hx269_3)).trans hx269_3
        replace hx269_4 := (HB.out.cell (World.block_lt_of_cell? w _ hx269_4)).trans hx269_4
        replace hx269_5 := (HB.out.cell (World.block_lt_of_cell? w _ hx269_5)).trans hx269_5
        replace p269 := eq_true p269
        replace q269 := eq_true q269
        go_wp2_with (first | ((with_reducible refine gate_dst (N := 5) rfl ?_); refine box_event ?hg (N := 5) ?hd (cs := #[.string (⟨#[]⟩ : ByteArray), .int .i64 0, .int .i64 0, .int .i64 0, .int .i64 0, .int .i64 0]) (t := 36) ?hr ?_; (case hd => rfl); (case hg => rfl); (case hr => first | (go_simp; done) | (go_simp; rfl)); intro gb270 hg w18 hbox hb; have n0_ := Aside0.mk (Kd.R_below (z118_) hb); have n1_ := Aside0.mk (blk_below (g := gb263) (o := .cells #[.slice A0_0 l0_0.length c0_0, .slice (some ad269) l0_1.length c0_1] 25 (0, 0)) (z54_) hb); have n2_ := Aside0.mk (below_step (z30_) hb); have n3_ := Aside0.mk (hbox); have n4_ := Aside0.mk ((z145_ : w.heap.size ≤ gb270)); have n5_ := Aside0.mk ((z145_ : w.heap.size ≤ gb270)); have n6_ := Aside0.mk ((by rw [hg]; exact Nat.ne_of_lt (blk_lt (g := gb263) (o := .cells #[.slice A0_0 l0_0.length c0_0, .slice (some ad269) l0_1.length c0_1] 25 (0, 0)) (z54_)) : gb263 ≠ gb270)); have n7_ := Aside0.mk ((by rw [hg]; exact Nat.ne_of_gt (blk_lt (g := gb263) (o := .cells #[.slice A0_0 l0_0.length c0_0, .slice (some ad269) l0_1.length c0_1] 25 (0, 0)) (z54_)) : gb270 ≠ gb263)); clear HO_3; clear BK263; clear HB; have HO_3 := n0_; have BK263 := n1_; have HB := n2_; have BK270 := n3_; have GW270 := n4_; have GE270 := n5_; have NB263_270 := n6_; have NB270_263 := n7_; clear n0_ n1_ n2_ n3_ n4_ n5_ n6_ n7_; clear hb hbox hg; have hnb19 := NB270_263.out; have hnc19 := NB263_270.out; have hcz20_0 := bc0_ w18 BK270.out; have hcz20_1 := bc1_ w18 BK270.out; have hcz20_2 := bc2_ w18 BK270.out; have hcz20_3 := bc3_ w18 BK270.out; have hcz20_4 := bc4_ w18 BK270.out; have hcz20_5 := bc5_ w18 BK270.out; have hfz20_0 := blk_frozen BK270.out 0; have hfz20_1 := blk_frozen BK270.out 1; have hfz20_2 := blk_frozen BK270.out 2; have hfz20_3 := blk_frozen BK270.out 3; have hfz20_4 := blk_frozen BK270.out 4; have hfz20_5 := blk_frozen BK270.out 5) | ((with_reducible refine gate_callee (f := 28) rfl ?_); refine goesL_ (some 22) rfl rfl Tryz.func28 (z11_) rfl #[.agg #[.string ((rd_T36 l0_1 x16_1).f0), .int .i64 ((rd_T36 l0_1 x16_1).f1), .int .i64 ((rd_T36 l0_1 x16_1).f2), .int .i64 ((rd_T36 l0_1 x16_1).f3), .int .i64 ((rd_T36 l0_1 x16_1).f4), .int .i64 ((rd_T36 l0_1 x16_1).f5)]] rfl (z1_) ?_; (with_reducible refine (impl_PipeText.calls k1 ((rd_T36 l0_1 x16_1).f0) ((rd_T36 l0_1 x16_1).f1) ((rd_T36 l0_1 x16_1).f2) ((rd_T36 l0_1 x16_1).f3) ((rd_T36 l0_1 x16_1).f4) ((rd_T36 l0_1 x16_1).f5) t271 _ ?sideT A16.out).mono ?_); (case sideT => exact HT.out.now (z60_)); rintro e w21 ⟨rfl, hb⟩; refine ⟨_, rfl, ?_⟩; have n0_ := Aside0.mk (Kd.R_below (by (with_reducible repeat (first | apply rA|apply rN|apply rW)); exact (Kd.R_mono (Kd.R_far (p := ⟨gb270, 5, none⟩) (Kd.R_far (p := ⟨gb270, 4, none⟩) (Kd.R_far (p := ⟨gb270, 3, none⟩) (Kd.R_far (p := ⟨gb270, 2, none⟩) (Kd.R_far (p := ⟨gb270, 1, none⟩) (Kd.R_far (p := ⟨gb270, 0, none⟩) (Kd.R_types HO_3.out BK270.out (by decide)) (fun _ hk => hk.2) (.string ((rd_T36 l0_1 x16_1).f0))) (fun _ hk => hk.2) (.int .i64 ((rd_T36 l0_1 x16_1).f1))) (fun _ hk => hk.2) (.int .i64 ((rd_T36 l0_1 x16_1).f2))) (fun _ hk => hk.2) (.int .i64 ((rd_T36 l0_1 x16_1).f3))) (fun _ hk => hk.2) (.int .i64 ((rd_T36 l0_1 x16_1).f4))) (fun _ hk => hk.2) (.int .i64 ((rd_T36 l0_1 x16_1).f5))) (fun _ h_ => h_.1))) hb); have n1_ := Aside0.mk (blk_below (g := gb263) (o := .cells #[.slice A0_0 l0_0.length c0_0, .slice (some ad269) l0_1.length c0_1] 25 (0, 0)) (by (with_reducible repeat (first | refine bN ?_ _|refine bW ?_|refine bA ?_ _)); refine blk_far ?_ NB263_270.out _; (with_reducible repeat (first | refine bN ?_ _|refine bW ?_|refine bA ?_ _)); refine blk_far ?_ NB263_270.out _; (with_reducible repeat (first | refine bN ?_ _|refine bW ?_|refine bA ?_ _)); refine blk_far ?_ NB263_270.out _; (with_reducible repeat (first | refine bN ?_ _|refine bW ?_|refine bA ?_ _)); refine blk_far ?_ NB263_270.out _; (with_reducible repeat (first | refine bN ?_ _|refine bW ?_|refine bA ?_ _)); refine blk_far ?_ NB263_270.out _; (with_reducible repeat (first | refine bN ?_ _|refine bW ?_|refine bA ?_ _)); refine blk_far ?_ NB263_270.out _; (with_reducible repeat (first | refine bN ?_ _|refine bW ?_|refine bA ?_ _)); exact BK263.out) hb); have n2_ := Aside0.mk (blk_below (g := gb270) (o := .cells #[.string ((rd_T36 l0_1 x16_1).f0), .int .i64 ((rd_T36 l0_1 x16_1).f1), .int .i64 ((rd_T36 l0_1 x16_1).f2), .int .i64 ((rd_T36 l0_1 x16_1).f3), .int .i64 ((rd_T36 l0_1 x16_1).f4), .int .i64 ((rd_T36 l0_1 x16_1).f5)] 36 (0, 0)) (by (with_reducible repeat (first | refine bN ?_ _|refine bW ?_|refine bA ?_ _)); refine blk_put (cs := #[.string ((rd_T36 l0_1 x16_1).f0), .int .i64 ((rd_T36 l0_1 x16_1).f1), .int .i64 ((rd_T36 l0_1 x16_1).f2), .int .i64 ((rd_T36 l0_1 x16_1).f3), .int .i64 ((rd_T36 l0_1 x16_1).f4), .int .i64 0]) ?_ 5 _ rfl; (with_reducible repeat (first | refine bN ?_ _|refine bW ?_|refine bA ?_ _)); refine blk_put (cs := #[.string ((rd_T36 l0_1 x16_1).f0), .int .i64 ((rd_T36 l0_1 x16_1).f1), .int .i64 ((rd_T36 l0_1 x16_1).f2), .int .i64 ((rd_T36 l0_1 x16_1).f3), .int .i64 0, .int .i64 0]) ?_ 4 _ rfl; (with_reducible repeat (first | refine bN ?_ _|refine bW ?_|refine bA ?_ _)); refine blk_put (cs := #[.string ((rd_T36 l0_1 x16_1).f0), .int .i64 ((rd_T36 l0_1 x16_1).f1), .int .i64 ((rd_T36 l0_1 x16_1).f2), .int .i64 0, .int .i64 0, .int .i64 0]) ?_ 3 _ rfl; (with_reducible repeat (first | refine bN ?_ _|refine bW ?_|refine bA ?_ _)); refine blk_put (cs := #[.string ((rd_T36 l0_1 x16_1).f0), .int .i64 ((rd_T36 l0_1 x16_1).f1), .int .i64 0, .int .i64 0, .int .i64 0, .int .i64 0]) ?_ 2 _ rfl; (with_reducible repeat (first | refine bN ?_ _|refine bW ?_|refine bA ?_ _)); refine blk_put (cs := #[.string ((rd_T36 l0_1 x16_1).f0), .int .i64 0, .int .i64 0, .int .i64 0, .int .i64 0, .int .i64 0]) ?_ 1 _ rfl; (with_reducible repeat (first | refine bN ?_ _|refine bW ?_|refine bA ?_ _)); refine blk_put (cs := #[.string (⟨#[]⟩ : ByteArray), .int .i64 0, .int .i64 0, .int .i64 0, .int .i64 0, .int .i64 0]) ?_ 0 _ rfl; (with_reducible repeat (first | refine bN ?_ _|refine bW ?_|refine bA ?_ _)); exact BK270.out) hb); have n3_ := Aside0.mk (below_step (z60_) hb); clear HO_3; clear BK263; clear BK270; clear HB; have HO_3 := n0_; have BK263 := n1_; have BK270 := n2_; have HB := n3_; clear n0_ n1_ n2_ n3_; (try clear hb); (try clear hb2); (try clear hk); (try clear hi)) | ((with_reducible refine gate_builtin (b := .append) (xs := #[.tmp 20, .tmp 23]) rfl ?_); at_builtin; refine Kd.R_append Kd.string (w0 := w) w.heap.size rfl (.tmp 20) (.tmp 23) 31 9 (.string ⟨#[]⟩) 16 rfl Tryz.underlying31 info9 rfl (by decide) (by omega) u3 x3_1 t271 [.string t271] (fun _ => True) (fun _ => False) rfl rfl ?aP (fun _ hk => hk.elim) ?aF ?aO ?aB ?aS ?aL ?_; (case aP => exact rfl); (case aB => exact (z60_)); (case aF => exact (fun _ _ => trivial)); (case aO => exact (z118_)); (case aS => exact (below_size (z60_))); (case aL => have := LMc17.out; omega); intro v273 w22 ho hb hg hat; rw [← Ny272.out] at ho; have n0_ := Aside0.mk (blk_grown (g := gb263) (o := .cells #[.slice A0_0 l0_0.length c0_0, .slice (some ad269) l0_1.length c0_1] 25 (0, 0)) (z54_) hg (Kd.R_ne HO_3.out BK263.out (by decide))); have n1_ := Aside0.mk (blk_grown (g := gb270) (o := .cells #[.string ((rd_T36 l0_1 x16_1).f0), .int .i64 ((rd_T36 l0_1 x16_1).f1), .int .i64 ((rd_T36 l0_1 x16_1).f2), .int .i64 ((rd_T36 l0_1 x16_1).f3), .int .i64 ((rd_T36 l0_1 x16_1).f4), .int .i64 ((rd_T36 l0_1 x16_1).f5)] 36 (0, 0)) (by (with_reducible repeat (first | refine bN ?_ _|refine bW ?_|refine bA ?_ _)); exact BK270.out) hg (Kd.R_ne HO_3.out BK270.out (by decide))); have n2_ := Aside0.mk (hb); have n3_ := Aside0.mk (ho); clear BK263; clear BK270; clear HB; clear HO_3; have BK263 := n0_; have BK270 := n1_; have HB := n2_; have HO274 := n3_; clear n0_ n1_ n2_ n3_; clear ho hb hg hat))
        go_roundg k1
        case measure => have := HK1.out; omega
        case rel => exact ⟨(y272), (wrap64 (x16_1 + 1)), (z7_), H', ⟨z117_⟩, ⟨by (with_reducible repeat (first | apply rA|apply rN|apply rW)); exact HO274.out⟩, ⟨z54_⟩, ⟨z60_⟩⟩
       ·rw [if_neg c17] at H
        exact absurd H (by simp)
      ·rw [if_neg c15] at H
       exact absurd H (by simp)
     ·rw [if_neg c14] at H
      exact absurd H (by simp)
    ·rw [if_neg c13] at H
     have c13b0 := decide_eq_false c13
     clear c13
     replace H := Option.bind_eq_some_iff.mp H
     obtain ⟨t275, A230, H⟩ := H
     have A23 := Aside0.mk A230
     clear A230
     obtain rfl := Option.some.inj H
     obtain ⟨Ao24, co24, eo24⟩ := Kd.R_slice HO_3.out
     subst eo24
     go_wp2_with (first | ((with_reducible refine gate_callee (f := 30) rfl ?_); refine goesL_ (some 27) rfl rfl Tryz.func30 (z11_) rfl #[.slice Ao24 x3_1.length co24, .string (⟨#[47]⟩ : ByteArray)] rfl (z1_) ?_; (with_reducible refine (strings_Join.calls _ _ x3_1 (⟨#[47]⟩ : ByteArray) t275 _ ?side1 ?side2 ?sideT A23.out).mono ?_); (case sideT => exact HT.out.now (z60_)); (case side1 => repeat (first | exact (Kd.R_reads' HO_3.out).2.2 | (with_reducible first|refine Kd.C_alloc ?_ _|refine Kd.C_drewN ?_ _|refine Kd.C_drew ?_))); (case side2 => exact (Kd.R_reads' HO_3.out).2.1); rintro e w25 ⟨rfl, hb⟩; refine ⟨_, rfl, ?_⟩; have n0_ := Aside0.mk (Kd.R_below (z118_) hb); have n1_ := Aside0.mk (blk_below (g := gb263) (o := .cells #[.slice A0_0 l0_0.length c0_0, .slice A0_1 l0_1.length c0_1] 25 (0, 0)) (z54_) hb); have n2_ := Aside0.mk (below_step (z30_) hb); clear HO_3; clear BK263; clear HB; have HO_3 := n0_; have BK263 := n1_; have HB := n2_; clear n0_ n1_ n2_; (try clear hb); (try clear hb2); (try clear hk); (try clear hi)))
     go_ret
     exact ⟨z6_, z30_⟩
 ·replace c3 := Bool.eq_false_iff.mpr c3
  subst c3
  rw [if_neg (show ¬ (false = true) by decide)] at H
  obtain rfl := Option.some.inj H
  go_enter Tryz.func13, Tryz.ntmps13
  go_wp2_with (first | ((with_reducible refine gate_dst (N := 1) rfl ?_); refine box_event ?hg (N := 1) ?hd (cs := #[.slice A0_0 l0_0.length c0_0, .slice A0_1 l0_1.length c0_1]) (t := 25) ?hr ?_; (case hd => rfl); (case hg => rfl); (case hr => first | (go_simp; done) | (go_simp; rfl)); intro gb263 hg w26 hbox hb; have n0_ := Aside0.mk (below_step (z0_) hb); have n1_ := Aside0.mk (hbox); have n2_ := Aside0.mk ((z4_ : w.heap.size ≤ gb263)); have n3_ := Aside0.mk ((z4_ : w.heap.size ≤ gb263)); clear HB; have HB := n0_; have BK263 := n1_; have GW263 := n2_; have GE263 := n3_; clear n0_ n1_ n2_ n3_; clear hb hbox hg; have hcz27_0 := bc0_ w26 BK263.out; have hcz27_1 := bc1_ w26 BK263.out; have hfz27_0 := blk_frozen BK263.out 0; have hfz27_1 := blk_frozen BK263.out 1) | ((with_reducible refine gate_callee (f := 29) rfl ?_); refine goesL_ (some 7) rfl rfl Tryz.func29 (z11_) rfl #[.agg #[.slice A0_0 l0_0.length c0_0, .slice A0_1 l0_1.length c0_1]] rfl (z1_) ?_; (with_reducible refine (impl_ValidNetwork_.calls _ _ l0_0 _ _ l0_1 false _ ?side1 ?side2 ?side3 ?side4 A2.out).mono ?_); (case side1 => repeat (first | exact (Kd.C_below HR0_0.out HB.out) | (with_reducible first|refine Kd.C_alloc ?_ _|refine Kd.C_drewN ?_ _|refine Kd.C_drew ?_))); (case side2 => exact HC0_0.out); (case side3 => repeat (first | exact (Kd.C_below HR0_1.out HB.out) | (with_reducible first|refine Kd.C_alloc ?_ _|refine Kd.C_drewN ?_ _|refine Kd.C_drew ?_))); (case side4 => exact HC0_1.out); rintro e w28 ⟨rfl, hb⟩; refine ⟨_, rfl, ?_⟩; have n0_ := Aside0.mk (blk_below (g := gb263) (o := .cells #[.slice A0_0 l0_0.length c0_0, .slice A0_1 l0_1.length c0_1] 25 (0, 0)) (z54_) hb); have n1_ := Aside0.mk (below_step (z30_) hb); clear BK263; clear HB; have BK263 := n0_; have HB := n1_; clear n0_ n1_; (try clear hb); (try clear hb2); (try clear hk); (try clear hi)))
  go_ret
  exact ⟨z6_, z30_⟩

/-! ### impl_ReadNetwork: function 5 -/
def impl_ReadNetwork.l0 : Nat → ByteArray → Bool → List ByteArray → Int → Int → List Int → List (S36) → Option (List Int × (List (S36)) × Bool)
 | 0, _, _, _, _, _, _, _ => none
 | k + 1, x0, x6, x24, x25, x26, x286000, x286001 => if x26 < x25 then (if 0 ≤ x26 then (if x26 < (x24.length : Int) then ((impl_ReadPipe.f k (rdOf ByteArray.empty x24 x26)).bind fun bt291 => (if bt291.2.2.2.2.2.2 = true then (if x286001.length < 2513169434916 then (impl_ReadNetwork.l0 k x0 x6 x24 x25 (wrap64 (x26 + 1)) x286000 (x286001 ++ [(⟨bt291.1, bt291.2.1, bt291.2.2.1, bt291.2.2.2.1, bt291.2.2.2.2.1, bt291.2.2.2.2.2.1⟩ : S36)])) else (none)) else (some (([] : List Int), ([] : List (S36)), false)))) else (none)) else (none)) else (if x6 = true then ((impl_NetworkText.f k x286000 x286001).bind fun t302 => (if t302.toList = x0.toList then (some (x286000, x286001, true)) else (some (([] : List Int), ([] : List (S36)), false)))) else (some (([] : List Int), ([] : List (S36)), false)))
def impl_ReadNetwork.f (k : Nat) (a0 : ByteArray) : Option (List Int × (List (S36)) × Bool) := (strings_SplitN.f a0 (⟨#[47]⟩ : ByteArray) 22).bind fun t277 => (if 0 < (t277.length : Int) then ((impl_ReadList.f k (rdOf ByteArray.empty t277 0)).bind fun bt281 => (if 1 ≤ (t277.length : Int) then ((some (t277.drop 1 : List ByteArray)).bind fun y286 => (impl_ReadNetwork.l0 k a0 bt281.2 y286 (y286.length : Int) 0 bt281.1 ([] : List (S36)))) else (none))) else (none))
theorem impl_ReadNetwork.mono_l : ∀ k, (∀ y0 y1 y2 y3 y4 y5 y6, LeO (impl_ReadNetwork.l0 k y0 y1 y2 y3 y4 y5 y6) (impl_ReadNetwork.l0 (k + 1) y0 y1 y2 y3 y4 y5 y6))
 | 0 => fun _ _ _ _ _ _ _ r h => by simp [impl_ReadNetwork.l0] at h
 | k + 1 => by
  have ih0 := impl_ReadNetwork.mono_l k
  ·intro y0 y1 y2 y3 y4 y5 y6
   unfold impl_ReadNetwork.l0
   repeat' first|(with_reducible first|exact ih0 _ _ _ _ _ _ _|exact impl_NetworkText.mono _ _ _|exact impl_ReadList.mono _ _|exact impl_ReadPipe.mono _ _|exact LeO.refl _|exact LeO.none _|refine LeO.ite ?_ ?_|refine LeO.bind ?_ (fun _ => ?_))|exact ih0 _ _ _ _ _ _ _|exact impl_NetworkText.mono _ _ _|exact impl_ReadList.mono _ _|exact impl_ReadPipe.mono _ _|exact LeO.none _|refine LeO.ite ?_ ?_|refine LeO.bind ?_ (fun _ => ?_)
theorem impl_ReadNetwork.mono : ∀ a0 k, LeO (impl_ReadNetwork.f k a0) (impl_ReadNetwork.f (k + 1) a0) := by
 intro a0 k
 have ih0 := impl_ReadNetwork.mono_l k
 unfold impl_ReadNetwork.f
 repeat' first|(with_reducible first|exact ih0 _ _ _ _ _ _ _|exact impl_NetworkText.mono _ _ _|exact impl_ReadList.mono _ _|exact impl_ReadPipe.mono _ _|exact LeO.refl _|exact LeO.none _|refine LeO.ite ?_ ?_|refine LeO.bind ?_ (fun _ => ?_))|exact ih0 _ _ _ _ _ _ _|exact impl_NetworkText.mono _ _ _|exact impl_ReadList.mono _ _|exact impl_ReadPipe.mono _ _|exact LeO.none _|refine LeO.ite ?_ ?_|refine LeO.bind ?_ (fun _ => ?_)
set_option maxHeartbeats 8000000 in
set_option maxRecDepth 100000 in
theorem impl_ReadNetwork.calls (k : Nat) (a0 : ByteArray) (r1 : List Int) (r2 : List (S36)) (r3 : Bool) (w : World) (ht : Tabs true true true w) (h : impl_ReadNetwork.f k a0 = some (r1, r2, r3)) :
  Calls Tryz.prog 5 #[.string a0] w fun e w' => ∃ v0_ v1_ : Value, e = .returned (.tuple #[.agg #[v0_, v1_], .bool r3]) ∧ Kd.R (Kd.int .i64) 2 w' w.heap.size (fun _ => True) v0_ r1 ∧ Kd.R k36 36 w' w.heap.size (fun _ => True) v1_ r2 ∧ Below w.heap.size w w' := by
 have HT := Aside0.mk ht
 clear ht
 have hu25 := Tryz.underlying25
 have hu36 := Tryz.underlying36
 have HB := Aside0.mk (Below.refl w.heap.size w)
 have H : ((strings_SplitN.f a0 (⟨#[47]⟩ : ByteArray) 22).bind fun t277 => (if 0 < (t277.length : Int) then ((impl_ReadList.f k (rdOf ByteArray.empty t277 0)).bind fun bt281 => (if 1 ≤ (t277.length : Int) then ((some (t277.drop 1 : List ByteArray)).bind fun y286 => (impl_ReadNetwork.l0 k a0 bt281.2 y286 (y286.length : Int) 0 bt281.1 ([] : List (S36)))) else (none))) else (none))) = some (r1, r2, r3) := h
 clear h
 replace H := Option.bind_eq_some_iff.mp H
 obtain ⟨t277, A20, H⟩ := H
 have A2 := Aside0.mk A20
 clear A20
 by_cases c3 : 0 < (t277.length : Int)
 ·rw [if_pos c3] at H
  have c3b0 := decide_eq_true c3
  have c3b1 : decide (0 < t277.length) = true := decide_eq_true (by omega)
  clear c3
  replace H := Option.bind_eq_some_iff.mp H
  obtain ⟨⟨t281, t282⟩, A40, H⟩ := H
  replace H : (if 1 ≤ (t277.length : Int) then ((some (t277.drop 1 : List ByteArray)).bind fun y286 => (impl_ReadNetwork.l0 k a0 t282 y286 (y286.length : Int) 0 t281 ([] : List (S36)))) else (none)) = some (r1, r2, r3) := H
  have A4 := Aside0.mk A40
  clear A40
  by_cases c5 : 1 ≤ (t277.length : Int)
  ·rw [if_pos c5] at H
   have c5b0 := eq_true c5
   have c5b1 := decide_eq_true c5
   clear c5
   obtain ⟨y286, hy286⟩ : ∃ y_ : List ByteArray, y_ = (t277.drop 1) := ⟨_, rfl⟩
   replace H : (impl_ReadNetwork.l0 k a0 t282 y286 (y286.length : Int) 0 t281 ([] : List (S36))) = some (r1, r2, r3) := by first | (rw [hy286]; with_reducible exact H) | (have H2_ := (Option.bind_some _ _).symm.trans H; rw [hy286]; with_reducible exact H2_) | (have H2_ := (Option.bind_some _ _).symm.trans H; with_reducible exact H2_) | with_reducible exact H | (rw [hy286]; exact H) | exact H
   have Ny286 := Aside0.mk hy286
   clear hy286
   have H' := Aside0.mk H
   clear H
   go_enter Tryz.func5, Tryz.ntmps5
   go_wp2_with (first | ((with_reducible refine gate_dst (N := 2) rfl ?_); refine box_event ?hg (N := 2) ?hd (cs := #[.slice none 0 0, .slice none 0 0]) (t := 25) ?hr ?_; (case hd => rfl); (case hg => rfl); (case hr => first | (go_simp; done) | (go_simp; rfl)); intro gb276 hg w6 hbox hb; have n0_ := Aside0.mk (below_step (z0_) hb); have n1_ := Aside0.mk (hbox); have n2_ := Aside0.mk ((z4_ : w.heap.size ≤ gb276)); have n3_ := Aside0.mk ((z4_ : w.heap.size ≤ gb276)); clear HB; have HB := n0_; have BK276 := n1_; have GW276 := n2_; have GE276 := n3_; clear n0_ n1_ n2_ n3_; clear hb hbox hg) | ((with_reducible refine gate_callee (f := 10) rfl ?_); refine goesL_ (some 13) rfl rfl Tryz.func10 (z11_) rfl #[.string a0, .string (⟨#[47]⟩ : ByteArray), .int .i64 22] rfl (z1_) ?_; (with_reducible refine (strings_SplitN.calls a0 (⟨#[47]⟩ : ByteArray) 22 t277 _ ?sideT A2.out).mono ?_); (case sideT => exact HT.out.now (z133_)); rintro e w7 ⟨v278, rfl, ho0, hb⟩; refine ⟨_, rfl, ?_⟩; have n0_ := Aside0.mk (Kd.R_lower ho0 (below_size (z66_))); have n1_ := Aside0.mk (blk_below (g := gb276) (o := .cells #[.slice none 0 0, .slice none 0 0] 25 (0, 0)) (z32_) hb); have n2_ := Aside0.mk (below_step (z66_) hb); clear BK276; clear HB; have HO279 := n0_; have BK276 := n1_; have HB := n2_; clear n0_ n1_ n2_; (try clear hb); (try clear hb2); (try clear hk); (try clear hi); (try clear ho0); obtain ⟨Ao8, co8, eo8⟩ := Kd.R_slice HO279.out; subst eo8; have p280 : 0 ≤ (0 : Int) := (by omega); have q280 : 0 < (t277.length : Int) := of_decide_eq_true (z2_); obtain ⟨ad280, e280, hx280_0⟩ := Kd.at_string (Kd.R_reads' HO279.out).2.2 0 p280 q280; cases e280; have qi280 : (0 < t277.length) = True := eq_true (by omega); (try rw [show ((0 : Int)).toNat = 0 from rfl] at hx280_0); (try rw [Addr.add_zero'] at hx280_0); replace p280 := eq_true p280; replace q280 := eq_true q280) | ((with_reducible refine gate_callee (f := 11) rfl ?_); refine goesL_ (some 18) rfl rfl Tryz.func11 (z11_) rfl #[.string (rdOf ByteArray.empty t277 0)] rfl (z1_) ?_; (with_reducible refine (impl_ReadList.calls k (rdOf ByteArray.empty t277 0) t281 t282 _ ?sideT A4.out).mono ?_); (case sideT => exact HT.out.now (z133_)); rintro e w9 ⟨v283, rfl, ho0, hb⟩; refine ⟨_, rfl, ?_⟩; have n0_ := Aside0.mk (Kd.R_below (z132_) hb); have n1_ := Aside0.mk (Kd.R_lower ho0 (below_size (z66_))); have n2_ := Aside0.mk (blk_below (g := gb276) (o := .cells #[.slice none 0 0, .slice none 0 0] 25 (0, 0)) (z32_) hb); have n3_ := Aside0.mk (below_step (z66_) hb); clear HO279; clear BK276; clear HB; have HO279 := n0_; have HO284 := n1_; have BK276 := n2_; have HB := n3_; clear n0_ n1_ n2_ n3_; (try clear hb); (try clear hb2); (try clear hk); (try clear hi); (try clear ho0); obtain ⟨Ao10, co10, eo10⟩ := Kd.R_slice HO284.out; subst eo10) | ((with_reducible refine gate_dst (N := 7) rfl ?_); refine box_event ?hg (N := 7) ?hd (cs := #[.slice none 0 0, .slice none 0 0]) (t := 25) ?hr ?_; (case hd => rfl); (case hg => rfl); (case hr => first | (go_simp; done) | (go_simp; rfl)); intro gb285 hg w11 hbox hb; have n0_ := Aside0.mk (Kd.R_below (z132_) hb); have n1_ := Aside0.mk (Kd.R_below (by (with_reducible repeat (first | apply rA|apply rN|apply rW)); exact HO284.out) hb); have n2_ := Aside0.mk (blk_below (g := gb276) (o := .cells #[.slice none 0 0, .slice none 0 0] 25 (0, 0)) (z32_) hb); have n3_ := Aside0.mk (below_step (z66_) hb); have n4_ := Aside0.mk (hbox); have n5_ := Aside0.mk ((z146_ : w.heap.size ≤ gb285)); have n6_ := Aside0.mk ((z146_ : w.heap.size ≤ gb285)); have n7_ := Aside0.mk ((z95_ : gb276 ≠ gb285)); have n8_ := Aside0.mk ((z96_ : gb285 ≠ gb276)); clear HO279; clear HO284; clear BK276; clear HB; have HO279 := n0_; have HO284 := n1_; have BK276 := n2_; have HB := n3_; have BK285 := n4_; have GW285 := n5_; have GE285 := n6_; have NB276_285 := n7_; have NB285_276 := n8_; clear n0_ n1_ n2_ n3_ n4_ n5_ n6_ n7_ n8_; clear hb hbox hg; have hnb12 := NB285_276.out; have hnc12 := NB276_285.out; have hcz13_0 := bc0_ w11 BK285.out; have hcz13_1 := bc1_ w11 BK285.out; have hfz13_0 := blk_frozen BK285.out 0; have hfz13_1 := blk_frozen BK285.out 1) | ((with_reducible refine gate_store (t := 25) (p := 7) rfl ?_); refine store_event (t := 25) (p := 7) (v := ?vo_w14) (w1 := ((w11.setCell ⟨gb285, 0, none⟩ (.slice Ao10 t281.length co10)).setCell ⟨gb285, 1, none⟩ (.slice none 0 0))) ?hg ?ho ?hn ?hr ?_; (case ho => rfl); (case hg => rfl); (case hn => rfl); (case hr => first | (go_simp; done) | (go_simp; rfl)); intro w14 hw; have n0_ : Aside0 (Kd.R Kd.string 9 w14 w.heap.size (fun _ => True) (.slice (some ad280) t277.length co8) t277) := ⟨(by rw [hw]; exact (by (with_reducible repeat (first | apply rA|apply rN|apply rW)); exact Kd.R_mono (Kd.R_far (p := ⟨gb285, 1, none⟩) (Kd.R_far (p := ⟨gb285, 0, none⟩) (Kd.R_types HO279.out BK285.out (by decide)) (fun _ hk => hk.2) (.slice Ao10 t281.length co10)) (fun _ hk => hk.2) (.slice none 0 0)) (fun _ hk => trivial)))⟩; have n1_ : Aside0 (Kd.R (Kd.int .i64) 2 w14 w.heap.size (fun _ => True) (.slice Ao10 t281.length co10) t281) := ⟨(by rw [hw]; exact (by (with_reducible repeat (first | apply rA|apply rN|apply rW)); exact Kd.R_mono (Kd.R_far (p := ⟨gb285, 1, none⟩) (Kd.R_far (p := ⟨gb285, 0, none⟩) (Kd.R_types HO284.out BK285.out (by decide)) (fun _ hk => hk.2) (.slice Ao10 t281.length co10)) (fun _ hk => hk.2) (.slice none 0 0)) (fun _ hk => trivial)))⟩; have n2_ : Aside0 (w14.heap[gb276]? = some (.cells #[.slice none 0 0, .slice none 0 0] 25 (0, 0))) := ⟨(by rw [hw]; exact (by (with_reducible repeat (first | refine bN ?_ _|refine bW ?_|refine bA ?_ _)); refine blk_far ?_ NB276_285.out _; (with_reducible repeat (first | refine bN ?_ _|refine bW ?_|refine bA ?_ _)); refine blk_far ?_ NB276_285.out _; (with_reducible repeat (first | refine bN ?_ _|refine bW ?_|refine bA ?_ _)); exact BK276.out))⟩; have n3_ : Aside0 (w14.heap[gb285]? = some (.cells #[.slice Ao10 t281.length co10, .slice none 0 0] 25 (0, 0))) := ⟨(by rw [hw]; exact (by (with_reducible repeat (first | refine bN ?_ _|refine bW ?_|refine bA ?_ _)); refine blk_put (cs := #[.slice Ao10 t281.length co10, .slice none 0 0]) ?_ 1 _ rfl; (with_reducible repeat (first | refine bN ?_ _|refine bW ?_|refine bA ?_ _)); refine blk_put (cs := #[.slice none 0 0, .slice none 0 0]) ?_ 0 _ rfl; (with_reducible repeat (first | refine bN ?_ _|refine bW ?_|refine bA ?_ _)); exact BK285.out))⟩; have n4_ : Aside0 (Below w.heap.size w w14) := ⟨(by rw [hw]; exact (z19_))⟩; clear hw; clear HO279; clear HO284; clear BK276; clear BK285; clear HB; have HO279 := n0_; have HO284 := n1_; have BK276 := n2_; have BK285 := n3_; have HB := n4_; clear n0_ n1_ n2_ n3_ n4_; have q15 : (1 : Int) ≤ ((t277.length : Int) : Int) := of_decide_eq_true (z2_); obtain ⟨i015, hi015, _, hsz15, _⟩ := info_parts info9; have hroom15 : t277.length ≤ co8 := (Kd.R_reads' HO279.out).2.1; have hC15 : Kd.C Kd.string _ (some ad280) t277.length t277 := (Kd.R_reads' HO279.out).2.2; have hcut15 := cut_from (P := Tryz.prog) 31 9 .i64 Tryz.underlying31 hi015 1 hsz15 (some ad280) t277.length co8 1 (by omega) q15; have hr15 := Kd.C_drop (m := (1 : Int).toNat) (c := co8) hC15 (by omega) hroom15; obtain ⟨A15, hA15⟩ : ∃ A1, A1 = (if co8 = (1 : Int).toNat then (some ad280) else ((some ad280) : Option Addr).map (·.add ((1 : Int).toNat * 1))) := ⟨_, rfl⟩; obtain ⟨c15, hc15⟩ : ∃ c1, c1 = co8 - (1 : Int).toNat := ⟨_, rfl⟩; have hy15 : y286.length = t277.length - (1 : Int).toNat := (by rw [Ny286.out, List.length_drop] <;> omega); rw [show (t277).drop (1 : Int).toNat = y286 from Ny286.out.symm] at hr15; replace hr15 : Kd.C Kd.string _ A15 y286.length y286 := (by rw [hA15]; exact hr15); rw [← hy15, ← hA15, ← hc15] at hcut15; have HR289 := Aside0.mk hr15; have HC289 := Aside0.mk (show y286.length ≤ c15 from by rw [hy15, hc15]; exact Nat.sub_le_sub_right hroom15 _); clear hr15 hC15 hroom15 hi015 hsz15 hc15; have KY15 := Aside0.mk hy15; have KA15 := Aside0.mk hA15; clear hy15 hA15; have KL15 := Aside0.mk (show 1 ≤ t277.length from by omega); replace q15 := eq_true q15))
   go_loopg [26] k (fun kq v26 w' => ∃ (x26_1 : Int) (x286001_1 : List (S36)) (u286001 : Value), v26 = .int .i64 x26_1 ∧ Aside0 (impl_ReadNetwork.l0 kq a0 t282 y286 (y286.length : Int) x26_1 t281 x286001_1 = some (r1, r2, r3)) ∧ Aside0 (kq ≤ k) ∧ Aside0 (Kd.R (Kd.int .i64) 2 w' w.heap.size (fun _ => True) (.slice Ao10 t281.length co10) t281) ∧ Aside0 (Kd.R Kd.string 9 w' w.heap.size (fun _ => True) (.slice (some ad280) t277.length co8) t277) ∧ Aside0 (Kd.R k36 36 w' w.heap.size (fun _ => True) u286001 x286001_1) ∧ Aside0 (w'.heap[gb276]? = some (.cells #[(.slice none 0 0), (.slice none 0 0)] 25 (0, 0))) ∧ Aside0 (w'.heap[gb285]? = some (.cells #[(.slice Ao10 t281.length co10), u286001] 25 (0, 0))) ∧ Aside0 (Below w.heap.size w w'))
   case atStart => exact ⟨(0), (([] : List (S36))), (.slice none 0 0), (z7_), H', ⟨Nat.le_refl _⟩, ⟨by (with_reducible repeat (first | apply rA|apply rN|apply rW)); exact HO284.out⟩, ⟨z132_⟩, ⟨z14_⟩, ⟨z32_⟩, ⟨z55_⟩, ⟨z19_⟩⟩
   case round =>
    clear H'
    try clear c1
    try clear q1
    try clear p2
    try clear q2
    try clear hx2
    try clear qi2
    try clear c3
    try clear c3b0
    try clear c3b1
    try clear c5
    try clear c5b0
    try clear c5b1
    try clear c10
    try clear c11
    try clear c12
    try clear c15
    try clear q15
    try clear hcz13_0
    try clear hcz13_1
    try clear hfz13_0
    try clear hfz13_1
    try clear hx280_0
    try clear p280
    try clear q15
    try clear q280
    obtain ⟨x26_1, x286001_1, u286001, rfl, HA, HK1, HO_286000, HO279, HO_286001, BK276, BK285, HB⟩ := hrel
    cases gk with
    | zero => exact absurd HA.out (by simp [impl_ReadNetwork.l0])
    | succ k1 =>
     have H := HA.out
     clear HA
     simp only [impl_ReadNetwork.l0] at H
     by_cases c16 : x26_1 < (y286.length : Int)
     ·rw [if_pos c16] at H
      have c16b0 := decide_eq_true c16
      clear c16
      by_cases c17 : 0 ≤ x26_1
      ·rw [if_pos c17] at H
       have c17b0 := decide_eq_true c17
       clear c17
       by_cases c18 : x26_1 < (y286.length : Int)
       ·rw [if_pos c18] at H
        have c18b0 := decide_eq_true c18
        clear c18
        replace H := Option.bind_eq_some_iff.mp H
        obtain ⟨⟨t291, t292, t293, t294, t295, t296, t297⟩, A190, H⟩ := H
        replace H : (if t297 = true then (if x286001_1.length < 2513169434916 then (impl_ReadNetwork.l0 k1 a0 t282 y286 (y286.length : Int) (wrap64 (x26_1 + 1)) t281 (x286001_1 ++ [(⟨t291, t292, t293, t294, t295, t296⟩ : S36)])) else (none)) else (some (([] : List Int), ([] : List (S36)), false))) = some (r1, r2, r3) := H
        have A19 := Aside0.mk A190
        clear A190
        by_cases c20 : t297 = true
        ·subst c20
         rw [if_pos rfl] at H
         by_cases c21 : x286001_1.length < 2513169434916
         ·rw [if_pos c21] at H
          have LMc21 := Aside0.mk c21
          clear c21
          obtain ⟨y299, hy299⟩ : ∃ y_ : List (S36), y_ = (x286001_1 ++ [(⟨t291, t292, t293, t294, t295, t296⟩ : S36)]) := ⟨_, rfl⟩
          replace H : (impl_ReadNetwork.l0 k1 a0 t282 y286 (y286.length : Int) (wrap64 (x26_1 + 1)) t281 y299) = some (r1, r2, r3) := by first | (rw [hy299]; with_reducible exact H) | (have H2_ := (Option.bind_some _ _).symm.trans H; rw [hy299]; with_reducible exact H2_) | (have H2_ := (Option.bind_some _ _).symm.trans H; with_reducible exact H2_) | with_reducible exact H | (rw [hy299]; exact H) | exact H
          have Ny299 := Aside0.mk hy299
          clear hy299
          have H' := Aside0.mk H
          clear H
          have p290 : 0 ≤ (x26_1 : Int) := of_decide_eq_true (z2_)
          have q290 : x26_1 < (y286.length : Int) := of_decide_eq_true (z2_)
          have hr_ : Kd.C Kd.string wr A15 y286.length y286 := by rw [KA15.out, Ny286.out]; exact Kd.C_drop (m := 1) (c := co8) (Kd.R_reads' HO279.out).2.2 KL15.out (Kd.R_reads' HO279.out).2.1
          have HR289 := Aside0.mk hr_
          clear hr_
          obtain ⟨ad290, e290, hx290_0⟩ := Kd.at_string HR289.out x26_1 p290 q290
          cases e290
          skip
          replace p290 := eq_true p290
          replace q290 := eq_true q290
          go_wp2_with (first | ((with_reducible refine gate_callee (f := 12) rfl ?_); refine goesL_ (some 32) rfl rfl Tryz.func12 (z11_) rfl #[.string (rdOf ByteArray.empty y286 x26_1)] rfl (z1_) ?_; (with_reducible refine (impl_ReadPipe.calls k1 (rdOf ByteArray.empty y286 x26_1) t291 t292 t293 t294 t295 t296 true _ ?sideT A19.out).mono ?_); (case sideT => exact HT.out.now (z61_)); rintro e w22 ⟨rfl, hb⟩; refine ⟨_, rfl, ?_⟩; have n0_ := Aside0.mk (Kd.R_below (z113_) hb); have m9_ := Aside0.mk (Kd.R_below (z132_) hb); have n1_ := Aside0.mk (Kd.R_below (z114_) hb); have n2_ := Aside0.mk (blk_below (g := gb276) (o := .cells #[.slice none 0 0, .slice none 0 0] 25 (0, 0)) (z32_) hb); have n3_ := Aside0.mk (blk_below (g := gb285) (o := .cells #[.slice Ao10 t281.length co10, u286001] 25 (0, 0)) (z55_) hb); have n4_ := Aside0.mk (below_step (z19_) hb); clear HO_286000; clear HO279; clear HO_286001; clear BK276; clear BK285; clear HB; have HO_286000 := n0_; have HO279 := m9_; clear m9_; have HO_286001 := n1_; have BK276 := n2_; have BK285 := n3_; have HB := n4_; clear n0_ n1_ n2_ n3_ n4_; (try clear hb); (try clear hb2); (try clear hk); (try clear hi)) | ((with_reducible refine gate_dst (N := 10) rfl ?_); refine box_event ?hg (N := 10) ?hd (cs := #[.string (⟨#[]⟩ : ByteArray), .int .i64 0, .int .i64 0, .int .i64 0, .int .i64 0, .int .i64 0]) (t := 36) ?hr ?_; (case hd => rfl); (case hg => rfl); (case hr => first | (go_simp; done) | (go_simp; rfl)); intro gb298 hg w23 hbox hb; have n0_ := Aside0.mk (Kd.R_below (z113_) hb); have m9_ := Aside0.mk (Kd.R_below (z132_) hb); have n1_ := Aside0.mk (Kd.R_below (Kd.R_elderB (z114_) gb298 (Nat.le_of_eq hg.symm)) hb); have n2_ := Aside0.mk (blk_below (g := gb276) (o := .cells #[.slice none 0 0, .slice none 0 0] 25 (0, 0)) (z32_) hb); have n3_ := Aside0.mk (blk_below (g := gb285) (o := .cells #[.slice Ao10 t281.length co10, u286001] 25 (0, 0)) (z55_) hb); have n4_ := Aside0.mk (below_step (z19_) hb); have n5_ := Aside0.mk (hbox); have n6_ := Aside0.mk ((z83_ : w.heap.size ≤ gb298)); have n7_ := Aside0.mk ((z83_ : w.heap.size ≤ gb298)); have n8_ := Aside0.mk ((z95_ : gb276 ≠ gb298)); have n9_ := Aside0.mk ((z96_ : gb298 ≠ gb276)); have n10_ := Aside0.mk ((z129_ : gb285 ≠ gb298)); have n11_ := Aside0.mk ((z130_ : gb298 ≠ gb285)); clear HO_286000; clear HO279; clear HO_286001; clear BK276; clear BK285; clear HB; have HO_286000 := n0_; have HO279 := m9_; clear m9_; have HO_286001 := n1_; have BK276 := n2_; have BK285 := n3_; have HB := n4_; have BK298 := n5_; have GW298 := n6_; have GE298 := n7_; have NB276_298 := n8_; have NB298_276 := n9_; have NB285_298 := n10_; have NB298_285 := n11_; clear n0_ n1_ n2_ n3_ n4_ n5_ n6_ n7_ n8_ n9_ n10_ n11_; clear hb hbox hg; have hnb24 := NB298_276.out; have hnc24 := NB276_298.out; have hnb25 := NB298_285.out; have hnc25 := NB285_298.out; have hcz26_0 := bc0_ w23 BK298.out; have hcz26_1 := bc1_ w23 BK298.out; have hcz26_2 := bc2_ w23 BK298.out; have hcz26_3 := bc3_ w23 BK298.out; have hcz26_4 := bc4_ w23 BK298.out; have hcz26_5 := bc5_ w23 BK298.out; have hfz26_0 := blk_frozen BK298.out 0; have hfz26_1 := blk_frozen BK298.out 1; have hfz26_2 := blk_frozen BK298.out 2; have hfz26_3 := blk_frozen BK298.out 3; have hfz26_4 := blk_frozen BK298.out 4; have hfz26_5 := blk_frozen BK298.out 5; have hnb27 := NB285_276.out; have hnc27 := NB276_285.out; have hcz28_0 := bc0_ w23 BK285.out; have hcz28_1 := bc1_ w23 BK285.out; have hfz28_0 := blk_frozen BK285.out 0; have hfz28_1 := blk_frozen BK285.out 1) | ((with_reducible refine gate_builtin (b := .append) (xs := #[.tmp 39, .tmp 41]) rfl ?_); at_builtin; refine Kd.R_append k36 (w0 := w) w.heap.size rfl (.tmp 39) (.tmp 41) 23 36 (.agg #[(.string ⟨#[]⟩), (.int .i64 0), (.int .i64 0), (.int .i64 0), (.int .i64 0), (.int .i64 0)]) 56 rfl Tryz.underlying23 info36 rfl (by decide) (by omega) u286001 x286001_1 (⟨t291, t292, t293, t294, t295, t296⟩ : S36) [.string t291, .int .i64 t292, .int .i64 t293, .int .i64 t294, .int .i64 t295, .int .i64 t296] (fun k_ => k_ ≠ gb298) (fun _ => False) rfl (by first | (go_simp; done) | (go_simp; rfl)) ?aP (fun _ hk => hk.elim) ?aF ?aO ?aB ?aS ?aL ?_; (case aP => exact k36_mkM _ _ _ (⟨t291, t292, t293, t294, t295, t296⟩ : S36)); (case aB => exact (z87_)); (case aF => exact (fun k_ hk => Kd.freshB (g := gb298) (o := .cells #[.string t291, .int .i64 t292, .int .i64 t293, .int .i64 t294, .int .i64 t295, .int .i64 t296] 36 (0, 0)) (z18_) k_ hk)); (case aO => exact (by (with_reducible repeat (first | apply rA|apply rN|apply rW)); exact Kd.R_mono (Kd.R_far (p := ⟨gb298, 5, none⟩) (Kd.R_far (p := ⟨gb298, 4, none⟩) (Kd.R_far (p := ⟨gb298, 3, none⟩) (Kd.R_far (p := ⟨gb298, 2, none⟩) (Kd.R_far (p := ⟨gb298, 1, none⟩) (Kd.R_far (p := ⟨gb298, 0, none⟩) (Kd.R_mono HO_286001.out (fun k_ hk => (⟨hk, hk.2⟩ : _ ∧ k_ ≠ gb298))) (fun _ hk => hk.2) (.string t291)) (fun _ hk => hk.2) (.int .i64 t292)) (fun _ hk => hk.2) (.int .i64 t293)) (fun _ hk => hk.2) (.int .i64 t294)) (fun _ hk => hk.2) (.int .i64 t295)) (fun _ hk => hk.2) (.int .i64 t296)) (fun _ hk => hk.1.2))); (case aS => exact (below_size (z87_))); (case aL => have := LMc21.out; omega); intro v300 w29 ho hb hg hat; rw [← Ny299.out] at ho; have n0_ := Aside0.mk (Kd.R_over' (by (with_reducible repeat (first | apply rA|apply rN|apply rW)); exact (Kd.R_mono (Kd.R_far (p := ⟨gb298, 5, none⟩) (Kd.R_far (p := ⟨gb298, 4, none⟩) (Kd.R_far (p := ⟨gb298, 3, none⟩) (Kd.R_far (p := ⟨gb298, 2, none⟩) (Kd.R_far (p := ⟨gb298, 1, none⟩) (Kd.R_far (p := ⟨gb298, 0, none⟩) (Kd.R_types HO_286000.out BK298.out (by decide)) (fun _ hk => hk.2) (.string t291)) (fun _ hk => hk.2) (.int .i64 t292)) (fun _ hk => hk.2) (.int .i64 t293)) (fun _ hk => hk.2) (.int .i64 t294)) (fun _ hk => hk.2) (.int .i64 t295)) (fun _ hk => hk.2) (.int .i64 t296)) (fun _ h_ => h_.1))) (Kd.R_typed (z50_)) (by decide) hg); have m9_ := Aside0.mk (Kd.R_over' (by (with_reducible repeat (first | apply rA|apply rN|apply rW)); exact (Kd.R_mono (Kd.R_far (p := ⟨gb298, 5, none⟩) (Kd.R_far (p := ⟨gb298, 4, none⟩) (Kd.R_far (p := ⟨gb298, 3, none⟩) (Kd.R_far (p := ⟨gb298, 2, none⟩) (Kd.R_far (p := ⟨gb298, 1, none⟩) (Kd.R_far (p := ⟨gb298, 0, none⟩) (Kd.R_types HO279.out BK298.out (by decide)) (fun _ hk => hk.2) (.string t291)) (fun _ hk => hk.2) (.int .i64 t292)) (fun _ hk => hk.2) (.int .i64 t293)) (fun _ hk => hk.2) (.int .i64 t294)) (fun _ hk => hk.2) (.int .i64 t295)) (fun _ hk => hk.2) (.int .i64 t296)) (fun _ h_ => h_.1))) (Kd.R_typed (z50_)) (by decide) hg); have n1_ := Aside0.mk (blk_grown (g := gb276) (o := .cells #[.slice none 0 0, .slice none 0 0] 25 (0, 0)) (by (with_reducible repeat (first | refine bN ?_ _|refine bW ?_|refine bA ?_ _)); refine blk_far ?_ NB276_298.out _; (with_reducible repeat (first | refine bN ?_ _|refine bW ?_|refine bA ?_ _)); refine blk_far ?_ NB276_298.out _; (with_reducible repeat (first | refine bN ?_ _|refine bW ?_|refine bA ?_ _)); refine blk_far ?_ NB276_298.out _; (with_reducible repeat (first | refine bN ?_ _|refine bW ?_|refine bA ?_ _)); refine blk_far ?_ NB276_298.out _; (with_reducible repeat (first | refine bN ?_ _|refine bW ?_|refine bA ?_ _)); refine blk_far ?_ NB276_298.out _; (with_reducible repeat (first | refine bN ?_ _|refine bW ?_|refine bA ?_ _)); refine blk_far ?_ NB276_298.out _; (with_reducible repeat (first | refine bN ?_ _|refine bW ?_|refine bA ?_ _)); exact BK276.out) hg (Kd.R_ne HO_286001.out BK276.out (by decide))); have n2_ := Aside0.mk (blk_grown (g := gb285) (o := .cells #[.slice Ao10 t281.length co10, u286001] 25 (0, 0)) (by (with_reducible repeat (first | refine bN ?_ _|refine bW ?_|refine bA ?_ _)); refine blk_far ?_ NB285_298.out _; (with_reducible repeat (first | refine bN ?_ _|refine bW ?_|refine bA ?_ _)); refine blk_far ?_ NB285_298.out _; (with_reducible repeat (first | refine bN ?_ _|refine bW ?_|refine bA ?_ _)); refine blk_far ?_ NB285_298.out _; (with_reducible repeat (first | refine bN ?_ _|refine bW ?_|refine bA ?_ _)); refine blk_far ?_ NB285_298.out _; (with_reducible repeat (first | refine bN ?_ _|refine bW ?_|refine bA ?_ _)); refine blk_far ?_ NB285_298.out _; (with_reducible repeat (first | refine bN ?_ _|refine bW ?_|refine bA ?_ _)); refine blk_far ?_ NB285_298.out _; (with_reducible repeat (first | refine bN ?_ _|refine bW ?_|refine bA ?_ _)); exact BK285.out) hg (Kd.R_ne HO_286001.out BK285.out (by decide))); have n3_ := Aside0.mk (blk_grown (g := gb298) (o := .cells #[.string t291, .int .i64 t292, .int .i64 t293, .int .i64 t294, .int .i64 t295, .int .i64 t296] 36 (0, 0)) (z18_) hg (Kd.R_away HO_286001.out (fun _ hk => hk.2))); have n4_ := Aside0.mk (hb); have n5_ := Aside0.mk (ho); clear HO_286000; clear HO279; clear BK276; clear BK285; clear BK298; clear HB; clear HO_286001; have HO_286000 := n0_; have HO279 := m9_; clear m9_; have BK276 := n1_; have BK285 := n2_; have BK298 := n3_; have HB := n4_; have HO301 := n5_; clear n0_ n1_ n2_ n3_ n4_ n5_; clear ho hb hg hat; obtain ⟨Ao30, co30, eo30⟩ := Kd.R_slice HO301.out; subst eo30; have hcz31_0 := bc0_ w29 BK285.out; have hcz31_1 := bc1_ w29 BK285.out; have hfz31_0 := blk_frozen BK285.out 0; have hfz31_1 := blk_frozen BK285.out 1))
          go_roundg k1
          case measure => have := HK1.out; omega
          case rel => exact ⟨(wrap64 (x26_1 + 1)), (y299), (.slice Ao30 y299.length co30), (z7_), H', ⟨z117_⟩, ⟨by (with_reducible repeat (first | apply rA|apply rN|apply rW)); exact Kd.R_mono (Kd.R_far (p := ⟨gb285, 1, none⟩) (Kd.R_types HO_286000.out BK285.out (by decide)) (fun _ hk => hk.2) (.slice Ao30 y299.length co30)) (fun _ hk => trivial)⟩, ⟨by (with_reducible repeat (first | apply rA|apply rN|apply rW)); exact Kd.R_mono (Kd.R_far (p := ⟨gb285, 1, none⟩) (Kd.R_types HO279.out BK285.out (by decide)) (fun _ hk => hk.2) (.slice Ao30 y299.length co30)) (fun _ hk => trivial)⟩, ⟨by (with_reducible repeat (first | apply rA|apply rN|apply rW)); exact Kd.R_mono (Kd.R_far (p := ⟨gb285, 1, none⟩) (Kd.R_types HO301.out BK285.out (by decide)) (fun _ hk => hk.2) (.slice Ao30 y299.length co30)) (fun _ hk => trivial)⟩, ⟨by (with_reducible repeat (first | refine bN ?_ _|refine bW ?_|refine bA ?_ _)); refine blk_far ?_ NB276_285.out _; (with_reducible repeat (first | refine bN ?_ _|refine bW ?_|refine bA ?_ _)); exact BK276.out⟩, ⟨by (with_reducible repeat (first | refine bN ?_ _|refine bW ?_|refine bA ?_ _)); refine blk_put (cs := #[.slice Ao10 t281.length co10, u286001]) ?_ 1 _ rfl; (with_reducible repeat (first | refine bN ?_ _|refine bW ?_|refine bA ?_ _)); exact BK285.out⟩, ⟨z87_⟩⟩
         ·rw [if_neg c21] at H
          exact absurd H (by simp)
        ·replace c20 := Bool.eq_false_iff.mpr c20
         subst c20
         rw [if_neg (show ¬ (false = true) by decide)] at H
         simp only [Option.some.injEq, Prod.mk.injEq] at H
         obtain ⟨rfl, rfl, rfl⟩ := H
         have p290 : 0 ≤ (x26_1 : Int) := of_decide_eq_true (z2_)
         have q290 : x26_1 < (y286.length : Int) := of_decide_eq_true (z2_)
         have hr_ : Kd.C Kd.string wr A15 y286.length y286 := by rw [KA15.out, Ny286.out]; exact Kd.C_drop (m := 1) (c := co8) (Kd.R_reads' HO279.out).2.2 KL15.out (Kd.R_reads' HO279.out).2.1
         have HR289 := Aside0.mk hr_
         clear hr_
         obtain ⟨ad290, e290, hx290_0⟩ := Kd.at_string HR289.out x26_1 p290 q290
         cases e290
         skip
         replace p290 := eq_true p290
         replace q290 := eq_true q290
         go_wp2_with (first | ((with_reducible refine gate_callee (f := 12) rfl ?_); refine goesL_ (some 32) rfl rfl Tryz.func12 (z11_) rfl #[.string (rdOf ByteArray.empty y286 x26_1)] rfl (z1_) ?_; (with_reducible refine (impl_ReadPipe.calls k1 (rdOf ByteArray.empty y286 x26_1) t291 t292 t293 t294 t295 t296 false _ ?sideT A19.out).mono ?_); (case sideT => exact HT.out.now (z61_)); rintro e w32 ⟨rfl, hb⟩; refine ⟨_, rfl, ?_⟩; have n0_ := Aside0.mk (Kd.R_below (z113_) hb); have n1_ := Aside0.mk (Kd.R_below (z114_) hb); have n2_ := Aside0.mk (blk_below (g := gb276) (o := .cells #[.slice none 0 0, .slice none 0 0] 25 (0, 0)) (z32_) hb); have n3_ := Aside0.mk (blk_below (g := gb285) (o := .cells #[.slice Ao10 t281.length co10, u286001] 25 (0, 0)) (z55_) hb); have n4_ := Aside0.mk (below_step (z19_) hb); clear HO_286000; clear HO_286001; clear BK276; clear BK285; clear HB; have HO_286000 := n0_; have HO_286001 := n1_; have BK276 := n2_; have BK285 := n3_; have HB := n4_; clear n0_ n1_ n2_ n3_ n4_; (try clear hb); (try clear hb2); (try clear hk); (try clear hi)) | ((with_reducible refine gate_dst (N := 10) rfl ?_); refine box_event ?hg (N := 10) ?hd (cs := #[.string (⟨#[]⟩ : ByteArray), .int .i64 0, .int .i64 0, .int .i64 0, .int .i64 0, .int .i64 0]) (t := 36) ?hr ?_; (case hd => rfl); (case hg => rfl); (case hr => first | (go_simp; done) | (go_simp; rfl)); intro gb298 hg w33 hbox hb; have n0_ := Aside0.mk (Kd.R_below (z113_) hb); have n1_ := Aside0.mk (Kd.R_below (Kd.R_elderB (z114_) gb298 (Nat.le_of_eq hg.symm)) hb); have n2_ := Aside0.mk (blk_below (g := gb276) (o := .cells #[.slice none 0 0, .slice none 0 0] 25 (0, 0)) (z32_) hb); have n3_ := Aside0.mk (blk_below (g := gb285) (o := .cells #[.slice Ao10 t281.length co10, u286001] 25 (0, 0)) (z55_) hb); have n4_ := Aside0.mk (below_step (z19_) hb); have n5_ := Aside0.mk (hbox); have n6_ := Aside0.mk ((z83_ : w.heap.size ≤ gb298)); have n7_ := Aside0.mk ((z83_ : w.heap.size ≤ gb298)); have n8_ := Aside0.mk ((z95_ : gb276 ≠ gb298)); have n9_ := Aside0.mk ((z96_ : gb298 ≠ gb276)); have n10_ := Aside0.mk ((z129_ : gb285 ≠ gb298)); have n11_ := Aside0.mk ((z130_ : gb298 ≠ gb285)); clear HO_286000; clear HO_286001; clear BK276; clear BK285; clear HB; have HO_286000 := n0_; have HO_286001 := n1_; have BK276 := n2_; have BK285 := n3_; have HB := n4_; have BK298 := n5_; have GW298 := n6_; have GE298 := n7_; have NB276_298 := n8_; have NB298_276 := n9_; have NB285_298 := n10_; have NB298_285 := n11_; clear n0_ n1_ n2_ n3_ n4_ n5_ n6_ n7_ n8_ n9_ n10_ n11_; clear hb hbox hg; have hnb34 := NB298_276.out; have hnc34 := NB276_298.out; have hnb35 := NB298_285.out; have hnc35 := NB285_298.out; have hcz36_0 := bc0_ w33 BK298.out; have hcz36_1 := bc1_ w33 BK298.out; have hcz36_2 := bc2_ w33 BK298.out; have hcz36_3 := bc3_ w33 BK298.out; have hcz36_4 := bc4_ w33 BK298.out; have hcz36_5 := bc5_ w33 BK298.out; have hfz36_0 := blk_frozen BK298.out 0; have hfz36_1 := blk_frozen BK298.out 1; have hfz36_2 := blk_frozen BK298.out 2; have hfz36_3 := blk_frozen BK298.out 3; have hfz36_4 := blk_frozen BK298.out 4; have hfz36_5 := blk_frozen BK298.out 5; have hnb37 := NB276_285.out; have hnc37 := NB285_276.out; have hcz38_0 := bc0_ w33 BK276.out; have hcz38_1 := bc1_ w33 BK276.out; have hfz38_0 := blk_frozen BK276.out 0; have hfz38_1 := blk_frozen BK276.out 1))
         refine bodyPost_ret (results_ct rfl _ _ gb276 25 #[.slice none 0 0, .slice none 0 0] (0, 0) _ rfl (by (with_reducible repeat (first | refine bN ?_ _|refine bW ?_|refine bA ?_ _)); refine blk_put (cs := #[.slice none 0 0, .slice none 0 0]) ?_ 1 _ rfl; (with_reducible repeat (first | refine bN ?_ _|refine bW ?_|refine bA ?_ _)); refine blk_put (cs := #[.slice none 0 0, .slice none 0 0]) ?_ 0 _ rfl; (with_reducible repeat (first | refine bN ?_ _|refine bW ?_|refine bA ?_ _)); refine blk_far ?_ NB276_298.out _; (with_reducible repeat (first | refine bN ?_ _|refine bW ?_|refine bA ?_ _)); refine blk_far ?_ NB276_298.out _; (with_reducible repeat (first | refine bN ?_ _|refine bW ?_|refine bA ?_ _)); refine blk_far ?_ NB276_298.out _; (with_reducible repeat (first | refine bN ?_ _|refine bW ?_|refine bA ?_ _)); refine blk_far ?_ NB276_298.out _; (with_reducible repeat (first | refine bN ?_ _|refine bW ?_|refine bA ?_ _)); refine blk_far ?_ NB276_298.out _; (with_reducible repeat (first | refine bN ?_ _|refine bW ?_|refine bA ?_ _)); refine blk_far ?_ NB276_298.out _; (with_reducible repeat (first | refine bN ?_ _|refine bW ?_|refine bA ?_ _)); exact BK276.out) Tryz.underlying25 rfl (z11_)) rfl ?_
         exact ⟨_, _, z6_, z14_, z14_, z87_⟩
       ·rw [if_neg c18] at H
        exact absurd H (by simp)
      ·rw [if_neg c17] at H
       exact absurd H (by simp)
     ·rw [if_neg c16] at H
      have c16b0 := decide_eq_false c16
      clear c16
      by_cases c39 : t282 = true
      ·subst c39
       rw [if_pos rfl] at H
       replace H := Option.bind_eq_some_iff.mp H
       obtain ⟨t302, A400, H⟩ := H
       have A40 := Aside0.mk A400
       clear A400
       by_cases c41 : t302.toList = a0.toList
       ·rw [if_pos c41] at H
        have c41b0 : (t302.toList == a0.toList) = true := beq_iff_eq.mpr c41
        have c41b1 : (t302.toList != a0.toList) = false := bne_eq_false_iff_eq.mpr c41
        clear c41
        simp only [Option.some.injEq, Prod.mk.injEq] at H
        obtain ⟨rfl, rfl, rfl⟩ := H
        have hnb42 := NB285_276.out
        have hnc42 := NB276_285.out
        have hcz43_0 := bc0_ wr BK285.out
        have hcz43_1 := bc1_ wr BK285.out
        have hfz43_0 := blk_frozen BK285.out 0
        have hfz43_1 := blk_frozen BK285.out 1
        obtain ⟨Ao44, co44, eo44⟩ := Kd.R_slice HO_286001.out
        subst eo44
        go_wp2_with (first | (go_at_call 13; (with_reducible refine (impl_NetworkText.calls k1 _ _ t281 _ _ x286001_1 t302 _ ?side1 ?side2 ?side3 ?side4 ?sideT A40.out).mono ?_); (case sideT => exact HT.out.now (z61_)); (case side1 => repeat (first | exact (Kd.R_reads' HO_286000.out).2.2 | (with_reducible first|refine Kd.C_alloc ?_ _|refine Kd.C_drewN ?_ _|refine Kd.C_drew ?_))); (case side2 => exact (Kd.R_reads' HO_286000.out).2.1); (case side3 => repeat (first | exact (Kd.R_reads' HO_286001.out).2.2 | (with_reducible first|refine Kd.C_alloc ?_ _|refine Kd.C_drewN ?_ _|refine Kd.C_drew ?_))); (case side4 => exact (Kd.R_reads' HO_286001.out).2.1); rintro e w45 ⟨rfl, hb⟩; have n0_ := Aside0.mk (Kd.R_below (z113_) hb); have n1_ := Aside0.mk (Kd.R_below (z114_) hb); have n2_ := Aside0.mk (blk_below (g := gb276) (o := .cells #[.slice none 0 0, .slice none 0 0] 25 (0, 0)) (z32_) hb); have n3_ := Aside0.mk (blk_below (g := gb285) (o := .cells #[.slice Ao10 t281.length co10, .slice Ao44 x286001_1.length co44] 25 (0, 0)) (z55_) hb); have n4_ := Aside0.mk (below_step (z19_) hb); clear HO_286000; clear HO_286001; clear BK276; clear BK285; clear HB; have HO_286000 := n0_; have HO_286001 := n1_; have BK276 := n2_; have BK285 := n3_; have HB := n4_; clear n0_ n1_ n2_ n3_ n4_; (try clear hb); (try clear hb2); (try clear hk); (try clear hi); have hcz46_0 := bc0_ w45 BK285.out; have hcz46_1 := bc1_ w45 BK285.out; have hfz46_0 := blk_frozen BK285.out 0; have hfz46_1 := blk_frozen BK285.out 1; have hcz47_0 := bc0_ w45 BK276.out; have hcz47_1 := bc1_ w45 BK276.out; have hfz47_0 := blk_frozen BK276.out 0; have hfz47_1 := blk_frozen BK276.out 1))
        refine bodyPost_ret (results_ct rfl _ _ gb276 25 #[.slice Ao10 t281.length co10, .slice Ao44 x286001_1.length co44] (0, 0) _ rfl (by (with_reducible repeat (first | refine bN ?_ _|refine bW ?_|refine bA ?_ _)); refine blk_put (cs := #[.slice Ao10 t281.length co10, .slice none 0 0]) ?_ 1 _ rfl; (with_reducible repeat (first | refine bN ?_ _|refine bW ?_|refine bA ?_ _)); refine blk_put (cs := #[.slice none 0 0, .slice none 0 0]) ?_ 0 _ rfl; (with_reducible repeat (first | refine bN ?_ _|refine bW ?_|refine bA ?_ _)); exact BK276.out) Tryz.underlying25 rfl (z11_)) rfl ?_
        exact ⟨_, _, z6_, by (with_reducible repeat (first | apply rA|apply rN|apply rW)); exact Kd.R_mono (Kd.R_far (p := ⟨gb276, 1, none⟩) (Kd.R_far (p := ⟨gb276, 0, none⟩) (Kd.R_types HO_286000.out BK276.out (by decide)) (fun _ hk => hk.2) (.slice Ao10 t281.length co10)) (fun _ hk => hk.2) (.slice Ao44 x286001_1.length co44)) (fun _ hk => trivial), by (with_reducible repeat (first | apply rA|apply rN|apply rW)); exact Kd.R_mono (Kd.R_far (p := ⟨gb276, 1, none⟩) (Kd.R_far (p := ⟨gb276, 0, none⟩) (Kd.R_types HO_286001.out BK276.out (by decide)) (fun _ hk => hk.2) (.slice Ao10 t281.length co10)) (fun _ hk => hk.2) (.slice Ao44 x286001_1.length co44)) (fun _ hk => trivial), z19_⟩
       ·rw [if_neg c41] at H
        have c41b0 : (t302.toList == a0.toList) = false := beq_eq_false_iff_ne.mpr c41
        have c41b1 : (t302.toList != a0.toList) = true := bne_iff_ne.mpr c41
        simp only [Option.some.injEq, Prod.mk.injEq] at H
        obtain ⟨rfl, rfl, rfl⟩ := H
        have hnb48 := NB285_276.out
        have hnc48 := NB276_285.out
        have hcz49_0 := bc0_ wr BK285.out
        have hcz49_1 := bc1_ wr BK285.out
        have hfz49_0 := blk_frozen BK285.out 0
        have hfz49_1 := blk_frozen BK285.out 1
        obtain ⟨Ao50, co50, eo50⟩ := Kd.R_slice HO_286001.out
        subst eo50
        go_wp2_with (first | (go_at_call 13; (with_reducible refine (impl_NetworkText.calls k1 _ _ t281 _ _ x286001_1 t302 _ ?side1 ?side2 ?side3 ?side4 ?sideT A40.out).mono ?_); (case sideT => exact HT.out.now (z61_)); (case side1 => repeat (first | exact (Kd.R_reads' HO_286000.out).2.2 | (with_reducible first|refine Kd.C_alloc ?_ _|refine Kd.C_drewN ?_ _|refine Kd.C_drew ?_))); (case side2 => exact (Kd.R_reads' HO_286000.out).2.1); (case side3 => repeat (first | exact (Kd.R_reads' HO_286001.out).2.2 | (with_reducible first|refine Kd.C_alloc ?_ _|refine Kd.C_drewN ?_ _|refine Kd.C_drew ?_))); (case side4 => exact (Kd.R_reads' HO_286001.out).2.1); rintro e w51 ⟨rfl, hb⟩; have n0_ := Aside0.mk (Kd.R_below (z113_) hb); have n1_ := Aside0.mk (Kd.R_below (z114_) hb); have n2_ := Aside0.mk (blk_below (g := gb276) (o := .cells #[.slice none 0 0, .slice none 0 0] 25 (0, 0)) (z32_) hb); have n3_ := Aside0.mk (blk_below (g := gb285) (o := .cells #[.slice Ao10 t281.length co10, .slice Ao50 x286001_1.length co50] 25 (0, 0)) (z55_) hb); have n4_ := Aside0.mk (below_step (z19_) hb); clear HO_286000; clear HO_286001; clear BK276; clear BK285; clear HB; have HO_286000 := n0_; have HO_286001 := n1_; have BK276 := n2_; have BK285 := n3_; have HB := n4_; clear n0_ n1_ n2_ n3_ n4_; (try clear hb); (try clear hb2); (try clear hk); (try clear hi); have hcz52_0 := bc0_ w51 BK276.out; have hcz52_1 := bc1_ w51 BK276.out; have hfz52_0 := blk_frozen BK276.out 0; have hfz52_1 := blk_frozen BK276.out 1))
        refine bodyPost_ret (results_ct rfl _ _ gb276 25 #[.slice none 0 0, .slice none 0 0] (0, 0) _ rfl (z74_) Tryz.underlying25 rfl (z11_)) rfl ?_
        exact ⟨_, _, z6_, z14_, z14_, z19_⟩
      ·replace c39 := Bool.eq_false_iff.mpr c39
       subst c39
       rw [if_neg (show ¬ (false = true) by decide)] at H
       simp only [Option.some.injEq, Prod.mk.injEq] at H
       obtain ⟨rfl, rfl, rfl⟩ := H
       have hnb53 := NB276_285.out
       have hnc53 := NB285_276.out
       have hcz54_0 := bc0_ wr BK276.out
       have hcz54_1 := bc1_ wr BK276.out
       have hfz54_0 := blk_frozen BK276.out 0
       have hfz54_1 := blk_frozen BK276.out 1
       go_wp2
       refine bodyPost_ret (results_ct rfl _ _ gb276 25 #[.slice none 0 0, .slice none 0 0] (0, 0) _ rfl (z74_) Tryz.underlying25 rfl (z11_)) rfl ?_
       exact ⟨_, _, z6_, z14_, z14_, z19_⟩
  ·rw [if_neg c5] at H
   exact absurd H (by simp)
 ·rw [if_neg c3] at H
  exact absurd H (by simp)

/-! ### laws_eqInt64S: function 14 -/
def laws_eqInt64S.l0 : Nat → List Int → List Int → Int → Option (Bool)
 | 0, _, _, _ => none
 | k + 1, x0, x1, x5 => if x5 < (x0.length : Int) then (if 0 ≤ x5 then (if x5 < (x1.length : Int) then (if (rd x0 x5) = (rd x1 x5) then (laws_eqInt64S.l0 k x0 x1 (wrap64 (x5 + 1))) else (some false)) else (none)) else (none)) else (some true)
def laws_eqInt64S.f (k : Nat) (l0 : List Int) (l1 : List Int) : Option (Bool) := if (l0.length : Int) = (l1.length : Int) then (laws_eqInt64S.l0 k l0 l1 0) else (some false)
theorem laws_eqInt64S.mono_l : ∀ k, (∀ y0 y1 y2, LeO (laws_eqInt64S.l0 k y0 y1 y2) (laws_eqInt64S.l0 (k + 1) y0 y1 y2))
 | 0 => fun _ _ _ r h => by simp [laws_eqInt64S.l0] at h
 | k + 1 => by
  have ih0 := laws_eqInt64S.mono_l k
  ·intro y0 y1 y2
   unfold laws_eqInt64S.l0
   repeat' first|(with_reducible first|exact ih0 _ _ _|exact LeO.refl _|exact LeO.none _|refine LeO.ite ?_ ?_|refine LeO.bind ?_ (fun _ => ?_))|exact ih0 _ _ _|exact LeO.none _|refine LeO.ite ?_ ?_|refine LeO.bind ?_ (fun _ => ?_)
theorem laws_eqInt64S.mono : ∀ a0 a1 k, LeO (laws_eqInt64S.f k a0 a1) (laws_eqInt64S.f (k + 1) a0 a1) := by
 intro a0 a1 k
 have ih0 := laws_eqInt64S.mono_l k
 unfold laws_eqInt64S.f
 repeat' first|(with_reducible first|exact ih0 _ _ _|exact LeO.refl _|exact LeO.none _|refine LeO.ite ?_ ?_|refine LeO.bind ?_ (fun _ => ?_))|exact ih0 _ _ _|exact LeO.none _|refine LeO.ite ?_ ?_|refine LeO.bind ?_ (fun _ => ?_)
set_option maxHeartbeats 8000000 in
set_option maxRecDepth 100000 in
theorem laws_eqInt64S.calls (k : Nat) (A0 : Option Addr) (c0 : Nat) (l0 : List Int) (A1 : Option Addr) (c1 : Nat) (l1 : List Int) (r : Bool) (w : World) (hr0 : Kd.C (Kd.int .i64) w A0 l0.length l0) (hc0 : l0.length ≤ c0) (hr1 : Kd.C (Kd.int .i64) w A1 l1.length l1) (hc1 : l1.length ≤ c1) (h : laws_eqInt64S.f k l0 l1 = some r) :
  Calls Tryz.prog 14 #[.slice A0 l0.length c0, .slice A1 l1.length c1] w fun e w' => e = .returned (.bool r) ∧ Drawn0 w w' := by
 have HR0 := Aside0.mk hr0
 have HC0 := Aside0.mk hc0
 clear hr0 hc0
 have HR1 := Aside0.mk hr1
 have HC1 := Aside0.mk hc1
 clear hr1 hc1
 have H : (if (l0.length : Int) = (l1.length : Int) then (laws_eqInt64S.l0 k l0 l1 0) else (some false)) = some r := h
 clear h
 by_cases c3 : (l0.length : Int) = (l1.length : Int)
 ·rw [if_pos c3] at H
  have c3b0 : ((l0.length : Int) == (l1.length : Int)) = true := beq_iff_eq.mpr c3
  have c3b1 : ((l0.length : Int) != (l1.length : Int)) = false := bne_eq_false_iff_eq.mpr c3
  have c3b2 : (l0.length == l1.length) = true := by first | simpa using c3 | (simp at c3 ⊢; omega)
  clear c3
  have H' := Aside0.mk H
  clear H
  go_enter Tryz.func14, Tryz.ntmps14
  go_wp2
  repeat (go_quiet (fail); try go_wp2)
  go_loopg [5] k (fun kq v5 w' => ∃ (x5_1 : Int), v5 = .int .i64 x5_1 ∧ Aside0 (laws_eqInt64S.l0 kq l0 l1 x5_1 = some r) ∧ Aside0 (kq ≤ k) ∧ Drawn0 w w')
  case atStart => exact ⟨(0), (z7_), H', ⟨Nat.le_refl _⟩, z8_⟩
  case round =>
   clear H'
   try clear c1
   try clear p2
   try clear c3
   try clear c3b0
   try clear c3b1
   try clear c3b2
   obtain ⟨x5_1, rfl, HA, HK1, ⟨m1, rfl⟩⟩ := hrel
   cases gk with
   | zero => exact absurd HA.out (by simp [laws_eqInt64S.l0])
   | succ k1 =>
    have H := HA.out
    clear HA
    simp only [laws_eqInt64S.l0] at H
    by_cases c4 : x5_1 < (l0.length : Int)
    ·rw [if_pos c4] at H
     have c4b0 := decide_eq_true c4
     clear c4
     by_cases c5 : 0 ≤ x5_1
     ·rw [if_pos c5] at H
      have c5b0 := decide_eq_true c5
      clear c5
      by_cases c6 : x5_1 < (l1.length : Int)
      ·rw [if_pos c6] at H
       have c6b0 := decide_eq_true c6
       clear c6
       by_cases c7 : (rd l0 x5_1) = (rd l1 x5_1)
       ·rw [if_pos c7] at H
        have c7b0 : ((rd l0 x5_1) == (rd l1 x5_1)) = true := beq_iff_eq.mpr c7
        have c7b1 : ((rd l0 x5_1) != (rd l1 x5_1)) = false := bne_eq_false_iff_eq.mpr c7
        clear c7
        have H' := Aside0.mk H
        clear H
        have p303 : 0 ≤ (x5_1 : Int) := of_decide_eq_true (z2_)
        have q303 : x5_1 < (l0.length : Int) := of_decide_eq_true (z2_)
        obtain ⟨ad303, e303, hx303_0⟩ := Kd.at_int HR0.out x5_1 p303 q303
        cases e303
        replace p303 := eq_true p303
        replace q303 := eq_true q303
        have p304 : 0 ≤ (x5_1 : Int) := of_decide_eq_true (z2_)
        have q304 : x5_1 < (l1.length : Int) := of_decide_eq_true (z2_)
        obtain ⟨ad304, e304, hx304_0⟩ := Kd.at_int HR1.out x5_1 p304 q304
        cases e304
        replace p304 := eq_true p304
        replace q304 := eq_true q304
        go_wp2
        repeat (go_quiet (fail); try go_wp2)
        go_roundg k1
        case measure => have := HK1.out; omega
        case rel => exact ⟨(wrap64 (x5_1 + 1)), (z7_), H', ⟨z117_⟩, z8_⟩
       ·rw [if_neg c7] at H
        have c7b0 : ((rd l0 x5_1) == (rd l1 x5_1)) = false := beq_eq_false_iff_ne.mpr c7
        have c7b1 : ((rd l0 x5_1) != (rd l1 x5_1)) = true := bne_iff_ne.mpr c7
        obtain rfl := Option.some.inj H
        have p303 : 0 ≤ (x5_1 : Int) := of_decide_eq_true (z2_)
        have q303 : x5_1 < (l0.length : Int) := of_decide_eq_true (z2_)
        obtain ⟨ad303, e303, hx303_0⟩ := Kd.at_int HR0.out x5_1 p303 q303
        cases e303
        replace p303 := eq_true p303
        replace q303 := eq_true q303
        have p304 : 0 ≤ (x5_1 : Int) := of_decide_eq_true (z2_)
        have q304 : x5_1 < (l1.length : Int) := of_decide_eq_true (z2_)
        obtain ⟨ad304, e304, hx304_0⟩ := Kd.at_int HR1.out x5_1 p304 q304
        cases e304
        replace p304 := eq_true p304
        replace q304 := eq_true q304
        go_wp2
        repeat (go_quiet (fail); try go_wp2)
        go_ret
        exact ⟨z7_, z8_⟩
      ·rw [if_neg c6] at H
       exact absurd H (by simp)
     ·rw [if_neg c5] at H
      exact absurd H (by simp)
    ·rw [if_neg c4] at H
     have c4b0 := decide_eq_false c4
     clear c4
     obtain rfl := Option.some.inj H
     go_wp2
     repeat (go_quiet (fail); try go_wp2)
     go_ret
     exact ⟨z7_, z8_⟩
 ·rw [if_neg c3] at H
  have c3b0 : ((l0.length : Int) == (l1.length : Int)) = false := beq_eq_false_iff_ne.mpr c3
  have c3b1 : ((l0.length : Int) != (l1.length : Int)) = true := bne_iff_ne.mpr c3
  have c3b2 : (l0.length == l1.length) = false := by first | simpa using c3 | (simp at c3 ⊢; omega)
  obtain rfl := Option.some.inj H
  go_enter Tryz.func14, Tryz.ntmps14
  go_wp2
  repeat (go_quiet (fail); try go_wp2)
  go_ret
  exact ⟨z7_, z8_⟩

open Go.Proofs.YtabgkdejpkpejaaGreatDoorM
def laws_eqInt64S_.f (l0 l1 : List Int) : Option Bool := if l0.length ≤ 4611686018427387904 then some (decide (l0 = l1)) else none
theorem eq_loop (l m : List Int) (he : l.length = m.length) (hl : l.length ≤ 4611686018427387904) : ∀ (d k : Nat) (i : Nat), i ≤ l.length → l.length - i = d → d < k → laws_eqInt64S.l0 k l m (i : Int) = some (decide (l.drop i = m.drop i)) := by
  intro d
  induction d with
  | zero =>
    intro k i h1 hd hk
    obtain ⟨k, rfl⟩ : ∃ m, k = m + 1 := ⟨k - 1, by omega⟩
    simp only [laws_eqInt64S.l0]; rw [if_neg (by omega), List.drop_of_length_le (by omega), List.drop_of_length_le (by omega)]; simp
  | succ d ih =>
    intro k i h1 hd hk
    obtain ⟨k, rfl⟩ : ∃ m, k = m + 1 := ⟨k - 1, by omega⟩
    simp only [laws_eqInt64S.l0]
    rw [if_pos (by omega), if_pos (by omega), if_pos (by omega), w64 (x := (i : Int) + 1) (by omega) (by omega)]
    have e1 : rd l (i : Int) = l[i]'(by omega) := by unfold rd; rw [Int.toNat_natCast, List.getD_eq_getElem?_getD, List.getElem?_eq_getElem (by omega)]; rfl
    have e2 : rd m (i : Int) = m[i]'(by omega) := by unfold rd; rw [Int.toNat_natCast, List.getD_eq_getElem?_getD, List.getElem?_eq_getElem (by omega)]; rfl
    have d1 : l.drop i = l[i]'(by omega) :: l.drop (i + 1) := List.drop_eq_getElem_cons (by omega)
    have d2 : m.drop i = m[i]'(by omega) :: m.drop (i + 1) := List.drop_eq_getElem_cons (by omega)
    rw [e1, e2, d1, d2, show (i : Int) + 1 = ((i + 1 : Nat) : Int) by omega, ih k (i + 1) (by omega) (by omega) (by omega)]
    by_cases c : l[i]'(by omega) = m[i]'(by omega)
    · rw [if_pos c, c]; congr 1; exact decide_eq_decide.2 ⟨fun h => by rw [h], fun h => (List.cons.inj h).2⟩
    · rw [if_neg c, decide_eq_false (fun h => c (List.cons.inj h).1)]
theorem laws_eqInt64S_.same (l m : List Int) (hl : l.length ≤ 4611686018427387904) : laws_eqInt64S.f (l.length + 1) l m = some (decide (l = m)) := by
  unfold laws_eqInt64S.f
  by_cases he : l.length = m.length
  · rw [if_pos (by omega)]
    exact eq_loop l m he hl l.length (l.length + 1) 0 (by omega) (by omega) (by omega)
  · rw [if_neg (by omega), decide_eq_false (fun h => he (by rw [h]))]
theorem laws_eqInt64S_.calls (A0 : Option Addr) (c0 : Nat) (l0 : List Int) (A1 : Option Addr) (c1 : Nat) (l1 : List Int) (r : Bool) (w : World) (hr0 : Kd.C (Kd.int .i64) w A0 l0.length l0) (hc0 : l0.length ≤ c0) (hr1 : Kd.C (Kd.int .i64) w A1 l1.length l1) (hc1 : l1.length ≤ c1) (h : laws_eqInt64S_.f l0 l1 = some r) :
    Calls Tryz.prog 14 #[.slice A0 l0.length c0, .slice A1 l1.length c1] w fun e w' => e = .returned (.bool r) ∧ Drawn0 w w' := by
  unfold laws_eqInt64S_.f at h
  split at h
  · rename_i hl
    exact laws_eqInt64S.calls (l0.length + 1) A0 c0 l0 A1 c1 l1 r w hr0 hc0 hr1 hc1 (by rw [← h]; exact laws_eqInt64S_.same l0 l1 hl)
  · exact absurd h (by simp)


/-! ### laws_eqPipe: function 31 -/
open Go.Proofs.YtabgkdejpkpejaaGreatDoorM
def laws_eqPipe.f (a0_0 : ByteArray) (a0_1 a0_2 a0_3 a0_4 a0_5 : Int) (a1_0 : ByteArray) (a1_1 a1_2 a1_3 a1_4 a1_5 : Int) : Option Bool := if a0_0.toList = a1_0.toList then (if a0_1 = a1_1 then (if a0_2 = a1_2 then (if a0_3 = a1_3 then (if a0_4 = a1_4 then (if a0_5 = a1_5 then (some true) else (some false)) else (some false)) else (some false)) else (some false)) else (some false)) else (some false)
theorem if2 {p : Prop} [Decidable p] {r : Bool} {x : Option Bool} (h : (if p then x else some false) = some r) : (p ∧ x = some r) ∨ (¬ p ∧ false = r) := by
  by_cases c : p
  · rw [if_pos c] at h; exact .inl ⟨c, h⟩
  · rw [if_neg c] at h; exact .inr ⟨c, Option.some.inj h⟩
set_option maxHeartbeats 4000000 in
set_option maxRecDepth 100000 in
theorem laws_eqPipe.calls (a0_0 : ByteArray) (a0_1 : Int) (a0_2 : Int) (a0_3 : Int) (a0_4 : Int) (a0_5 : Int) (a1_0 : ByteArray) (a1_1 : Int) (a1_2 : Int) (a1_3 : Int) (a1_4 : Int) (a1_5 : Int) (r : Bool) (w : World) (h : laws_eqPipe.f a0_0 a0_1 a0_2 a0_3 a0_4 a0_5 a1_0 a1_1 a1_2 a1_3 a1_4 a1_5 = some r) :
    Calls Tryz.prog 31 #[.agg #[.string a0_0, .int .i64 a0_1, .int .i64 a0_2, .int .i64 a0_3, .int .i64 a0_4, .int .i64 a0_5], .agg #[.string a1_0, .int .i64 a1_1, .int .i64 a1_2, .int .i64 a1_3, .int .i64 a1_4, .int .i64 a1_5]] w fun e w' => e = .returned (.bool r) ∧ Below w.heap.size w w' := by
  have hu := Tryz.underlying36
  unfold laws_eqPipe.f at h
  rcases if2 h with ⟨c0, h⟩ | ⟨c0, rfl⟩
  case inr =>
    have b0 : (a0_0.toList == a1_0.toList) = false := by simpa using c0
    have n0 : (a0_0.toList != a1_0.toList) = true := by simpa using c0
    clear c0 h
    go_enter Tryz.func31, Tryz.ntmps31
    go_wp2
    go_ret
    exact ⟨rfl, z81_⟩
  have b0 : (a0_0.toList == a1_0.toList) = true := by simpa using c0
  have n0 : (a0_0.toList != a1_0.toList) = false := by simpa using c0
  clear c0
  rcases if2 h with ⟨c1, h⟩ | ⟨c1, rfl⟩
  case inr =>
    have b1 : (a0_1 == a1_1) = false := by simpa using c1
    have n1 : (a0_1 != a1_1) = true := by simpa using c1
    clear c1 h
    go_enter Tryz.func31, Tryz.ntmps31
    go_wp2
    go_ret
    exact ⟨rfl, z81_⟩
  have b1 : (a0_1 == a1_1) = true := by simpa using c1
  have n1 : (a0_1 != a1_1) = false := by simpa using c1
  clear c1
  rcases if2 h with ⟨c2, h⟩ | ⟨c2, rfl⟩
  case inr =>
    have b2 : (a0_2 == a1_2) = false := by simpa using c2
    have n2 : (a0_2 != a1_2) = true := by simpa using c2
    clear c2 h
    go_enter Tryz.func31, Tryz.ntmps31
    go_wp2
    go_ret
    exact ⟨rfl, z81_⟩
  have b2 : (a0_2 == a1_2) = true := by simpa using c2
  have n2 : (a0_2 != a1_2) = false := by simpa using c2
  clear c2
  rcases if2 h with ⟨c3, h⟩ | ⟨c3, rfl⟩
  case inr =>
    have b3 : (a0_3 == a1_3) = false := by simpa using c3
    have n3 : (a0_3 != a1_3) = true := by simpa using c3
    clear c3 h
    go_enter Tryz.func31, Tryz.ntmps31
    go_wp2
    go_ret
    exact ⟨rfl, z81_⟩
  have b3 : (a0_3 == a1_3) = true := by simpa using c3
  have n3 : (a0_3 != a1_3) = false := by simpa using c3
  clear c3
  rcases if2 h with ⟨c4, h⟩ | ⟨c4, rfl⟩
  case inr =>
    have b4 : (a0_4 == a1_4) = false := by simpa using c4
    have n4 : (a0_4 != a1_4) = true := by simpa using c4
    clear c4 h
    go_enter Tryz.func31, Tryz.ntmps31
    go_wp2
    go_ret
    exact ⟨rfl, z81_⟩
  have b4 : (a0_4 == a1_4) = true := by simpa using c4
  have n4 : (a0_4 != a1_4) = false := by simpa using c4
  clear c4
  rcases if2 h with ⟨c5, h⟩ | ⟨c5, rfl⟩
  case inr =>
    have b5 : (a0_5 == a1_5) = false := by simpa using c5
    have n5 : (a0_5 != a1_5) = true := by simpa using c5
    clear c5 h
    go_enter Tryz.func31, Tryz.ntmps31
    go_wp2
    go_ret
    exact ⟨rfl, z81_⟩
  have b5 : (a0_5 == a1_5) = true := by simpa using c5
  have n5 : (a0_5 != a1_5) = false := by simpa using c5
  clear c5
  obtain rfl := Option.some.inj h
  clear h
  go_enter Tryz.func31, Tryz.ntmps31
  go_wp2
  go_ret
  exact ⟨rfl, z81_⟩

end Go.Proofs.YtabgkdejpkpejaaGreatDoor.PFnExactReadNetwork
