-- Printed by a program of this session (wip/hprint.sh: the kit's print with hand-proved contracts put in); not by print.sh itself.
import Derived.Test.YtnmdcmfhjhgheaaPFnExactTreeFlowsx0
import Derived.Test.YtnmdcmfhjhgheaaPFnExactTreeFlowsx5
namespace Go.Proofs.Ytnmdcmfhjhgheaa.PFnExactTreeFlows
open Go.RowKit Go.Proofs.YtnmdcmfhjhgheaaW.PrintWords Go.Proofs.YtnmdcmfhjhgheaaW.PrintLast Go.Proofs.YtnmdcmfhjhgheaaW.PrintMore Go.Proofs.YtnmdcmfhjhgheaaM
attribute [local go_sem] max2_int min2_int max_two min_two max_three min_three max_four min_four   -- for this text's walks alone
set_option linter.unusedVariables false
set_option linter.unusedSimpArgs false

/-! ### laws_toNetwork: function 10 -/
def laws_toNetwork.f (l0_0 : List Int) (l0_1 : List (S68)) : Option (List Int × (List (S73))) := (laws_toInt64S_.f l0_0).bind fun t247 => ((laws_toPipeS_.f l0_1).bind fun t250 => (some (t247, t250)))
set_option maxHeartbeats 8000000 in
set_option maxRecDepth 100000 in
theorem laws_toNetwork.calls (A0_0 : Option Addr) (c0_0 : Nat) (l0_0 : List Int) (A0_1 : Option Addr) (c0_1 : Nat) (l0_1 : List (S68)) (r1 : List Int) (r2 : List (S73)) (w : World) (hr0_0 : Kd.C (Kd.int .i64) w A0_0 l0_0.length l0_0) (hc0_0 : l0_0.length ≤ c0_0) (hr0_1 : Kd.C k68 w A0_1 l0_1.length l0_1) (hc0_1 : l0_1.length ≤ c0_1) (h : laws_toNetwork.f l0_0 l0_1 = some (r1, r2)) :
  Calls Try.prog 10 #[.agg #[.slice A0_0 l0_0.length c0_0, .slice A0_1 l0_1.length c0_1]] w fun e w' => ∃ v0_ v1_ : Value, e = .returned (.agg #[v0_, v1_]) ∧ Kd.R (Kd.int .i64) 2 w' w.heap.size (fun _ => True) v0_ r1 ∧ Kd.R k73 73 w' w.heap.size (fun _ => True) v1_ r2 ∧ Below w.heap.size w w' := by
 have hu25 := Try.underlying25
 have hu31 := Try.underlying31
 have HR0_0 := Aside0.mk hr0_0
 have HC0_0 := Aside0.mk hc0_0
 clear hr0_0 hc0_0
 have HR0_1 := Aside0.mk hr0_1
 have HC0_1 := Aside0.mk hc0_1
 clear hr0_1 hc0_1
 have HB := Aside0.mk (Below.refl w.heap.size w)
 unfold laws_toNetwork.f at h;have H := h;clear h
 replace H := Option.bind_eq_some_iff.mp H
 obtain ⟨t247, A20, H⟩ := H
 have A2 := Aside0.mk A20
 clear A20
 replace H := Option.bind_eq_some_iff.mp H
 obtain ⟨t250, A30, H⟩ := H
 have A3 := Aside0.mk A30
 clear A30
 simp only [Option.some.injEq, Prod.mk.injEq] at H
 obtain ⟨rfl, rfl⟩ := H
 go_enter Try.func10, Try.ntmps10
 go_wp2_with (first | ((with_reducible refine gate_dst (N := 1) rfl ?_); refine box_event ?hg (N := 1) ?hd (cs := #[.slice A0_0 l0_0.length c0_0, .slice A0_1 l0_1.length c0_1]) (t := 25) ?hr ?_; (case hd => rfl); (case hg => rfl); (case hr => first | (go_simp; done) | (go_simp; rfl)); intro gb244 hg w4 hbox hb; have BK244 := Aside0.mk (hbox); have GW244 := Aside0.mk ((z3_ : w.heap.size ≤ gb244)); have GE244 := Aside0.mk ((z3_ : w.heap.size ≤ gb244)); replace HB := Aside0.mk (below_step (z2_) hb); clear hb hbox hg) | ((with_reducible refine gate_dst (N := 2) rfl ?_); refine box_event ?hg (N := 2) ?hd (cs := #[.slice none 0 0, .slice none 0 0]) (t := 31) ?hr ?_; (case hd => rfl); (case hg => rfl); (case hr => first | (go_simp; done) | (go_simp; rfl)); intro gb245 hg w5 hbox hb; have BK245 := Aside0.mk (hbox); have GW245 := Aside0.mk ((z188_ : w.heap.size ≤ gb245)); have GE245 := Aside0.mk ((z188_ : w.heap.size ≤ gb245)); replace HB := Aside0.mk (below_step (z162_) hb); have NB244_245 := Aside0.mk ((z141_ : gb244 ≠ gb245)); have NB245_244 := Aside0.mk ((z142_ : gb245 ≠ gb244)); replace BK244 := Aside0.mk (blk_below (g := gb244) (o := .cells #[.slice A0_0 l0_0.length c0_0, .slice A0_1 l0_1.length c0_1] 25 (0, 0)) (z110_) hb); clear hb hbox hg) | ((with_reducible refine gate_dst (N := 3) rfl ?_); refine box_event ?hg (N := 3) ?hd (cs := #[.slice none 0 0, .slice none 0 0]) (t := 31) ?hr ?_; (case hd => rfl); (case hg => rfl); (case hr => first | (go_simp; done) | (go_simp; rfl)); intro gb246 hg w6 hbox hb; have BK246 := Aside0.mk (hbox); have GW246 := Aside0.mk ((z168_ : w.heap.size ≤ gb246)); have GE246 := Aside0.mk ((z168_ : w.heap.size ≤ gb246)); replace HB := Aside0.mk (below_step (z150_) hb); have NB244_246 := Aside0.mk ((z141_ : gb244 ≠ gb246)); have NB246_244 := Aside0.mk ((z142_ : gb246 ≠ gb244)); replace BK244 := Aside0.mk (blk_below (g := gb244) (o := .cells #[.slice A0_0 l0_0.length c0_0, .slice A0_1 l0_1.length c0_1] 25 (0, 0)) (z110_) hb); have NB245_246 := Aside0.mk ((by rw [hg]; exact Nat.ne_of_lt (blk_lt (g := gb245) (o := .cells #[.slice none 0 0, .slice none 0 0] 31 (0, 0)) (z159_)) : gb245 ≠ gb246)); have NB246_245 := Aside0.mk ((by rw [hg]; exact Nat.ne_of_gt (blk_lt (g := gb245) (o := .cells #[.slice none 0 0, .slice none 0 0] 31 (0, 0)) (z159_)) : gb246 ≠ gb245)); replace BK245 := Aside0.mk (blk_below (g := gb245) (o := .cells #[.slice none 0 0, .slice none 0 0] 31 (0, 0)) (z159_) hb); clear hb hbox hg; have hnb7 := NB244_245.out; have hnc7 := NB245_244.out; have hnb8 := NB244_246.out; have hnc8 := NB246_244.out; obtain ⟨hcz9_0,hcz9_1,hfz9_0,hfz9_1⟩ := bz2_ w6 BK244.out) | ((with_reducible refine gate_callee (f := 11) rfl ?_); refine goesL_ (some 6) rfl rfl Try.func11 (z14_) rfl #[.slice A0_0 l0_0.length c0_0] rfl (z1_) ?_; (with_reducible refine (laws_toInt64S_.calls _ _ l0_0 t247 _ ?side1 ?side2 A2.out).mono ?_); (case side1 => exact z223_); (case side2 => exact HC0_0.out); rintro e w10 ⟨v248, rfl, ho0, hb⟩; refine ⟨_, rfl, ?_⟩; have HO249 := Aside0.mk (Kd.R_lower ho0 (below_size (z61_))); replace BK244 := Aside0.mk (blk_below (g := gb244) (o := .cells #[.slice A0_0 l0_0.length c0_0, .slice A0_1 l0_1.length c0_1] 25 (0, 0)) (z110_) hb); replace BK245 := Aside0.mk (blk_below (g := gb245) (o := .cells #[.slice none 0 0, .slice none 0 0] 31 (0, 0)) (z159_) hb); replace BK246 := Aside0.mk (blk_below (g := gb246) (o := .cells #[.slice none 0 0, .slice none 0 0] 31 (0, 0)) (by (with_reducible repeat (first | refine bN ?_ _|refine bW ?_|refine bA ?_ _)); exact BK246.out) hb); replace HB := Aside0.mk (below_step (z61_) hb); (try clear hb); (try clear hk); (try clear ho0); obtain ⟨Ao11, co11, eo11⟩ := Kd.R_slice HO249.out; subst eo11; have hnb12 := NB246_245.out; have hnc12 := NB245_246.out; obtain ⟨hcz13_0,hcz13_1,hfz13_0,hfz13_1⟩ := bz2_ w10 BK246.out; obtain ⟨hcz14_0,hcz14_1,hfz14_0,hfz14_1⟩ := bz2_ w10 BK244.out) | ((with_reducible refine gate_callee (f := 30) rfl ?_); refine goesL_ (some 10) rfl rfl Try.func30 (z14_) rfl #[.slice A0_1 l0_1.length c0_1] rfl (z1_) ?_; (with_reducible refine (laws_toPipeS_.calls _ _ l0_1 t250 _ ?side1 ?side2 A3.out).mono ?_); (case side1 => exact Kd.C_below HR0_1.out (z61_)); (case side2 => exact HC0_1.out); rintro e w15 ⟨v251, rfl, ho0, hb⟩; refine ⟨_, rfl, ?_⟩; replace HO249 := Aside0.mk (Kd.R_below (by (with_reducible repeat (first | apply rA|apply rN|apply rW)); exact (Kd.R_mono (Kd.R_far (p := ⟨gb246, 0, none⟩) (Kd.R_types HO249.out BK246.out (by decide)) (fun _ hk => hk.2) (.slice Ao11 t247.length co11)) (fun _ h_ => h_.1))) hb); have HO252 := Aside0.mk (Kd.R_lower ho0 (below_size (z61_))); replace BK244 := Aside0.mk (blk_below (g := gb244) (o := .cells #[.slice A0_0 l0_0.length c0_0, .slice A0_1 l0_1.length c0_1] 25 (0, 0)) (by (with_reducible repeat (first | refine bN ?_ _|refine bW ?_|refine bA ?_ _)); refine blk_far ?_ NB244_246.out _; (with_reducible repeat (first | refine bN ?_ _|refine bW ?_|refine bA ?_ _)); exact BK244.out) hb); replace BK245 := Aside0.mk (blk_below (g := gb245) (o := .cells #[.slice none 0 0, .slice none 0 0] 31 (0, 0)) (by (with_reducible repeat (first | refine bN ?_ _|refine bW ?_|refine bA ?_ _)); refine blk_far ?_ NB245_246.out _; (with_reducible repeat (first | refine bN ?_ _|refine bW ?_|refine bA ?_ _)); exact BK245.out) hb); replace BK246 := Aside0.mk (blk_below (g := gb246) (o := .cells #[.slice Ao11 t247.length co11, .slice none 0 0] 31 (0, 0)) (by (with_reducible repeat (first | refine bN ?_ _|refine bW ?_|refine bA ?_ _)); refine blk_put (cs := #[.slice none 0 0, .slice none 0 0]) ?_ 0 _ rfl; (with_reducible repeat (first | refine bN ?_ _|refine bW ?_|refine bA ?_ _)); exact BK246.out) hb); replace HB := Aside0.mk (below_step (z61_) hb); (try clear hb); (try clear hk); (try clear ho0); obtain ⟨Ao16, co16, eo16⟩ := Kd.R_slice HO252.out; subst eo16; obtain ⟨hcz17_0,hcz17_1,hfz17_0,hfz17_1⟩ := bz2_ w15 BK246.out; obtain ⟨hcz18_0,hcz18_1,hfz18_0,hfz18_1⟩ := bz2_ w15 BK245.out))
 refine bodyPost_ret (results_cell_row rfl _ _ gb245 31 #[.slice Ao11 t247.length co11, .slice Ao16 t250.length co16] (0, 0) _ rfl (by (with_reducible repeat (first | refine bN ?_ _|refine bW ?_|refine bA ?_ _)); refine blk_put (cs := #[.slice Ao11 t247.length co11, .slice none 0 0]) ?_ 1 _ rfl; (with_reducible repeat (first | refine bN ?_ _|refine bW ?_|refine bA ?_ _)); refine blk_put (cs := #[.slice none 0 0, .slice none 0 0]) ?_ 0 _ rfl; (with_reducible repeat (first | refine bN ?_ _|refine bW ?_|refine bA ?_ _)); refine blk_far ?_ NB245_246.out _; (with_reducible repeat (first | refine bN ?_ _|refine bW ?_|refine bA ?_ _)); exact BK245.out) Try.underlying31 rfl (z14_)) rfl ?_
 exact ⟨_, _, z6_, by (with_reducible repeat (first | apply rA|apply rN|apply rW)); exact Kd.R_mono (Kd.R_far (p := ⟨gb245, 1, none⟩) (Kd.R_far (p := ⟨gb245, 0, none⟩) (Kd.R_far (p := ⟨gb246, 1, none⟩) (Kd.R_types (Kd.R_types HO249.out BK246.out (by decide)) BK245.out (by decide)) (fun _ hk => hk.1.2) (.slice Ao16 t250.length co16)) (fun _ hk => hk.2) (.slice Ao11 t247.length co11)) (fun _ hk => hk.2) (.slice Ao16 t250.length co16)) (fun _ hk => trivial), by (with_reducible repeat (first | apply rA|apply rN|apply rW)); exact Kd.R_mono (Kd.R_far (p := ⟨gb245, 1, none⟩) (Kd.R_far (p := ⟨gb245, 0, none⟩) (Kd.R_far (p := ⟨gb246, 1, none⟩) (Kd.R_types (Kd.R_types HO252.out BK246.out (by decide)) BK245.out (by decide)) (fun _ hk => hk.1.2) (.slice Ao16 t250.length co16)) (fun _ hk => hk.2) (.slice Ao11 t247.length co11)) (fun _ hk => hk.2) (.slice Ao16 t250.length co16)) (fun _ hk => trivial), z61_⟩


/-! ### slices_IndexFunc_int64_int64: function 87 -/
open Go.Proofs.YtnmdcmfhjhgheaaM
/-- Where the first element with a property lies; -1. -/
def firstIdx (p : Int → Bool) (l : List Int) : Int := if l.any p = true then (l.findIdx p : Nat) else -1
theorem firstIdx_at (p : Int → Bool) (l : List Int) (k : Nat) (hk : k < l.length) (h0 : ∀ j, j < k → p (l.getD j 0) = false) (h1 : p (l.getD k 0) = true) : firstIdx p l = k := by
  have e : ∀ j (h : j < l.length), l.getD j 0 = l[j] := fun j h => by simp [List.getD_eq_getElem?_getD, List.getElem?_eq_getElem h]
  unfold firstIdx
  rw [if_pos (List.any_eq_true.2 ⟨l[k], List.getElem_mem hk, by rw [← e k hk]; exact h1⟩)]
  congr 1
  refine (List.findIdx_eq hk).2 ⟨by rw [← e k hk]; exact h1, fun j hj => ?_⟩
  have := h0 j hj
  rw [e j (by omega)] at this
  simpa using this
theorem firstIdx_none (p : Int → Bool) (l : List Int) (h0 : ∀ j, j < l.length → p (l.getD j 0) = false) : firstIdx p l = -1 := by
  unfold firstIdx
  rw [if_neg]
  intro h
  obtain ⟨x, hx, hp⟩ := List.any_eq_true.1 h
  obtain ⟨j, hj, rfl⟩ := List.getElem_of_mem hx
  have := h0 j hj
  rw [List.getD_eq_getElem?_getD, List.getElem?_eq_getElem hj] at this
  simp only [Option.getD_some] at this
  rw [this] at hp
  cases hp
set_option maxHeartbeats 4000000 in
set_option maxRecDepth 100000 in
theorem indexFunc_any (g : Nat) (cb : Array Value) (A : Option Addr) (c : Nat) (l : List Int) (p : Int → Bool) (w : World) (eg : Enters Try.prog g) (hr : Kd.C (Kd.int .i64) w A l.length l) (hl : l.length ≤ 4611686018427387904)
    (hf : ∀ (W : World) (j : Nat), Below w.heap.size w W → j < l.length → Calls Try.prog g (#[.int .i64 (l.getD j 0)] ++ cb) W fun e w' => e = .returned (.bool (p (l.getD j 0))) ∧ Below W.heap.size W w') :
    Calls Try.prog 87 #[.slice A l.length c, .func (.func g) #[] cb] w fun e w' => e = .returned (.int .i64 (firstIdx p l)) ∧ Below w.heap.size w w' := by
  have HR := Aside0.mk hr
  have HF := Aside0.mk hf
  clear hr hf
  have eg' : ∀ args w, (callFunc g args).run Try.prog w = .ok (.enter g args) w := eg
  clear eg
  obtain ⟨r, hr0⟩ : ∃ r, firstIdx p l = r := ⟨_, rfl⟩
  rw [hr0]
  have R := Aside0.mk hr0
  clear hr0
  go_enter Try.func87, Try.ntmps87
  go_wp2
  go_loopw [8, 5] (fun v _ wr => ∃ k : Nat, k ≤ l.length ∧ v = .int .i64 k ∧ Aside0 (Below w.heap.size w wr) ∧ Aside0 (∀ j, j < k → p (l.getD j 0) = false)) (fun v _ _ => l.length - (intOf v).toNat)
  case atStart => exact ⟨0, by omega, rfl, ⟨Below.refl _ _⟩, ⟨fun j hj => by omega⟩⟩
  case round =>
    obtain ⟨k, hk, rfl, HB, I⟩ := hrel
    by_cases hlt : k < l.length
    · have hc := HF.out wr k HB.out hlt
      have i0 : (0 : Int) ≤ (k : Int) := by omega
      have i1 : (k : Int) < (l.length : Int) := by omega
      obtain ⟨ad, ead, hx⟩ := Kd.at_int (Kd.C_below HR.out HB.out) (k : Int) i0 i1
      cases ead
      have ex : rd l (k : Int) = l.getD k 0 := by unfold rd; rw [Int.toNat_natCast]
      rw [ex, Int.toNat_natCast] at hx
      clear ex
      cases hp : p (l.getD k 0) <;> rw [hp] at hc
      · have P0 := Aside0.mk hp
        clear hp
        generalize l.getD k 0 = x at hc hx
        go_wp2_with (go_at_fn g; refine hc.mono ?_; rintro e w' ⟨rfl, hb⟩)
        go_roundw
        case rel => exact ⟨k + 1, by omega, by go_num, ⟨below_then HB.out HB.out.size hb⟩, ⟨fun j hj => by
          by_cases e : j = k
          · subst e; exact P0.out
          · exact I.out j (by omega)⟩⟩
        case measure => simp [intOf]; omega
      · have P0 := Aside0.mk hp
        clear hp
        have E := Aside0.mk (firstIdx_at p l k hlt I.out P0.out)
        generalize l.getD k 0 = x at hc hx
        go_wp2_with (go_at_fn g; refine hc.mono ?_; rintro e w' ⟨rfl, hb⟩)
        go_ret
        exact ⟨by rw [← R.out, E.out]; rfl, below_then HB.out HB.out.size hb⟩
    · have E := Aside0.mk (firstIdx_none p l (fun j hj => I.out j (by omega)))
      go_wp2
      go_ret
      exact ⟨by rw [← R.out, E.out]; rfl, HB.out⟩


/-! ### slices_ContainsFunc_int64_int64: function 63 -/
theorem firstIdx_any (p : Int → Bool) (l : List Int) : decide (0 ≤ firstIdx p l) = l.any p := by
  unfold firstIdx
  cases h : l.any p
  · simp
  · simp
set_option maxHeartbeats 1000000 in
set_option maxRecDepth 100000 in
theorem containsFunc_any (g : Nat) (cb : Array Value) (A : Option Addr) (c : Nat) (l : List Int) (p : Int → Bool) (w : World) (eg : Enters Try.prog g) (hr : Kd.C (Kd.int .i64) w A l.length l) (hl : l.length ≤ 4611686018427387904)
    (hf : ∀ (W : World) (j : Nat), Below w.heap.size w W → j < l.length → Calls Try.prog g (#[.int .i64 (l.getD j 0)] ++ cb) W fun e w' => e = .returned (.bool (p (l.getD j 0))) ∧ Below W.heap.size W w') :
    Calls Try.prog 63 #[.slice A l.length c, .func (.func g) #[] cb] w fun e w' => e = .returned (.bool (l.any p)) ∧ Below w.heap.size w w' := by
  have hS := indexFunc_any g cb A c l p w eg hr hl hf
  have hd := firstIdx_any p l
  generalize firstIdx p l = k at hS hd
  have HS := Aside0.mk hS
  have HD := Aside0.mk hd
  clear hS hd hr hf eg
  rw [← HD.out]
  go_enter Try.func63, Try.ntmps63
  go_wp2_with (go_at_call 87; refine HS.out.mono ?_; rintro e w' ⟨rfl, hb⟩)
  go_ret
  exact ⟨rfl, hb⟩

/-! ### impl_within: function 65 -/
def impl_within.f (a0 : Int) (a1 : Int) (a2 : Int) : Option (Bool) := if a0 ≥ a1 then (some (decide (a0 ≤ a2))) else (some false)
set_option maxHeartbeats 8000000 in
set_option maxRecDepth 100000 in
theorem impl_within.calls (a0 : Int) (a1 : Int) (a2 : Int) (r : Bool) (w : World) (h : impl_within.f a0 a1 a2 = some r) :
  Calls Try.prog 65 #[.int .i64 a0, .int .i64 a1, .int .i64 a2] w fun e w' => e = .returned (.bool r) ∧ Drawn0 w w' := by
 unfold impl_within.f at h;have H := h;clear h
 by_cases c4 : a0 ≥ a1
 ·(rw [if_pos c4] at H);have c4b0 : decide (a1 ≤ a0) = true := decide_eq_true c4;clear c4;obtain rfl := Option.some.inj H;go_enter Try.func65, Try.ntmps65;go_wp2;go_ret;exact ⟨z8_, z11_⟩
 ·(rw [if_neg c4] at H);have c4b0 : decide (a1 ≤ a0) = false := decide_eq_false c4;clear c4;obtain rfl := Option.some.inj H;go_enter Try.func65, Try.ntmps65;go_wp2;go_ret;exact ⟨z8_, z11_⟩

open Go.Proofs.YtnmdcmfhjhgheaaM
def impl_within_.f (a0 a1 a2 : Int) : Option Bool := some (decide (a1 ≤ a0 ∧ a0 ≤ a2))
theorem impl_within_.calls (a0 a1 a2 : Int) (r : Bool) (w : World) (h : impl_within_.f a0 a1 a2 = some r) :
    Calls Try.prog 65 #[.int .i64 a0, .int .i64 a1, .int .i64 a2] w fun e w' => e = .returned (.bool r) ∧ Drawn0 w w' :=
  impl_within.calls a0 a1 a2 r w ((in_both a0 a1 a2).trans h)


/-! ### impl_allWithin: function 33 -/
open Go.Proofs.YtnmdcmfhjhgheaaM
def allIn (lo hi : Int) (l : List Int) : Bool := l.all fun x => decide (lo ≤ x ∧ x ≤ hi)
def impl_allWithin.f (l0 : List Int) (a1 a2 : Int) : Option Bool := if l0.length ≤ 4611686018427387904 then some (allIn a1 a2 l0) else none
set_option maxHeartbeats 1000000 in
set_option maxRecDepth 100000 in
theorem allWithin_closure (B0 B1 : Nat) (lo hi x : Int) (W : World) (c0 : W.cell? ⟨B0, 0, none⟩ = some (.int .i64 lo)) (c1 : W.cell? ⟨B1, 0, none⟩ = some (.int .i64 hi)) :
    Calls Try.prog 64 (#[.int .i64 x] ++ #[.pointer (some ⟨B0, 0, none⟩), .pointer (some ⟨B1, 0, none⟩)]) W fun e w' => e = .returned (.bool (!decide (lo ≤ x ∧ x ≤ hi))) ∧ Below W.heap.size W w' := by
  have E : Aside0 (impl_within_.f x lo hi = some (decide (lo ≤ x ∧ x ≤ hi))) := ⟨rfl⟩
  generalize decide (lo ≤ x ∧ x ≤ hi) = b at E
  go_enter Try.func64, Try.ntmps64
  go_wp2_with (go_at_call 65; (with_reducible refine (impl_within_.calls x lo hi b _ E.out).mono ?_); rintro e w' ⟨rfl, ⟨nd, rfl⟩⟩)
  go_ret
  exact ⟨rfl, z176_⟩
theorem all_not_any (lo hi : Int) (l : List Int) : (!(l.any fun x => !decide (lo ≤ x ∧ x ≤ hi))) = allIn lo hi l := by
  unfold allIn
  induction l with
  | nil => rfl
  | cons a l ih => simp only [List.any_cons, List.all_cons, Bool.not_or, Bool.not_not, ih]
set_option maxHeartbeats 1000000 in
set_option maxRecDepth 100000 in
theorem impl_allWithin.calls (A0 : Option Addr) (c0 : Nat) (l0 : List Int) (a1 a2 : Int) (r : Bool) (w : World) (hr0 : Kd.C (Kd.int .i64) w A0 l0.length l0) (hc0 : l0.length ≤ c0) (h : impl_allWithin.f l0 a1 a2 = some r) :
    Calls Try.prog 33 #[.slice A0 l0.length c0, .int .i64 a1, .int .i64 a2] w fun e w' => e = .returned (.bool r) ∧ Below w.heap.size w w' := by
  unfold impl_allWithin.f at h
  split at h
  · rename_i hl
    have hb1 := below_alloc (Below.refl w.heap.size w) (.cells #[.int .i64 a1] 2);have hb2 := below_alloc hb1 (.cells #[.int .i64 a2] 2);have d0 : ((w.alloc (.cells #[.int .i64 a1] 2)).alloc (.cells #[.int .i64 a2] 2)).cell? ⟨w.heap.size, 0, none⟩ = some (.int .i64 a1) := cell_kept _ (cell_new1 w _ _);(have d1 : ((w.alloc (.cells #[.int .i64 a1] 2)).alloc (.cells #[.int .i64 a2] 2)).cell? ⟨w.heap.size + 1, 0, none⟩ = some (.int .i64 a2) := by have := cell_new1 (w.alloc (.cells #[.int .i64 a1] 2)) (.int .i64 a2) 2; rwa [World.size_alloc] at this);(have hs : ((w.alloc (.cells #[.int .i64 a1] 2)).alloc (.cells #[.int .i64 a2] 2)).heap.size = w.heap.size + 1 + 1 := by simp)
    have hS := containsFunc_any 64 #[.pointer (some ⟨w.heap.size, 0, none⟩), .pointer (some ⟨w.heap.size + 1, 0, none⟩)] A0 c0 l0 (fun x => !decide (a1 ≤ x ∧ x ≤ a2)) _ (enters_of Try.func64 (z14_) rfl) (Kd.C_below hr0 hb2) hl
      (fun W j hb hj => allWithin_closure w.heap.size (w.heap.size + 1) a1 a2 _ W ((hb.cell (p := ⟨w.heap.size, 0, none⟩) (by rw [hs]; show w.heap.size < _; omega)).trans d0) ((hb.cell (p := ⟨w.heap.size + 1, 0, none⟩) (by rw [hs]; show w.heap.size + 1 < _; omega)).trans d1))
    (have ha : (!(l0.any fun x => !decide (a1 ≤ x ∧ x ≤ a2))) = r := by rw [all_not_any]; exact Option.some.inj h);(generalize (l0.any fun x => !decide (a1 ≤ x ∧ x ≤ a2)) = b at hS ha);subst ha;have HS := Aside0.mk hS;have HB := Aside0.mk hb2;clear hS hb1 hb2 d0 d1 hs h hl hr0 hc0;go_enter Try.func33, Try.ntmps33
    go_wp2_with (go_at_call 63; refine HS.out.mono ?_; rintro e w' ⟨rfl, hb⟩)
    go_ret;exact ⟨rfl, below_then HB.out HB.out.size hb⟩
  · exact absurd h (by simp)

/-! ### impl_onlyNameBytes: function 98 -/
def impl_onlyNameBytes.l0 : Nat → ByteArray → Int → Int → Option (Bool)
 | 0, _, _, _ => none
 | k + 1, x0, x6, x7 => if x7 < x6 then (if 0 ≤ x7 then (if x7 < (x0.size : Int) then (if (bt x0 x7) < 97 then (if (bt x0 x7) < 48 then (some false) else (if (bt x0 x7) > 57 then (some false) else (impl_onlyNameBytes.l0 k x0 x6 (wrap64 (x7 + 1))))) else (if (bt x0 x7) > 122 then (if (bt x0 x7) < 48 then (some false) else (if (bt x0 x7) > 57 then (some false) else (impl_onlyNameBytes.l0 k x0 x6 (wrap64 (x7 + 1))))) else (impl_onlyNameBytes.l0 k x0 x6 (wrap64 (x7 + 1))))) else (none)) else (none)) else (some true)
def impl_onlyNameBytes.f (k : Nat) (a0 : ByteArray) : Option (Bool) := impl_onlyNameBytes.l0 k a0 (a0.size : Int) 0
theorem impl_onlyNameBytes.mono_l : ∀ k, (∀ y0 y1 y2, LeO (impl_onlyNameBytes.l0 k y0 y1 y2) (impl_onlyNameBytes.l0 (k + 1) y0 y1 y2))
 | 0 => fun _ _ _ r h => by simp [impl_onlyNameBytes.l0] at h
 | k + 1 => by
  have ih0 := impl_onlyNameBytes.mono_l k
  ·intro y0 y1 y2
   unfold impl_onlyNameBytes.l0
   exact z244_
theorem impl_onlyNameBytes.mono : ∀ a0 k, LeO (impl_onlyNameBytes.f k a0) (impl_onlyNameBytes.f (k + 1) a0) := by
 intro a0 k
 have ih0 := impl_onlyNameBytes.mono_l k
 unfold impl_onlyNameBytes.f
 exact z244_
set_option maxHeartbeats 8000000 in
set_option maxRecDepth 100000 in
theorem impl_onlyNameBytes.calls (k : Nat) (a0 : ByteArray) (r : Bool) (w : World) (h : impl_onlyNameBytes.f k a0 = some r) :
  Calls Try.prog 98 #[.string a0] w fun e w' => e = .returned (.bool r) ∧ Drawn0 w w' := by
 unfold impl_onlyNameBytes.f at h;have H := h;clear h
 have H' := Aside0.mk H
 clear H
 go_enter Try.func98, Try.ntmps98
 go_wp2
 go_loopg [7] k (fun kq v7 w' => ∃ (x7_1 : Int), v7 = .int .i64 x7_1 ∧ Aside0 (impl_onlyNameBytes.l0 kq a0 (a0.size : Int) x7_1 = some r) ∧ Aside0 (kq ≤ k) ∧ Drawn0 w w')
 case atStart => exact ⟨(0), (z8_), H', ⟨Nat.le_refl _⟩, z11_⟩
 case round =>
  clear H';obtain ⟨x7_1, rfl, HA, HK1, ⟨m1, rfl⟩⟩ := hrel
  cases gk with
  | zero => exact absurd HA.out (by simp [impl_onlyNameBytes.l0])
  | succ k1 =>
   have H := HA.out;clear HA;(simp only [impl_onlyNameBytes.l0] at H);by_cases c2 : x7_1 < (a0.size : Int)
   ·(rw [if_pos c2] at H);have c2b0 := decide_eq_true c2;clear c2;obtain ⟨c3b0,H⟩ := pd_ H;obtain ⟨c4b0,H⟩ := pd_ H;by_cases c6 : (bt a0 x7_1) < 97
    ·(rw [if_pos c6] at H);have c6b0 := decide_eq_true c6;clear c6;by_cases c7 : (bt a0 x7_1) < 48
     ·(rw [if_pos c7] at H);have c7b0 := decide_eq_true c7;clear c7;obtain rfl := Option.some.inj H;have p5 : 0 ≤ (x7_1 : Int) := of_decide_eq_true (z0_);have q5 : x7_1 < (a0.size : Int) := of_decide_eq_true (z0_);have hx5 := bt_at a0 x7_1;replace p5 := eq_true p5;replace q5 := eq_true q5;go_wp2;go_ret;exact ⟨z8_, z11_⟩
     ·(rw [if_neg c7] at H);have c7b0 := decide_eq_false c7;clear c7;by_cases c8 : (bt a0 x7_1) > 57
      ·(rw [if_pos c8] at H);have c8b0 : decide (57 < (bt a0 x7_1)) = true := decide_eq_true c8;clear c8;obtain rfl := Option.some.inj H;have p5 : 0 ≤ (x7_1 : Int) := of_decide_eq_true (z0_);have q5 : x7_1 < (a0.size : Int) := of_decide_eq_true (z0_);have hx5 := bt_at a0 x7_1;replace p5 := eq_true p5;replace q5 := eq_true q5;go_wp2;go_ret;exact ⟨z8_, z11_⟩
      ·(rw [if_neg c8] at H);have c8b0 : decide (57 < (bt a0 x7_1)) = false := decide_eq_false c8;clear c8;have H' := Aside0.mk H;clear H;have p5 : 0 ≤ (x7_1 : Int) := of_decide_eq_true (z0_);have q5 : x7_1 < (a0.size : Int) := of_decide_eq_true (z0_);have hx5 := bt_at a0 x7_1;replace p5 := eq_true p5;replace q5 := eq_true q5;go_wp2
       go_roundg k1
       case measure => have := HK1.out; omega
       case rel => exact ⟨(wrap64 (x7_1 + 1)), (z8_), H', ⟨z136_⟩, z11_⟩
    ·(rw [if_neg c6] at H);have c6b0 := decide_eq_false c6;clear c6;by_cases c9 : (bt a0 x7_1) > 122
     ·(rw [if_pos c9] at H);have c9b0 : decide (122 < (bt a0 x7_1)) = true := decide_eq_true c9;clear c9;by_cases c10 : (bt a0 x7_1) < 48
      ·(rw [if_pos c10] at H);have c10b0 := decide_eq_true c10;clear c10;obtain rfl := Option.some.inj H;have p5 : 0 ≤ (x7_1 : Int) := of_decide_eq_true (z0_);have q5 : x7_1 < (a0.size : Int) := of_decide_eq_true (z0_);have hx5 := bt_at a0 x7_1;replace p5 := eq_true p5;replace q5 := eq_true q5;go_wp2;go_ret;exact ⟨z8_, z11_⟩
      ·(rw [if_neg c10] at H);have c10b0 := decide_eq_false c10;clear c10;by_cases c11 : (bt a0 x7_1) > 57
       ·(rw [if_pos c11] at H);have c11b0 : decide (57 < (bt a0 x7_1)) = true := decide_eq_true c11;clear c11;obtain rfl := Option.some.inj H;have p5 : 0 ≤ (x7_1 : Int) := of_decide_eq_true (z0_);have q5 : x7_1 < (a0.size : Int) := of_decide_eq_true (z0_);have hx5 := bt_at a0 x7_1;replace p5 := eq_true p5;replace q5 := eq_true q5;go_wp2;go_ret;exact ⟨z8_, z11_⟩
       ·(rw [if_neg c11] at H);have c11b0 : decide (57 < (bt a0 x7_1)) = false := decide_eq_false c11;clear c11;have H' := Aside0.mk H;clear H;have p5 : 0 ≤ (x7_1 : Int) := of_decide_eq_true (z0_);have q5 : x7_1 < (a0.size : Int) := of_decide_eq_true (z0_);have hx5 := bt_at a0 x7_1;replace p5 := eq_true p5;replace q5 := eq_true q5;go_wp2
        go_roundg k1
        case measure => have := HK1.out; omega
        case rel => exact ⟨(wrap64 (x7_1 + 1)), (z8_), H', ⟨z136_⟩, z11_⟩
     ·(rw [if_neg c9] at H);have c9b0 : decide (122 < (bt a0 x7_1)) = false := decide_eq_false c9;clear c9;have H' := Aside0.mk H;clear H;have p5 : 0 ≤ (x7_1 : Int) := of_decide_eq_true (z0_);have q5 : x7_1 < (a0.size : Int) := of_decide_eq_true (z0_);have hx5 := bt_at a0 x7_1;replace p5 := eq_true p5;replace q5 := eq_true q5;go_wp2
      go_roundg k1
      case measure => have := HK1.out; omega
      case rel => exact ⟨(wrap64 (x7_1 + 1)), (z8_), H', ⟨z136_⟩, z11_⟩
   ·(rw [if_neg c2] at H);have c2b0 := decide_eq_false c2;clear c2;obtain rfl := Option.some.inj H;go_wp2;go_ret;exact ⟨z8_, z11_⟩

/-! ### impl_IsName: function 93 -/
def impl_IsName.f (k : Nat) (a0 : ByteArray) : Option (Bool) := if (a0.size : Int) < 1 then (some false) else (if (a0.size : Int) > 10 then (some false) else (if 0 < (a0.size : Int) then (if (bt a0 0) < 97 then (some false) else (if (bt a0 0) > 122 then (some false) else ((impl_onlyNameBytes.f k a0).bind fun t253 => (some t253)))) else (none)))
theorem impl_IsName.mono : ∀ a0 k, LeO (impl_IsName.f k a0) (impl_IsName.f (k + 1) a0) := by
 intro a0 k
 unfold impl_IsName.f
 repeat' first|(with_reducible first|exact impl_onlyNameBytes.mono _ _|exact LeO.refl _|exact LeO.none _|refine LeO.ite ?_ ?_|refine LeO.bind ?_ (fun _ => ?_))|exact impl_onlyNameBytes.mono _ _|exact LeO.none _|refine LeO.ite ?_ ?_|refine LeO.bind ?_ (fun _ => ?_)
set_option maxHeartbeats 8000000 in
set_option maxRecDepth 100000 in
theorem impl_IsName.calls (k : Nat) (a0 : ByteArray) (r : Bool) (w : World) (h : impl_IsName.f k a0 = some r) :
  Calls Try.prog 93 #[.string a0] w fun e w' => e = .returned (.bool r) ∧ Drawn0 w w' := by
 unfold impl_IsName.f at h;have H := h;clear h
 by_cases c2 : (a0.size : Int) < 1
 ·(rw [if_pos c2] at H);have c2b0 := decide_eq_true c2;have c2b1 : decide (a0.size < 1) = true := decide_eq_true (by omega);clear c2;obtain rfl := Option.some.inj H;go_enter Try.func93, Try.ntmps93;go_wp2;go_ret;exact ⟨z8_, z11_⟩
 ·(rw [if_neg c2] at H);have c2b0 := decide_eq_false c2;have c2b1 : decide (a0.size < 1) = false := decide_eq_false (by omega);clear c2;by_cases c3 : (a0.size : Int) > 10
  ·(rw [if_pos c3] at H);have c3b0 : decide (10 < (a0.size : Int)) = true := decide_eq_true c3;have c3b1 : decide (10 < a0.size) = true := decide_eq_true (by omega);clear c3;obtain rfl := Option.some.inj H;go_enter Try.func93, Try.ntmps93;go_wp2;go_ret;exact ⟨z8_, z11_⟩
  ·(rw [if_neg c3] at H);have c3b0 : decide (10 < (a0.size : Int)) = false := decide_eq_false c3;have c3b1 : decide (10 < a0.size) = false := decide_eq_false (by omega);clear c3;obtain ⟨c4,H⟩ := pp_ H;have c4b0 := decide_eq_true c4;have c4b1 : decide (0 < a0.size) = true := decide_eq_true (by omega);clear c4;by_cases c6 : (bt a0 0) < 97
   ·(rw [if_pos c6] at H);have c6b0 := decide_eq_true c6;clear c6;obtain rfl := Option.some.inj H;have p5 : 0 ≤ (0 : Int) := (by omega);have q5 : 0 < a0.size := (by have : (0 : Int) < (a0.size : Int) := of_decide_eq_true (z0_); omega);have hx5 : ∀ h : 0 < a0.size, ((a0[0]'h).toNat : Int) = bt a0 0 := bt_at a0 0;clear p5;have qi5 : (0 < (a0.size : Int)) = True := eq_true (of_decide_eq_true (z0_));replace q5 := eq_true q5;go_enter Try.func93, Try.ntmps93;go_wp2;go_ret;exact ⟨z8_, z11_⟩
   ·(rw [if_neg c6] at H);have c6b0 := decide_eq_false c6;clear c6;by_cases c8 : (bt a0 0) > 122
    ·(rw [if_pos c8] at H);have c8b0 : decide (122 < (bt a0 0)) = true := decide_eq_true c8;clear c8;obtain rfl := Option.some.inj H;have p5 : 0 ≤ (0 : Int) := (by omega);have q5 : 0 < a0.size := (by have : (0 : Int) < (a0.size : Int) := of_decide_eq_true (z0_); omega);have hx5 : ∀ h : 0 < a0.size, ((a0[0]'h).toNat : Int) = bt a0 0 := bt_at a0 0;clear p5;have qi5 : (0 < (a0.size : Int)) = True := eq_true (of_decide_eq_true (z0_));replace q5 := eq_true q5;have p7 : 0 ≤ (0 : Int) := (by omega);have q7 : 0 < a0.size := (by have : (0 : Int) < (a0.size : Int) := of_decide_eq_true (z0_); omega);have hx7 : ∀ h : 0 < a0.size, ((a0[0]'h).toNat : Int) = bt a0 0 := bt_at a0 0;clear p7;have qi7 : (0 < (a0.size : Int)) = True := eq_true (of_decide_eq_true (z0_));replace q7 := eq_true q7;go_enter Try.func93, Try.ntmps93;go_wp2;go_ret;exact ⟨z8_, z11_⟩
    ·(rw [if_neg c8] at H);have c8b0 : decide (122 < (bt a0 0)) = false := decide_eq_false c8;clear c8;replace H := Option.bind_eq_some_iff.mp H;obtain ⟨t253, A90, H⟩ := H;have A9 := Aside0.mk A90;clear A90;obtain rfl := Option.some.inj H;have p5 : 0 ≤ (0 : Int) := (by omega);have q5 : 0 < a0.size := (by have : (0 : Int) < (a0.size : Int) := of_decide_eq_true (z0_); omega);have hx5 : ∀ h : 0 < a0.size, ((a0[0]'h).toNat : Int) = bt a0 0 := bt_at a0 0;clear p5;have qi5 : (0 < (a0.size : Int)) = True := eq_true (of_decide_eq_true (z0_));replace q5 := eq_true q5;have p7 : 0 ≤ (0 : Int) := (by omega);have q7 : 0 < a0.size := (by have : (0 : Int) < (a0.size : Int) := of_decide_eq_true (z0_); omega);have hx7 : ∀ h : 0 < a0.size, ((a0[0]'h).toNat : Int) = bt a0 0 := bt_at a0 0;clear p7;have qi7 : (0 < (a0.size : Int)) = True := eq_true (of_decide_eq_true (z0_));replace q7 := eq_true q7;go_enter Try.func93, Try.ntmps93
     go_wp2_with (first | ((with_reducible refine gate_callee (f := 98) rfl ?_); refine goesL_ (some 22) rfl rfl Try.func98 (z14_) rfl #[.string a0] rfl (z1_) ?_; (with_reducible refine (impl_onlyNameBytes.calls k a0 t253 _ A9.out).mono ?_); rintro e w' ⟨rfl, ⟨nd, rfl⟩⟩; refine ⟨_, rfl, ?_⟩))
     go_ret;exact ⟨z8_, z11_⟩

open Go.Proofs.YtnmdcmfhjhgheaaM
def impl_IsName_.f (a0 : ByteArray) : Option Bool := if a0.size ≤ 9000000000000000000 then some (nameOk a0) else none
theorem impl_names (s : ByteArray) (hs : s.size ≤ 9000000000000000000) : ∀ (d k : Nat) (i : Int), 0 ≤ i → (s.size : Int) - i = d → d < k → impl_onlyNameBytes.l0 k s (s.size : Int) i = some (namesFrom s d i) := by
  intro d
  induction d with
  | zero =>
    intro k i h0 hd hk
    obtain ⟨k, rfl⟩ : ∃ m, k = m + 1 := ⟨k - 1, by omega⟩
    simp only [impl_onlyNameBytes.l0]; rw [if_neg (by omega)]; rfl
  | succ d ih =>
    intro k i h0 hd hk
    obtain ⟨k, rfl⟩ : ∃ m, k = m + 1 := ⟨k - 1, by omega⟩
    have := ih k (i + 1) (by omega) (by omega) (by omega)
    simp only [impl_onlyNameBytes.l0]
    rw [if_pos (by omega), if_pos h0, if_pos (by omega), w64 (x := i + 1) (by omega) (by omega), this]
    simp only [namesFrom]
    generalize bt s i = c
    have e : nameByte c = decide (97 ≤ c ∧ c ≤ 122 ∨ 48 ≤ c ∧ c ≤ 57) := by simp [nameByte]
    rw [e]
    by_cases h1 : c < 97 <;> by_cases h2 : c < 48 <;> by_cases h3 : c > 57 <;> by_cases h4 : c > 122 <;> simp only [h1, h2, h3, h4, if_true, if_false] <;> first | omega | (rw [decide_eq_true (by omega)]; simp) | (rw [decide_eq_false (by omega)]; simp)
theorem impl_IsName_.same (s : ByteArray) (hs : s.size ≤ 9000000000000000000) : impl_IsName.f (s.size + 2) s = some (nameOk s) := by
  unfold impl_IsName.f impl_onlyNameBytes.f nameOk
  by_cases h0 : s.size = 0
  · rw [if_pos (by omega)]; simp [h0]
  · rw [if_neg (by omega)]
    by_cases h1 : (s.size : Int) > 10
    · rw [if_pos h1]
      have : ¬ s.size ≤ 10 := by omega
      simp [this]
    · rw [if_neg h1, if_pos (by omega), impl_names s hs s.size (s.size + 2) 0 (by omega) (by omega) (by omega)]
      have e1 : 1 ≤ s.size := by omega
      have e2 : s.size ≤ 10 := by omega
      simp only [e1, e2, decide_true, Bool.true_and, Option.bind_some]
      by_cases h2 : bt s 0 < 97
      · rw [if_pos h2]
        have : ¬ 97 ≤ bt s 0 := by omega
        simp [this]
      · rw [if_neg h2]
        have h2' : 97 ≤ bt s 0 := by omega
        by_cases h3 : bt s 0 > 122
        · rw [if_pos h3]
          have : ¬ bt s 0 ≤ 122 := by omega
          simp [this]
        · rw [if_neg h3]
          have h3' : bt s 0 ≤ 122 := by omega
          simp [h2', h3']
theorem impl_IsName_.calls (a0 : ByteArray) (r : Bool) (w : World) (h : impl_IsName_.f a0 = some r) :
    Calls Try.prog 93 #[.string a0] w fun e w' => e = .returned (.bool r) ∧ Drawn0 w w' := by
  unfold impl_IsName_.f at h
  split at h
  · rename_i hs
    exact impl_IsName.calls (a0.size + 2) a0 r w (by rw [← h]; exact impl_IsName_.same a0 hs)
  · exact absurd h (by simp)

/-! ### impl_nodeOk: function 94 -/
def impl_nodeOk.f (a0 : Int) : Option (Bool) := (impl_within_.f a0 0 15).bind fun t254 => (some t254)
set_option maxHeartbeats 8000000 in
set_option maxRecDepth 100000 in
theorem impl_nodeOk.calls (a0 : Int) (r : Bool) (w : World) (h : impl_nodeOk.f a0 = some r) :
  Calls Try.prog 94 #[.int .i64 a0] w fun e w' => e = .returned (.bool r) ∧ Drawn0 w w' := by
 unfold impl_nodeOk.f at h;have H := h;clear h
 replace H := Option.bind_eq_some_iff.mp H
 obtain ⟨t254, A20, H⟩ := H
 have A2 := Aside0.mk A20
 clear A20
 obtain rfl := Option.some.inj H
 go_enter Try.func94, Try.ntmps94
 go_wp2_with (first | ((with_reducible refine gate_callee (f := 65) rfl ?_); refine goesL_ (some 4) rfl rfl Try.func65 (z14_) rfl #[.int .i64 a0, .int .i64 0, .int .i64 15] rfl (z1_) ?_; (with_reducible refine (impl_within_.calls a0 0 15 t254 _ A2.out).mono ?_); rintro e w' ⟨rfl, ⟨nd, rfl⟩⟩; refine ⟨_, rfl, ?_⟩))
 go_ret
 exact ⟨z8_, z11_⟩

/-! ### impl_ValidPipe: function 81 -/
def impl_ValidPipe.f (a0_0 : ByteArray) (a0_1 : Int) (a0_2 : Int) (a0_3 : Int) (a0_4 : Int) (a0_5 : Int) : Option (Bool) := (impl_IsName_.f a0_0).bind fun t256 => (if t256 = true then ((impl_nodeOk.f a0_1).bind fun t257 => (if t257 = true then ((impl_nodeOk.f a0_2).bind fun t258 => (if t258 = true then (if a0_1 = a0_2 then (some false) else ((impl_within_.f a0_3 1 10000).bind fun t259 => (if t259 = true then ((impl_within_.f a0_4 20 1000).bind fun t260 => (if t260 = true then ((impl_within_.f a0_5 0 5000).bind fun t261 => (some t261)) else (some false))) else (some false)))) else (some false))) else (some false))) else (some false))
set_option maxHeartbeats 8000000 in
set_option maxRecDepth 100000 in
theorem impl_ValidPipe.calls (a0_0 : ByteArray) (a0_1 : Int) (a0_2 : Int) (a0_3 : Int) (a0_4 : Int) (a0_5 : Int) (r : Bool) (w : World) (h : impl_ValidPipe.f a0_0 a0_1 a0_2 a0_3 a0_4 a0_5 = some r) :
  Calls Try.prog 81 #[.agg #[.string a0_0, .int .i64 a0_1, .int .i64 a0_2, .int .i64 a0_3, .int .i64 a0_4, .int .i64 a0_5]] w fun e w' => e = .returned (.bool r) ∧ Below w.heap.size w w' := by
 have hu73 := Try.underlying73
 have HB := Aside0.mk (Below.refl w.heap.size w)
 unfold impl_ValidPipe.f at h;have H := h;clear h
 replace H := Option.bind_eq_some_iff.mp H
 obtain ⟨t256, A20, H⟩ := H
 have A2 := Aside0.mk A20
 clear A20
 by_cases c3 : t256 = true
 ·subst c3;(rw [if_pos rfl] at H);replace H := Option.bind_eq_some_iff.mp H;obtain ⟨t257, A40, H⟩ := H;have A4 := Aside0.mk A40;clear A40;by_cases c5 : t257 = true
  ·subst c5;(rw [if_pos rfl] at H);replace H := Option.bind_eq_some_iff.mp H;obtain ⟨t258, A60, H⟩ := H;have A6 := Aside0.mk A60;clear A60;by_cases c7 : t258 = true
   ·subst c7;(rw [if_pos rfl] at H);by_cases c8 : a0_1 = a0_2
    ·(rw [if_pos c8] at H);have c8b0 : (a0_1 == a0_2) = true := beq_iff_eq.mpr c8;have c8b1 : (a0_1 != a0_2) = false := bne_eq_false_iff_eq.mpr c8;clear c8;obtain rfl := Option.some.inj H;go_enter Try.func81, Try.ntmps81
     go_wp2_with (first | ((with_reducible refine gate_dst (N := 1) rfl ?_); refine box_event ?hg (N := 1) ?hd (cs := #[.string a0_0, .int .i64 a0_1, .int .i64 a0_2, .int .i64 a0_3, .int .i64 a0_4, .int .i64 a0_5]) (t := 73) ?hr ?_; (case hd => rfl); (case hg => rfl); (case hr => first | (go_simp; done) | (go_simp; rfl)); intro gb255 hg w9 hbox hb; have BK255 := Aside0.mk (hbox); have GW255 := Aside0.mk ((z3_ : w.heap.size ≤ gb255)); have GE255 := Aside0.mk ((z3_ : w.heap.size ≤ gb255)); replace HB := Aside0.mk (below_step (z2_) hb); clear hb hbox hg; obtain ⟨hcz10_0,hcz10_1,hcz10_2,hcz10_3,hcz10_4,hcz10_5,hfz10_0,hfz10_1,hfz10_2,hfz10_3,hfz10_4,hfz10_5⟩ := bz6_ w9 BK255.out) | ((with_reducible refine gate_callee (f := 93) rfl ?_); refine goesL_ (some 5) rfl rfl Try.func93 (z14_) rfl #[.string a0_0] rfl (z1_) ?_; (with_reducible refine (impl_IsName_.calls a0_0 true _ A2.out).mono ?_); rintro e w' ⟨rfl, ⟨nd, rfl⟩⟩; refine ⟨_, rfl, ?_⟩) | (go_at_call 94; (with_reducible refine (impl_nodeOk.calls a0_1 true _ A4.out).mono ?_); rintro e w' ⟨rfl, ⟨nd, rfl⟩⟩) | (go_at_call 94; (with_reducible refine (impl_nodeOk.calls a0_2 true _ A6.out).mono ?_); rintro e w' ⟨rfl, ⟨nd, rfl⟩⟩))
     go_ret;exact ⟨z6_, z80_⟩
    ·(rw [if_neg c8] at H);have c8b0 : (a0_1 == a0_2) = false := beq_eq_false_iff_ne.mpr c8;have c8b1 : (a0_1 != a0_2) = true := bne_iff_ne.mpr c8;replace H := Option.bind_eq_some_iff.mp H;obtain ⟨t259, A110, H⟩ := H;have A11 := Aside0.mk A110;clear A110;by_cases c12 : t259 = true
     ·subst c12;(rw [if_pos rfl] at H);replace H := Option.bind_eq_some_iff.mp H;obtain ⟨t260, A130, H⟩ := H;have A13 := Aside0.mk A130;clear A130;by_cases c14 : t260 = true
      ·subst c14;(rw [if_pos rfl] at H);replace H := Option.bind_eq_some_iff.mp H;obtain ⟨t261, A150, H⟩ := H;have A15 := Aside0.mk A150;clear A150;obtain rfl := Option.some.inj H;go_enter Try.func81, Try.ntmps81
       go_wp2_with (first | ((with_reducible refine gate_dst (N := 1) rfl ?_); refine box_event ?hg (N := 1) ?hd (cs := #[.string a0_0, .int .i64 a0_1, .int .i64 a0_2, .int .i64 a0_3, .int .i64 a0_4, .int .i64 a0_5]) (t := 73) ?hr ?_; (case hd => rfl); (case hg => rfl); (case hr => first | (go_simp; done) | (go_simp; rfl)); intro gb255 hg w16 hbox hb; have BK255 := Aside0.mk (hbox); have GW255 := Aside0.mk ((z3_ : w.heap.size ≤ gb255)); have GE255 := Aside0.mk ((z3_ : w.heap.size ≤ gb255)); replace HB := Aside0.mk (below_step (z2_) hb); clear hb hbox hg; obtain ⟨hcz17_0,hcz17_1,hcz17_2,hcz17_3,hcz17_4,hcz17_5,hfz17_0,hfz17_1,hfz17_2,hfz17_3,hfz17_4,hfz17_5⟩ := bz6_ w16 BK255.out) | ((with_reducible refine gate_callee (f := 93) rfl ?_); refine goesL_ (some 5) rfl rfl Try.func93 (z14_) rfl #[.string a0_0] rfl (z1_) ?_; (with_reducible refine (impl_IsName_.calls a0_0 true _ A2.out).mono ?_); rintro e w' ⟨rfl, ⟨nd, rfl⟩⟩; refine ⟨_, rfl, ?_⟩) | (go_at_call 94; (with_reducible refine (impl_nodeOk.calls a0_1 true _ A4.out).mono ?_); rintro e w' ⟨rfl, ⟨nd, rfl⟩⟩) | (go_at_call 94; (with_reducible refine (impl_nodeOk.calls a0_2 true _ A6.out).mono ?_); rintro e w' ⟨rfl, ⟨nd, rfl⟩⟩) | (go_at_call 65; (with_reducible refine (impl_within_.calls a0_3 1 10000 true _ A11.out).mono ?_); rintro e w' ⟨rfl, ⟨nd, rfl⟩⟩) | (go_at_call 65; (with_reducible refine (impl_within_.calls a0_4 20 1000 true _ A13.out).mono ?_); rintro e w' ⟨rfl, ⟨nd, rfl⟩⟩) | (go_at_call 65; (with_reducible refine (impl_within_.calls a0_5 0 5000 t261 _ A15.out).mono ?_); rintro e w' ⟨rfl, ⟨nd, rfl⟩⟩))
       go_ret;exact ⟨z6_, z80_⟩
      ·replace c14 := Bool.eq_false_iff.mpr c14;subst c14;(rw [if_neg (show ¬ (false = true) by decide)] at H);obtain rfl := Option.some.inj H;go_enter Try.func81, Try.ntmps81
       go_wp2_with (first | ((with_reducible refine gate_dst (N := 1) rfl ?_); refine box_event ?hg (N := 1) ?hd (cs := #[.string a0_0, .int .i64 a0_1, .int .i64 a0_2, .int .i64 a0_3, .int .i64 a0_4, .int .i64 a0_5]) (t := 73) ?hr ?_; (case hd => rfl); (case hg => rfl); (case hr => first | (go_simp; done) | (go_simp; rfl)); intro gb255 hg w18 hbox hb; have BK255 := Aside0.mk (hbox); have GW255 := Aside0.mk ((z3_ : w.heap.size ≤ gb255)); have GE255 := Aside0.mk ((z3_ : w.heap.size ≤ gb255)); replace HB := Aside0.mk (below_step (z2_) hb); clear hb hbox hg; obtain ⟨hcz19_0,hcz19_1,hcz19_2,hcz19_3,hcz19_4,hcz19_5,hfz19_0,hfz19_1,hfz19_2,hfz19_3,hfz19_4,hfz19_5⟩ := bz6_ w18 BK255.out) | ((with_reducible refine gate_callee (f := 93) rfl ?_); refine goesL_ (some 5) rfl rfl Try.func93 (z14_) rfl #[.string a0_0] rfl (z1_) ?_; (with_reducible refine (impl_IsName_.calls a0_0 true _ A2.out).mono ?_); rintro e w' ⟨rfl, ⟨nd, rfl⟩⟩; refine ⟨_, rfl, ?_⟩) | (go_at_call 94; (with_reducible refine (impl_nodeOk.calls a0_1 true _ A4.out).mono ?_); rintro e w' ⟨rfl, ⟨nd, rfl⟩⟩) | (go_at_call 94; (with_reducible refine (impl_nodeOk.calls a0_2 true _ A6.out).mono ?_); rintro e w' ⟨rfl, ⟨nd, rfl⟩⟩) | (go_at_call 65; (with_reducible refine (impl_within_.calls a0_3 1 10000 true _ A11.out).mono ?_); rintro e w' ⟨rfl, ⟨nd, rfl⟩⟩) | (go_at_call 65; (with_reducible refine (impl_within_.calls a0_4 20 1000 false _ A13.out).mono ?_); rintro e w' ⟨rfl, ⟨nd, rfl⟩⟩))
       go_ret;exact ⟨z6_, z80_⟩
     ·replace c12 := Bool.eq_false_iff.mpr c12;subst c12;(rw [if_neg (show ¬ (false = true) by decide)] at H);obtain rfl := Option.some.inj H;go_enter Try.func81, Try.ntmps81
      go_wp2_with (first | ((with_reducible refine gate_dst (N := 1) rfl ?_); refine box_event ?hg (N := 1) ?hd (cs := #[.string a0_0, .int .i64 a0_1, .int .i64 a0_2, .int .i64 a0_3, .int .i64 a0_4, .int .i64 a0_5]) (t := 73) ?hr ?_; (case hd => rfl); (case hg => rfl); (case hr => first | (go_simp; done) | (go_simp; rfl)); intro gb255 hg w20 hbox hb; have BK255 := Aside0.mk (hbox); have GW255 := Aside0.mk ((z3_ : w.heap.size ≤ gb255)); have GE255 := Aside0.mk ((z3_ : w.heap.size ≤ gb255)); replace HB := Aside0.mk (below_step (z2_) hb); clear hb hbox hg; obtain ⟨hcz21_0,hcz21_1,hcz21_2,hcz21_3,hcz21_4,hcz21_5,hfz21_0,hfz21_1,hfz21_2,hfz21_3,hfz21_4,hfz21_5⟩ := bz6_ w20 BK255.out) | ((with_reducible refine gate_callee (f := 93) rfl ?_); refine goesL_ (some 5) rfl rfl Try.func93 (z14_) rfl #[.string a0_0] rfl (z1_) ?_; (with_reducible refine (impl_IsName_.calls a0_0 true _ A2.out).mono ?_); rintro e w' ⟨rfl, ⟨nd, rfl⟩⟩; refine ⟨_, rfl, ?_⟩) | (go_at_call 94; (with_reducible refine (impl_nodeOk.calls a0_1 true _ A4.out).mono ?_); rintro e w' ⟨rfl, ⟨nd, rfl⟩⟩) | (go_at_call 94; (with_reducible refine (impl_nodeOk.calls a0_2 true _ A6.out).mono ?_); rintro e w' ⟨rfl, ⟨nd, rfl⟩⟩) | (go_at_call 65; (with_reducible refine (impl_within_.calls a0_3 1 10000 false _ A11.out).mono ?_); rintro e w' ⟨rfl, ⟨nd, rfl⟩⟩))
      go_ret;exact ⟨z6_, z80_⟩
   ·replace c7 := Bool.eq_false_iff.mpr c7;subst c7;(rw [if_neg (show ¬ (false = true) by decide)] at H);obtain rfl := Option.some.inj H;go_enter Try.func81, Try.ntmps81
    go_wp2_with (first | ((with_reducible refine gate_dst (N := 1) rfl ?_); refine box_event ?hg (N := 1) ?hd (cs := #[.string a0_0, .int .i64 a0_1, .int .i64 a0_2, .int .i64 a0_3, .int .i64 a0_4, .int .i64 a0_5]) (t := 73) ?hr ?_; (case hd => rfl); (case hg => rfl); (case hr => first | (go_simp; done) | (go_simp; rfl)); intro gb255 hg w22 hbox hb; have BK255 := Aside0.mk (hbox); have GW255 := Aside0.mk ((z3_ : w.heap.size ≤ gb255)); have GE255 := Aside0.mk ((z3_ : w.heap.size ≤ gb255)); replace HB := Aside0.mk (below_step (z2_) hb); clear hb hbox hg; obtain ⟨hcz23_0,hcz23_1,hcz23_2,hcz23_3,hcz23_4,hcz23_5,hfz23_0,hfz23_1,hfz23_2,hfz23_3,hfz23_4,hfz23_5⟩ := bz6_ w22 BK255.out) | ((with_reducible refine gate_callee (f := 93) rfl ?_); refine goesL_ (some 5) rfl rfl Try.func93 (z14_) rfl #[.string a0_0] rfl (z1_) ?_; (with_reducible refine (impl_IsName_.calls a0_0 true _ A2.out).mono ?_); rintro e w' ⟨rfl, ⟨nd, rfl⟩⟩; refine ⟨_, rfl, ?_⟩) | (go_at_call 94; (with_reducible refine (impl_nodeOk.calls a0_1 true _ A4.out).mono ?_); rintro e w' ⟨rfl, ⟨nd, rfl⟩⟩) | (go_at_call 94; (with_reducible refine (impl_nodeOk.calls a0_2 false _ A6.out).mono ?_); rintro e w' ⟨rfl, ⟨nd, rfl⟩⟩))
    go_ret;exact ⟨z6_, z80_⟩
  ·replace c5 := Bool.eq_false_iff.mpr c5;subst c5;(rw [if_neg (show ¬ (false = true) by decide)] at H);obtain rfl := Option.some.inj H;go_enter Try.func81, Try.ntmps81
   go_wp2_with (first | ((with_reducible refine gate_dst (N := 1) rfl ?_); refine box_event ?hg (N := 1) ?hd (cs := #[.string a0_0, .int .i64 a0_1, .int .i64 a0_2, .int .i64 a0_3, .int .i64 a0_4, .int .i64 a0_5]) (t := 73) ?hr ?_; (case hd => rfl); (case hg => rfl); (case hr => first | (go_simp; done) | (go_simp; rfl)); intro gb255 hg w24 hbox hb; have BK255 := Aside0.mk (hbox); have GW255 := Aside0.mk ((z3_ : w.heap.size ≤ gb255)); have GE255 := Aside0.mk ((z3_ : w.heap.size ≤ gb255)); replace HB := Aside0.mk (below_step (z2_) hb); clear hb hbox hg; obtain ⟨hcz25_0,hcz25_1,hcz25_2,hcz25_3,hcz25_4,hcz25_5,hfz25_0,hfz25_1,hfz25_2,hfz25_3,hfz25_4,hfz25_5⟩ := bz6_ w24 BK255.out) | ((with_reducible refine gate_callee (f := 93) rfl ?_); refine goesL_ (some 5) rfl rfl Try.func93 (z14_) rfl #[.string a0_0] rfl (z1_) ?_; (with_reducible refine (impl_IsName_.calls a0_0 true _ A2.out).mono ?_); rintro e w' ⟨rfl, ⟨nd, rfl⟩⟩; refine ⟨_, rfl, ?_⟩) | (go_at_call 94; (with_reducible refine (impl_nodeOk.calls a0_1 false _ A4.out).mono ?_); rintro e w' ⟨rfl, ⟨nd, rfl⟩⟩))
   go_ret;exact ⟨z6_, z80_⟩
 ·replace c3 := Bool.eq_false_iff.mpr c3;subst c3;(rw [if_neg (show ¬ (false = true) by decide)] at H);obtain rfl := Option.some.inj H;go_enter Try.func81, Try.ntmps81
  go_wp2_with (first | ((with_reducible refine gate_dst (N := 1) rfl ?_); refine box_event ?hg (N := 1) ?hd (cs := #[.string a0_0, .int .i64 a0_1, .int .i64 a0_2, .int .i64 a0_3, .int .i64 a0_4, .int .i64 a0_5]) (t := 73) ?hr ?_; (case hd => rfl); (case hg => rfl); (case hr => first | (go_simp; done) | (go_simp; rfl)); intro gb255 hg w26 hbox hb; have BK255 := Aside0.mk (hbox); have GW255 := Aside0.mk ((z3_ : w.heap.size ≤ gb255)); have GE255 := Aside0.mk ((z3_ : w.heap.size ≤ gb255)); replace HB := Aside0.mk (below_step (z2_) hb); clear hb hbox hg; obtain ⟨hcz27_0,hcz27_1,hcz27_2,hcz27_3,hcz27_4,hcz27_5,hfz27_0,hfz27_1,hfz27_2,hfz27_3,hfz27_4,hfz27_5⟩ := bz6_ w26 BK255.out) | ((with_reducible refine gate_callee (f := 93) rfl ?_); refine goesL_ (some 5) rfl rfl Try.func93 (z14_) rfl #[.string a0_0] rfl (z1_) ?_; (with_reducible refine (impl_IsName_.calls a0_0 false _ A2.out).mono ?_); rintro e w' ⟨rfl, ⟨nd, rfl⟩⟩; refine ⟨_, rfl, ?_⟩))
  go_ret;exact ⟨z6_, z80_⟩

open Go.Proofs.YtnmdcmfhjhgheaaM
def impl_ValidPipe_.f (a0_0 : ByteArray) (a0_1 a0_2 a0_3 a0_4 a0_5 : Int) : Option Bool := if a0_0.size ≤ 9000000000000000000 then some (pipeOk a0_0 a0_1 a0_2 a0_3 a0_4 a0_5) else none
theorem impl_ValidPipe_.same (s : ByteArray) (f t l d x : Int) (hs : s.size ≤ 9000000000000000000) : impl_ValidPipe.f s f t l d x = some (pipeOk s f t l d x) := by
  unfold impl_ValidPipe.f impl_IsName_.f impl_nodeOk.f pipeOk
  rw [if_pos hs]
  simp only [impl_within_.f, Option.bind_some]
  cases nameOk s
  · simp
  · by_cases c1 : 0 ≤ f ∧ f ≤ 15
    · by_cases c2 : 0 ≤ t ∧ t ≤ 15
      · simp only [decide_eq_true c1, decide_eq_true c2, if_true, Bool.true_and]
        by_cases c3 : f = t
        · simp [c3]
        · by_cases c4 : 1 ≤ l ∧ l ≤ 10000
          · by_cases c5 : 20 ≤ d ∧ d ≤ 1000
            · simp [c3, c4, c5]
            · simp [c3, c4, decide_eq_false c5]
          · simp [c3, decide_eq_false c4]
      · simp only [decide_eq_true c1, decide_eq_false c2]; simp
    · simp only [decide_eq_false c1]; simp
theorem impl_ValidPipe_.calls (a0_0 : ByteArray) (a0_1 : Int) (a0_2 : Int) (a0_3 : Int) (a0_4 : Int) (a0_5 : Int) (r : Bool) (w : World) (h : impl_ValidPipe_.f a0_0 a0_1 a0_2 a0_3 a0_4 a0_5 = some r) :
    Calls Try.prog 81 #[.agg #[.string a0_0, .int .i64 a0_1, .int .i64 a0_2, .int .i64 a0_3, .int .i64 a0_4, .int .i64 a0_5]] w fun e w' => e = .returned (.bool r) ∧ Below w.heap.size w w' := by
  unfold impl_ValidPipe_.f at h
  split at h
  · rename_i hs
    exact impl_ValidPipe.calls a0_0 a0_1 a0_2 a0_3 a0_4 a0_5 r w (by rw [← h]; exact impl_ValidPipe_.same a0_0 a0_1 a0_2 a0_3 a0_4 a0_5 hs)
  · exact absurd h (by simp)

/-! ### impl_Network_hasNode: function 56 -/
def impl_Network_hasNode.f (l0_0 : List Int) (l0_1 : List (S73)) (a1 : Int) : Option (Bool) := (impl_within_.f a1 0 (wrap64 ((l0_0.length : Int) - 1))).bind fun t263 => (some t263)
set_option maxHeartbeats 8000000 in
set_option maxRecDepth 100000 in
theorem impl_Network_hasNode.calls (A0_0 : Option Addr) (c0_0 : Nat) (l0_0 : List Int) (A0_1 : Option Addr) (c0_1 : Nat) (l0_1 : List (S73)) (a1 : Int) (r : Bool) (w : World) (hr0_0 : Kd.C (Kd.int .i64) w A0_0 l0_0.length l0_0) (hc0_0 : l0_0.length ≤ c0_0) (hr0_1 : Kd.C k73 w A0_1 l0_1.length l0_1) (hc0_1 : l0_1.length ≤ c0_1) (h : impl_Network_hasNode.f l0_0 l0_1 a1 = some r) :
  Calls Try.prog 56 #[.agg #[.slice A0_0 l0_0.length c0_0, .slice A0_1 l0_1.length c0_1], .int .i64 a1] w fun e w' => e = .returned (.bool r) ∧ Below w.heap.size w w' := by
 have hu31 := Try.underlying31
 have HR0_0 := Aside0.mk hr0_0
 have HC0_0 := Aside0.mk hc0_0
 clear hr0_0 hc0_0
 have HR0_1 := Aside0.mk hr0_1
 have HC0_1 := Aside0.mk hc0_1
 clear hr0_1 hc0_1
 have HB := Aside0.mk (Below.refl w.heap.size w)
 unfold impl_Network_hasNode.f at h;have H := h;clear h
 replace H := Option.bind_eq_some_iff.mp H
 obtain ⟨t263, A30, H⟩ := H
 have A3 := Aside0.mk A30
 clear A30
 obtain rfl := Option.some.inj H
 go_enter Try.func56, Try.ntmps56
 go_wp2_with (first | ((with_reducible refine gate_dst (N := 2) rfl ?_); refine box_event ?hg (N := 2) ?hd (cs := #[.slice A0_0 l0_0.length c0_0, .slice A0_1 l0_1.length c0_1]) (t := 31) ?hr ?_; (case hd => rfl); (case hg => rfl); (case hr => first | (go_simp; done) | (go_simp; rfl)); intro gb262 hg w4 hbox hb; have BK262 := Aside0.mk (hbox); have GW262 := Aside0.mk ((z3_ : w.heap.size ≤ gb262)); have GE262 := Aside0.mk ((z3_ : w.heap.size ≤ gb262)); replace HB := Aside0.mk (below_step (z2_) hb); clear hb hbox hg; obtain ⟨hcz5_0,hcz5_1,hfz5_0,hfz5_1⟩ := bz2_ w4 BK262.out) | ((with_reducible refine gate_callee (f := 65) rfl ?_); refine goesL_ (some 10) rfl rfl Try.func65 (z14_) rfl #[.int .i64 a1, .int .i64 0, .int .i64 (wrap64 ((l0_0.length : Int) - 1))] rfl (z1_) ?_; (with_reducible refine (impl_within_.calls a1 0 (wrap64 ((l0_0.length : Int) - 1)) t263 _ A3.out).mono ?_); rintro e w' ⟨rfl, ⟨nd, rfl⟩⟩; refine ⟨_, rfl, ?_⟩))
 go_ret
 exact ⟨z6_, by repeat (first | (with_reducible first | exact HB.out|apply wA|apply wN|apply wD |refine wS ?_ GE262.out) | exact HB.out)⟩

open Go.Proofs.YtnmdcmfhjhgheaaM
def impl_Network_hasNode_.f (l0_0 : List Int) (l0_1 : List S73) (a1 : Int) : Option Bool := if l0_0.length ≤ 4611686018427387904 then some (decide (0 ≤ a1 ∧ a1 ≤ (l0_0.length : Int) - 1)) else none
theorem impl_Network_hasNode_.same (ns : List Int) (ps : List S73) (x : Int) (h : ns.length ≤ 4611686018427387904) : impl_Network_hasNode.f ns ps x = some (decide (0 ≤ x ∧ x ≤ (ns.length : Int) - 1)) := by
  unfold impl_Network_hasNode.f impl_within_.f
  rw [w64 (x := (ns.length : Int) - 1) (by omega) (by omega)]; rfl
theorem impl_Network_hasNode_.calls (A0_0 : Option Addr) (c0_0 : Nat) (l0_0 : List Int) (A0_1 : Option Addr) (c0_1 : Nat) (l0_1 : List (S73)) (a1 : Int) (r : Bool) (w : World) (hr0_0 : Kd.C (Kd.int .i64) w A0_0 l0_0.length l0_0) (hc0_0 : l0_0.length ≤ c0_0) (hr0_1 : Kd.C k73 w A0_1 l0_1.length l0_1) (hc0_1 : l0_1.length ≤ c0_1) (h : impl_Network_hasNode_.f l0_0 l0_1 a1 = some r) :
    Calls Try.prog 56 #[.agg #[.slice A0_0 l0_0.length c0_0, .slice A0_1 l0_1.length c0_1], .int .i64 a1] w fun e w' => e = .returned (.bool r) ∧ Below w.heap.size w w' := by
  unfold impl_Network_hasNode_.f at h
  split at h
  · rename_i hs
    exact impl_Network_hasNode.calls A0_0 c0_0 l0_0 A0_1 c0_1 l0_1 a1 r w hr0_0 hc0_0 hr0_1 hc0_1 (by rw [← h]; exact impl_Network_hasNode_.same l0_0 l0_1 a1 hs)
  · exact absurd h (by simp)


/-! ### impl_Network_hasEnds: function 82 -/
def impl_Network_hasEnds.f (l0_0 : List Int) (l0_1 : List (S73)) (a1_0 : ByteArray) (a1_1 : Int) (a1_2 : Int) (a1_3 : Int) (a1_4 : Int) (a1_5 : Int) : Option (Bool) := (impl_Network_hasNode_.f l0_0 l0_1 a1_1).bind fun t266 => (if t266 = true then ((impl_Network_hasNode_.f l0_0 l0_1 a1_2).bind fun t267 => (some t267)) else (some false))
set_option maxHeartbeats 8000000 in
set_option maxRecDepth 100000 in
theorem impl_Network_hasEnds.calls (A0_0 : Option Addr) (c0_0 : Nat) (l0_0 : List Int) (A0_1 : Option Addr) (c0_1 : Nat) (l0_1 : List (S73)) (a1_0 : ByteArray) (a1_1 : Int) (a1_2 : Int) (a1_3 : Int) (a1_4 : Int) (a1_5 : Int) (r : Bool) (w : World) (hr0_0 : Kd.C (Kd.int .i64) w A0_0 l0_0.length l0_0) (hc0_0 : l0_0.length ≤ c0_0) (hr0_1 : Kd.C k73 w A0_1 l0_1.length l0_1) (hc0_1 : l0_1.length ≤ c0_1) (h : impl_Network_hasEnds.f l0_0 l0_1 a1_0 a1_1 a1_2 a1_3 a1_4 a1_5 = some r) :
  Calls Try.prog 82 #[.agg #[.slice A0_0 l0_0.length c0_0, .slice A0_1 l0_1.length c0_1], .agg #[.string a1_0, .int .i64 a1_1, .int .i64 a1_2, .int .i64 a1_3, .int .i64 a1_4, .int .i64 a1_5]] w fun e w' => e = .returned (.bool r) ∧ Below w.heap.size w w' := by
 have hu31 := Try.underlying31
 have hu73 := Try.underlying73
 have HR0_0 := Aside0.mk hr0_0
 have HC0_0 := Aside0.mk hc0_0
 clear hr0_0 hc0_0
 have HR0_1 := Aside0.mk hr0_1
 have HC0_1 := Aside0.mk hc0_1
 clear hr0_1 hc0_1
 have HB := Aside0.mk (Below.refl w.heap.size w)
 unfold impl_Network_hasEnds.f at h;have H := h;clear h
 replace H := Option.bind_eq_some_iff.mp H
 obtain ⟨t266, A30, H⟩ := H
 have A3 := Aside0.mk A30
 clear A30
 by_cases c4 : t266 = true
 ·subst c4;(rw [if_pos rfl] at H);replace H := Option.bind_eq_some_iff.mp H;obtain ⟨t267, A50, H⟩ := H;have A5 := Aside0.mk A50;clear A50;obtain rfl := Option.some.inj H;go_enter Try.func82, Try.ntmps82
  go_wp2_with (first | ((with_reducible refine gate_dst (N := 2) rfl ?_); refine box_event ?hg (N := 2) ?hd (cs := #[.slice A0_0 l0_0.length c0_0, .slice A0_1 l0_1.length c0_1]) (t := 31) ?hr ?_; (case hd => rfl); (case hg => rfl); (case hr => first | (go_simp; done) | (go_simp; rfl)); intro gb264 hg w6 hbox hb; have BK264 := Aside0.mk (hbox); have GW264 := Aside0.mk ((z3_ : w.heap.size ≤ gb264)); have GE264 := Aside0.mk ((z3_ : w.heap.size ≤ gb264)); replace HB := Aside0.mk (below_step (z2_) hb); clear hb hbox hg) | ((with_reducible refine gate_dst (N := 3) rfl ?_); refine box_event ?hg (N := 3) ?hd (cs := #[.string a1_0, .int .i64 a1_1, .int .i64 a1_2, .int .i64 a1_3, .int .i64 a1_4, .int .i64 a1_5]) (t := 73) ?hr ?_; (case hd => rfl); (case hg => rfl); (case hr => first | (go_simp; done) | (go_simp; rfl)); intro gb265 hg w7 hbox hb; have BK265 := Aside0.mk (hbox); have GW265 := Aside0.mk ((z123_ : w.heap.size ≤ gb265)); have GE265 := Aside0.mk ((z123_ : w.heap.size ≤ gb265)); replace HB := Aside0.mk (below_step (z101_) hb); have NB264_265 := Aside0.mk ((z143_ : gb264 ≠ gb265)); have NB265_264 := Aside0.mk ((z144_ : gb265 ≠ gb264)); replace BK264 := Aside0.mk (blk_below (g := gb264) (o := .cells #[.slice A0_0 l0_0.length c0_0, .slice A0_1 l0_1.length c0_1] 31 (0, 0)) (z76_) hb); clear hb hbox hg; have hnb8 := NB264_265.out; have hnc8 := NB265_264.out; obtain ⟨hcz9_0,hcz9_1,hfz9_0,hfz9_1⟩ := bz2_ w7 BK264.out; obtain ⟨hcz10_0,hcz10_1,hcz10_2,hcz10_3,hcz10_4,hcz10_5,hfz10_0,hfz10_1,hfz10_2,hfz10_3,hfz10_4,hfz10_5⟩ := bz6_ w7 BK265.out) | ((with_reducible refine gate_callee (f := 56) rfl ?_); refine goesL_ (some 8) rfl rfl Try.func56 (z14_) rfl #[.agg #[.slice A0_0 l0_0.length c0_0, .slice A0_1 l0_1.length c0_1], .int .i64 a1_1] rfl (z1_) ?_; (with_reducible refine (impl_Network_hasNode_.calls _ _ l0_0 _ _ l0_1 a1_1 true _ ?side1 ?side2 ?side3 ?side4 A3.out).mono ?_); (case side1 => exact z223_); (case side2 => exact HC0_0.out); (case side3 => exact z224_); (case side4 => exact HC0_1.out); rintro e w11 ⟨rfl, hb⟩; refine ⟨_, rfl, ?_⟩; replace BK264 := Aside0.mk (blk_below (g := gb264) (o := .cells #[.slice A0_0 l0_0.length c0_0, .slice A0_1 l0_1.length c0_1] 31 (0, 0)) (z76_) hb); replace BK265 := Aside0.mk (blk_below (g := gb265) (o := .cells #[.string a1_0, .int .i64 a1_1, .int .i64 a1_2, .int .i64 a1_3, .int .i64 a1_4, .int .i64 a1_5] 73 (0, 0)) (z194_) hb); replace HB := Aside0.mk (below_step (z102_) hb); (try clear hb); obtain ⟨hcz12_0,hcz12_1,hfz12_0,hfz12_1⟩ := bz2_ w11 BK264.out; obtain ⟨hcz13_0,hcz13_1,hcz13_2,hcz13_3,hcz13_4,hcz13_5,hfz13_0,hfz13_1,hfz13_2,hfz13_3,hfz13_4,hfz13_5⟩ := bz6_ w11 BK265.out) | (go_at_call 56; (with_reducible refine (impl_Network_hasNode_.calls _ _ l0_0 _ _ l0_1 a1_2 t267 _ ?side1 ?side2 ?side3 ?side4 A5.out).mono ?_); (case side1 => exact z223_); (case side2 => exact HC0_0.out); (case side3 => exact z224_); (case side4 => exact HC0_1.out); rintro e w14 ⟨rfl, hb⟩; replace BK264 := Aside0.mk (blk_below (g := gb264) (o := .cells #[.slice A0_0 l0_0.length c0_0, .slice A0_1 l0_1.length c0_1] 31 (0, 0)) (z76_) hb); replace BK265 := Aside0.mk (blk_below (g := gb265) (o := .cells #[.string a1_0, .int .i64 a1_1, .int .i64 a1_2, .int .i64 a1_3, .int .i64 a1_4, .int .i64 a1_5] 73 (0, 0)) (z194_) hb); replace HB := Aside0.mk (below_step (z102_) hb); (try clear hb); (try clear hi)))
  go_ret;exact ⟨z6_, z102_⟩
 ·replace c4 := Bool.eq_false_iff.mpr c4;subst c4;(rw [if_neg (show ¬ (false = true) by decide)] at H);obtain rfl := Option.some.inj H;go_enter Try.func82, Try.ntmps82
  go_wp2_with (first | ((with_reducible refine gate_dst (N := 2) rfl ?_); refine box_event ?hg (N := 2) ?hd (cs := #[.slice A0_0 l0_0.length c0_0, .slice A0_1 l0_1.length c0_1]) (t := 31) ?hr ?_; (case hd => rfl); (case hg => rfl); (case hr => first | (go_simp; done) | (go_simp; rfl)); intro gb264 hg w15 hbox hb; have BK264 := Aside0.mk (hbox); have GW264 := Aside0.mk ((z3_ : w.heap.size ≤ gb264)); have GE264 := Aside0.mk ((z3_ : w.heap.size ≤ gb264)); replace HB := Aside0.mk (below_step (z2_) hb); clear hb hbox hg) | ((with_reducible refine gate_dst (N := 3) rfl ?_); refine box_event ?hg (N := 3) ?hd (cs := #[.string a1_0, .int .i64 a1_1, .int .i64 a1_2, .int .i64 a1_3, .int .i64 a1_4, .int .i64 a1_5]) (t := 73) ?hr ?_; (case hd => rfl); (case hg => rfl); (case hr => first | (go_simp; done) | (go_simp; rfl)); intro gb265 hg w16 hbox hb; have BK265 := Aside0.mk (hbox); have GW265 := Aside0.mk ((z123_ : w.heap.size ≤ gb265)); have GE265 := Aside0.mk ((z123_ : w.heap.size ≤ gb265)); replace HB := Aside0.mk (below_step (z101_) hb); have NB264_265 := Aside0.mk ((z143_ : gb264 ≠ gb265)); have NB265_264 := Aside0.mk ((z144_ : gb265 ≠ gb264)); replace BK264 := Aside0.mk (blk_below (g := gb264) (o := .cells #[.slice A0_0 l0_0.length c0_0, .slice A0_1 l0_1.length c0_1] 31 (0, 0)) (z76_) hb); clear hb hbox hg; have hnb17 := NB264_265.out; have hnc17 := NB265_264.out; obtain ⟨hcz18_0,hcz18_1,hfz18_0,hfz18_1⟩ := bz2_ w16 BK264.out; obtain ⟨hcz19_0,hcz19_1,hcz19_2,hcz19_3,hcz19_4,hcz19_5,hfz19_0,hfz19_1,hfz19_2,hfz19_3,hfz19_4,hfz19_5⟩ := bz6_ w16 BK265.out) | ((with_reducible refine gate_callee (f := 56) rfl ?_); refine goesL_ (some 8) rfl rfl Try.func56 (z14_) rfl #[.agg #[.slice A0_0 l0_0.length c0_0, .slice A0_1 l0_1.length c0_1], .int .i64 a1_1] rfl (z1_) ?_; (with_reducible refine (impl_Network_hasNode_.calls _ _ l0_0 _ _ l0_1 a1_1 false _ ?side1 ?side2 ?side3 ?side4 A3.out).mono ?_); (case side1 => exact z223_); (case side2 => exact HC0_0.out); (case side3 => exact z224_); (case side4 => exact HC0_1.out); rintro e w20 ⟨rfl, hb⟩; refine ⟨_, rfl, ?_⟩; replace BK264 := Aside0.mk (blk_below (g := gb264) (o := .cells #[.slice A0_0 l0_0.length c0_0, .slice A0_1 l0_1.length c0_1] 31 (0, 0)) (z76_) hb); replace BK265 := Aside0.mk (blk_below (g := gb265) (o := .cells #[.string a1_0, .int .i64 a1_1, .int .i64 a1_2, .int .i64 a1_3, .int .i64 a1_4, .int .i64 a1_5] 73 (0, 0)) (z194_) hb); replace HB := Aside0.mk (below_step (z102_) hb); (try clear hb); (try clear hi)))
  go_ret;exact ⟨z6_, z102_⟩

end Go.Proofs.Ytnmdcmfhjhgheaa.PFnExactTreeFlows
