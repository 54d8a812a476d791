-- Printed by a program of this session (wip/hprint.sh: the kit's print with hand-proved contracts put in); not by print.sh itself.
import Derived.Test.YtcnbceiiimmgaaaPFnExactAddPipex0
import Derived.Test.YtcnbceiiimmgaaaPFnExactAddPipex4
namespace Go.Proofs.Ytcnbceiiimmgaaa.PFnExactAddPipe
open Go.RowKit Go.Proofs.YtcnbceiiimmgaaaW.PrintWords Go.Proofs.YtcnbceiiimmgaaaW.PrintLast Go.Proofs.YtcnbceiiimmgaaaW.PrintMore Go.Proofs.YtcnbceiiimmgaaaM
attribute [local go_sem] max2_int min2_int max_two min_two max_three min_three max_four min_four   -- for this text's walks alone
set_option linter.unusedVariables false
set_option linter.unusedSimpArgs false

/-! ### impl_ValidPipe: function 24 -/
def impl_ValidPipe.f (a0_0 : ByteArray) (a0_1 : Int) (a0_2 : Int) (a0_3 : Int) (a0_4 : Int) (a0_5 : Int) : Option (Bool) := (impl_IsName_.f a0_0).bind fun t184 => (if t184 = true then ((impl_nodeOk.f a0_1).bind fun t185 => (if t185 = true then ((impl_nodeOk.f a0_2).bind fun t186 => (if t186 = true then (if a0_1 = a0_2 then (some false) else ((impl_within_.f a0_3 1 10000).bind fun t187 => (if t187 = true then ((impl_within_.f a0_4 20 1000).bind fun t188 => (if t188 = true then ((impl_within_.f a0_5 0 5000).bind fun t189 => (some t189)) else (some false))) else (some false)))) else (some false))) else (some false))) else (some false))
set_option maxHeartbeats 8000000 in
set_option maxRecDepth 100000 in
theorem impl_ValidPipe.calls (a0_0 : ByteArray) (a0_1 : Int) (a0_2 : Int) (a0_3 : Int) (a0_4 : Int) (a0_5 : Int) (r : Bool) (w : World) (h : impl_ValidPipe.f a0_0 a0_1 a0_2 a0_3 a0_4 a0_5 = some r) :
  Calls Try.prog 24 #[.agg #[.string a0_0, .int .i64 a0_1, .int .i64 a0_2, .int .i64 a0_3, .int .i64 a0_4, .int .i64 a0_5]] w fun e w' => e = .returned (.bool r) ∧ Below w.heap.size w w' := by
 have hu36 := Try.underlying36
 have HB := Aside0.mk (Below.refl w.heap.size w)
 have H : ((impl_IsName_.f a0_0).bind fun t184 => (if t184 = true then ((impl_nodeOk.f a0_1).bind fun t185 => (if t185 = true then ((impl_nodeOk.f a0_2).bind fun t186 => (if t186 = true then (if a0_1 = a0_2 then (some false) else ((impl_within_.f a0_3 1 10000).bind fun t187 => (if t187 = true then ((impl_within_.f a0_4 20 1000).bind fun t188 => (if t188 = true then ((impl_within_.f a0_5 0 5000).bind fun t189 => (some t189)) else (some false))) else (some false)))) else (some false))) else (some false))) else (some false))) = some r := h
 clear h
 replace H := Option.bind_eq_some_iff.mp H
 obtain ⟨t184, A20, H⟩ := H
 have A2 := Aside0.mk A20
 clear A20
 by_cases c3 : t184 = true
 ·subst c3;(rw [if_pos rfl] at H);replace H := Option.bind_eq_some_iff.mp H;obtain ⟨t185, A40, H⟩ := H;have A4 := Aside0.mk A40;clear A40;by_cases c5 : t185 = true
  ·subst c5;(rw [if_pos rfl] at H);replace H := Option.bind_eq_some_iff.mp H;obtain ⟨t186, A60, H⟩ := H;have A6 := Aside0.mk A60;clear A60;by_cases c7 : t186 = true
   ·subst c7;(rw [if_pos rfl] at H);by_cases c8 : a0_1 = a0_2
    ·(rw [if_pos c8] at H);have c8b0 : (a0_1 == a0_2) = true := beq_iff_eq.mpr c8;have c8b1 : (a0_1 != a0_2) = false := bne_eq_false_iff_eq.mpr c8;clear c8;obtain rfl := Option.some.inj H;go_enter Try.func24, Try.ntmps24
     go_wp2_with (first | ((with_reducible refine gate_dst (N := 1) rfl ?_); refine box_event ?hg (N := 1) ?hd (cs := #[.string a0_0, .int .i64 a0_1, .int .i64 a0_2, .int .i64 a0_3, .int .i64 a0_4, .int .i64 a0_5]) (t := 36) ?hr ?_; (case hd => rfl); (case hg => rfl); (case hr => first | (go_simp; done) | (go_simp; rfl)); intro gb183 hg w9 hbox hb; have BK183 := Aside0.mk (hbox); have GW183 := Aside0.mk ((z6_ : w.heap.size ≤ gb183)); have GE183 := Aside0.mk ((z6_ : w.heap.size ≤ gb183)); replace HB := Aside0.mk (below_step (z1_) hb); clear hb hbox hg; have hcz10_0 := bc0_ w9 BK183.out; have hcz10_1 := bc1_ w9 BK183.out; have hcz10_2 := bc2_ w9 BK183.out; have hcz10_3 := bc3_ w9 BK183.out; have hcz10_4 := bc4_ w9 BK183.out; have hcz10_5 := bc5_ w9 BK183.out; have hfz10_0 := blk_frozen BK183.out 0; have hfz10_1 := blk_frozen BK183.out 1; have hfz10_2 := blk_frozen BK183.out 2; have hfz10_3 := blk_frozen BK183.out 3; have hfz10_4 := blk_frozen BK183.out 4; have hfz10_5 := blk_frozen BK183.out 5) | ((with_reducible refine gate_callee (f := 39) rfl ?_); refine goesL_ (some 5) rfl rfl Try.func39 (z22_) rfl #[.string a0_0] rfl (z0_) ?_; (with_reducible refine (impl_IsName_.calls a0_0 true _ A2.out).mono ?_); rintro e w' ⟨rfl, ⟨nd, rfl⟩⟩; refine ⟨_, rfl, ?_⟩) | (go_at_call 40; (with_reducible refine (impl_nodeOk.calls a0_1 true _ A4.out).mono ?_); rintro e w' ⟨rfl, ⟨nd, rfl⟩⟩) | (go_at_call 40; (with_reducible refine (impl_nodeOk.calls a0_2 true _ A6.out).mono ?_); rintro e w' ⟨rfl, ⟨nd, rfl⟩⟩))
     go_ret;exact ⟨z13_, z110_⟩
    ·(rw [if_neg c8] at H);have c8b0 : (a0_1 == a0_2) = false := beq_eq_false_iff_ne.mpr c8;have c8b1 : (a0_1 != a0_2) = true := bne_iff_ne.mpr c8;replace H := Option.bind_eq_some_iff.mp H;obtain ⟨t187, A110, H⟩ := H;have A11 := Aside0.mk A110;clear A110;by_cases c12 : t187 = true
     ·subst c12;(rw [if_pos rfl] at H);replace H := Option.bind_eq_some_iff.mp H;obtain ⟨t188, A130, H⟩ := H;have A13 := Aside0.mk A130;clear A130;by_cases c14 : t188 = true
      ·subst c14;(rw [if_pos rfl] at H);replace H := Option.bind_eq_some_iff.mp H;obtain ⟨t189, A150, H⟩ := H;have A15 := Aside0.mk A150;clear A150;obtain rfl := Option.some.inj H;go_enter Try.func24, Try.ntmps24
       go_wp2_with (first | ((with_reducible refine gate_dst (N := 1) rfl ?_); refine box_event ?hg (N := 1) ?hd (cs := #[.string a0_0, .int .i64 a0_1, .int .i64 a0_2, .int .i64 a0_3, .int .i64 a0_4, .int .i64 a0_5]) (t := 36) ?hr ?_; (case hd => rfl); (case hg => rfl); (case hr => first | (go_simp; done) | (go_simp; rfl)); intro gb183 hg w16 hbox hb; have BK183 := Aside0.mk (hbox); have GW183 := Aside0.mk ((z6_ : w.heap.size ≤ gb183)); have GE183 := Aside0.mk ((z6_ : w.heap.size ≤ gb183)); replace HB := Aside0.mk (below_step (z1_) hb); clear hb hbox hg; have hcz17_0 := bc0_ w16 BK183.out; have hcz17_1 := bc1_ w16 BK183.out; have hcz17_2 := bc2_ w16 BK183.out; have hcz17_3 := bc3_ w16 BK183.out; have hcz17_4 := bc4_ w16 BK183.out; have hcz17_5 := bc5_ w16 BK183.out; have hfz17_0 := blk_frozen BK183.out 0; have hfz17_1 := blk_frozen BK183.out 1; have hfz17_2 := blk_frozen BK183.out 2; have hfz17_3 := blk_frozen BK183.out 3; have hfz17_4 := blk_frozen BK183.out 4; have hfz17_5 := blk_frozen BK183.out 5) | ((with_reducible refine gate_callee (f := 39) rfl ?_); refine goesL_ (some 5) rfl rfl Try.func39 (z22_) rfl #[.string a0_0] rfl (z0_) ?_; (with_reducible refine (impl_IsName_.calls a0_0 true _ A2.out).mono ?_); rintro e w' ⟨rfl, ⟨nd, rfl⟩⟩; refine ⟨_, rfl, ?_⟩) | (go_at_call 40; (with_reducible refine (impl_nodeOk.calls a0_1 true _ A4.out).mono ?_); rintro e w' ⟨rfl, ⟨nd, rfl⟩⟩) | (go_at_call 40; (with_reducible refine (impl_nodeOk.calls a0_2 true _ A6.out).mono ?_); rintro e w' ⟨rfl, ⟨nd, rfl⟩⟩) | (go_at_call 41; (with_reducible refine (impl_within_.calls a0_3 1 10000 true _ A11.out).mono ?_); rintro e w' ⟨rfl, ⟨nd, rfl⟩⟩) | (go_at_call 41; (with_reducible refine (impl_within_.calls a0_4 20 1000 true _ A13.out).mono ?_); rintro e w' ⟨rfl, ⟨nd, rfl⟩⟩) | (go_at_call 41; (with_reducible refine (impl_within_.calls a0_5 0 5000 t189 _ A15.out).mono ?_); rintro e w' ⟨rfl, ⟨nd, rfl⟩⟩))
       go_ret;exact ⟨z13_, z110_⟩
      ·replace c14 := Bool.eq_false_iff.mpr c14;subst c14;(rw [if_neg (show ¬ (false = true) by decide)] at H);obtain rfl := Option.some.inj H;go_enter Try.func24, Try.ntmps24
       go_wp2_with (first | ((with_reducible refine gate_dst (N := 1) rfl ?_); refine box_event ?hg (N := 1) ?hd (cs := #[.string a0_0, .int .i64 a0_1, .int .i64 a0_2, .int .i64 a0_3, .int .i64 a0_4, .int .i64 a0_5]) (t := 36) ?hr ?_; (case hd => rfl); (case hg => rfl); (case hr => first | (go_simp; done) | (go_simp; rfl)); intro gb183 hg w18 hbox hb; have BK183 := Aside0.mk (hbox); have GW183 := Aside0.mk ((z6_ : w.heap.size ≤ gb183)); have GE183 := Aside0.mk ((z6_ : w.heap.size ≤ gb183)); replace HB := Aside0.mk (below_step (z1_) hb); clear hb hbox hg; have hcz19_0 := bc0_ w18 BK183.out; have hcz19_1 := bc1_ w18 BK183.out; have hcz19_2 := bc2_ w18 BK183.out; have hcz19_3 := bc3_ w18 BK183.out; have hcz19_4 := bc4_ w18 BK183.out; have hcz19_5 := bc5_ w18 BK183.out; have hfz19_0 := blk_frozen BK183.out 0; have hfz19_1 := blk_frozen BK183.out 1; have hfz19_2 := blk_frozen BK183.out 2; have hfz19_3 := blk_frozen BK183.out 3; have hfz19_4 := blk_frozen BK183.out 4; have hfz19_5 := blk_frozen BK183.out 5) | ((with_reducible refine gate_callee (f := 39) rfl ?_); refine goesL_ (some 5) rfl rfl Try.func39 (z22_) rfl #[.string a0_0] rfl (z0_) ?_; (with_reducible refine (impl_IsName_.calls a0_0 true _ A2.out).mono ?_); rintro e w' ⟨rfl, ⟨nd, rfl⟩⟩; refine ⟨_, rfl, ?_⟩) | (go_at_call 40; (with_reducible refine (impl_nodeOk.calls a0_1 true _ A4.out).mono ?_); rintro e w' ⟨rfl, ⟨nd, rfl⟩⟩) | (go_at_call 40; (with_reducible refine (impl_nodeOk.calls a0_2 true _ A6.out).mono ?_); rintro e w' ⟨rfl, ⟨nd, rfl⟩⟩) | (go_at_call 41; (with_reducible refine (impl_within_.calls a0_3 1 10000 true _ A11.out).mono ?_); rintro e w' ⟨rfl, ⟨nd, rfl⟩⟩) | (go_at_call 41; (with_reducible refine (impl_within_.calls a0_4 20 1000 false _ A13.out).mono ?_); rintro e w' ⟨rfl, ⟨nd, rfl⟩⟩))
       go_ret;exact ⟨z13_, z110_⟩
     ·replace c12 := Bool.eq_false_iff.mpr c12;subst c12;(rw [if_neg (show ¬ (false = true) by decide)] at H);obtain rfl := Option.some.inj H;go_enter Try.func24, Try.ntmps24
      go_wp2_with (first | ((with_reducible refine gate_dst (N := 1) rfl ?_); refine box_event ?hg (N := 1) ?hd (cs := #[.string a0_0, .int .i64 a0_1, .int .i64 a0_2, .int .i64 a0_3, .int .i64 a0_4, .int .i64 a0_5]) (t := 36) ?hr ?_; (case hd => rfl); (case hg => rfl); (case hr => first | (go_simp; done) | (go_simp; rfl)); intro gb183 hg w20 hbox hb; have BK183 := Aside0.mk (hbox); have GW183 := Aside0.mk ((z6_ : w.heap.size ≤ gb183)); have GE183 := Aside0.mk ((z6_ : w.heap.size ≤ gb183)); replace HB := Aside0.mk (below_step (z1_) hb); clear hb hbox hg; have hcz21_0 := bc0_ w20 BK183.out; have hcz21_1 := bc1_ w20 BK183.out; have hcz21_2 := bc2_ w20 BK183.out; have hcz21_3 := bc3_ w20 BK183.out; have hcz21_4 := bc4_ w20 BK183.out; have hcz21_5 := bc5_ w20 BK183.out; have hfz21_0 := blk_frozen BK183.out 0; have hfz21_1 := blk_frozen BK183.out 1; have hfz21_2 := blk_frozen BK183.out 2; have hfz21_3 := blk_frozen BK183.out 3; have hfz21_4 := blk_frozen BK183.out 4; have hfz21_5 := blk_frozen BK183.out 5) | ((with_reducible refine gate_callee (f := 39) rfl ?_); refine goesL_ (some 5) rfl rfl Try.func39 (z22_) rfl #[.string a0_0] rfl (z0_) ?_; (with_reducible refine (impl_IsName_.calls a0_0 true _ A2.out).mono ?_); rintro e w' ⟨rfl, ⟨nd, rfl⟩⟩; refine ⟨_, rfl, ?_⟩) | (go_at_call 40; (with_reducible refine (impl_nodeOk.calls a0_1 true _ A4.out).mono ?_); rintro e w' ⟨rfl, ⟨nd, rfl⟩⟩) | (go_at_call 40; (with_reducible refine (impl_nodeOk.calls a0_2 true _ A6.out).mono ?_); rintro e w' ⟨rfl, ⟨nd, rfl⟩⟩) | (go_at_call 41; (with_reducible refine (impl_within_.calls a0_3 1 10000 false _ A11.out).mono ?_); rintro e w' ⟨rfl, ⟨nd, rfl⟩⟩))
      go_ret;exact ⟨z13_, z110_⟩
   ·replace c7 := Bool.eq_false_iff.mpr c7;subst c7;(rw [if_neg (show ¬ (false = true) by decide)] at H);obtain rfl := Option.some.inj H;go_enter Try.func24, Try.ntmps24
    go_wp2_with (first | ((with_reducible refine gate_dst (N := 1) rfl ?_); refine box_event ?hg (N := 1) ?hd (cs := #[.string a0_0, .int .i64 a0_1, .int .i64 a0_2, .int .i64 a0_3, .int .i64 a0_4, .int .i64 a0_5]) (t := 36) ?hr ?_; (case hd => rfl); (case hg => rfl); (case hr => first | (go_simp; done) | (go_simp; rfl)); intro gb183 hg w22 hbox hb; have BK183 := Aside0.mk (hbox); have GW183 := Aside0.mk ((z6_ : w.heap.size ≤ gb183)); have GE183 := Aside0.mk ((z6_ : w.heap.size ≤ gb183)); replace HB := Aside0.mk (below_step (z1_) hb); clear hb hbox hg; have hcz23_0 := bc0_ w22 BK183.out; have hcz23_1 := bc1_ w22 BK183.out; have hcz23_2 := bc2_ w22 BK183.out; have hcz23_3 := bc3_ w22 BK183.out; have hcz23_4 := bc4_ w22 BK183.out; have hcz23_5 := bc5_ w22 BK183.out; have hfz23_0 := blk_frozen BK183.out 0; have hfz23_1 := blk_frozen BK183.out 1; have hfz23_2 := blk_frozen BK183.out 2; have hfz23_3 := blk_frozen BK183.out 3; have hfz23_4 := blk_frozen BK183.out 4; have hfz23_5 := blk_frozen BK183.out 5) | ((with_reducible refine gate_callee (f := 39) rfl ?_); refine goesL_ (some 5) rfl rfl Try.func39 (z22_) rfl #[.string a0_0] rfl (z0_) ?_; (with_reducible refine (impl_IsName_.calls a0_0 true _ A2.out).mono ?_); rintro e w' ⟨rfl, ⟨nd, rfl⟩⟩; refine ⟨_, rfl, ?_⟩) | (go_at_call 40; (with_reducible refine (impl_nodeOk.calls a0_1 true _ A4.out).mono ?_); rintro e w' ⟨rfl, ⟨nd, rfl⟩⟩) | (go_at_call 40; (with_reducible refine (impl_nodeOk.calls a0_2 false _ A6.out).mono ?_); rintro e w' ⟨rfl, ⟨nd, rfl⟩⟩))
    go_ret;exact ⟨z13_, z110_⟩
  ·replace c5 := Bool.eq_false_iff.mpr c5;subst c5;(rw [if_neg (show ¬ (false = true) by decide)] at H);obtain rfl := Option.some.inj H;go_enter Try.func24, Try.ntmps24
   go_wp2_with (first | ((with_reducible refine gate_dst (N := 1) rfl ?_); refine box_event ?hg (N := 1) ?hd (cs := #[.string a0_0, .int .i64 a0_1, .int .i64 a0_2, .int .i64 a0_3, .int .i64 a0_4, .int .i64 a0_5]) (t := 36) ?hr ?_; (case hd => rfl); (case hg => rfl); (case hr => first | (go_simp; done) | (go_simp; rfl)); intro gb183 hg w24 hbox hb; have BK183 := Aside0.mk (hbox); have GW183 := Aside0.mk ((z6_ : w.heap.size ≤ gb183)); have GE183 := Aside0.mk ((z6_ : w.heap.size ≤ gb183)); replace HB := Aside0.mk (below_step (z1_) hb); clear hb hbox hg; have hcz25_0 := bc0_ w24 BK183.out; have hcz25_1 := bc1_ w24 BK183.out; have hcz25_2 := bc2_ w24 BK183.out; have hcz25_3 := bc3_ w24 BK183.out; have hcz25_4 := bc4_ w24 BK183.out; have hcz25_5 := bc5_ w24 BK183.out; have hfz25_0 := blk_frozen BK183.out 0; have hfz25_1 := blk_frozen BK183.out 1; have hfz25_2 := blk_frozen BK183.out 2; have hfz25_3 := blk_frozen BK183.out 3; have hfz25_4 := blk_frozen BK183.out 4; have hfz25_5 := blk_frozen BK183.out 5) | ((with_reducible refine gate_callee (f := 39) rfl ?_); refine goesL_ (some 5) rfl rfl Try.func39 (z22_) rfl #[.string a0_0] rfl (z0_) ?_; (with_reducible refine (impl_IsName_.calls a0_0 true _ A2.out).mono ?_); rintro e w' ⟨rfl, ⟨nd, rfl⟩⟩; refine ⟨_, rfl, ?_⟩) | (go_at_call 40; (with_reducible refine (impl_nodeOk.calls a0_1 false _ A4.out).mono ?_); rintro e w' ⟨rfl, ⟨nd, rfl⟩⟩))
   go_ret;exact ⟨z13_, z110_⟩
 ·replace c3 := Bool.eq_false_iff.mpr c3;subst c3;(rw [if_neg (show ¬ (false = true) by decide)] at H);obtain rfl := Option.some.inj H;go_enter Try.func24, Try.ntmps24
  go_wp2_with (first | ((with_reducible refine gate_dst (N := 1) rfl ?_); refine box_event ?hg (N := 1) ?hd (cs := #[.string a0_0, .int .i64 a0_1, .int .i64 a0_2, .int .i64 a0_3, .int .i64 a0_4, .int .i64 a0_5]) (t := 36) ?hr ?_; (case hd => rfl); (case hg => rfl); (case hr => first | (go_simp; done) | (go_simp; rfl)); intro gb183 hg w26 hbox hb; have BK183 := Aside0.mk (hbox); have GW183 := Aside0.mk ((z6_ : w.heap.size ≤ gb183)); have GE183 := Aside0.mk ((z6_ : w.heap.size ≤ gb183)); replace HB := Aside0.mk (below_step (z1_) hb); clear hb hbox hg; have hcz27_0 := bc0_ w26 BK183.out; have hcz27_1 := bc1_ w26 BK183.out; have hcz27_2 := bc2_ w26 BK183.out; have hcz27_3 := bc3_ w26 BK183.out; have hcz27_4 := bc4_ w26 BK183.out; have hcz27_5 := bc5_ w26 BK183.out; have hfz27_0 := blk_frozen BK183.out 0; have hfz27_1 := blk_frozen BK183.out 1; have hfz27_2 := blk_frozen BK183.out 2; have hfz27_3 := blk_frozen BK183.out 3; have hfz27_4 := blk_frozen BK183.out 4; have hfz27_5 := blk_frozen BK183.out 5) | ((with_reducible refine gate_callee (f := 39) rfl ?_); refine goesL_ (some 5) rfl rfl Try.func39 (z22_) rfl #[.string a0_0] rfl (z0_) ?_; (with_reducible refine (impl_IsName_.calls a0_0 false _ A2.out).mono ?_); rintro e w' ⟨rfl, ⟨nd, rfl⟩⟩; refine ⟨_, rfl, ?_⟩))
  go_ret;exact ⟨z13_, z110_⟩

open Go.Proofs.YtcnbceiiimmgaaaM
def impl_ValidPipe_.f (a0_0 : ByteArray) (a0_1 a0_2 a0_3 a0_4 a0_5 : Int) : Option Bool := if a0_0.size ≤ 9000000000000000000 then some (pipeOk a0_0 a0_1 a0_2 a0_3 a0_4 a0_5) else none
theorem impl_ValidPipe_.same (s : ByteArray) (f t l d x : Int) (hs : s.size ≤ 9000000000000000000) : impl_ValidPipe.f s f t l d x = some (pipeOk s f t l d x) := by
  unfold impl_ValidPipe.f impl_IsName_.f impl_nodeOk.f pipeOk
  rw [if_pos hs]
  simp only [impl_within_.f, Option.bind_some]
  cases nameOk s
  · simp
  · by_cases c1 : 0 ≤ f ∧ f ≤ 15
    · by_cases c2 : 0 ≤ t ∧ t ≤ 15
      · simp only [decide_eq_true c1, decide_eq_true c2, if_true, Bool.true_and]
        by_cases c3 : f = t
        · simp [c3]
        · by_cases c4 : 1 ≤ l ∧ l ≤ 10000
          · by_cases c5 : 20 ≤ d ∧ d ≤ 1000
            · simp [c3, c4, c5]
            · simp [c3, c4, decide_eq_false c5]
          · simp [c3, decide_eq_false c4]
      · simp only [decide_eq_true c1, decide_eq_false c2]; simp
    · simp only [decide_eq_false c1]; simp
theorem impl_ValidPipe_.calls (a0_0 : ByteArray) (a0_1 : Int) (a0_2 : Int) (a0_3 : Int) (a0_4 : Int) (a0_5 : Int) (r : Bool) (w : World) (h : impl_ValidPipe_.f a0_0 a0_1 a0_2 a0_3 a0_4 a0_5 = some r) :
    Calls Try.prog 24 #[.agg #[.string a0_0, .int .i64 a0_1, .int .i64 a0_2, .int .i64 a0_3, .int .i64 a0_4, .int .i64 a0_5]] w fun e w' => e = .returned (.bool r) ∧ Below w.heap.size w w' := by
  unfold impl_ValidPipe_.f at h
  split at h
  · rename_i hs
    exact impl_ValidPipe.calls a0_0 a0_1 a0_2 a0_3 a0_4 a0_5 r w (by rw [← h]; exact impl_ValidPipe_.same a0_0 a0_1 a0_2 a0_3 a0_4 a0_5 hs)
  · exact absurd h (by simp)

/-! ### impl_Network_hasNode: function 42 -/
def impl_Network_hasNode.f (l0_0 : List Int) (l0_1 : List (S36)) (a1 : Int) : Option (Bool) := (impl_within_.f a1 0 (wrap64 ((l0_0.length : Int) - 1))).bind fun t191 => (some t191)
set_option maxHeartbeats 8000000 in
set_option maxRecDepth 100000 in
theorem impl_Network_hasNode.calls (A0_0 : Option Addr) (c0_0 : Nat) (l0_0 : List Int) (A0_1 : Option Addr) (c0_1 : Nat) (l0_1 : List (S36)) (a1 : Int) (r : Bool) (w : World) (hr0_0 : Kd.C (Kd.int .i64) w A0_0 l0_0.length l0_0) (hc0_0 : l0_0.length ≤ c0_0) (hr0_1 : Kd.C k36 w A0_1 l0_1.length l0_1) (hc0_1 : l0_1.length ≤ c0_1) (h : impl_Network_hasNode.f l0_0 l0_1 a1 = some r) :
  Calls Try.prog 42 #[.agg #[.slice A0_0 l0_0.length c0_0, .slice A0_1 l0_1.length c0_1], .int .i64 a1] w fun e w' => e = .returned (.bool r) ∧ Below w.heap.size w w' := by
 have hu32 := Try.underlying32
 have HR0_0 := Aside0.mk hr0_0
 have HC0_0 := Aside0.mk hc0_0
 clear hr0_0 hc0_0
 have HR0_1 := Aside0.mk hr0_1
 have HC0_1 := Aside0.mk hc0_1
 clear hr0_1 hc0_1
 have HB := Aside0.mk (Below.refl w.heap.size w)
 have H : ((impl_within_.f a1 0 (wrap64 ((l0_0.length : Int) - 1))).bind fun t191 => (some t191)) = some r := h
 clear h
 replace H := Option.bind_eq_some_iff.mp H
 obtain ⟨t191, A30, H⟩ := H
 have A3 := Aside0.mk A30
 clear A30
 obtain rfl := Option.some.inj H
 go_enter Try.func42, Try.ntmps42
 go_wp2_with (first | ((with_reducible refine gate_dst (N := 2) rfl ?_); refine box_event ?hg (N := 2) ?hd (cs := #[.slice A0_0 l0_0.length c0_0, .slice A0_1 l0_1.length c0_1]) (t := 32) ?hr ?_; (case hd => rfl); (case hg => rfl); (case hr => first | (go_simp; done) | (go_simp; rfl)); intro gb190 hg w4 hbox hb; have BK190 := Aside0.mk (hbox); have GW190 := Aside0.mk ((z6_ : w.heap.size ≤ gb190)); have GE190 := Aside0.mk ((z6_ : w.heap.size ≤ gb190)); replace HB := Aside0.mk (below_step (z1_) hb); clear hb hbox hg; have hcz5_0 := bc0_ w4 BK190.out; have hcz5_1 := bc1_ w4 BK190.out; have hfz5_0 := blk_frozen BK190.out 0; have hfz5_1 := blk_frozen BK190.out 1) | ((with_reducible refine gate_callee (f := 41) rfl ?_); refine goesL_ (some 10) rfl rfl Try.func41 (z22_) rfl #[.int .i64 a1, .int .i64 0, .int .i64 (wrap64 ((l0_0.length : Int) - 1))] rfl (z0_) ?_; (with_reducible refine (impl_within_.calls a1 0 (wrap64 ((l0_0.length : Int) - 1)) t191 _ A3.out).mono ?_); rintro e w' ⟨rfl, ⟨nd, rfl⟩⟩; refine ⟨_, rfl, ?_⟩))
 go_ret
 exact ⟨z13_, by repeat (first | (with_reducible first | exact HB.out|apply wA|apply wN|apply wD |refine wS ?_ GE190.out) | exact HB.out)⟩

open Go.Proofs.YtcnbceiiimmgaaaM
def impl_Network_hasNode_.f (l0_0 : List Int) (l0_1 : List S36) (a1 : Int) : Option Bool := if l0_0.length ≤ 4611686018427387904 then some (decide (0 ≤ a1 ∧ a1 ≤ (l0_0.length : Int) - 1)) else none
theorem impl_Network_hasNode_.same (ns : List Int) (ps : List S36) (x : Int) (h : ns.length ≤ 4611686018427387904) : impl_Network_hasNode.f ns ps x = some (decide (0 ≤ x ∧ x ≤ (ns.length : Int) - 1)) := by
  unfold impl_Network_hasNode.f impl_within_.f
  rw [w64 (x := (ns.length : Int) - 1) (by omega) (by omega)]; rfl
theorem impl_Network_hasNode_.calls (A0_0 : Option Addr) (c0_0 : Nat) (l0_0 : List Int) (A0_1 : Option Addr) (c0_1 : Nat) (l0_1 : List (S36)) (a1 : Int) (r : Bool) (w : World) (hr0_0 : Kd.C (Kd.int .i64) w A0_0 l0_0.length l0_0) (hc0_0 : l0_0.length ≤ c0_0) (hr0_1 : Kd.C k36 w A0_1 l0_1.length l0_1) (hc0_1 : l0_1.length ≤ c0_1) (h : impl_Network_hasNode_.f l0_0 l0_1 a1 = some r) :
    Calls Try.prog 42 #[.agg #[.slice A0_0 l0_0.length c0_0, .slice A0_1 l0_1.length c0_1], .int .i64 a1] w fun e w' => e = .returned (.bool r) ∧ Below w.heap.size w w' := by
  unfold impl_Network_hasNode_.f at h
  split at h
  · rename_i hs
    exact impl_Network_hasNode.calls A0_0 c0_0 l0_0 A0_1 c0_1 l0_1 a1 r w hr0_0 hc0_0 hr0_1 hc0_1 (by rw [← h]; exact impl_Network_hasNode_.same l0_0 l0_1 a1 hs)
  · exact absurd h (by simp)


/-! ### impl_Network_hasEnds: function 25 -/
def impl_Network_hasEnds.f (l0_0 : List Int) (l0_1 : List (S36)) (a1_0 : ByteArray) (a1_1 : Int) (a1_2 : Int) (a1_3 : Int) (a1_4 : Int) (a1_5 : Int) : Option (Bool) := (impl_Network_hasNode_.f l0_0 l0_1 a1_1).bind fun t194 => (if t194 = true then ((impl_Network_hasNode_.f l0_0 l0_1 a1_2).bind fun t195 => (some t195)) else (some false))
set_option maxHeartbeats 8000000 in
set_option maxRecDepth 100000 in
theorem impl_Network_hasEnds.calls (A0_0 : Option Addr) (c0_0 : Nat) (l0_0 : List Int) (A0_1 : Option Addr) (c0_1 : Nat) (l0_1 : List (S36)) (a1_0 : ByteArray) (a1_1 : Int) (a1_2 : Int) (a1_3 : Int) (a1_4 : Int) (a1_5 : Int) (r : Bool) (w : World) (hr0_0 : Kd.C (Kd.int .i64) w A0_0 l0_0.length l0_0) (hc0_0 : l0_0.length ≤ c0_0) (hr0_1 : Kd.C k36 w A0_1 l0_1.length l0_1) (hc0_1 : l0_1.length ≤ c0_1) (h : impl_Network_hasEnds.f l0_0 l0_1 a1_0 a1_1 a1_2 a1_3 a1_4 a1_5 = some r) :
  Calls Try.prog 25 #[.agg #[.slice A0_0 l0_0.length c0_0, .slice A0_1 l0_1.length c0_1], .agg #[.string a1_0, .int .i64 a1_1, .int .i64 a1_2, .int .i64 a1_3, .int .i64 a1_4, .int .i64 a1_5]] w fun e w' => e = .returned (.bool r) ∧ Below w.heap.size w w' := by
 have hu32 := Try.underlying32
 have hu36 := Try.underlying36
 have HR0_0 := Aside0.mk hr0_0
 have HC0_0 := Aside0.mk hc0_0
 clear hr0_0 hc0_0
 have HR0_1 := Aside0.mk hr0_1
 have HC0_1 := Aside0.mk hc0_1
 clear hr0_1 hc0_1
 have HB := Aside0.mk (Below.refl w.heap.size w)
 have H : ((impl_Network_hasNode_.f l0_0 l0_1 a1_1).bind fun t194 => (if t194 = true then ((impl_Network_hasNode_.f l0_0 l0_1 a1_2).bind fun t195 => (some t195)) else (some false))) = some r := h
 clear h
 replace H := Option.bind_eq_some_iff.mp H
 obtain ⟨t194, A30, H⟩ := H
 have A3 := Aside0.mk A30
 clear A30
 by_cases c4 : t194 = true
 ·subst c4;(rw [if_pos rfl] at H);replace H := Option.bind_eq_some_iff.mp H;obtain ⟨t195, A50, H⟩ := H;have A5 := Aside0.mk A50;clear A50;obtain rfl := Option.some.inj H;go_enter Try.func25, Try.ntmps25
  go_wp2_with (first | ((with_reducible refine gate_dst (N := 2) rfl ?_); refine box_event ?hg (N := 2) ?hd (cs := #[.slice A0_0 l0_0.length c0_0, .slice A0_1 l0_1.length c0_1]) (t := 32) ?hr ?_; (case hd => rfl); (case hg => rfl); (case hr => first | (go_simp; done) | (go_simp; rfl)); intro gb192 hg w6 hbox hb; have BK192 := Aside0.mk (hbox); have GW192 := Aside0.mk ((z6_ : w.heap.size ≤ gb192)); have GE192 := Aside0.mk ((z6_ : w.heap.size ≤ gb192)); replace HB := Aside0.mk (below_step (z1_) hb); clear hb hbox hg) | ((with_reducible refine gate_dst (N := 3) rfl ?_); refine box_event ?hg (N := 3) ?hd (cs := #[.string a1_0, .int .i64 a1_1, .int .i64 a1_2, .int .i64 a1_3, .int .i64 a1_4, .int .i64 a1_5]) (t := 36) ?hr ?_; (case hd => rfl); (case hg => rfl); (case hr => first | (go_simp; done) | (go_simp; rfl)); intro gb193 hg w7 hbox hb; have BK193 := Aside0.mk (hbox); have GW193 := Aside0.mk ((z150_ : w.heap.size ≤ gb193)); have GE193 := Aside0.mk ((z150_ : w.heap.size ≤ gb193)); replace HB := Aside0.mk (below_step (z115_) hb); have NB192_193 := Aside0.mk ((z180_ : gb192 ≠ gb193)); have NB193_192 := Aside0.mk ((z181_ : gb193 ≠ gb192)); replace BK192 := Aside0.mk (blk_below (g := gb192) (o := .cells #[.slice A0_0 l0_0.length c0_0, .slice A0_1 l0_1.length c0_1] 32 (0, 0)) (z107_) hb); clear hb hbox hg; have hnb8 := NB192_193.out; have hnc8 := NB193_192.out; have hcz9_0 := bc0_ w7 BK192.out; have hcz9_1 := bc1_ w7 BK192.out; have hfz9_0 := blk_frozen BK192.out 0; have hfz9_1 := blk_frozen BK192.out 1; have hcz10_0 := bc0_ w7 BK193.out; have hcz10_1 := bc1_ w7 BK193.out; have hcz10_2 := bc2_ w7 BK193.out; have hcz10_3 := bc3_ w7 BK193.out; have hcz10_4 := bc4_ w7 BK193.out; have hcz10_5 := bc5_ w7 BK193.out; have hfz10_0 := blk_frozen BK193.out 0; have hfz10_1 := blk_frozen BK193.out 1; have hfz10_2 := blk_frozen BK193.out 2; have hfz10_3 := blk_frozen BK193.out 3; have hfz10_4 := blk_frozen BK193.out 4; have hfz10_5 := blk_frozen BK193.out 5) | ((with_reducible refine gate_callee (f := 42) rfl ?_); refine goesL_ (some 8) rfl rfl Try.func42 (z22_) rfl #[.agg #[.slice A0_0 l0_0.length c0_0, .slice A0_1 l0_1.length c0_1], .int .i64 a1_1] rfl (z0_) ?_; (with_reducible refine (impl_Network_hasNode_.calls _ _ l0_0 _ _ l0_1 a1_1 true _ ?side1 ?side2 ?side3 ?side4 A3.out).mono ?_); (case side1 => repeat (first | exact (Kd.C_below HR0_0.out HB.out) | (with_reducible first|refine Kd.C_alloc ?_ _|refine Kd.C_drewN ?_ _|refine Kd.C_drew ?_))); (case side2 => exact HC0_0.out); (case side3 => repeat (first | exact (Kd.C_below HR0_1.out HB.out) | (with_reducible first|refine Kd.C_alloc ?_ _|refine Kd.C_drewN ?_ _|refine Kd.C_drew ?_))); (case side4 => exact HC0_1.out); rintro e w11 ⟨rfl, hb⟩; refine ⟨_, rfl, ?_⟩; replace BK192 := Aside0.mk (blk_below (g := gb192) (o := .cells #[.slice A0_0 l0_0.length c0_0, .slice A0_1 l0_1.length c0_1] 32 (0, 0)) (z107_) hb); replace BK193 := Aside0.mk (blk_below (g := gb193) (o := .cells #[.string a1_0, .int .i64 a1_1, .int .i64 a1_2, .int .i64 a1_3, .int .i64 a1_4, .int .i64 a1_5] 36 (0, 0)) (z236_) hb); replace HB := Aside0.mk (below_step (z117_) hb); (try clear hb); (try clear hb2); (try clear hk); (try clear hi); have hcz12_0 := bc0_ w11 BK192.out; have hcz12_1 := bc1_ w11 BK192.out; have hfz12_0 := blk_frozen BK192.out 0; have hfz12_1 := blk_frozen BK192.out 1; have hcz13_0 := bc0_ w11 BK193.out; have hcz13_1 := bc1_ w11 BK193.out; have hcz13_2 := bc2_ w11 BK193.out; have hcz13_3 := bc3_ w11 BK193.out; have hcz13_4 := bc4_ w11 BK193.out; have hcz13_5 := bc5_ w11 BK193.out; have hfz13_0 := blk_frozen BK193.out 0; have hfz13_1 := blk_frozen BK193.out 1; have hfz13_2 := blk_frozen BK193.out 2; have hfz13_3 := blk_frozen BK193.out 3; have hfz13_4 := blk_frozen BK193.out 4; have hfz13_5 := blk_frozen BK193.out 5) | (go_at_call 42; (with_reducible refine (impl_Network_hasNode_.calls _ _ l0_0 _ _ l0_1 a1_2 t195 _ ?side1 ?side2 ?side3 ?side4 A5.out).mono ?_); (case side1 => repeat (first | exact (Kd.C_below HR0_0.out HB.out) | (with_reducible first|refine Kd.C_alloc ?_ _|refine Kd.C_drewN ?_ _|refine Kd.C_drew ?_))); (case side2 => exact HC0_0.out); (case side3 => repeat (first | exact (Kd.C_below HR0_1.out HB.out) | (with_reducible first|refine Kd.C_alloc ?_ _|refine Kd.C_drewN ?_ _|refine Kd.C_drew ?_))); (case side4 => exact HC0_1.out); rintro e w14 ⟨rfl, hb⟩; replace BK192 := Aside0.mk (blk_below (g := gb192) (o := .cells #[.slice A0_0 l0_0.length c0_0, .slice A0_1 l0_1.length c0_1] 32 (0, 0)) (z107_) hb); replace BK193 := Aside0.mk (blk_below (g := gb193) (o := .cells #[.string a1_0, .int .i64 a1_1, .int .i64 a1_2, .int .i64 a1_3, .int .i64 a1_4, .int .i64 a1_5] 36 (0, 0)) (z236_) hb); replace HB := Aside0.mk (below_step (z117_) hb); (try clear hb); (try clear hb2); (try clear hk); (try clear hi)))
  go_ret;exact ⟨z13_, z117_⟩
 ·replace c4 := Bool.eq_false_iff.mpr c4;subst c4;(rw [if_neg (show ¬ (false = true) by decide)] at H);obtain rfl := Option.some.inj H;go_enter Try.func25, Try.ntmps25
  go_wp2_with (first | ((with_reducible refine gate_dst (N := 2) rfl ?_); refine box_event ?hg (N := 2) ?hd (cs := #[.slice A0_0 l0_0.length c0_0, .slice A0_1 l0_1.length c0_1]) (t := 32) ?hr ?_; (case hd => rfl); (case hg => rfl); (case hr => first | (go_simp; done) | (go_simp; rfl)); intro gb192 hg w15 hbox hb; have BK192 := Aside0.mk (hbox); have GW192 := Aside0.mk ((z6_ : w.heap.size ≤ gb192)); have GE192 := Aside0.mk ((z6_ : w.heap.size ≤ gb192)); replace HB := Aside0.mk (below_step (z1_) hb); clear hb hbox hg) | ((with_reducible refine gate_dst (N := 3) rfl ?_); refine box_event ?hg (N := 3) ?hd (cs := #[.string a1_0, .int .i64 a1_1, .int .i64 a1_2, .int .i64 a1_3, .int .i64 a1_4, .int .i64 a1_5]) (t := 36) ?hr ?_; (case hd => rfl); (case hg => rfl); (case hr => first | (go_simp; done) | (go_simp; rfl)); intro gb193 hg w16 hbox hb; have BK193 := Aside0.mk (hbox); have GW193 := Aside0.mk ((z150_ : w.heap.size ≤ gb193)); have GE193 := Aside0.mk ((z150_ : w.heap.size ≤ gb193)); replace HB := Aside0.mk (below_step (z115_) hb); have NB192_193 := Aside0.mk ((z180_ : gb192 ≠ gb193)); have NB193_192 := Aside0.mk ((z181_ : gb193 ≠ gb192)); replace BK192 := Aside0.mk (blk_below (g := gb192) (o := .cells #[.slice A0_0 l0_0.length c0_0, .slice A0_1 l0_1.length c0_1] 32 (0, 0)) (z107_) hb); clear hb hbox hg; have hnb17 := NB192_193.out; have hnc17 := NB193_192.out; have hcz18_0 := bc0_ w16 BK192.out; have hcz18_1 := bc1_ w16 BK192.out; have hfz18_0 := blk_frozen BK192.out 0; have hfz18_1 := blk_frozen BK192.out 1; have hcz19_0 := bc0_ w16 BK193.out; have hcz19_1 := bc1_ w16 BK193.out; have hcz19_2 := bc2_ w16 BK193.out; have hcz19_3 := bc3_ w16 BK193.out; have hcz19_4 := bc4_ w16 BK193.out; have hcz19_5 := bc5_ w16 BK193.out; have hfz19_0 := blk_frozen BK193.out 0; have hfz19_1 := blk_frozen BK193.out 1; have hfz19_2 := blk_frozen BK193.out 2; have hfz19_3 := blk_frozen BK193.out 3; have hfz19_4 := blk_frozen BK193.out 4; have hfz19_5 := blk_frozen BK193.out 5) | ((with_reducible refine gate_callee (f := 42) rfl ?_); refine goesL_ (some 8) rfl rfl Try.func42 (z22_) rfl #[.agg #[.slice A0_0 l0_0.length c0_0, .slice A0_1 l0_1.length c0_1], .int .i64 a1_1] rfl (z0_) ?_; (with_reducible refine (impl_Network_hasNode_.calls _ _ l0_0 _ _ l0_1 a1_1 false _ ?side1 ?side2 ?side3 ?side4 A3.out).mono ?_); (case side1 => repeat (first | exact (Kd.C_below HR0_0.out HB.out) | (with_reducible first|refine Kd.C_alloc ?_ _|refine Kd.C_drewN ?_ _|refine Kd.C_drew ?_))); (case side2 => exact HC0_0.out); (case side3 => repeat (first | exact (Kd.C_below HR0_1.out HB.out) | (with_reducible first|refine Kd.C_alloc ?_ _|refine Kd.C_drewN ?_ _|refine Kd.C_drew ?_))); (case side4 => exact HC0_1.out); rintro e w20 ⟨rfl, hb⟩; refine ⟨_, rfl, ?_⟩; replace BK192 := Aside0.mk (blk_below (g := gb192) (o := .cells #[.slice A0_0 l0_0.length c0_0, .slice A0_1 l0_1.length c0_1] 32 (0, 0)) (z107_) hb); replace BK193 := Aside0.mk (blk_below (g := gb193) (o := .cells #[.string a1_0, .int .i64 a1_1, .int .i64 a1_2, .int .i64 a1_3, .int .i64 a1_4, .int .i64 a1_5] 36 (0, 0)) (z236_) hb); replace HB := Aside0.mk (below_step (z117_) hb); (try clear hb); (try clear hb2); (try clear hk); (try clear hi)))
  go_ret;exact ⟨z13_, z117_⟩


/-! ### slices_IndexFunc_int64_int64: function 54 -/
open Go.Proofs.YtcnbceiiimmgaaaM
/-- Where the first element with a property lies; -1. -/
def firstIdx (p : Int → Bool) (l : List Int) : Int := if l.any p = true then (l.findIdx p : Nat) else -1
theorem firstIdx_at (p : Int → Bool) (l : List Int) (k : Nat) (hk : k < l.length) (h0 : ∀ j, j < k → p (l.getD j 0) = false) (h1 : p (l.getD k 0) = true) : firstIdx p l = k := by
  have e : ∀ j (h : j < l.length), l.getD j 0 = l[j] := fun j h => by simp [List.getD_eq_getElem?_getD, List.getElem?_eq_getElem h]
  unfold firstIdx
  rw [if_pos (List.any_eq_true.2 ⟨l[k], List.getElem_mem hk, by rw [← e k hk]; exact h1⟩)]
  congr 1
  refine (List.findIdx_eq hk).2 ⟨by rw [← e k hk]; exact h1, fun j hj => ?_⟩
  have := h0 j hj
  rw [e j (by omega)] at this
  simpa using this
theorem firstIdx_none (p : Int → Bool) (l : List Int) (h0 : ∀ j, j < l.length → p (l.getD j 0) = false) : firstIdx p l = -1 := by
  unfold firstIdx
  rw [if_neg]
  intro h
  obtain ⟨x, hx, hp⟩ := List.any_eq_true.1 h
  obtain ⟨j, hj, rfl⟩ := List.getElem_of_mem hx
  have := h0 j hj
  rw [List.getD_eq_getElem?_getD, List.getElem?_eq_getElem hj] at this
  simp only [Option.getD_some] at this
  rw [this] at hp
  cases hp
set_option maxHeartbeats 4000000 in
set_option maxRecDepth 100000 in
theorem indexFunc_any (g : Nat) (cb : Array Value) (A : Option Addr) (c : Nat) (l : List Int) (p : Int → Bool) (w : World) (eg : Enters Try.prog g) (hr : Kd.C (Kd.int .i64) w A l.length l) (hl : l.length ≤ 4611686018427387904)
    (hf : ∀ (W : World) (j : Nat), Below w.heap.size w W → j < l.length → Calls Try.prog g (#[.int .i64 (l.getD j 0)] ++ cb) W fun e w' => e = .returned (.bool (p (l.getD j 0))) ∧ Below W.heap.size W w') :
    Calls Try.prog 54 #[.slice A l.length c, .func (.func g) #[] cb] w fun e w' => e = .returned (.int .i64 (firstIdx p l)) ∧ Below w.heap.size w w' := by
  have HR := Aside0.mk hr
  have HF := Aside0.mk hf
  clear hr hf
  have eg' : ∀ args w, (callFunc g args).run Try.prog w = .ok (.enter g args) w := eg
  clear eg
  obtain ⟨r, hr0⟩ : ∃ r, firstIdx p l = r := ⟨_, rfl⟩
  rw [hr0]
  have R := Aside0.mk hr0
  clear hr0
  go_enter Try.func54, Try.ntmps54
  go_wp2
  go_loopw [8, 5] (fun v _ wr => ∃ k : Nat, k ≤ l.length ∧ v = .int .i64 k ∧ Aside0 (Below w.heap.size w wr) ∧ Aside0 (∀ j, j < k → p (l.getD j 0) = false)) (fun v _ _ => l.length - (intOf v).toNat)
  case atStart => exact ⟨0, by omega, rfl, ⟨Below.refl _ _⟩, ⟨fun j hj => by omega⟩⟩
  case round =>
    obtain ⟨k, hk, rfl, HB, I⟩ := hrel
    by_cases hlt : k < l.length
    · have hc := HF.out wr k HB.out hlt
      have i0 : (0 : Int) ≤ (k : Int) := by omega
      have i1 : (k : Int) < (l.length : Int) := by omega
      obtain ⟨ad, ead, hx⟩ := Kd.at_int (Kd.C_below HR.out HB.out) (k : Int) i0 i1
      cases ead
      have ex : rd l (k : Int) = l.getD k 0 := by unfold rd; rw [Int.toNat_natCast]
      rw [ex, Int.toNat_natCast] at hx
      clear ex
      cases hp : p (l.getD k 0) <;> rw [hp] at hc
      · have P0 := Aside0.mk hp
        clear hp
        generalize l.getD k 0 = x at hc hx
        go_wp2_with (go_at_fn g; refine hc.mono ?_; rintro e w' ⟨rfl, hb⟩)
        go_roundw
        case rel => exact ⟨k + 1, by omega, by go_num, ⟨below_then HB.out HB.out.size hb⟩, ⟨fun j hj => by
          by_cases e : j = k
          · subst e; exact P0.out
          · exact I.out j (by omega)⟩⟩
        case measure => simp [intOf]; omega
      · have P0 := Aside0.mk hp
        clear hp
        have E := Aside0.mk (firstIdx_at p l k hlt I.out P0.out)
        generalize l.getD k 0 = x at hc hx
        go_wp2_with (go_at_fn g; refine hc.mono ?_; rintro e w' ⟨rfl, hb⟩)
        go_ret
        exact ⟨by rw [← R.out, E.out]; rfl, below_then HB.out HB.out.size hb⟩
    · have E := Aside0.mk (firstIdx_none p l (fun j hj => I.out j (by omega)))
      go_wp2
      go_ret
      exact ⟨by rw [← R.out, E.out]; rfl, HB.out⟩


/-! ### slices_ContainsFunc_int64_int64: function 48 -/
theorem firstIdx_any (p : Int → Bool) (l : List Int) : decide (0 ≤ firstIdx p l) = l.any p := by
  unfold firstIdx
  cases h : l.any p
  · simp
  · simp
set_option maxHeartbeats 1000000 in
set_option maxRecDepth 100000 in
theorem containsFunc_any (g : Nat) (cb : Array Value) (A : Option Addr) (c : Nat) (l : List Int) (p : Int → Bool) (w : World) (eg : Enters Try.prog g) (hr : Kd.C (Kd.int .i64) w A l.length l) (hl : l.length ≤ 4611686018427387904)
    (hf : ∀ (W : World) (j : Nat), Below w.heap.size w W → j < l.length → Calls Try.prog g (#[.int .i64 (l.getD j 0)] ++ cb) W fun e w' => e = .returned (.bool (p (l.getD j 0))) ∧ Below W.heap.size W w') :
    Calls Try.prog 48 #[.slice A l.length c, .func (.func g) #[] cb] w fun e w' => e = .returned (.bool (l.any p)) ∧ Below w.heap.size w w' := by
  have hS := indexFunc_any g cb A c l p w eg hr hl hf
  have hd := firstIdx_any p l
  generalize firstIdx p l = k at hS hd
  have HS := Aside0.mk hS
  have HD := Aside0.mk hd
  clear hS hd hr hf eg
  rw [← HD.out]
  go_enter Try.func48, Try.ntmps48
  go_wp2_with (go_at_call 54; refine HS.out.mono ?_; rintro e w' ⟨rfl, hb⟩)
  go_ret
  exact ⟨rfl, hb⟩


/-! ### impl_allWithin: function 37 -/
open Go.Proofs.YtcnbceiiimmgaaaM
def allIn (lo hi : Int) (l : List Int) : Bool := l.all fun x => decide (lo ≤ x ∧ x ≤ hi)
def impl_allWithin.f (l0 : List Int) (a1 a2 : Int) : Option Bool := if l0.length ≤ 4611686018427387904 then some (allIn a1 a2 l0) else none
set_option maxHeartbeats 1000000 in
set_option maxRecDepth 100000 in
theorem allWithin_closure (B0 B1 : Nat) (lo hi x : Int) (W : World) (c0 : W.cell? ⟨B0, 0, none⟩ = some (.int .i64 lo)) (c1 : W.cell? ⟨B1, 0, none⟩ = some (.int .i64 hi)) :
    Calls Try.prog 49 (#[.int .i64 x] ++ #[.pointer (some ⟨B0, 0, none⟩), .pointer (some ⟨B1, 0, none⟩)]) W fun e w' => e = .returned (.bool (!decide (lo ≤ x ∧ x ≤ hi))) ∧ Below W.heap.size W w' := by
  have E : Aside0 (impl_within_.f x lo hi = some (decide (lo ≤ x ∧ x ≤ hi))) := ⟨rfl⟩
  generalize decide (lo ≤ x ∧ x ≤ hi) = b at E
  go_enter Try.func49, Try.ntmps49
  go_wp2_with (go_at_call 41; (with_reducible refine (impl_within_.calls x lo hi b _ E.out).mono ?_); rintro e w' ⟨rfl, ⟨nd, rfl⟩⟩)
  go_ret
  exact ⟨rfl, z218_⟩
theorem all_not_any (lo hi : Int) (l : List Int) : (!(l.any fun x => !decide (lo ≤ x ∧ x ≤ hi))) = allIn lo hi l := by
  unfold allIn
  induction l with
  | nil => rfl
  | cons a l ih => simp only [List.any_cons, List.all_cons, Bool.not_or, Bool.not_not, ih]
set_option maxHeartbeats 1000000 in
set_option maxRecDepth 100000 in
theorem impl_allWithin.calls (A0 : Option Addr) (c0 : Nat) (l0 : List Int) (a1 a2 : Int) (r : Bool) (w : World) (hr0 : Kd.C (Kd.int .i64) w A0 l0.length l0) (hc0 : l0.length ≤ c0) (h : impl_allWithin.f l0 a1 a2 = some r) :
    Calls Try.prog 37 #[.slice A0 l0.length c0, .int .i64 a1, .int .i64 a2] w fun e w' => e = .returned (.bool r) ∧ Below w.heap.size w w' := by
  unfold impl_allWithin.f at h
  split at h
  · rename_i hl
    have hb1 := below_alloc (Below.refl w.heap.size w) (.cells #[.int .i64 a1] 2);have hb2 := below_alloc hb1 (.cells #[.int .i64 a2] 2);have d0 : ((w.alloc (.cells #[.int .i64 a1] 2)).alloc (.cells #[.int .i64 a2] 2)).cell? ⟨w.heap.size, 0, none⟩ = some (.int .i64 a1) := cell_kept _ (cell_new1 w _ _);(have d1 : ((w.alloc (.cells #[.int .i64 a1] 2)).alloc (.cells #[.int .i64 a2] 2)).cell? ⟨w.heap.size + 1, 0, none⟩ = some (.int .i64 a2) := by have := cell_new1 (w.alloc (.cells #[.int .i64 a1] 2)) (.int .i64 a2) 2; rwa [World.size_alloc] at this);(have hs : ((w.alloc (.cells #[.int .i64 a1] 2)).alloc (.cells #[.int .i64 a2] 2)).heap.size = w.heap.size + 1 + 1 := by simp)
    have hS := containsFunc_any 49 #[.pointer (some ⟨w.heap.size, 0, none⟩), .pointer (some ⟨w.heap.size + 1, 0, none⟩)] A0 c0 l0 (fun x => !decide (a1 ≤ x ∧ x ≤ a2)) _ (enters_of Try.func49 (z22_) rfl) (Kd.C_below hr0 hb2) hl
      (fun W j hb hj => allWithin_closure w.heap.size (w.heap.size + 1) a1 a2 _ W ((hb.cell (p := ⟨w.heap.size, 0, none⟩) (by rw [hs]; show w.heap.size < _; omega)).trans d0) ((hb.cell (p := ⟨w.heap.size + 1, 0, none⟩) (by rw [hs]; show w.heap.size + 1 < _; omega)).trans d1))
    (have ha : (!(l0.any fun x => !decide (a1 ≤ x ∧ x ≤ a2))) = r := by rw [all_not_any]; exact Option.some.inj h);(generalize (l0.any fun x => !decide (a1 ≤ x ∧ x ≤ a2)) = b at hS ha);subst ha;have HS := Aside0.mk hS;have HB := Aside0.mk hb2;clear hS hb1 hb2 d0 d1 hs h hl hr0 hc0;go_enter Try.func37, Try.ntmps37
    go_wp2_with (go_at_call 48; refine HS.out.mono ?_; rintro e w' ⟨rfl, hb⟩)
    go_ret;exact ⟨rfl, below_then HB.out HB.out.size hb⟩
  · exact absurd h (by simp)

end Go.Proofs.Ytcnbceiiimmgaaa.PFnExactAddPipe
