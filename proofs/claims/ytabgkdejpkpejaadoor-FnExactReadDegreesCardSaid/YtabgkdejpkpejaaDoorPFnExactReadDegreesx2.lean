-- Printed by a program of this session (wip/hprint.sh: the kit's print with hand-proved contracts put in); not by print.sh itself.
import Derived.Test.YtabgkdejpkpejaaDoorPFnExactReadDegreesx0
import Derived.Test.YtabgkdejpkpejaaDoorPFnExactReadDegreesx1
namespace Go.Proofs.YtabgkdejpkpejaaDoor.PFnExactReadDegrees
open Go.RowKit Go.Proofs.YtabgkdejpkpejaaDoorW.PrintWords Go.Proofs.YtabgkdejpkpejaaDoorW.PrintLast Go.Proofs.YtabgkdejpkpejaaDoorW.PrintMore Go.Proofs.YtabgkdejpkpejaaDoorM
attribute [local go_sem] max2_int min2_int max_two min_two max_three min_three max_four min_four   -- for this text's walks alone
set_option linter.unusedVariables false
set_option linter.unusedSimpArgs false

/-! ### spec_l02Text: function 52 -/
def spec_l02Text.j0 : Nat → Int → ByteArray → Option (ByteArray)
 | 0, _, _ => none
 | k + 1, x0, x3 => (spec_l01Dec.f k (wrap64 (Int.tdiv x0 100))).bind fun t122 => (if t122.size + 1 ≤ 9223372036854775807 then (if x3.size + (t122 ++ (⟨#[46]⟩ : ByteArray)).size ≤ 9223372036854775807 then (if (Int.tmod x0 100) < 10 then (if (x3 ++ (t122 ++ (⟨#[46]⟩ : ByteArray))).size + 1 ≤ 9223372036854775807 then ((spec_l01Dec.f k (Int.tmod x0 100)).bind fun t123 => (if ((x3 ++ (t122 ++ (⟨#[46]⟩ : ByteArray))) ++ (⟨#[48]⟩ : ByteArray)).size + t123.size ≤ 9223372036854775807 then (some (((x3 ++ (t122 ++ (⟨#[46]⟩ : ByteArray))) ++ (⟨#[48]⟩ : ByteArray)) ++ t123)) else (none))) else (none)) else ((spec_l01Dec.f k (Int.tmod x0 100)).bind fun t124 => (if (x3 ++ (t122 ++ (⟨#[46]⟩ : ByteArray))).size + t124.size ≤ 9223372036854775807 then (some ((x3 ++ (t122 ++ (⟨#[46]⟩ : ByteArray))) ++ t124)) else (none)))) else (none)) else (none))
def spec_l02Text.f (k : Nat) (a0 : Int) : Option (ByteArray) := if a0 < 0 then (spec_l02Text.j0 k (wrap64 (-a0)) (⟨#[45]⟩ : ByteArray)) else (spec_l02Text.j0 k a0 (⟨#[]⟩ : ByteArray))
theorem spec_l02Text.mono_l : ∀ k, (∀ y0 y1, LeO (spec_l02Text.j0 k y0 y1) (spec_l02Text.j0 (k + 1) y0 y1))
 | 0 => fun _ _ r h => by simp [spec_l02Text.j0] at h
 | k + 1 => by
  have ih0 := spec_l02Text.mono_l k
  ·intro y0 y1
   unfold spec_l02Text.j0
   repeat' first
   | (with_reducible exact ih0 _ _)
   | (with_reducible exact spec_l01Dec.mono _ _)
   | (with_reducible exact LeO.refl _)
   | (with_reducible exact LeO.none _)
   | (with_reducible refine LeO.ite ?_ ?_)
   | (with_reducible refine LeO.bind ?_ (fun _ => ?_))
   | exact ih0 _ _
   | exact spec_l01Dec.mono _ _
   | exact LeO.none _
   | refine LeO.ite ?_ ?_
   | refine LeO.bind ?_ (fun _ => ?_)
theorem spec_l02Text.mono : ∀ a0 k, LeO (spec_l02Text.f k a0) (spec_l02Text.f (k + 1) a0) := by
 intro a0 k
 have ih0 := spec_l02Text.mono_l k
 unfold spec_l02Text.f
 repeat' first
   | (with_reducible exact ih0 _ _)
   | (with_reducible exact spec_l01Dec.mono _ _)
   | (with_reducible exact LeO.refl _)
   | (with_reducible exact LeO.none _)
   | (with_reducible refine LeO.ite ?_ ?_)
   | (with_reducible refine LeO.bind ?_ (fun _ => ?_))
   | exact ih0 _ _
   | exact spec_l01Dec.mono _ _
   | exact LeO.none _
   | refine LeO.ite ?_ ?_
   | refine LeO.bind ?_ (fun _ => ?_)
set_option maxHeartbeats 8000000 in
set_option maxRecDepth 100000 in
theorem spec_l02Text.calls (k : Nat) (a0 : Int) (r : ByteArray) (w : World) (h : spec_l02Text.f k a0 = some r) :
  Calls Tryd.prog 52 #[.int .i64 a0] w fun e w' => e = .returned (.string r) ∧ Below w.heap.size w w' := by
 have HB := Aside0.mk (Below.refl w.heap.size w)
 have H : (if a0 < 0 then (spec_l02Text.j0 k (wrap64 (-a0)) (⟨#[45]⟩ : ByteArray)) else (spec_l02Text.j0 k a0 (⟨#[]⟩ : ByteArray))) = some r := h
 clear h
 have HC2 := Aside0.mk H
 clear H
 go_enter Tryd.func52, Tryd.ntmps52
 go_upto_if 5 with (fail)
 go_cut [0, 3] (fun v0 v3 wc => ∃ (kq : Nat) (x0_1 : Int) (x3_1 : ByteArray), v0 = .int .i64 x0_1 ∧ v3 = .string x3_1 ∧ Aside0 (spec_l02Text.j0 kq x0_1 x3_1 = some r) ∧ Aside0 (kq ≤ k) ∧ Aside0 (Below w.heap.size w wc))
 case first =>
  have H := HC2.out
  clear HC2
  by_cases c3 : a0 < 0
  ·rw [if_pos c3] at H
   have c3b0 : decide (a0 < 0) = true := decide_eq_true c3
   clear c3
   (first | rw [c3b0] | (simp only [i64_w, i32_w]; rw [c3b0]) | rw [c3b2] | skip)
   have H' := Aside0.mk H
   clear H
   go_wp2
   go_meet
   case rel => exact ⟨_, (wrap64 (-a0)), ((⟨#[45]⟩ : ByteArray)), (by first | rfl | (simp; done) | (simp [*]; done)), (by first | rfl | (simp; done) | (simp [*]; done)), H', ⟨by first | omega | exact Nat.le_refl _⟩, ⟨by repeat (first | (with_reducible first | exact HB.out|apply wA|apply wN|apply wD) | exact HB.out)⟩⟩
  ·rw [if_neg c3] at H
   have c3b0 : decide (a0 < 0) = false := decide_eq_false c3
   clear c3
   (first | rw [c3b0] | (simp only [i64_w, i32_w]; rw [c3b0]) | rw [c3b2] | skip)
   have H' := Aside0.mk H
   clear H
   go_wp2
   go_meet
   case rel => exact ⟨_, (a0), ((⟨#[]⟩ : ByteArray)), (by first | rfl | (simp; done) | (simp [*]; done)), (by first | rfl | (simp; done) | (simp [*]; done)), H', ⟨by first | omega | exact Nat.le_refl _⟩, ⟨by repeat (first | (with_reducible first | exact HB.out|apply wA|apply wN|apply wD) | exact HB.out)⟩⟩
 case rest =>
  clear HC2
  try clear p2
  try clear c3
  try clear c3b0
  try clear c3b2
  obtain ⟨kq, x0_1, x3_1, rfl, rfl, HA, HJ1, HB⟩ := hcut
  cases kq with
  | zero => exact absurd HA.out (by simp [spec_l02Text.j0])
  | succ kj1 =>
   have H := HA.out
   clear HA
   simp only [spec_l02Text.j0] at H
   replace H := Option.bind_eq_some_iff.mp H
   obtain ⟨t122, A40, H⟩ := H
   replace H : (if t122.size + 1 ≤ 9223372036854775807 then (if x3_1.size + (t122 ++ (⟨#[46]⟩ : ByteArray)).size ≤ 9223372036854775807 then (if (Int.tmod x0_1 100) < 10 then (if (x3_1 ++ (t122 ++ (⟨#[46]⟩ : ByteArray))).size + 1 ≤ 9223372036854775807 then ((spec_l01Dec.f kj1 (Int.tmod x0_1 100)).bind fun t123 => (if ((x3_1 ++ (t122 ++ (⟨#[46]⟩ : ByteArray))) ++ (⟨#[48]⟩ : ByteArray)).size + t123.size ≤ 9223372036854775807 then (some (((x3_1 ++ (t122 ++ (⟨#[46]⟩ : ByteArray))) ++ (⟨#[48]⟩ : ByteArray)) ++ t123)) else (none))) else (none)) else ((spec_l01Dec.f kj1 (Int.tmod x0_1 100)).bind fun t124 => (if (x3_1 ++ (t122 ++ (⟨#[46]⟩ : ByteArray))).size + t124.size ≤ 9223372036854775807 then (some ((x3_1 ++ (t122 ++ (⟨#[46]⟩ : ByteArray))) ++ t124)) else (none)))) else (none)) else (none)) = some r := H
   have A4 := Aside0.mk A40
   clear A40
   by_cases c5 : t122.size + 1 ≤ 9223372036854775807
   ·rw [if_pos c5] at H
    have c5b0 := eq_true c5
    have c5b1 : decide (t122.size + 1 ≤ 9223372036854775807) = true := decide_eq_true c5
    try have c5b2 : (9223372036854775807 < t122.size + 1) = False := eq_false (Nat.not_lt.2 c5)
    by_cases c6 : x3_1.size + (t122 ++ (⟨#[46]⟩ : ByteArray)).size ≤ 9223372036854775807
    ·rw [if_pos c6] at H
     have c6b0 := eq_true c6
     have c6b1 : decide (x3_1.size + (t122 ++ (⟨#[46]⟩ : ByteArray)).size ≤ 9223372036854775807) = true := decide_eq_true c6
     try have c6b2 : (9223372036854775807 < x3_1.size + (t122 ++ (⟨#[46]⟩ : ByteArray)).size) = False := eq_false (Nat.not_lt.2 c6)
     try (have c6n := c6; simp only [ByteArray.size_append, bsz, List.length_cons, List.length_nil, Nat.zero_add] at c6n; have c6b3 := eq_false (Nat.not_lt.2 c6n); clear c6n)
     by_cases c7 : (Int.tmod x0_1 100) < 10
     ·rw [if_pos c7] at H
      have c7b0 : decide ((Int.tmod x0_1 100) < 10) = true := decide_eq_true c7
      clear c7
      by_cases c8 : (x3_1 ++ (t122 ++ (⟨#[46]⟩ : ByteArray))).size + 1 ≤ 9223372036854775807
      ·rw [if_pos c8] at H
       have c8b0 := eq_true c8
       have c8b1 : decide ((x3_1 ++ (t122 ++ (⟨#[46]⟩ : ByteArray))).size + 1 ≤ 9223372036854775807) = true := decide_eq_true c8
       try have c8b2 : (9223372036854775807 < (x3_1 ++ (t122 ++ (⟨#[46]⟩ : ByteArray))).size + 1) = False := eq_false (Nat.not_lt.2 c8)
       try (have c8n := c8; simp only [ByteArray.size_append, bsz, List.length_cons, List.length_nil, Nat.zero_add] at c8n; have c8b3 := eq_false (Nat.not_lt.2 c8n); clear c8n)
       replace H := Option.bind_eq_some_iff.mp H
       obtain ⟨t123, A90, H⟩ := H
       replace H : (if ((x3_1 ++ (t122 ++ (⟨#[46]⟩ : ByteArray))) ++ (⟨#[48]⟩ : ByteArray)).size + t123.size ≤ 9223372036854775807 then (some (((x3_1 ++ (t122 ++ (⟨#[46]⟩ : ByteArray))) ++ (⟨#[48]⟩ : ByteArray)) ++ t123)) else (none)) = some r := H
       have A9 := Aside0.mk A90
       clear A90
       by_cases c10 : ((x3_1 ++ (t122 ++ (⟨#[46]⟩ : ByteArray))) ++ (⟨#[48]⟩ : ByteArray)).size + t123.size ≤ 9223372036854775807
       ·rw [if_pos c10] at H
        have c10b0 := eq_true c10
        have c10b1 : decide (((x3_1 ++ (t122 ++ (⟨#[46]⟩ : ByteArray))) ++ (⟨#[48]⟩ : ByteArray)).size + t123.size ≤ 9223372036854775807) = true := decide_eq_true c10
        try have c10b2 : (9223372036854775807 < ((x3_1 ++ (t122 ++ (⟨#[46]⟩ : ByteArray))) ++ (⟨#[48]⟩ : ByteArray)).size + t123.size) = False := eq_false (Nat.not_lt.2 c10)
        try (have c10n := c10; simp only [ByteArray.size_append, bsz, List.length_cons, List.length_nil, Nat.zero_add] at c10n; have c10b3 := eq_false (Nat.not_lt.2 c10n); clear c10n)
        obtain rfl := Option.some.inj H
        go_wp2_with (first | ((with_reducible refine gate_callee (f := 46) rfl ?_); refine goesL_ (some 11) rfl rfl Tryd.func46 (by kernel_rfl) rfl #[.int .i64 (wrap64 (Int.tdiv x0_1 100))] rfl (by (try simp only [List.map_toArray, List.map_cons, List.map_nil]); first | done | rfl | (simp only [List.length_drop, List.length_take]; rfl)) ?_; (with_reducible refine (spec_l01Dec.calls kj1 (wrap64 (Int.tdiv x0_1 100)) t122 _ A4.out).mono ?_); rintro e w11 ⟨rfl, hb⟩; refine ⟨_, rfl, ?_⟩; have n0_ := Aside0.mk (below_step (by repeat (first | (with_reducible first | exact HB.out|apply wA|apply wN|apply wD) | exact HB.out)) hb); clear HB; have HB := n0_; clear n0_; (try clear hb); (try clear hb2); (try clear hk); (try clear hi)) | ((with_reducible refine gate_callee (f := 46) rfl ?_); refine goesL_ (some 22) rfl rfl Tryd.func46 (by kernel_rfl) rfl #[.int .i64 (Int.tmod x0_1 100)] rfl (by (try simp only [List.map_toArray, List.map_cons, List.map_nil]); first | done | rfl | (simp only [List.length_drop, List.length_take]; rfl)) ?_; (with_reducible refine (spec_l01Dec.calls kj1 (Int.tmod x0_1 100) t123 _ A9.out).mono ?_); rintro e w12 ⟨rfl, hb⟩; refine ⟨_, rfl, ?_⟩; have n0_ := Aside0.mk (below_step (by repeat (first | (with_reducible first | exact HB.out|apply wA|apply wN|apply wD) | exact HB.out)) hb); clear HB; have HB := n0_; clear n0_; (try clear hb); (try clear hb2); (try clear hk); (try clear hi)))
        go_ret
        exact ⟨by first | rfl | (simp [errW_none, errW_some] <;> rfl) | (simp [*, errW_none, errW_some] <;> rfl), by repeat (first | (with_reducible first | exact HB.out|apply wA|apply wN|apply wD) | exact HB.out)⟩
       ·rw [if_neg c10] at H
        exact absurd H (by simp)
      ·rw [if_neg c8] at H
       exact absurd H (by simp)
     ·rw [if_neg c7] at H
      have c7b0 : decide ((Int.tmod x0_1 100) < 10) = false := decide_eq_false c7
      clear c7
      replace H := Option.bind_eq_some_iff.mp H
      obtain ⟨t124, A130, H⟩ := H
      replace H : (if (x3_1 ++ (t122 ++ (⟨#[46]⟩ : ByteArray))).size + t124.size ≤ 9223372036854775807 then (some ((x3_1 ++ (t122 ++ (⟨#[46]⟩ : ByteArray))) ++ t124)) else (none)) = some r := H
      have A13 := Aside0.mk A130
      clear A130
      by_cases c14 : (x3_1 ++ (t122 ++ (⟨#[46]⟩ : ByteArray))).size + t124.size ≤ 9223372036854775807
      ·rw [if_pos c14] at H
       have c14b0 := eq_true c14
       have c14b1 : decide ((x3_1 ++ (t122 ++ (⟨#[46]⟩ : ByteArray))).size + t124.size ≤ 9223372036854775807) = true := decide_eq_true c14
       try have c14b2 : (9223372036854775807 < (x3_1 ++ (t122 ++ (⟨#[46]⟩ : ByteArray))).size + t124.size) = False := eq_false (Nat.not_lt.2 c14)
       try (have c14n := c14; simp only [ByteArray.size_append, bsz, List.length_cons, List.length_nil, Nat.zero_add] at c14n; have c14b3 := eq_false (Nat.not_lt.2 c14n); clear c14n)
       obtain rfl := Option.some.inj H
       go_wp2_with (first | ((with_reducible refine gate_callee (f := 46) rfl ?_); refine goesL_ (some 11) rfl rfl Tryd.func46 (by kernel_rfl) rfl #[.int .i64 (wrap64 (Int.tdiv x0_1 100))] rfl (by (try simp only [List.map_toArray, List.map_cons, List.map_nil]); first | done | rfl | (simp only [List.length_drop, List.length_take]; rfl)) ?_; (with_reducible refine (spec_l01Dec.calls kj1 (wrap64 (Int.tdiv x0_1 100)) t122 _ A4.out).mono ?_); rintro e w15 ⟨rfl, hb⟩; refine ⟨_, rfl, ?_⟩; have n0_ := Aside0.mk (below_step (by repeat (first | (with_reducible first | exact HB.out|apply wA|apply wN|apply wD) | exact HB.out)) hb); clear HB; have HB := n0_; clear n0_; (try clear hb); (try clear hb2); (try clear hk); (try clear hi)) | ((with_reducible refine gate_callee (f := 46) rfl ?_); refine goesL_ (some 22) rfl rfl Tryd.func46 (by kernel_rfl) rfl #[.int .i64 (Int.tmod x0_1 100)] rfl (by (try simp only [List.map_toArray, List.map_cons, List.map_nil]); first | done | rfl | (simp only [List.length_drop, List.length_take]; rfl)) ?_; (with_reducible refine (spec_l01Dec.calls kj1 (Int.tmod x0_1 100) t124 _ A13.out).mono ?_); rintro e w16 ⟨rfl, hb⟩; refine ⟨_, rfl, ?_⟩; have n0_ := Aside0.mk (below_step (by repeat (first | (with_reducible first | exact HB.out|apply wA|apply wN|apply wD) | exact HB.out)) hb); clear HB; have HB := n0_; clear n0_; (try clear hb); (try clear hb2); (try clear hk); (try clear hi)))
       go_ret
       exact ⟨by first | rfl | (simp [errW_none, errW_some] <;> rfl) | (simp [*, errW_none, errW_some] <;> rfl), by repeat (first | (with_reducible first | exact HB.out|apply wA|apply wN|apply wD) | exact HB.out)⟩
      ·rw [if_neg c14] at H
       exact absurd H (by simp)
    ·rw [if_neg c6] at H
     exact absurd H (by simp)
   ·rw [if_neg c5] at H
    exact absurd H (by simp)

end Go.Proofs.YtabgkdejpkpejaaDoor.PFnExactReadDegrees
