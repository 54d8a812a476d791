-- Printed by a program of this session (wip/hprint.sh: the kit's print with hand-proved contracts put in); not by print.sh itself.
import Derived.Test.YthgokmjcebmgaaaPFnExactRootOfx0
namespace Go.Proofs.Ythgokmjcebmgaaa.PFnExactRootOf
open Go.RowKit Go.Proofs.YthgokmjcebmgaaaW.PrintWords Go.Proofs.YthgokmjcebmgaaaW.PrintLast Go.Proofs.YthgokmjcebmgaaaW.PrintMore
attribute [local go_sem] max2_int min2_int max_two min_two max_three min_three max_four min_four   -- for this text's walks alone
set_option linter.unusedVariables false
set_option linter.unusedSimpArgs false

/-! ### spec_l01Root: function 42 -/
def spec_l01Root.l0 : Nat → Int → Int → Int → Option (Int)
  | 0, _, _, _ => none
  | k + 1, x0, x3, x4 => if x3 < x4 then (if (wrap64 ((wrap64 (Int.tdiv (wrap64 ((wrap64 (x3 + x4)) + 1)) 2)) * (wrap64 (Int.tdiv (wrap64 ((wrap64 (x3 + x4)) + 1)) 2)))) ≤ x0 then (spec_l01Root.l0 k x0 (wrap64 (Int.tdiv (wrap64 ((wrap64 (x3 + x4)) + 1)) 2)) x4) else (spec_l01Root.l0 k x0 x3 (wrap64 ((wrap64 (Int.tdiv (wrap64 ((wrap64 (x3 + x4)) + 1)) 2)) - 1)))) else (some x3)
def spec_l01Root.f (k : Nat) (a0 : Int) : Option (Int) := spec_l01Root.l0 k a0 0 3037000499
theorem spec_l01Root.mono_l : ∀ k, (∀ y0 y1 y2, LeO (spec_l01Root.l0 k y0 y1 y2) (spec_l01Root.l0 (k + 1) y0 y1 y2))
  | 0 => fun _ _ _ r h => by simp [spec_l01Root.l0] at h
  | k + 1 => by
    have ih0 := spec_l01Root.mono_l k
    · intro y0 y1 y2
      unfold spec_l01Root.l0
      repeat' first
      | (with_reducible exact ih0 _ _ _)
      | (with_reducible exact LeO.refl _)
      | (with_reducible exact LeO.none _)
      | (with_reducible refine LeO.ite ?_ ?_)
      | (with_reducible refine LeO.bind ?_ (fun _ => ?_))
      | exact ih0 _ _ _
      | exact LeO.none _
      | refine LeO.ite ?_ ?_
      | refine LeO.bind ?_ (fun _ => ?_)
theorem spec_l01Root.mono : ∀ a0 k, LeO (spec_l01Root.f k a0) (spec_l01Root.f (k + 1) a0) := by
  intro a0 k
  have ih0 := spec_l01Root.mono_l k
  unfold spec_l01Root.f
  repeat' first
      | (with_reducible exact ih0 _ _ _)
      | (with_reducible exact LeO.refl _)
      | (with_reducible exact LeO.none _)
      | (with_reducible refine LeO.ite ?_ ?_)
      | (with_reducible refine LeO.bind ?_ (fun _ => ?_))
      | exact ih0 _ _ _
      | exact LeO.none _
      | refine LeO.ite ?_ ?_
      | refine LeO.bind ?_ (fun _ => ?_)
set_option maxHeartbeats 8000000 in
set_option maxRecDepth 100000 in
theorem spec_l01Root.calls (k : Nat) (a0 : Int) (r : Int) (w : World) (h : spec_l01Root.f k a0 = some r) :
    Calls Try.prog 42 #[.int .i64 a0] w fun e w' => e = .returned (.int .i64 r) ∧ Drawn0 w w' := by
  have H : (spec_l01Root.l0 k a0 0 3037000499) = some r := h
  clear h
  have H' := Aside0.mk H
  clear H
  go_enter Try.func42, Try.ntmps42
  go_wp2
  go_loopg [3, 4] k (fun kq v3 v4 w' => ∃ (x3_1 : Int) (x4_1 : Int), v3 = .int .i64 x3_1 ∧ v4 = .int .i64 x4_1 ∧ Aside0 (spec_l01Root.l0 kq a0 x3_1 x4_1 = some r) ∧ Aside0 (kq ≤ k) ∧ Drawn0 w w')
  case atStart => exact ⟨(0), (3037000499), (by first | rfl | (simp; done) | (simp [*]; done)), (by first | rfl | (simp; done) | (simp [*]; done)), H', ⟨Nat.le_refl _⟩, by repeat (first | exact Drawn0.refl _ | apply Drawn0.step)⟩
  case round =>
    clear H'
    obtain ⟨x3_1, x4_1, rfl, rfl, HA, HK1, ⟨m1, rfl⟩⟩ := hrel
    cases gk with
    | zero => exact absurd HA.out (by simp [spec_l01Root.l0])
    | succ k1 =>
      have H := HA.out
      clear HA
      simp only [spec_l01Root.l0] at H
      by_cases c2 : x3_1 < x4_1
      · rw [if_pos c2] at H
        have c2b0 : decide (x3_1 < x4_1) = true := decide_eq_true c2
        clear c2
        by_cases c3 : (wrap64 ((wrap64 (Int.tdiv (wrap64 ((wrap64 (x3_1 + x4_1)) + 1)) 2)) * (wrap64 (Int.tdiv (wrap64 ((wrap64 (x3_1 + x4_1)) + 1)) 2)))) ≤ a0
        · rw [if_pos c3] at H
          have c3b0 : decide ((wrap64 ((wrap64 (Int.tdiv (wrap64 ((wrap64 (x3_1 + x4_1)) + 1)) 2)) * (wrap64 (Int.tdiv (wrap64 ((wrap64 (x3_1 + x4_1)) + 1)) 2)))) ≤ a0) = true := decide_eq_true c3
          clear c3
          have H' := Aside0.mk H
          clear H
          go_wp2
          go_roundg k1
          case measure => have := HK1.out; omega
          case rel => exact ⟨(wrap64 (Int.tdiv (wrap64 ((wrap64 (x3_1 + x4_1)) + 1)) 2)), (x4_1), (by first | rfl | (simp; done) | (simp [*]; done)), (by first | rfl | (simp; done) | (simp [*]; done)), H', ⟨by have := HK1.out; omega⟩, by repeat (first | exact Drawn0.refl _ | apply Drawn0.step)⟩
        · rw [if_neg c3] at H
          have c3b0 : decide ((wrap64 ((wrap64 (Int.tdiv (wrap64 ((wrap64 (x3_1 + x4_1)) + 1)) 2)) * (wrap64 (Int.tdiv (wrap64 ((wrap64 (x3_1 + x4_1)) + 1)) 2)))) ≤ a0) = false := decide_eq_false c3
          clear c3
          have H' := Aside0.mk H
          clear H
          go_wp2
          go_roundg k1
          case measure => have := HK1.out; omega
          case rel => exact ⟨(x3_1), (wrap64 ((wrap64 (Int.tdiv (wrap64 ((wrap64 (x3_1 + x4_1)) + 1)) 2)) - 1)), (by first | rfl | (simp; done) | (simp [*]; done)), (by first | rfl | (simp; done) | (simp [*]; done)), H', ⟨by have := HK1.out; omega⟩, by repeat (first | exact Drawn0.refl _ | apply Drawn0.step)⟩
      · rw [if_neg c2] at H
        have c2b0 : decide (x3_1 < x4_1) = false := decide_eq_false c2
        clear c2
        obtain rfl := Option.some.inj H
        go_wp2
        go_ret
        exact ⟨by first | rfl | (simp; done) | (simp [*]; done), by repeat (first | exact Drawn0.refl _ | apply Drawn0.step)⟩

/-! ### spec_RootOf: function 21 -/
def spec_RootOf.f (k : Nat) (a0 : Int) : Option (Int) := (spec_l01Root.f k a0).bind fun t101 => (some t101)
theorem spec_RootOf.mono : ∀ a0 k, LeO (spec_RootOf.f k a0) (spec_RootOf.f (k + 1) a0) := by
  intro a0 k
  unfold spec_RootOf.f
  repeat' first
      | (with_reducible exact spec_l01Root.mono _ _)
      | (with_reducible exact LeO.refl _)
      | (with_reducible exact LeO.none _)
      | (with_reducible refine LeO.ite ?_ ?_)
      | (with_reducible refine LeO.bind ?_ (fun _ => ?_))
      | exact spec_l01Root.mono _ _
      | exact LeO.none _
      | refine LeO.ite ?_ ?_
      | refine LeO.bind ?_ (fun _ => ?_)
set_option maxHeartbeats 8000000 in
set_option maxRecDepth 100000 in
theorem spec_RootOf.calls (k : Nat) (a0 : Int) (r : Int) (w : World) (h : spec_RootOf.f k a0 = some r) :
    Calls Try.prog 21 #[.int .i64 a0] w fun e w' => e = .returned (.int .i64 r) ∧ Drawn0 w w' := by
  have H : ((spec_l01Root.f k a0).bind fun t101 => (some t101)) = some r := h
  clear h
  replace H := Option.bind_eq_some_iff.mp H
  obtain ⟨t101, A20, H⟩ := H
  replace H : (some t101) = some r := H
  have A2 := Aside0.mk A20
  clear A20
  obtain rfl := Option.some.inj H
  go_enter Try.func21, Try.ntmps21
  go_wp2_with (first | ((with_reducible refine gate_callee (f := 42) rfl ?_); refine goesL_ (some 4) rfl rfl Try.func42 (by kernel_rfl) rfl #[.int .i64 a0] rfl (by (try simp only [List.map_toArray, List.map_cons, List.map_nil]); first | done | rfl | (simp only [List.length_drop, List.length_take]; rfl)) ?_; (with_reducible refine (spec_l01Root.calls k a0 t101 _ A2.out).mono ?_); rintro e w' ⟨rfl, ⟨nd, rfl⟩⟩; refine ⟨_, rfl, ?_⟩))
  go_ret
  exact ⟨by first | rfl | (simp; done) | (simp [*]; done), by repeat (first | exact Drawn0.refl _ | apply Drawn0.step)⟩


/-! ### sort_Search: function 43 -/
/-- How far down from n the property p holds without a gap. -/
@[irreducible] def firstTrue (p : Nat → Bool) : Nat → Nat
  | 0 => 0
  | n + 1 => if p n then firstTrue p n else n + 1
theorem firstTrue_unique (p : Nat → Bool) : ∀ (n r : Nat), r ≤ n → (∀ t, t < r → p t = false) → (∀ t, r ≤ t → t < n → p t = true) → firstTrue p n = r
  | 0, r, h, _, _ => by unfold firstTrue; omega
  | n + 1, r, h, h1, h2 => by
    unfold firstTrue
    by_cases e : r = n + 1
    · subst e
      rw [if_neg (by rw [h1 n (by omega)]; simp)]
    · rw [if_pos (h2 n (by omega) (by omega))]
      exact firstTrue_unique p n r (by omega) h1 (fun t a b => h2 t a (by omega))
def SearchPost (n : Nat) (p : Nat → Bool) (w : World) (e : Ending) (w' : World) : Prop :=
  e = .returned (.int .i64 (firstTrue p n : Nat)) ∧ Below w.heap.size w w'
set_option maxHeartbeats 4000000 in
set_option maxRecDepth 100000 in
/-- sort.Search over n places with a function value that reads: how far the property fails. -/
theorem search_any (g : Nat) (cb : Array Value) (n : Nat) (p : Nat → Bool) (w : World) (eg : Enters Try.prog g) (hsz : n < 4611686018427387904)
    (hf : ∀ (W : World) (i : Nat), Below w.heap.size w W → i < n → Calls Try.prog g (#[.int .i64 i] ++ cb) W fun e w' => e = .returned (.bool (p i)) ∧ Below W.heap.size W w')
    (hmono : ∀ a b, a ≤ b → b < n → p a = true → p b = true) :
    Calls Try.prog 43 #[.int .i64 n, .func (.func g) #[] cb] w (SearchPost n p w) := by
  have HF := Aside0.mk hf
  have M := Aside0.mk hmono
  clear hf hmono
  have eg' : ∀ args w, (callFunc g args).run Try.prog w = .ok (.enter g args) w := eg
  clear eg
  obtain ⟨Q, hQ0⟩ : ∃ Q : Ending → World → Prop, SearchPost n p w = Q := ⟨_, rfl⟩
  have hQ := Aside0.mk hQ0
  rw [hQ0]
  clear hQ0
  go_enter Try.func43, Try.ntmps43
  go_wp2
  go_loopg [5, 6] n (fun kx s5 s6 wr => ∃ (lo hi : Nat), s5 = .int .i64 lo ∧ s6 = .int .i64 hi ∧ lo ≤ hi ∧ hi ≤ n ∧ hi - lo ≤ kx ∧ Aside0 (Below w.heap.size w wr) ∧
    Aside0 ((∀ t, t < lo → p t = false) ∧ (∀ t, hi ≤ t → t < n → p t = true)))
  case atStart => exact ⟨0, n, rfl, rfl, Nat.zero_le _, Nat.le_refl _, by omega, ⟨Below.refl _ _⟩, ⟨fun t ht => absurd ht (Nat.not_lt_zero _), fun t h1 h2 => by omega⟩⟩
  case round =>
    obtain ⟨lo, hi, rfl, rfl, hlh, hin, hg, HB, I⟩ := hrel
    by_cases hlt : lo < hi
    · have hc := HF.out wr ((lo + hi) / 2) HB.out (by omega)
      rw [show (((lo + hi) / 2 : Nat) : Int) = ((lo : Int) + (hi : Int)) / 2 by omega] at hc
      cases hp : p ((lo + hi) / 2) <;> rw [hp] at hc
      · have HP := Aside0.mk hp
        clear hp
        go_wp2_with (go_at_fn g; refine hc.mono ?_; rintro e w' ⟨rfl, hb⟩)
        go_roundg (hi - ((lo + hi) / 2 + 1))
        case measure => omega
        case rel =>
          exact ⟨(lo + hi) / 2 + 1, hi, by rw [show ((lo : Int) + (hi : Int)) / 2 + 1 = (((lo + hi) / 2 + 1 : Nat) : Int) by omega], rfl, by omega, hin, Nat.le_refl _, ⟨below_then HB.out HB.out.size hb⟩, ⟨fun t ht => (by
            cases h : p t with
            | false => rfl
            | true => have := M.out t ((lo + hi) / 2) (by omega) (by omega) h; rw [HP.out] at this; cases this), I.out.2⟩⟩
      · have HP := Aside0.mk hp
        clear hp
        go_wp2_with (go_at_fn g; refine hc.mono ?_; rintro e w' ⟨rfl, hb⟩)
        go_roundg ((lo + hi) / 2 - lo)
        case measure => omega
        case rel =>
          exact ⟨lo, (lo + hi) / 2, rfl, by rw [show ((lo : Int) + (hi : Int)) / 2 = (((lo + hi) / 2 : Nat) : Int) by omega], by omega, by omega, Nat.le_refl _, ⟨below_then HB.out HB.out.size hb⟩, ⟨I.out.1, fun t ht htn => M.out ((lo + hi) / 2) t ht htn HP.out⟩⟩
    · obtain rfl : hi = lo := by omega
      go_wp2
      rw [← hQ.out]
      exact ⟨by rw [firstTrue_unique p n hi hin I.out.1 I.out.2]; rfl, HB.out⟩


/-! ### impl_RootOf: function 22 -/
def rootP (n : Int) (r : Nat) : Bool := decide (n < ((r : Int) + 1) * ((r : Int) + 1))
theorem rootP_mono (n : Int) (a b : Nat) (h : a ≤ b) (hp : rootP n a = true) : rootP n b = true := by
  unfold rootP at *
  have := of_decide_eq_true hp
  have := Int.mul_le_mul (show (a : Int) + 1 ≤ (b : Int) + 1 by omega) (show (a : Int) + 1 ≤ (b : Int) + 1 by omega) (by omega) (by omega)
  exact decide_eq_true (by omega)
def rootOf (n : Int) : Int := (firstTrue (rootP n) 3037000499 : Nat)
def impl_RootOf.f (a0 : Int) : Option Int := if a0 < 0 then some 0 else some (rootOf a0)
set_option maxHeartbeats 1000000 in
set_option maxRecDepth 100000 in
theorem root_closure (B : Nat) (n : Int) (W : World) (i : Nat) (hi : i < 3037000499) (hn : 0 ≤ n) (hc : W.cell? ⟨B, 0, none⟩ = some (.int .i64 n)) :
    Calls Try.prog 44 (#[.int .i64 i] ++ #[.pointer (some ⟨B, 0, none⟩)]) W fun e w' => e = .returned (.bool (rootP n i)) ∧ Below W.heap.size W w' := by
  have hm : 0 ≤ ((i : Int) + 1) * ((i : Int) + 1) ∧ ((i : Int) + 1) * ((i : Int) + 1) ≤ 9223372036854775807 := by
    have h1 : (i : Int) + 1 ≤ 3037000499 := by omega
    have := Int.mul_le_mul h1 h1 (by omega) (by omega)
    exact ⟨Int.mul_nonneg (by omega) (by omega), by omega⟩
  have hr : rootP n i = decide (n < ((i : Int) + 1) * ((i : Int) + 1)) := rfl
  rw [hr]
  clear hr
  have hw : wrap64 (((i : Int) + 1) * ((i : Int) + 1)) = ((i : Int) + 1) * ((i : Int) + 1) := by unfold wrap64; omega
  have H := Aside0.mk hw
  clear hw
  go_enter Try.func44, Try.ntmps44
  go_wp2
  go_ret
  exact ⟨by first | rfl | (rw [H.out]) | (simp [H.out]), by repeat (first | exact Below.refl _ _ | apply pw_below_drewN | apply below_drew1)⟩
set_option maxHeartbeats 1000000 in
set_option maxRecDepth 100000 in
theorem impl_RootOf.calls (a0 : Int) (r : Int) (w : World) (h : impl_RootOf.f a0 = some r) :
    Calls Try.prog 22 #[.int .i64 a0] w fun e w' => e = .returned (.int .i64 r) ∧ Below w.heap.size w w' := by
  unfold impl_RootOf.f at h
  by_cases c : a0 < 0
  · rw [if_pos c] at h
    obtain rfl := Option.some.inj h
    go_enter Try.func22, Try.ntmps22
    go_wp2
    go_ret
    exact ⟨rfl, by repeat (first | exact Below.refl _ _ | apply below_alloc | apply pw_below_drewN | apply below_drew1)⟩
  · rw [if_neg c] at h
    have hr : rootOf a0 = r := Option.some.inj h
    have eg : Enters Try.prog 44 := enters_of Try.func44 (by kernel_rfl) rfl
    have hS := search_any 44 #[.pointer (some ⟨w.heap.size, 0, none⟩)] 3037000499 (rootP a0) (w.alloc (.cells #[.int .i64 a0] 2)) eg (by omega)
      (fun W i hb hi => root_closure w.heap.size a0 W i hi (by omega) ((hb.cell (p := ⟨w.heap.size, 0, none⟩) (by simp)).trans (by simp)))
      (fun a b hab _ hp => rootP_mono a0 a b hab hp)
    have hS' : Calls Try.prog 43 #[.int .i64 3037000499, .func (.func 44) #[] #[.pointer (some ⟨w.heap.size, 0, none⟩)]] (w.alloc (.cells #[.int .i64 a0] 2)) fun e w' => e = .returned (.int .i64 r) ∧ Below (w.alloc (.cells #[.int .i64 a0] 2)).heap.size (w.alloc (.cells #[.int .i64 a0] 2)) w' := by
      rw [← hr]
      exact hS
    clear hS hr h eg
    have HS := Aside0.mk hS'
    clear hS'
    go_enter Try.func22, Try.ntmps22
    go_wp2_with (go_at_call 43; refine HS.out.mono ?_; rintro e w' ⟨rfl, hb⟩)
    go_ret
    exact ⟨rfl, below_then (below_alloc (Below.refl _ _) _) (by simp) hb⟩

/-! ### laws_FnExactRootOf: function 7 -/
def laws_FnExactRootOf.f (k : Nat) (a0 : Int) : Option (Bool) := (spec_RootOf.f k a0).bind fun t102 => ((impl_RootOf.f a0).bind fun t103 => (if t103 = t102 then (some true) else (some false)))
theorem laws_FnExactRootOf.mono : ∀ a0 k, LeO (laws_FnExactRootOf.f k a0) (laws_FnExactRootOf.f (k + 1) a0) := by
  intro a0 k
  unfold laws_FnExactRootOf.f
  repeat' first
      | (with_reducible exact spec_RootOf.mono _ _)
      | (with_reducible exact LeO.refl _)
      | (with_reducible exact LeO.none _)
      | (with_reducible refine LeO.ite ?_ ?_)
      | (with_reducible refine LeO.bind ?_ (fun _ => ?_))
      | exact spec_RootOf.mono _ _
      | exact LeO.none _
      | refine LeO.ite ?_ ?_
      | refine LeO.bind ?_ (fun _ => ?_)
set_option maxHeartbeats 8000000 in
set_option maxRecDepth 100000 in
theorem laws_FnExactRootOf.calls (k : Nat) (a0 : Int) (r : Bool) (w : World) (h : laws_FnExactRootOf.f k a0 = some r) :
    Calls Try.prog 7 #[.int .i64 a0] w fun e w' => e = .returned (.bool r) ∧ Below w.heap.size w w' := by
  have HB := Aside0.mk (Below.refl w.heap.size w)
  have H : ((spec_RootOf.f k a0).bind fun t102 => ((impl_RootOf.f a0).bind fun t103 => (if t103 = t102 then (some true) else (some false)))) = some r := h
  clear h
  replace H := Option.bind_eq_some_iff.mp H
  obtain ⟨t102, A20, H⟩ := H
  replace H : ((impl_RootOf.f a0).bind fun t103 => (if t103 = t102 then (some true) else (some false))) = some r := H
  have A2 := Aside0.mk A20
  clear A20
  replace H := Option.bind_eq_some_iff.mp H
  obtain ⟨t103, A30, H⟩ := H
  replace H : (if t103 = t102 then (some true) else (some false)) = some r := H
  have A3 := Aside0.mk A30
  clear A30
  by_cases c4 : t103 = t102
  · rw [if_pos c4] at H
    have c4b0 : (t103 == t102) = true := beq_iff_eq.mpr c4
    have c4b1 : (t103 != t102) = false := bne_eq_false_iff_eq.mpr c4
    clear c4
    obtain rfl := Option.some.inj H
    go_enter Try.func7, Try.ntmps7
    go_wp2_with (first | ((with_reducible refine gate_callee (f := 21) rfl ?_); refine goesL_ (some 6) rfl rfl Try.func21 (by kernel_rfl) rfl #[.int .i64 a0] rfl (by (try simp only [List.map_toArray, List.map_cons, List.map_nil]); first | done | rfl | (simp only [List.length_drop, List.length_take]; rfl)) ?_; (with_reducible refine (spec_RootOf.calls k a0 t102 _ A2.out).mono ?_); rintro e w' ⟨rfl, ⟨nd, rfl⟩⟩; refine ⟨_, rfl, ?_⟩) | ((with_reducible refine gate_callee (f := 22) rfl ?_); refine goesL_ (some 8) rfl rfl Try.func22 (by kernel_rfl) rfl #[.int .i64 a0] rfl (by (try simp only [List.map_toArray, List.map_cons, List.map_nil]); first | done | rfl | (simp only [List.length_drop, List.length_take]; rfl)) ?_; (with_reducible refine (impl_RootOf.calls a0 t103 _ A3.out).mono ?_); rintro e w5 ⟨rfl, hb⟩; refine ⟨_, rfl, ?_⟩; have n0_ := Aside0.mk (below_step (by repeat (first | (with_reducible first | exact HB.out | apply below_alloc | apply pw_below_drewN | apply below_drew1) | exact HB.out)) hb); clear HB; have HB := n0_; clear n0_; (try clear hb); (try clear hb2); (try clear hk); (try clear hi)))
    go_ret
    exact ⟨by first | rfl | (simp [errW_none, errW_some] <;> rfl) | (simp [*, errW_none, errW_some] <;> rfl), by repeat (first | (with_reducible first | exact HB.out | apply below_alloc | apply pw_below_drewN | apply below_drew1) | exact HB.out)⟩
  · rw [if_neg c4] at H
    have c4b0 : (t103 == t102) = false := beq_eq_false_iff_ne.mpr c4
    have c4b1 : (t103 != t102) = true := bne_iff_ne.mpr c4
    obtain rfl := Option.some.inj H
    go_enter Try.func7, Try.ntmps7
    go_wp2_with (first | ((with_reducible refine gate_callee (f := 21) rfl ?_); refine goesL_ (some 6) rfl rfl Try.func21 (by kernel_rfl) rfl #[.int .i64 a0] rfl (by (try simp only [List.map_toArray, List.map_cons, List.map_nil]); first | done | rfl | (simp only [List.length_drop, List.length_take]; rfl)) ?_; (with_reducible refine (spec_RootOf.calls k a0 t102 _ A2.out).mono ?_); rintro e w' ⟨rfl, ⟨nd, rfl⟩⟩; refine ⟨_, rfl, ?_⟩) | ((with_reducible refine gate_callee (f := 22) rfl ?_); refine goesL_ (some 8) rfl rfl Try.func22 (by kernel_rfl) rfl #[.int .i64 a0] rfl (by (try simp only [List.map_toArray, List.map_cons, List.map_nil]); first | done | rfl | (simp only [List.length_drop, List.length_take]; rfl)) ?_; (with_reducible refine (impl_RootOf.calls a0 t103 _ A3.out).mono ?_); rintro e w6 ⟨rfl, hb⟩; refine ⟨_, rfl, ?_⟩; have n0_ := Aside0.mk (below_step (by repeat (first | (with_reducible first | exact HB.out | apply below_alloc | apply pw_below_drewN | apply below_drew1) | exact HB.out)) hb); clear HB; have HB := n0_; clear n0_; (try clear hb); (try clear hb2); (try clear hk); (try clear hi)))
    go_ret
    exact ⟨by first | rfl | (simp [errW_none, errW_some] <;> rfl) | (simp [*, errW_none, errW_some] <;> rfl), by repeat (first | (with_reducible first | exact HB.out | apply below_alloc | apply pw_below_drewN | apply below_drew1) | exact HB.out)⟩

/-- THE ONE PURE STATEMENT of laws_FnExactRootOf: yours. -/
def laws_FnExactRootOf.Pure : Prop := ∀ (a0 : Int), (Lit.int .i64 a0).wf = true → ∃ k, laws_FnExactRootOf.f k a0 = some true
theorem laws_FnExactRootOf.walk (P : laws_FnExactRootOf.Pure) (a0 : Int) (w : World) (w0 : (Lit.int .i64 a0).wf = true) :
    Calls Try.prog 7 #[.int .i64 a0] w fun e w' => e = .returned (.bool true) ∧ Below w.heap.size w w' := by
  obtain ⟨k, h⟩ := P a0 w0
  refine (laws_FnExactRootOf.calls k a0 true w h).mono ?_
  rintro e w' ⟨rfl, hd⟩
  exact ⟨rfl, hd⟩

end Go.Proofs.Ythgokmjcebmgaaa.PFnExactRootOf
