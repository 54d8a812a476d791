-- Printed by a program of this session (wip/hprint.sh: the kit's print with hand-proved contracts put in); not by print.sh itself.
import Derived.Test.YteifocbmholocaaPFnExactWidthForx0
import Derived.Test.YteifocbmholocaaPFnExactWidthForx1
import Derived.Test.YteifocbmholocaaPFnExactWidthForx2
namespace Go.Proofs.Yteifocbmholocaa.PFnExactWidthFor
open Go.RowKit Go.Proofs.YteifocbmholocaaW.PrintWords Go.Proofs.YteifocbmholocaaW.PrintLast Go.Proofs.YteifocbmholocaaW.PrintMore
attribute [local go_sem] max2_int min2_int max_two min_two max_three min_three max_four min_four   -- for this text's walks alone
set_option linter.unusedVariables false
set_option linter.unusedSimpArgs false


/-! ### impl_firstIn: function 63 -/
open Go.Proofs.YteifocbmholocaaM
def FirstPost (low : Int) (n : Nat) (p : Int → Bool) (w : World) (e : Ending) (w' : World) : Prop :=
  e = .returned (.tuple #[.int .i64 (low + (firstTrue (fun i => p (low + (i : Int))) n : Nat)), .bool (decide (firstTrue (fun i => p (low + (i : Int))) n < n))]) ∧ Below w.heap.size w w'
set_option maxHeartbeats 2000000 in
set_option maxRecDepth 100000 in
theorem firstIn_closure (g : Nat) (cb : Array Value) (B0 B1 : Nat) (low x : Int) (b : Bool) (W : World) (i : Nat) (eg : Enters Try.prog g) (hx : low + (i : Int) = x) (h1 : -4611686018427387904 ≤ low) (h2 : low ≤ 4611686018427387904) (h3 : i < 4611686018427387904)
    (c0 : W.cell? ⟨B0, 0, none⟩ = some (.int .i64 low)) (c1 : W.cell? ⟨B1, 0, none⟩ = some (.func (.func g) #[] cb))
    (hf : Calls Try.prog g (#[.int .i64 x] ++ cb) W fun e w' => e = .returned (.bool b) ∧ Below W.heap.size W w') :
    Calls Try.prog 88 (#[.int .i64 i] ++ #[.pointer (some ⟨B1, 0, none⟩), .pointer (some ⟨B0, 0, none⟩)]) W fun e w' => e = .returned (.bool b) ∧ Below W.heap.size W w' := by
  rw [← hx] at hf
  clear hx
  have HF := Aside0.mk hf
  clear hf
  have eg' : ∀ args w, (callFunc g args).run Try.prog w = .ok (.enter g args) w := eg
  clear eg
  go_enter Try.func88, Try.ntmps88
  go_wp2_with (go_at_fn g; refine HF.out.mono ?_; rintro e w' ⟨rfl, hb⟩)
  go_ret
  exact ⟨rfl, hb⟩
set_option maxHeartbeats 2000000 in
set_option maxRecDepth 100000 in
/-- The least number from low to high with a property that all greater ones have, too. -/
theorem firstIn_any (g : Nat) (cb : Array Value) (low high : Int) (n : Nat) (p : Int → Bool) (w : World) (eg : Enters Try.prog g) (hn : high - low + 1 = (n : Int)) (h1 : -1000000000000 ≤ low) (h2 : low ≤ 1000000000000) (h3 : -1000000000000 ≤ high) (h4 : high ≤ 1000000000000)
    (hf : ∀ (W : World) (x : Int), Below w.heap.size w W → low ≤ x → x ≤ high → Calls Try.prog g (#[.int .i64 x] ++ cb) W fun e w' => e = .returned (.bool (p x)) ∧ Below W.heap.size W w')
    (hmono : ∀ a b, low ≤ a → a ≤ b → b ≤ high → p a = true → p b = true) :
    Calls Try.prog 63 #[.int .i64 low, .int .i64 high, .func (.func g) #[] cb] w (FirstPost low n p w) := by
  obtain ⟨W, hW⟩ : ∃ W, (w.alloc (.cells #[.int .i64 low] 2)).alloc (.cells #[.func (.func g) #[] cb] 30) = W := ⟨_, rfl⟩
  have hb : Below w.heap.size w W := by rw [← hW]; exact below_alloc (below_alloc (Below.refl _ _) _) _
  have hs : W.heap.size = w.heap.size + 1 + 1 := by rw [← hW]; simp
  have d0 : W.cell? ⟨w.heap.size, 0, none⟩ = some (.int .i64 low) := by rw [← hW]; simp
  have d1 : W.cell? ⟨w.heap.size + 1, 0, none⟩ = some (.func (.func g) #[] cb) := by rw [← hW]; simp
  have ek : Enters Try.prog 88 := enters_of Try.func88 (by kernel_rfl) rfl
  have hS := search_any 88 #[.pointer (some ⟨w.heap.size + 1, 0, none⟩), .pointer (some ⟨w.heap.size, 0, none⟩)] n (fun i => p (low + (i : Int))) W ek (by omega)
    (fun W' i hb' hi => firstIn_closure g cb w.heap.size (w.heap.size + 1) low (low + (i : Int)) _ W' i eg rfl (by omega) (by omega) (by omega)
      ((hb'.cell (p := ⟨w.heap.size, 0, none⟩) (by rw [hs]; show w.heap.size < _; omega)).trans d0) ((hb'.cell (p := ⟨w.heap.size + 1, 0, none⟩) (by rw [hs]; show w.heap.size + 1 < _; omega)).trans d1)
      (hf W' _ (hb.trans (hb'.mono (by omega))) (by omega) (by omega)))
    (fun a b hab hbn hp => hmono _ _ (by omega) (by omega) (by omega) hp)
  unfold SearchPost at hS
  unfold FirstPost
  have hk : firstTrue (fun i => p (low + (i : Int))) n ≤ n := firstTrue_le _ _
  generalize firstTrue (fun i => p (low + (i : Int))) n = k at hS hk ⊢
  have HS := Aside0.mk hS
  have HBW := Aside0.mk hb
  have HN := Aside0.mk hn
  have HS0 := Aside0.mk hs
  clear hS hf hmono hb hn ek eg d1 hs
  have hn : 0 ≤ high - low + 1 := by have := HN.out; omega
  have hk2 : (k : Int) ≤ 3000000000000 := by have := HN.out; omega
  go_enter Try.func63, Try.ntmps63
  go_wp2_with (go_at_call 87; rw [HN.out]; refine HS.out.mono ?_; rintro e w' ⟨rfl, hb⟩; have d2 := (hb.cell (p := ⟨w.heap.size, 0, none⟩) (by rw [HS0.out]; show w.heap.size < _; omega)).trans d0)
  go_ret2
  exact ⟨rfl, below_then HBW.out HBW.out.size hb⟩
set_option maxHeartbeats 2000000 in
set_option maxRecDepth 100000 in
theorem firstIn_closure_inv (g : Nat) (cb : Array Value) (B0 B1 : Nat) (low x : Int) (b : Bool) (W : World) (P : World → Prop) (i : Nat) (eg : Enters Try.prog g) (hx : low + (i : Int) = x) (h1 : -4611686018427387904 ≤ low) (h2 : low ≤ 4611686018427387904) (h3 : i < 4611686018427387904)
    (c0 : W.cell? ⟨B0, 0, none⟩ = some (.int .i64 low)) (c1 : W.cell? ⟨B1, 0, none⟩ = some (.func (.func g) #[] cb))
    (hf : Calls Try.prog g (#[.int .i64 x] ++ cb) W fun e w' => e = .returned (.bool b) ∧ P w') :
    Calls Try.prog 88 (#[.int .i64 i] ++ #[.pointer (some ⟨B1, 0, none⟩), .pointer (some ⟨B0, 0, none⟩)]) W fun e w' => e = .returned (.bool b) ∧ P w' := by
  rw [← hx] at hf
  clear hx
  have HF := Aside0.mk hf
  clear hf
  have eg' : ∀ args w, (callFunc g args).run Try.prog w = .ok (.enter g args) w := eg
  clear eg
  go_enter Try.func88, Try.ntmps88
  go_wp2_with (go_at_fn g; refine HF.out.mono ?_; rintro e w' ⟨rfl, hb⟩)
  go_ret
  exact ⟨rfl, hb⟩
def FirstPostI (low : Int) (n : Nat) (p : Int → Bool) (I : World → Prop) (e : Ending) (w' : World) : Prop :=
  e = .returned (.tuple #[.int .i64 (low + (firstTrue (fun i => p (low + (i : Int))) n : Nat)), .bool (decide (firstTrue (fun i => p (low + (i : Int))) n < n))]) ∧ I w'
set_option maxHeartbeats 2000000 in
set_option maxRecDepth 100000 in
/-- The same with a function value that writes to memory of its own. -/
theorem firstIn_inv (g : Nat) (cb : Array Value) (low high : Int) (n : Nat) (p : Int → Bool) (I : World → Prop) (w : World) (eg : Enters Try.prog g) (hn : high - low + 1 = (n : Int)) (h1 : -1000000000000 ≤ low) (h2 : low ≤ 1000000000000) (h3 : -1000000000000 ≤ high) (h4 : high ≤ 1000000000000)
    (hI : ∀ W, Below w.heap.size w W → I W)
    (hf : ∀ (W : World) (x : Int), I W → low ≤ x → x ≤ high → Calls Try.prog g (#[.int .i64 x] ++ cb) W fun e w' => e = .returned (.bool (p x)) ∧ I w' ∧ ∀ B, w.heap.size ≤ B → B < W.heap.size → w'.cell? ⟨B, 0, none⟩ = W.cell? ⟨B, 0, none⟩)
    (hmono : ∀ a b, low ≤ a → a ≤ b → b ≤ high → p a = true → p b = true) :
    Calls Try.prog 63 #[.int .i64 low, .int .i64 high, .func (.func g) #[] cb] w (FirstPostI low n p I) := by
  obtain ⟨W, hW⟩ : ∃ W, (w.alloc (.cells #[.int .i64 low] 2)).alloc (.cells #[.func (.func g) #[] cb] 30) = W := ⟨_, rfl⟩
  have hb : Below w.heap.size w W := by rw [← hW]; exact below_alloc (below_alloc (Below.refl _ _) _) _
  have hs : W.heap.size = w.heap.size + 1 + 1 := by rw [← hW]; simp
  have d0 : W.cell? ⟨w.heap.size, 0, none⟩ = some (.int .i64 low) := by rw [← hW]; simp
  have d1 : W.cell? ⟨w.heap.size + 1, 0, none⟩ = some (.func (.func g) #[] cb) := by rw [← hW]; simp
  have ek : Enters Try.prog 88 := enters_of Try.func88 (by kernel_rfl) rfl
  have hS := search_inv 88 #[.pointer (some ⟨w.heap.size + 1, 0, none⟩), .pointer (some ⟨w.heap.size, 0, none⟩)] n (fun i => p (low + (i : Int))) (fun V => I V ∧ V.cell? ⟨w.heap.size, 0, none⟩ = some (.int .i64 low) ∧ V.cell? ⟨w.heap.size + 1, 0, none⟩ = some (.func (.func g) #[] cb)) W ⟨hI W hb, d0, d1⟩ ek (by omega)
    (fun W' i hJ hi => firstIn_closure_inv g cb w.heap.size (w.heap.size + 1) low (low + (i : Int)) _ W' _ i eg rfl (by omega) (by omega) (by omega) hJ.2.1 hJ.2.2
      ((hf W' _ hJ.1 (by omega) (by omega)).mono fun e w' ⟨he, hI', hk⟩ => ⟨he, hI', (hk _ (Nat.le_refl _) (World.block_lt_of_cell? W' ⟨w.heap.size, 0, none⟩ hJ.2.1)).trans hJ.2.1, (hk _ (Nat.le_succ _) (World.block_lt_of_cell? W' ⟨w.heap.size + 1, 0, none⟩ hJ.2.2)).trans hJ.2.2⟩))
    (fun a b hab hbn hp => hmono _ _ (by omega) (by omega) (by omega) hp)
  unfold SearchPostI at hS
  unfold FirstPostI
  have hk : firstTrue (fun i => p (low + (i : Int))) n ≤ n := firstTrue_le _ _
  generalize firstTrue (fun i => p (low + (i : Int))) n = k at hS hk ⊢
  have HS := Aside0.mk hS
  have HN := Aside0.mk hn
  clear hS hf hmono hb hn ek eg d1 hs
  have hn : 0 ≤ high - low + 1 := by have := HN.out; omega
  have hk2 : (k : Int) ≤ 3000000000000 := by have := HN.out; omega
  go_enter Try.func63, Try.ntmps63
  go_wp2_with (go_at_call 87; rw [HN.out]; refine HS.out.mono ?_; rintro e w' ⟨rfl, hb⟩; have d2 := hb.2.1)
  go_ret2
  exact ⟨rfl, hb.1⟩

/-! ### impl_pressureOk: function 76 -/
def impl_pressureOk.f (a0 : Int) : Option (Bool) := (impl_within_.f a0 0 100000000).bind fun t120 => (some t120)
set_option maxHeartbeats 8000000 in
set_option maxRecDepth 100000 in
theorem impl_pressureOk.calls (a0 : Int) (r : Bool) (w : World) (h : impl_pressureOk.f a0 = some r) :
    Calls Try.prog 76 #[.int .i64 a0] w fun e w' => e = .returned (.bool r) ∧ Drawn0 w w' := by
  have H : ((impl_within_.f a0 0 100000000).bind fun t120 => (some t120)) = some r := h
  clear h
  replace H := Option.bind_eq_some_iff.mp H
  obtain ⟨t120, A20, H⟩ := H
  replace H : (some t120) = some r := H
  have A2 := Aside0.mk A20
  clear A20
  obtain rfl := Option.some.inj H
  go_enter Try.func76, Try.ntmps76
  go_wp2_with (first | ((with_reducible refine gate_callee (f := 49) rfl ?_); refine goesL_ (some 4) rfl rfl Try.func49 (by kernel_rfl) rfl #[.int .i64 a0, .int .i64 0, .int .i64 100000000] rfl (by (try simp only [List.map_toArray, List.map_cons, List.map_nil]); first | done | rfl | (simp only [List.length_drop, List.length_take]; rfl)) ?_; (with_reducible refine (impl_within_.calls a0 0 100000000 t120 _ A2.out).mono ?_); rintro e w' ⟨rfl, ⟨nd, rfl⟩⟩; refine ⟨_, rfl, ?_⟩))
  go_ret
  exact ⟨by first | rfl | (simp; done) | (simp [*]; done), by repeat (first | exact Drawn0.refl _ | apply Drawn0.step)⟩


/-! ### impl_abs: function 84 -/
open Go.Proofs.YteifocbmholocaaM
def impl_abs.f (a0 : Int) : Option Int := if -9223372036854775808 < a0 ∧ a0 ≤ 9223372036854775807 then some (absI a0) else none
theorem absI_mx (a : Int) (h : -9223372036854775808 < a ∧ a ≤ 9223372036854775807) : mx a (wrap64 (-a)) = absI a := by
  rw [w64 (by omega) (by omega)]
  unfold mx absI
  by_cases c : a < 0
  · rw [if_pos (by omega), if_pos c]
  · rw [if_neg c]
    by_cases c' : a < -a
    · omega
    · rw [if_neg c']
set_option maxHeartbeats 1000000 in
theorem impl_abs.calls (a0 : Int) (r : Int) (w : World) (h : impl_abs.f a0 = some r) :
    Calls Try.prog 84 #[.int .i64 a0] w fun e w' => e = .returned (.int .i64 r) ∧ Drawn0 w w' := by
  unfold impl_abs.f at h
  split at h
  · rename_i hb
    obtain rfl := Option.some.inj h
    have H := Aside0.mk (absI_mx a0 hb)
    clear h hb
    rw [← H.out]
    go_enter Try.func84, Try.ntmps84
    go_wp2
    all_goals go_ret
    all_goals exact ⟨by unfold mx; split <;> first | rfl | (exfalso; omega), by repeat (first | exact Drawn0.refl _ | apply Drawn0.step)⟩
  · exact absurd h (by simp)


/-! ### impl_divRound: function 55 -/
open Go.Proofs.YteifocbmholocaaM
def impl_divRound.f (a0 a1 : Int) : Option Int := if a1 ≠ 0 ∧ -2305843009213693952 ≤ a0 ∧ a0 ≤ 2305843009213693952 ∧ -2305843009213693952 ≤ a1 ∧ a1 ≤ 2305843009213693952 then some (rdiv a0 a1) else none
theorem tmod_abs (a b : Int) (hb : b ≠ 0) (b1 : -2305843009213693952 ≤ b) (b2 : b ≤ 2305843009213693952) : -2305843009213693952 ≤ Int.tmod a b ∧ Int.tmod a b ≤ 2305843009213693952 := by
  have hm : Int.natAbs (Int.tmod a b) < Int.natAbs b := by rw [Int.natAbs_tmod]; exact Nat.mod_lt _ (by omega)
  omega
def impl_divRound.val (a b t t' : Int) : Int := if wrap64 (t' - t) ≤ t then (if (decide (a < 0) == decide (b < 0)) = true then wrap64 (wrap64 (Int.tdiv a b) + 1) else wrap64 (wrap64 (Int.tdiv a b) - 1)) else wrap64 (Int.tdiv a b)
set_option maxHeartbeats 2000000 in
set_option maxRecDepth 100000 in
theorem impl_divRound.core (a b t t' : Int) (w : World) (hb : ¬ b = 0) (z0 : (b == 0) = false) (z1 : (b != 0) = true) (A : Aside0 (impl_abs.f (Int.tmod a b) = some t)) (B : Aside0 (impl_abs.f b = some t')) :
    Calls Try.prog 55 #[.int .i64 a, .int .i64 b] w fun e w' => e = .returned (.int .i64 (impl_divRound.val a b t t')) ∧ Drawn0 w w' := by
  unfold impl_divRound.val
  by_cases c1 : wrap64 (t' - t) ≤ t
  · rw [if_pos c1]
    have c1b : decide (wrap64 (t' - t) ≤ t) = true := decide_eq_true c1
    clear c1
    by_cases c2 : (decide (a < 0) == decide (b < 0)) = true
    · rw [if_pos c2]
      go_enter Try.func55, Try.ntmps55
      go_wp2
      go_quiet ((go_at_call 84; exact Calls.quiet_of ((impl_abs.calls _ t _ A.out).mono fun e w' ⟨he, hd⟩ => ⟨he, hd.out⟩)))
      go_wp2_with (go_at_call 84; (with_reducible refine (impl_abs.calls b t' _ B.out).mono ?_); rintro e w' ⟨rfl, ⟨nd, rfl⟩⟩)
      go_ret
      exact ⟨rfl, by repeat (first | exact Drawn0.refl _ | apply Drawn0.step)⟩
    · rw [if_neg c2]
      have c2b : (decide (a < 0) == decide (b < 0)) = false := by simpa using c2
      (try (have c7b1 : decide ((decide (a < 0)) = (decide (b < 0))) = false := by simpa using c2))
      (try (have c7b3 : ¬ ((decide (a < 0)) = (decide (b < 0))) := by simpa using c2))
      clear c2
      go_enter Try.func55, Try.ntmps55
      go_wp2
      go_quiet ((go_at_call 84; exact Calls.quiet_of ((impl_abs.calls _ t _ A.out).mono fun e w' ⟨he, hd⟩ => ⟨he, hd.out⟩)))
      go_wp2_with (go_at_call 84; (with_reducible refine (impl_abs.calls b t' _ B.out).mono ?_); rintro e w' ⟨rfl, ⟨nd, rfl⟩⟩)
      go_ret
      exact ⟨rfl, by repeat (first | exact Drawn0.refl _ | apply Drawn0.step)⟩
  · rw [if_neg c1]
    have c1b : decide (wrap64 (t' - t) ≤ t) = false := decide_eq_false c1
    clear c1
    go_enter Try.func55, Try.ntmps55
    go_wp2
    go_quiet ((go_at_call 84; exact Calls.quiet_of ((impl_abs.calls _ t _ A.out).mono fun e w' ⟨he, hd⟩ => ⟨he, hd.out⟩)))
    go_wp2_with (go_at_call 84; (with_reducible refine (impl_abs.calls b t' _ B.out).mono ?_); rintro e w' ⟨rfl, ⟨nd, rfl⟩⟩)
    go_ret
    exact ⟨rfl, by repeat (first | exact Drawn0.refl _ | apply Drawn0.step)⟩
theorem impl_divRound.calls (a0 a1 : Int) (r : Int) (w : World) (h : impl_divRound.f a0 a1 = some r) :
    Calls Try.prog 55 #[.int .i64 a0, .int .i64 a1] w fun e w' => e = .returned (.int .i64 r) ∧ Drawn0 w w' := by
  unfold impl_divRound.f at h
  split at h
  · rename_i hc
    obtain ⟨hb, h1, h2, h3, h4⟩ := hc
    have hm := tmod_abs a0 a1 hb h3 h4
    have A : impl_abs.f (Int.tmod a0 a1) = some (absI (Int.tmod a0 a1)) := by unfold impl_abs.f; rw [if_pos (by omega)]
    have B : impl_abs.f a1 = some (absI a1) := by unfold impl_abs.f; rw [if_pos (by omega)]
    have key := impl_div a0 a1 hb h1 h2 h3 h4 (absI (Int.tmod a0 a1)) (absI a1) (by unfold absI; split <;> split <;> omega) (by unfold absI; split <;> split <;> omega)
    have e : impl_divRound.val a0 a1 (absI (Int.tmod a0 a1)) (absI a1) = r := by
      rw [← Option.some.inj h]
      refine Option.some.inj (Eq.trans ?_ key)
      unfold impl_divRound.val
      simp only [ge_iff_le]
      split
      · split <;> rfl
      · rfl
    have := impl_divRound.core a0 a1 _ _ w hb (beq_eq_false_iff_ne.mpr hb) (bne_iff_ne.mpr hb) ⟨A⟩ ⟨B⟩
    rw [e] at this
    exact this
  · exact absurd h (by simp)


/-! ### impl_Pipe_drop: function 78 -/
open Go.Proofs.YteifocbmholocaaM
def impl_Pipe_drop.f (a0_0 : ByteArray) (a0_1 a0_2 a0_3 a0_4 a0_5 : Int) (a1 : Int) : Option Int := if (1 ≤ a0_3 ∧ a0_3 ≤ 10000) ∧ (20 ≤ a0_4 ∧ a0_4 ≤ 1000) ∧ (-100000 ≤ a1 ∧ a1 ≤ 100000) then some (dropI a0_3 a0_4 a1) else none
set_option maxHeartbeats 2000000 in
set_option maxRecDepth 100000 in
theorem impl_Pipe_drop.calls (a0_0 : ByteArray) (a0_1 : Int) (a0_2 : Int) (a0_3 : Int) (a0_4 : Int) (a0_5 : Int) (a1 : Int) (r : Int) (w : World) (h : impl_Pipe_drop.f a0_0 a0_1 a0_2 a0_3 a0_4 a0_5 a1 = some r) :
    Calls Try.prog 78 #[.agg #[.string a0_0, .int .i64 a0_1, .int .i64 a0_2, .int .i64 a0_3, .int .i64 a0_4, .int .i64 a0_5], .int .i64 a1] w fun e w' => e = .returned (.int .i64 r) ∧ Below w.heap.size w w' := by
  unfold impl_Pipe_drop.f at h
  split at h
  case isFalse => exact absurd h (by simp)
  rename_i hc
  obtain ⟨⟨h1, h2⟩, ⟨h3, h4⟩, h5, h6⟩ := hc
  have A := Aside0.mk (show impl_abs.f a1 = some (absI a1) by unfold impl_abs.f; rw [if_pos (by omega)])
  have B := Aside0.mk (show impl_divRound.f (wrap64 ((wrap64 ((wrap64 (a0_3 * 16200)) * a1)) * absI a1)) (wrap64 ((wrap64 ((wrap64 ((wrap64 (a0_4 * a0_4)) * a0_4)) * a0_4)) * a0_4)) = some r by
    rw [drop_num_w h1 h2 h5 h6, drop_den_w h3 h4]
    have := drop_num h1 h2 h5 h6
    have := drop_den h3 h4
    unfold impl_divRound.f
    rw [if_pos (by omega)]
    exact h)
  generalize absI a1 = s at A B
  clear h1 h2 h3 h4 h5 h6 h
  have hu39 := Try.underlying39
  go_enter Try.func78, Try.ntmps78
  go_wp2_with fail
  go_quiet ((first | (go_at_call 84; refine Calls.quiet_of (v := .int .i64 s) ?_; (with_reducible refine (impl_abs.calls a1 s _ A.out).mono ?_); exact fun e w' hd => ⟨hd.1, hd.2.out⟩) | (go_at_call 55; refine Calls.quiet_of (v := .int .i64 r) ?_; (with_reducible refine (impl_divRound.calls _ _ r _ B.out).mono ?_); exact fun e w' hd => ⟨hd.1, hd.2.out⟩)))
  go_wp2
  go_ret
  exact ⟨by first | rfl | simp, by repeat (first | exact Below.refl _ _ | apply below_alloc | apply pw_below_drewN | apply below_drew1)⟩

/-! ### impl_flowOk: function 81 -/
def impl_flowOk.f (a0 : Int) : Option (Bool) := (impl_within_.f a0 (-100000) 100000).bind fun t121 => (some t121)
set_option maxHeartbeats 8000000 in
set_option maxRecDepth 100000 in
theorem impl_flowOk.calls (a0 : Int) (r : Bool) (w : World) (h : impl_flowOk.f a0 = some r) :
    Calls Try.prog 81 #[.int .i64 a0] w fun e w' => e = .returned (.bool r) ∧ Drawn0 w w' := by
  have H : ((impl_within_.f a0 (-100000) 100000).bind fun t121 => (some t121)) = some r := h
  clear h
  replace H := Option.bind_eq_some_iff.mp H
  obtain ⟨t121, A20, H⟩ := H
  replace H : (some t121) = some r := H
  have A2 := Aside0.mk A20
  clear A20
  obtain rfl := Option.some.inj H
  go_enter Try.func81, Try.ntmps81
  go_wp2_with (first | ((with_reducible refine gate_callee (f := 49) rfl ?_); refine goesL_ (some 4) rfl rfl Try.func49 (by kernel_rfl) rfl #[.int .i64 a0, .int .i64 (-100000), .int .i64 100000] rfl (by (try simp only [List.map_toArray, List.map_cons, List.map_nil]); first | done | rfl | (simp only [List.length_drop, List.length_take]; rfl)) ?_; (with_reducible refine (impl_within_.calls a0 (-100000) 100000 t121 _ A2.out).mono ?_); rintro e w' ⟨rfl, ⟨nd, rfl⟩⟩; refine ⟨_, rfl, ?_⟩))
  go_ret
  exact ⟨by first | rfl | (simp; done) | (simp [*]; done), by repeat (first | exact Drawn0.refl _ | apply Drawn0.step)⟩

/-! ### impl_orNotFound: function 82 -/
def impl_orNotFound.f (a0 : Int) (a1 : Bool) : Option (Int × Int) := if a1 = true then (some (a0, 0)) else (some (0, 3))
set_option maxHeartbeats 8000000 in
set_option maxRecDepth 100000 in
theorem impl_orNotFound.calls (a0 : Int) (a1 : Bool) (r1 : Int) (r2 : Int) (w : World) (h : impl_orNotFound.f a0 a1 = some (r1, r2)) :
    Calls Try.prog 82 #[.int .i64 a0, .bool a1] w fun e w' => e = .returned (.tuple #[.int .i64 r1, .int .i64 r2]) ∧ Drawn0 w w' := by
  have H : (if a1 = true then (some (a0, 0)) else (some (0, 3))) = some (r1, r2) := h
  clear h
  by_cases c3 : a1 = true
  · subst c3
    have H1 : (some (a0, 0)) = some (r1, r2) := by rw [if_pos rfl] at H; exact H
    clear H
    have H := H1
    clear H1
    simp only [Option.some.injEq, Prod.mk.injEq] at H
    obtain ⟨rfl, rfl⟩ := H
    go_enter Try.func82, Try.ntmps82
    go_wp2
    go_ret2
    exact ⟨by first | rfl | (simp; done) | (simp [*]; done), by repeat (first | exact Drawn0.refl _ | apply Drawn0.step)⟩
  · replace c3 := Bool.eq_false_iff.mpr c3
    subst c3
    have H1 : (some (0, 3)) = some (r1, r2) := by rw [if_neg (show ¬ (false = true) by decide)] at H; exact H
    clear H
    have H := H1
    clear H1
    simp only [Option.some.injEq, Prod.mk.injEq] at H
    obtain ⟨rfl, rfl⟩ := H
    go_enter Try.func82, Try.ntmps82
    go_wp2
    go_ret2
    exact ⟨by first | rfl | (simp; done) | (simp [*]; done), by repeat (first | exact Drawn0.refl _ | apply Drawn0.step)⟩


/-! ### impl_WidthFor: function 46 -/
open Go.Proofs.YteifocbmholocaaM
theorem held_r {P : Prop} {n : Nat} {W w1 : World} (h : P ∧ Below n W w1) : Below n W w1 := h.2
theorem pf_keep {W w' : World} {B0 B1 B2 : Nat} {v0 v1 v2 v3 v4 v5 v6 v7 : Value} (c0 : W.cell? ⟨B0, 0, none⟩ = some v0) (c1 : W.cell? ⟨B0, 1, none⟩ = some v1) (c2 : W.cell? ⟨B0, 2, none⟩ = some v2) (c3 : W.cell? ⟨B0, 3, none⟩ = some v3) (c4 : W.cell? ⟨B0, 4, none⟩ = some v4) (c5 : W.cell? ⟨B0, 5, none⟩ = some v5) (c6 : W.cell? ⟨B1, 0, none⟩ = some v6) (c7 : W.cell? ⟨B2, 0, none⟩ = some v7) (hb : Below W.heap.size W w') :
    (w'.cell? ⟨B0, 0, none⟩ = some v0 ∧ w'.cell? ⟨B0, 1, none⟩ = some v1 ∧ w'.cell? ⟨B0, 2, none⟩ = some v2 ∧ w'.cell? ⟨B0, 3, none⟩ = some v3 ∧ w'.cell? ⟨B0, 4, none⟩ = some v4 ∧ w'.cell? ⟨B0, 5, none⟩ = some v5 ∧ w'.cell? ⟨B1, 0, none⟩ = some v6 ∧ w'.cell? ⟨B2, 0, none⟩ = some v7) ∧ Below W.heap.size W w' :=
  ⟨⟨pw_cell_below hb c0, pw_cell_below hb c1, pw_cell_below hb c2, pw_cell_below hb c3, pw_cell_below hb c4, pw_cell_below hb c5, pw_cell_below hb c6, pw_cell_below hb c7⟩, hb⟩
set_option maxHeartbeats 2000000 in
set_option maxRecDepth 100000 in
theorem wf_closure (B0 B1 B2 : Nat) (s : ByteArray) (f t l z x q m d : Int) (W : World) (h1 : 1 ≤ l) (h2 : l ≤ 10000) (h3 : 20 ≤ d) (h4 : d ≤ 1000) (h5 : -100000 ≤ q) (h6 : q ≤ 100000) (n1 : B0 ≠ B1) (n2 : B0 ≠ B2)
    (HG : W.heap[B0]? = some (.cells #[.string s, .int .i64 f, .int .i64 t, .int .i64 l, .int .i64 z, .int .i64 x] 39 (0, 0))) (c6 : W.cell? ⟨B1, 0, none⟩ = some (.int .i64 q)) (c7 : W.cell? ⟨B2, 0, none⟩ = some (.int .i64 m)) :
    Calls Try.prog 83 (#[.int .i64 d] ++ #[.pointer (some ⟨B0, 0, none⟩), .pointer (some ⟨B1, 0, none⟩), .pointer (some ⟨B2, 0, none⟩)]) W fun e w' => e = .returned (.bool (decide (absI (dropI l d q) ≤ m))) ∧ Below W.heap.size (W.setCell ⟨B0, 4, none⟩ (.int .i64 d)) w' := by
  have hdb := drop_bound (l := l) (d := d) (q := q) h1 h2 h5 h6
  have E : Aside0 (impl_Pipe_drop.f s f t l d x q = some (dropI l d q)) := ⟨by unfold impl_Pipe_drop.f; rw [if_pos (by omega)]⟩
  have E2 : Aside0 (impl_abs.f (dropI l d q) = some (absI (dropI l d q))) := ⟨by unfold impl_abs.f; rw [if_pos (by omega)]⟩
  generalize absI (dropI l d q) = y2 at E2 ⊢
  generalize dropI l d q = y at E E2
  clear hdb
  have hu39 := Try.underlying39
  have hB0 := blk_lt HG
  have hfz := blk_frozen HG 4
  have c4 := cellS39_4 HG
  have hB1 := World.block_lt_of_cell? W ⟨B1, 0, none⟩ c6
  have hB2 := World.block_lt_of_cell? W ⟨B2, 0, none⟩ c7
  obtain ⟨V, hV⟩ : ∃ V, W.setCell ⟨B0, 4, none⟩ (.int .i64 d) = V := ⟨_, rfl⟩
  have hz : V.heap.size = W.heap.size := by rw [← hV]; simp
  have HV : V.heap[B0]? = some (.cells #[.string s, .int .i64 f, .int .i64 t, .int .i64 l, .int .i64 d, .int .i64 x] 39 (0, 0)) := by rw [← hV]; exact blk_put HG 4 _ rfl
  have k0 := cellS39_0 HV
  have k1 := cellS39_1 HV
  have k2 := cellS39_2 HV
  have k3 := cellS39_3 HV
  have k4 := cellS39_4 HV
  have k5 := cellS39_5 HV
  have k6 : V.cell? ⟨B1, 0, none⟩ = some (.int .i64 q) := by rw [← hV]; exact (World.cell?_setCell_other _ _ _ _ (by simp [n1, n1.symm])).trans c6
  have k7 : V.cell? ⟨B2, 0, none⟩ = some (.int .i64 m) := by rw [← hV]; exact (World.cell?_setCell_other _ _ _ _ (by simp [n2, n2.symm])).trans c7
  rw [← hz, hV]
  clear HG HV
  go_enter Try.func83, Try.ntmps83
  go_wp2_with fail
  go_region_held3 (fun w' => (w'.cell? ⟨B0, 0, none⟩ = some (.string s) ∧ w'.cell? ⟨B0, 1, none⟩ = some (.int .i64 f) ∧ w'.cell? ⟨B0, 2, none⟩ = some (.int .i64 t) ∧ w'.cell? ⟨B0, 3, none⟩ = some (.int .i64 l) ∧ w'.cell? ⟨B0, 4, none⟩ = some (.int .i64 d) ∧ w'.cell? ⟨B0, 5, none⟩ = some (.int .i64 x) ∧ w'.cell? ⟨B1, 0, none⟩ = some (.int .i64 q) ∧ w'.cell? ⟨B2, 0, none⟩ = some (.int .i64 m)) ∧ Below V.heap.size V w') (first | assumption | exact pf_keep k0 k1 k2 k3 k4 k5 k6 k7 (below_drew1 (Below.refl _ _)) | exact pf_keep k0 k1 k2 k3 k4 k5 k6 k7 (below_then (below_drew1 (Below.refl _ _)) (Nat.le_refl _) hb) | exact pf_keep k0 k1 k2 k3 k4 k5 k6 k7 (pw_below_drewN (below_then (below_drew1 (Below.refl _ _)) (Nat.le_refl _) hb) _) | trace_state) (first | (go_at_call 78; refine (impl_Pipe_drop.calls s f t l d x q y _ E.out).mono ?_; rintro e w' ⟨rfl, hb⟩) | (go_at_call 84; (with_reducible refine (impl_abs.calls y y2 _ E2.out).mono ?_); rintro e w' ⟨rfl, ⟨nd, rfl⟩⟩))
  go_wp2
  go_ret
  exact ⟨rfl, held_r (by assumption)⟩
def impl_WidthFor.f (a0_0 : ByteArray) (a0_1 a0_2 a0_3 a0_4 a0_5 a1 a2 : Int) : Option (Int × Int) := if a0_0.size ≤ 9000000000000000000 then some (if pipeOk a0_0 a0_1 a0_2 a0_3 a0_4 a0_5 = true then (if -100000 ≤ a1 ∧ a1 ≤ 100000 then (if 0 ≤ a2 ∧ a2 ≤ 100000000 then (if widthI a0_3 a1 a2 < 981 then (20 + (widthI a0_3 a1 a2 : Int), 0) else (0, 3)) else (0, 2)) else (0, 2)) else (0, 1)) else none
theorem pressureOk_b (x : Int) (w : World) (b : Bool) (h : decide (0 ≤ x ∧ x ≤ 100000000) = b) : Calls Try.prog 76 #[.int .i64 x] w fun e w' => e = .returned (.bool b) ∧ Drawn0 w w' :=
  impl_pressureOk.calls x b w (by unfold impl_pressureOk.f impl_within_.f; rw [← h]; rfl)
theorem flowOk_b (x : Int) (w : World) (b : Bool) (h : decide (-100000 ≤ x ∧ x ≤ 100000) = b) : Calls Try.prog 81 #[.int .i64 x] w fun e w' => e = .returned (.bool b) ∧ Drawn0 w w' :=
  impl_flowOk.calls x b w (by unfold impl_flowOk.f impl_within_.f; rw [← h]; rfl)
theorem pipe_three (w : World) (s : ByteArray) (f t l d x q m : Int) (T U V : TypeId) : let W := ((w.alloc (.cells #[.string s, .int .i64 f, .int .i64 t, .int .i64 l, .int .i64 d, .int .i64 x] T)).alloc (.cells #[.int .i64 q] U)).alloc (.cells #[.int .i64 m] V)
    (W.cell? ⟨w.heap.size, 0, none⟩ = some (.string s) ∧ W.cell? ⟨w.heap.size, 1, none⟩ = some (.int .i64 f) ∧ W.cell? ⟨w.heap.size, 2, none⟩ = some (.int .i64 t) ∧ W.cell? ⟨w.heap.size, 3, none⟩ = some (.int .i64 l) ∧ W.cell? ⟨w.heap.size, 4, none⟩ = some (.int .i64 d) ∧ W.cell? ⟨w.heap.size, 5, none⟩ = some (.int .i64 x) ∧ W.cell? ⟨w.heap.size + 1, 0, none⟩ = some (.int .i64 q) ∧ W.cell? ⟨w.heap.size + 1 + 1, 0, none⟩ = some (.int .i64 m)) ∧
    W.heap[w.heap.size]? = some (.cells #[.string s, .int .i64 f, .int .i64 t, .int .i64 l, .int .i64 d, .int .i64 x] T (0, 0)) := by
  intro W
  have h0 : W.heap[w.heap.size]? = some (.cells #[.string s, .int .i64 f, .int .i64 t, .int .i64 l, .int .i64 d, .int .i64 x] T (0, 0)) := blk_alloc (blk_alloc (alloc_new_ _ _) _) _
  have h1 : W.heap[w.heap.size + 1]? = some (.cells #[.int .i64 q] U (0, 0)) := blk_alloc (alloc_two _ _ _) _
  have h2 : W.heap[w.heap.size + 1 + 1]? = some (.cells #[.int .i64 m] V (0, 0)) := by
    have := alloc_two (w.alloc (.cells #[.string s, .int .i64 f, .int .i64 t, .int .i64 l, .int .i64 d, .int .i64 x] T)) (.cells #[.int .i64 q] U) (.cells #[.int .i64 m] V)
    rwa [World.size_alloc] at this
  exact ⟨⟨blk_cell h0 0, blk_cell h0 1, blk_cell h0 2, blk_cell h0 3, blk_cell h0 4, blk_cell h0 5, blk_cell h1 0, blk_cell h2 0⟩, h0⟩
set_option maxHeartbeats 4000000 in
set_option maxRecDepth 100000 in
theorem impl_WidthFor.calls (a0_0 : ByteArray) (a0_1 a0_2 a0_3 a0_4 a0_5 a1 a2 r1 r2 : Int) (w : World) (h : impl_WidthFor.f a0_0 a0_1 a0_2 a0_3 a0_4 a0_5 a1 a2 = some (r1, r2)) :
    Calls Try.prog 46 #[.agg #[.string a0_0, .int .i64 a0_1, .int .i64 a0_2, .int .i64 a0_3, .int .i64 a0_4, .int .i64 a0_5], .int .i64 a1, .int .i64 a2] w fun e w' => e = .returned (.tuple #[.int .i64 r1, .int .i64 r2]) ∧ Below w.heap.size w w' := by
  have hu39 := Try.underlying39
  unfold impl_WidthFor.f at h
  split at h
  case isFalse => exact absurd h (by simp)
  rename_i hs9
  obtain ⟨W, hW⟩ : ∃ W, ((w.alloc (.cells #[.string a0_0, .int .i64 a0_1, .int .i64 a0_2, .int .i64 a0_3, .int .i64 a0_4, .int .i64 a0_5] 39)).alloc (.cells #[.int .i64 a1] 2)).alloc (.cells #[.int .i64 a2] 2) = W := ⟨_, rfl⟩
  have hb0 := below_alloc (below_alloc (below_alloc (Below.refl w.heap.size w) (.cells #[.string a0_0, .int .i64 a0_1, .int .i64 a0_2, .int .i64 a0_3, .int .i64 a0_4, .int .i64 a0_5] 39)) (.cells #[.int .i64 a1] 2)) (.cells #[.int .i64 a2] 2)
  have hs : W.heap.size = w.heap.size + 1 + 1 + 1 := by rw [← hW]; simp
  have hcells := pipe_three w a0_0 a0_1 a0_2 a0_3 a0_4 a0_5 a1 a2 39 2 2
  simp only [hW] at hcells hb0
  obtain ⟨⟨d0, d1, d2, d3, d4, d5, d6, d7⟩, HG0⟩ := hcells
  have HG := Aside0.mk HG0
  have HB := Aside0.mk hb0
  clear hb0 HG0
  obtain ⟨b1, hc1⟩ : ∃ b, pipeOk a0_0 a0_1 a0_2 a0_3 a0_4 a0_5 = b := ⟨_, rfl⟩
  obtain ⟨b2, hc2⟩ : ∃ b, decide (-100000 ≤ a1 ∧ a1 ≤ 100000) = b := ⟨_, rfl⟩
  obtain ⟨b3, hc3⟩ : ∃ b, decide (0 ≤ a2 ∧ a2 ≤ 100000000) = b := ⟨_, rfl⟩
  have HV := Aside0.mk (show impl_ValidPipe_.f a0_0 a0_1 a0_2 a0_3 a0_4 a0_5 = some b1 by unfold impl_ValidPipe_.f; rw [if_pos hs9, hc1])
  have HFl := Aside0.mk (fun W => flowOk_b a1 W b2 hc2)
  have HP := Aside0.mk (fun W => pressureOk_b a2 W b3 hc3)
  rw [hc1] at h
  cases b1
  · rw [if_neg (by simp)] at h
    simp only [Option.some.injEq, Prod.mk.injEq] at h
    obtain ⟨rfl, rfl⟩ := h
    clear hc1 hc2 hc3
    go_enter Try.func46, Try.ntmps46
    go_wp2_with (go_at_call 39; (with_reducible refine (impl_ValidPipe_.calls a0_0 a0_1 a0_2 a0_3 a0_4 a0_5 false _ HV.out).mono ?_); rintro e w' ⟨rfl, hb⟩)
    go_ret2
    exact ⟨rfl, below_then HB.out HB.out.size hb⟩
  have hp := pipeOk_range hc1
  rw [if_pos rfl] at h
  cases b2
  · rw [if_neg (of_decide_eq_false hc2)] at h
    simp only [Option.some.injEq, Prod.mk.injEq] at h
    obtain ⟨rfl, rfl⟩ := h
    clear hc1 hc2 hc3 hp
    go_enter Try.func46, Try.ntmps46
    go_wp2_with (first | (go_at_call 39; (with_reducible refine (impl_ValidPipe_.calls a0_0 a0_1 a0_2 a0_3 a0_4 a0_5 true _ HV.out).mono ?_); rintro e w' ⟨rfl, hb⟩; have e6 := pw_cell_below hb d6; have e7 := pw_cell_below hb d7) | (go_at_call 81; refine (HFl.out _).mono ?_; rintro e w' ⟨rfl, ⟨nd, rfl⟩⟩) | (go_at_call 76; refine (HP.out _).mono ?_; rintro e w' ⟨rfl, ⟨nd, rfl⟩⟩))
    go_ret2
    exact ⟨rfl, by repeat (first | exact below_then HB.out HB.out.size hb | apply pw_below_drewN | apply below_drew1)⟩
  rw [if_pos (of_decide_eq_true hc2)] at h
  cases b3
  · rw [if_neg (of_decide_eq_false hc3)] at h
    simp only [Option.some.injEq, Prod.mk.injEq] at h
    obtain ⟨rfl, rfl⟩ := h
    clear hc1 hc2 hc3 hp
    go_enter Try.func46, Try.ntmps46
    go_wp2_with (first | (go_at_call 39; (with_reducible refine (impl_ValidPipe_.calls a0_0 a0_1 a0_2 a0_3 a0_4 a0_5 true _ HV.out).mono ?_); rintro e w' ⟨rfl, hb⟩; have e6 := pw_cell_below hb d6; have e7 := pw_cell_below hb d7) | (go_at_call 81; refine (HFl.out _).mono ?_; rintro e w' ⟨rfl, ⟨nd, rfl⟩⟩) | (go_at_call 76; refine (HP.out _).mono ?_; rintro e w' ⟨rfl, ⟨nd, rfl⟩⟩))
    go_ret2
    exact ⟨rfl, by repeat (first | exact below_then HB.out HB.out.size hb | apply pw_below_drewN | apply below_drew1)⟩
  rw [if_pos (of_decide_eq_true hc3)] at h
  have hq := of_decide_eq_true hc2
  obtain ⟨_, _, _, ⟨hl, hl'⟩, _, _⟩ := hp
  have eg : Enters Try.prog 83 := enters_of Try.func83 (by kernel_rfl) rfl
  have hF := fun (W' : World) (hb0 : Below W.heap.size W W') => firstIn_inv 83 #[.pointer (some ⟨w.heap.size, 0, none⟩), .pointer (some ⟨w.heap.size + 1, 0, none⟩), .pointer (some ⟨w.heap.size + 1 + 1, 0, none⟩)] 20 1000 981 (fun x => decide (absI (dropI a0_3 x a1) ≤ a2))
    (fun V => W.heap.size ≤ V.heap.size ∧ Below w.heap.size w V ∧ (∃ z, V.heap[w.heap.size]? = some (.cells #[.string a0_0, .int .i64 a0_1, .int .i64 a0_2, .int .i64 a0_3, .int .i64 z, .int .i64 a0_5] 39 (0, 0))) ∧ V.cell? ⟨w.heap.size + 1, 0, none⟩ = some (.int .i64 a1) ∧ V.cell? ⟨w.heap.size + 1 + 1, 0, none⟩ = some (.int .i64 a2)) W' eg (by omega) (by omega) (by omega) (by omega) (by omega)
    (fun V hb => by
      have hb' := hb0.trans (hb.mono hb0.size)
      exact ⟨hb'.size, below_then HB.out HB.out.size hb', ⟨a0_4, (hb'.block _ (by omega)).trans HG.out⟩, pw_cell_below hb' d6, pw_cell_below hb' d7⟩)
    (fun V x hI hx0 hx1 => by
      obtain ⟨i0, i1, ⟨z, i2⟩, i3, i4⟩ := hI
      refine (wf_closure w.heap.size (w.heap.size + 1) (w.heap.size + 1 + 1) a0_0 a0_1 a0_2 a0_3 z a0_5 a1 a2 x V hl hl' hx0 hx1 hq.1 hq.2 (by omega) (by omega) i2 i3 i4).mono fun e w' ⟨he, hb⟩ => ?_
      have hsz : (V.setCell ⟨w.heap.size, 4, none⟩ (.int .i64 x)).heap.size = V.heap.size := by simp
      have hVs : V.heap.size ≤ w'.heap.size := by rw [← hsz]; exact hb.size
      have j2 := blk_put i2 4 (.int .i64 x) rfl
      refine ⟨he, ⟨by omega, ?_, ⟨x, ?_⟩, ?_, ?_⟩, fun B hB hB2 => ?_⟩
      · exact below_then (below_set i1 (Nat.le_refl _)) (by rw [hsz]; exact i1.size) (hb.mono (by rw [hsz]; exact Nat.le_refl _))
      · exact (hb.block _ (blk_lt i2)).trans j2
      · exact (hb.cell (p := ⟨w.heap.size + 1, 0, none⟩) (World.block_lt_of_cell? V ⟨w.heap.size + 1, 0, none⟩ i3)).trans ((World.cell?_setCell_other _ _ _ _ (by simp)).trans i3)
      · exact (hb.cell (p := ⟨w.heap.size + 1 + 1, 0, none⟩) (World.block_lt_of_cell? V ⟨w.heap.size + 1 + 1, 0, none⟩ i4)).trans ((World.cell?_setCell_other _ _ _ _ (by simp)).trans i4)
      · have hWs := hb0.size
        exact (hb.cell (p := ⟨B, 0, none⟩) hB2).trans (World.cell?_setCell_other _ _ _ _ (by simp)))
    (fun a b ha hab hb hp => decide_eq_true (Int.le_trans (drop_wide hl ha hab hb) (of_decide_eq_true hp)))
  unfold FirstPostI at hF
  have hk := width_le a0_3 a1 a2
  have hw : firstTrue (fun i : Nat => (fun x => decide (absI (dropI a0_3 x a1) ≤ a2)) (20 + (i : Int))) 981 = widthI a0_3 a1 a2 := rfl
  rw [hw] at hF
  generalize widthI a0_3 a1 a2 = k at h hF hk
  clear hw
  have hF2 := fun (W' : World) (hb0 : Below W.heap.size W W') => (hF W' hb0).mono (R' := fun e w' => e = .returned (.tuple #[.int .i64 (20 + (k : Int)), .bool (decide (k < 981))]) ∧ Below w.heap.size w w') fun e w' hh => ⟨hh.1, hh.2.2.1⟩
  have HF := Aside0.mk hF2
  have HS := Aside0.mk hs
  clear hF hF2 eg hs hl hl' hc1 hc2 hc3
  by_cases ck : k < 981
  · rw [if_pos ck] at h
    simp only [Option.some.injEq, Prod.mk.injEq] at h
    obtain ⟨rfl, rfl⟩ := h
    have ck' := Aside0.mk (decide_eq_true ck)
    have HO := Aside0.mk (show impl_orNotFound.f (20 + (k : Int)) true = some (20 + (k : Int), 0) by unfold impl_orNotFound.f; simp)
    go_enter Try.func46, Try.ntmps46
    go_wp2_with (first | (go_at_call 39; (with_reducible refine (impl_ValidPipe_.calls a0_0 a0_1 a0_2 a0_3 a0_4 a0_5 true _ HV.out).mono ?_); rintro e w' ⟨rfl, hb⟩; have e6 := pw_cell_below hb d6; have e7 := pw_cell_below hb d7) | (go_at_call 81; refine (HFl.out _).mono ?_; rintro e w' ⟨rfl, ⟨nd, rfl⟩⟩) | (go_at_call 76; refine (HP.out _).mono ?_; rintro e w' ⟨rfl, ⟨nd, rfl⟩⟩) | (go_at_call 63; refine (HF.out _ (by repeat (first | exact hb | apply pw_below_drewN | apply below_drew1))).mono ?_; rw [ck'.out]; rintro e w' ⟨rfl, hb2⟩) | (go_at_call 82; (with_reducible refine (impl_orNotFound.calls (20 + (k : Int)) true _ _ _ HO.out).mono ?_); rintro e w' ⟨rfl, ⟨nd, rfl⟩⟩))
    go_ret2
    exact ⟨rfl, by repeat (first | exact hb2 | apply pw_below_drewN | apply below_drew1)⟩
  · rw [if_neg ck] at h
    simp only [Option.some.injEq, Prod.mk.injEq] at h
    obtain ⟨rfl, rfl⟩ := h
    have ck' := Aside0.mk (decide_eq_false ck)
    have HO := Aside0.mk (show impl_orNotFound.f (20 + (k : Int)) false = some (0, 3) by unfold impl_orNotFound.f; simp)
    go_enter Try.func46, Try.ntmps46
    go_wp2_with (first | (go_at_call 39; (with_reducible refine (impl_ValidPipe_.calls a0_0 a0_1 a0_2 a0_3 a0_4 a0_5 true _ HV.out).mono ?_); rintro e w' ⟨rfl, hb⟩; have e6 := pw_cell_below hb d6; have e7 := pw_cell_below hb d7) | (go_at_call 81; refine (HFl.out _).mono ?_; rintro e w' ⟨rfl, ⟨nd, rfl⟩⟩) | (go_at_call 76; refine (HP.out _).mono ?_; rintro e w' ⟨rfl, ⟨nd, rfl⟩⟩) | (go_at_call 63; refine (HF.out _ (by repeat (first | exact hb | apply pw_below_drewN | apply below_drew1))).mono ?_; rw [ck'.out]; rintro e w' ⟨rfl, hb2⟩) | (go_at_call 82; (with_reducible refine (impl_orNotFound.calls (20 + (k : Int)) false _ _ _ HO.out).mono ?_); rintro e w' ⟨rfl, ⟨nd, rfl⟩⟩))
    go_ret2
    exact ⟨rfl, by repeat (first | exact hb2 | apply pw_below_drewN | apply below_drew1)⟩

/-! ### laws_FnExactWidthFor: function 15 -/
def laws_FnExactWidthFor.f (a0_0 : ByteArray) (a0_1 : Int) (a0_2 : Int) (a0_3 : Int) (a0_4 : Int) (a0_5 : Int) (a1 : Int) (a2 : Int) : Option (Bool) := (laws_szPipe.f a0_0 a0_1 a0_2 a0_3 a0_4 a0_5 1048576).bind fun t123 => (if t123 < 0 then (some true) else ((laws_toPipe.f a0_0 a0_1 a0_2 a0_3 a0_4 a0_5).bind fun bt124 => ((spec_WidthFor.f bt124.1 bt124.2.1 bt124.2.2.1 bt124.2.2.2.1 bt124.2.2.2.2.1 bt124.2.2.2.2.2 a1 a2).bind fun bt130 => ((laws_toPipe.f a0_0 a0_1 a0_2 a0_3 a0_4 a0_5).bind fun bt132 => ((impl_WidthFor.f bt132.1 bt132.2.1 bt132.2.2.1 bt132.2.2.2.1 bt132.2.2.2.2.1 bt132.2.2.2.2.2 a1 a2).bind fun bt138 => (if bt138.1 = bt130.1 then (if bt138.2 = bt130.2 then (some true) else (some false)) else (some false)))))))
set_option maxHeartbeats 8000000 in
set_option maxRecDepth 100000 in
theorem laws_FnExactWidthFor.calls (a0_0 : ByteArray) (a0_1 : Int) (a0_2 : Int) (a0_3 : Int) (a0_4 : Int) (a0_5 : Int) (a1 : Int) (a2 : Int) (r : Bool) (w : World) (h : laws_FnExactWidthFor.f a0_0 a0_1 a0_2 a0_3 a0_4 a0_5 a1 a2 = some r) :
    Calls Try.prog 15 #[.agg #[.string a0_0, .int .i64 a0_1, .int .i64 a0_2, .int .i64 a0_3, .int .i64 a0_4, .int .i64 a0_5], .int .i64 a1, .int .i64 a2] w fun e w' => e = .returned (.bool r) ∧ Below w.heap.size w w' := by
  have hu36 := Try.underlying36
  have HB := Aside0.mk (Below.refl w.heap.size w)
  have H : ((laws_szPipe.f a0_0 a0_1 a0_2 a0_3 a0_4 a0_5 1048576).bind fun t123 => (if t123 < 0 then (some true) else ((laws_toPipe.f a0_0 a0_1 a0_2 a0_3 a0_4 a0_5).bind fun bt124 => ((spec_WidthFor.f bt124.1 bt124.2.1 bt124.2.2.1 bt124.2.2.2.1 bt124.2.2.2.2.1 bt124.2.2.2.2.2 a1 a2).bind fun bt130 => ((laws_toPipe.f a0_0 a0_1 a0_2 a0_3 a0_4 a0_5).bind fun bt132 => ((impl_WidthFor.f bt132.1 bt132.2.1 bt132.2.2.1 bt132.2.2.2.1 bt132.2.2.2.2.1 bt132.2.2.2.2.2 a1 a2).bind fun bt138 => (if bt138.1 = bt130.1 then (if bt138.2 = bt130.2 then (some true) else (some false)) else (some false)))))))) = some r := h
  clear h
  replace H := Option.bind_eq_some_iff.mp H
  obtain ⟨t123, A40, H⟩ := H
  replace H : (if t123 < 0 then (some true) else ((laws_toPipe.f a0_0 a0_1 a0_2 a0_3 a0_4 a0_5).bind fun bt124 => ((spec_WidthFor.f bt124.1 bt124.2.1 bt124.2.2.1 bt124.2.2.2.1 bt124.2.2.2.2.1 bt124.2.2.2.2.2 a1 a2).bind fun bt130 => ((laws_toPipe.f a0_0 a0_1 a0_2 a0_3 a0_4 a0_5).bind fun bt132 => ((impl_WidthFor.f bt132.1 bt132.2.1 bt132.2.2.1 bt132.2.2.2.1 bt132.2.2.2.2.1 bt132.2.2.2.2.2 a1 a2).bind fun bt138 => (if bt138.1 = bt130.1 then (if bt138.2 = bt130.2 then (some true) else (some false)) else (some false))))))) = some r := H
  have A4 := Aside0.mk A40
  clear A40
  by_cases c5 : t123 < 0
  · rw [if_pos c5] at H
    have c5b0 : decide (t123 < 0) = true := decide_eq_true c5
    clear c5
    obtain rfl := Option.some.inj H
    go_enter Try.func15, Try.ntmps15
    go_wp2_with (first | ((with_reducible refine gate_dst (N := 3) rfl ?_); refine box_event ?hg (N := 3) ?hd (cs := #[.string a0_0, .int .i64 a0_1, .int .i64 a0_2, .int .i64 a0_3, .int .i64 a0_4, .int .i64 a0_5]) (t := 36) ?hr ?_; (case hd => rfl); (case hg => rfl); (case hr => first | (go_simp; done) | (go_simp; rfl)); intro gb122 hg w6 hbox hb; have n0_ := Aside0.mk (below_step (by repeat (first | (with_reducible first | exact HB.out | apply below_alloc | apply pw_below_drewN | apply below_drew1) | exact HB.out)) hb); have n1_ := Aside0.mk (hbox); have n2_ := Aside0.mk ((by rw [hg]; exact (below_size (by repeat (first | (with_reducible first | exact HB.out | apply below_alloc | apply pw_below_drewN | apply below_drew1) | exact HB.out))) : w.heap.size ≤ gb122)); have n3_ := Aside0.mk ((by rw [hg]; exact (below_size (by repeat (first | (with_reducible first | exact HB.out | apply below_alloc | apply pw_below_drewN | apply below_drew1) | exact HB.out))) : w.heap.size ≤ gb122)); clear HB; have HB := n0_; have BK122 := n1_; have GW122 := n2_; have GE122 := n3_; clear n0_ n1_ n2_ n3_; clear hb hbox hg; have hcz7_0 : w6.cell? ⟨gb122, 0, none⟩ = some (.string a0_0) := (blk_cell BK122.out 0).trans rfl; have hcz7_1 : w6.cell? ⟨gb122, 1, none⟩ = some (.int .i64 a0_1) := (blk_cell BK122.out 1).trans rfl; have hcz7_2 : w6.cell? ⟨gb122, 2, none⟩ = some (.int .i64 a0_2) := (blk_cell BK122.out 2).trans rfl; have hcz7_3 : w6.cell? ⟨gb122, 3, none⟩ = some (.int .i64 a0_3) := (blk_cell BK122.out 3).trans rfl; have hcz7_4 : w6.cell? ⟨gb122, 4, none⟩ = some (.int .i64 a0_4) := (blk_cell BK122.out 4).trans rfl; have hcz7_5 : w6.cell? ⟨gb122, 5, none⟩ = some (.int .i64 a0_5) := (blk_cell BK122.out 5).trans rfl; have hfz7_0 := blk_frozen BK122.out 0; have hfz7_1 := blk_frozen BK122.out 1; have hfz7_2 := blk_frozen BK122.out 2; have hfz7_3 := blk_frozen BK122.out 3; have hfz7_4 := blk_frozen BK122.out 4; have hfz7_5 := blk_frozen BK122.out 5) | ((with_reducible refine gate_callee (f := 36) rfl ?_); refine goesL_ (some 14) rfl rfl Try.func36 (by kernel_rfl) rfl #[.agg #[.string a0_0, .int .i64 a0_1, .int .i64 a0_2, .int .i64 a0_3, .int .i64 a0_4, .int .i64 a0_5], .int .i64 1048576] rfl (by (try simp only [List.map_toArray, List.map_cons, List.map_nil]); first | done | rfl | (simp only [List.length_drop, List.length_take]; rfl)) ?_; (with_reducible refine (laws_szPipe.calls a0_0 a0_1 a0_2 a0_3 a0_4 a0_5 1048576 t123 _ A4.out).mono ?_); rintro e w8 ⟨rfl, hb⟩; refine ⟨_, rfl, ?_⟩; have n0_ := Aside0.mk (blk_below (g := gb122) (o := .cells #[.string a0_0, .int .i64 a0_1, .int .i64 a0_2, .int .i64 a0_3, .int .i64 a0_4, .int .i64 a0_5] 36 (0, 0)) (by (with_reducible repeat (first | refine blk_drewN ?_ _ | refine blk_drew ?_ | refine blk_alloc ?_ _)); exact BK122.out) hb); have n1_ := Aside0.mk (below_step (by repeat (first | (with_reducible first | exact HB.out | apply below_alloc | apply pw_below_drewN | apply below_drew1 | refine below_set ?_ GE122.out) | exact HB.out)) hb); clear BK122; clear HB; have BK122 := n0_; have HB := n1_; clear n0_ n1_; (try clear hb); (try clear hb2); (try clear hk); (try clear hi)))
    go_ret
    exact ⟨by first | rfl | (simp [errW_none, errW_some] <;> rfl) | (simp [*, errW_none, errW_some] <;> rfl), by repeat (first | (with_reducible first | exact HB.out | apply below_alloc | apply pw_below_drewN | apply below_drew1 | refine below_set ?_ GE122.out) | exact HB.out)⟩
  · rw [if_neg c5] at H
    have c5b0 : decide (t123 < 0) = false := decide_eq_false c5
    clear c5
    replace H := Option.bind_eq_some_iff.mp H
    obtain ⟨⟨t124, t125, t126, t127, t128, t129⟩, A90, H⟩ := H
    replace H : ((spec_WidthFor.f t124 t125 t126 t127 t128 t129 a1 a2).bind fun bt130 => ((laws_toPipe.f a0_0 a0_1 a0_2 a0_3 a0_4 a0_5).bind fun bt132 => ((impl_WidthFor.f bt132.1 bt132.2.1 bt132.2.2.1 bt132.2.2.2.1 bt132.2.2.2.2.1 bt132.2.2.2.2.2 a1 a2).bind fun bt138 => (if bt138.1 = bt130.1 then (if bt138.2 = bt130.2 then (some true) else (some false)) else (some false))))) = some r := H
    have A9 := Aside0.mk A90
    clear A90
    replace H := Option.bind_eq_some_iff.mp H
    obtain ⟨⟨t130, t131⟩, A100, H⟩ := H
    replace H : ((laws_toPipe.f a0_0 a0_1 a0_2 a0_3 a0_4 a0_5).bind fun bt132 => ((impl_WidthFor.f bt132.1 bt132.2.1 bt132.2.2.1 bt132.2.2.2.1 bt132.2.2.2.2.1 bt132.2.2.2.2.2 a1 a2).bind fun bt138 => (if bt138.1 = t130 then (if bt138.2 = t131 then (some true) else (some false)) else (some false)))) = some r := H
    have A10 := Aside0.mk A100
    clear A100
    replace H := Option.bind_eq_some_iff.mp H
    obtain ⟨⟨t132, t133, t134, t135, t136, t137⟩, A110, H⟩ := H
    replace H : ((impl_WidthFor.f t132 t133 t134 t135 t136 t137 a1 a2).bind fun bt138 => (if bt138.1 = t130 then (if bt138.2 = t131 then (some true) else (some false)) else (some false))) = some r := H
    have A11 := Aside0.mk A110
    clear A110
    replace H := Option.bind_eq_some_iff.mp H
    obtain ⟨⟨t138, t139⟩, A120, H⟩ := H
    replace H : (if t138 = t130 then (if t139 = t131 then (some true) else (some false)) else (some false)) = some r := H
    have A12 := Aside0.mk A120
    clear A120
    by_cases c13 : t138 = t130
    · rw [if_pos c13] at H
      have c13b0 : (t138 == t130) = true := beq_iff_eq.mpr c13
      have c13b1 : (t138 != t130) = false := bne_eq_false_iff_eq.mpr c13
      clear c13
      by_cases c14 : t139 = t131
      · rw [if_pos c14] at H
        have c14b0 : (t139 == t131) = true := beq_iff_eq.mpr c14
        have c14b1 : (t139 != t131) = false := bne_eq_false_iff_eq.mpr c14
        clear c14
        obtain rfl := Option.some.inj H
        go_enter Try.func15, Try.ntmps15
        go_wp2_with (first | ((with_reducible refine gate_dst (N := 3) rfl ?_); refine box_event ?hg (N := 3) ?hd (cs := #[.string a0_0, .int .i64 a0_1, .int .i64 a0_2, .int .i64 a0_3, .int .i64 a0_4, .int .i64 a0_5]) (t := 36) ?hr ?_; (case hd => rfl); (case hg => rfl); (case hr => first | (go_simp; done) | (go_simp; rfl)); intro gb122 hg w15 hbox hb; have n0_ := Aside0.mk (below_step (by repeat (first | (with_reducible first | exact HB.out | apply below_alloc | apply pw_below_drewN | apply below_drew1) | exact HB.out)) hb); have n1_ := Aside0.mk (hbox); have n2_ := Aside0.mk ((by rw [hg]; exact (below_size (by repeat (first | (with_reducible first | exact HB.out | apply below_alloc | apply pw_below_drewN | apply below_drew1) | exact HB.out))) : w.heap.size ≤ gb122)); have n3_ := Aside0.mk ((by rw [hg]; exact (below_size (by repeat (first | (with_reducible first | exact HB.out | apply below_alloc | apply pw_below_drewN | apply below_drew1) | exact HB.out))) : w.heap.size ≤ gb122)); clear HB; have HB := n0_; have BK122 := n1_; have GW122 := n2_; have GE122 := n3_; clear n0_ n1_ n2_ n3_; clear hb hbox hg; have hcz16_0 : w15.cell? ⟨gb122, 0, none⟩ = some (.string a0_0) := (blk_cell BK122.out 0).trans rfl; have hcz16_1 : w15.cell? ⟨gb122, 1, none⟩ = some (.int .i64 a0_1) := (blk_cell BK122.out 1).trans rfl; have hcz16_2 : w15.cell? ⟨gb122, 2, none⟩ = some (.int .i64 a0_2) := (blk_cell BK122.out 2).trans rfl; have hcz16_3 : w15.cell? ⟨gb122, 3, none⟩ = some (.int .i64 a0_3) := (blk_cell BK122.out 3).trans rfl; have hcz16_4 : w15.cell? ⟨gb122, 4, none⟩ = some (.int .i64 a0_4) := (blk_cell BK122.out 4).trans rfl; have hcz16_5 : w15.cell? ⟨gb122, 5, none⟩ = some (.int .i64 a0_5) := (blk_cell BK122.out 5).trans rfl; have hfz16_0 := blk_frozen BK122.out 0; have hfz16_1 := blk_frozen BK122.out 1; have hfz16_2 := blk_frozen BK122.out 2; have hfz16_3 := blk_frozen BK122.out 3; have hfz16_4 := blk_frozen BK122.out 4; have hfz16_5 := blk_frozen BK122.out 5) | ((with_reducible refine gate_callee (f := 36) rfl ?_); refine goesL_ (some 14) rfl rfl Try.func36 (by kernel_rfl) rfl #[.agg #[.string a0_0, .int .i64 a0_1, .int .i64 a0_2, .int .i64 a0_3, .int .i64 a0_4, .int .i64 a0_5], .int .i64 1048576] rfl (by (try simp only [List.map_toArray, List.map_cons, List.map_nil]); first | done | rfl | (simp only [List.length_drop, List.length_take]; rfl)) ?_; (with_reducible refine (laws_szPipe.calls a0_0 a0_1 a0_2 a0_3 a0_4 a0_5 1048576 t123 _ A4.out).mono ?_); rintro e w17 ⟨rfl, hb⟩; refine ⟨_, rfl, ?_⟩; have n0_ := Aside0.mk (blk_below (g := gb122) (o := .cells #[.string a0_0, .int .i64 a0_1, .int .i64 a0_2, .int .i64 a0_3, .int .i64 a0_4, .int .i64 a0_5] 36 (0, 0)) (by (with_reducible repeat (first | refine blk_drewN ?_ _ | refine blk_drew ?_ | refine blk_alloc ?_ _)); exact BK122.out) hb); have n1_ := Aside0.mk (below_step (by repeat (first | (with_reducible first | exact HB.out | apply below_alloc | apply pw_below_drewN | apply below_drew1 | refine below_set ?_ GE122.out) | exact HB.out)) hb); clear BK122; clear HB; have BK122 := n0_; have HB := n1_; clear n0_ n1_; (try clear hb); (try clear hb2); (try clear hk); (try clear hi); have hcz18_0 : w17.cell? ⟨gb122, 0, none⟩ = some (.string a0_0) := (blk_cell BK122.out 0).trans rfl; have hcz18_1 : w17.cell? ⟨gb122, 1, none⟩ = some (.int .i64 a0_1) := (blk_cell BK122.out 1).trans rfl; have hcz18_2 : w17.cell? ⟨gb122, 2, none⟩ = some (.int .i64 a0_2) := (blk_cell BK122.out 2).trans rfl; have hcz18_3 : w17.cell? ⟨gb122, 3, none⟩ = some (.int .i64 a0_3) := (blk_cell BK122.out 3).trans rfl; have hcz18_4 : w17.cell? ⟨gb122, 4, none⟩ = some (.int .i64 a0_4) := (blk_cell BK122.out 4).trans rfl; have hcz18_5 : w17.cell? ⟨gb122, 5, none⟩ = some (.int .i64 a0_5) := (blk_cell BK122.out 5).trans rfl; have hfz18_0 := blk_frozen BK122.out 0; have hfz18_1 := blk_frozen BK122.out 1; have hfz18_2 := blk_frozen BK122.out 2; have hfz18_3 := blk_frozen BK122.out 3; have hfz18_4 := blk_frozen BK122.out 4; have hfz18_5 := blk_frozen BK122.out 5) | ((with_reducible refine gate_callee (f := 38) rfl ?_); refine goesL_ (some 19) rfl rfl Try.func38 (by kernel_rfl) rfl #[.agg #[.string a0_0, .int .i64 a0_1, .int .i64 a0_2, .int .i64 a0_3, .int .i64 a0_4, .int .i64 a0_5]] rfl (by (try simp only [List.map_toArray, List.map_cons, List.map_nil]); first | done | rfl | (simp only [List.length_drop, List.length_take]; rfl)) ?_; (with_reducible refine (laws_toPipe.calls a0_0 a0_1 a0_2 a0_3 a0_4 a0_5 t124 t125 t126 t127 t128 t129 _ A9.out).mono ?_); rintro e w19 ⟨rfl, hb⟩; refine ⟨_, rfl, ?_⟩; have n0_ := Aside0.mk (blk_below (g := gb122) (o := .cells #[.string a0_0, .int .i64 a0_1, .int .i64 a0_2, .int .i64 a0_3, .int .i64 a0_4, .int .i64 a0_5] 36 (0, 0)) (by (with_reducible repeat (first | refine blk_drewN ?_ _ | refine blk_drew ?_ | refine blk_alloc ?_ _)); exact BK122.out) hb); have n1_ := Aside0.mk (below_step (by repeat (first | (with_reducible first | exact HB.out | apply below_alloc | apply pw_below_drewN | apply below_drew1 | refine below_set ?_ GE122.out) | exact HB.out)) hb); clear BK122; clear HB; have BK122 := n0_; have HB := n1_; clear n0_ n1_; (try clear hb); (try clear hb2); (try clear hk); (try clear hi)) | ((with_reducible refine gate_callee (f := 45) rfl ?_); refine goesL_ (some 22) rfl rfl Try.func45 (by kernel_rfl) rfl #[.agg #[.string t124, .int .i64 t125, .int .i64 t126, .int .i64 t127, .int .i64 t128, .int .i64 t129], .int .i64 a1, .int .i64 a2] rfl (by (try simp only [List.map_toArray, List.map_cons, List.map_nil]); first | done | rfl | (simp only [List.length_drop, List.length_take]; rfl)) ?_; (with_reducible refine (spec_WidthFor.calls t124 t125 t126 t127 t128 t129 a1 a2 t130 t131 _ A10.out).mono ?_); rintro e w20 ⟨rfl, hb⟩; refine ⟨_, rfl, ?_⟩; have n0_ := Aside0.mk (blk_below (g := gb122) (o := .cells #[.string a0_0, .int .i64 a0_1, .int .i64 a0_2, .int .i64 a0_3, .int .i64 a0_4, .int .i64 a0_5] 36 (0, 0)) (by (with_reducible repeat (first | refine blk_drewN ?_ _ | refine blk_drew ?_ | refine blk_alloc ?_ _)); exact BK122.out) hb); have n1_ := Aside0.mk (below_step (by repeat (first | (with_reducible first | exact HB.out | apply below_alloc | apply pw_below_drewN | apply below_drew1 | refine below_set ?_ GE122.out) | exact HB.out)) hb); clear BK122; clear HB; have BK122 := n0_; have HB := n1_; clear n0_ n1_; (try clear hb); (try clear hb2); (try clear hk); (try clear hi); have hcz21_0 : w20.cell? ⟨gb122, 0, none⟩ = some (.string a0_0) := (blk_cell BK122.out 0).trans rfl; have hcz21_1 : w20.cell? ⟨gb122, 1, none⟩ = some (.int .i64 a0_1) := (blk_cell BK122.out 1).trans rfl; have hcz21_2 : w20.cell? ⟨gb122, 2, none⟩ = some (.int .i64 a0_2) := (blk_cell BK122.out 2).trans rfl; have hcz21_3 : w20.cell? ⟨gb122, 3, none⟩ = some (.int .i64 a0_3) := (blk_cell BK122.out 3).trans rfl; have hcz21_4 : w20.cell? ⟨gb122, 4, none⟩ = some (.int .i64 a0_4) := (blk_cell BK122.out 4).trans rfl; have hcz21_5 : w20.cell? ⟨gb122, 5, none⟩ = some (.int .i64 a0_5) := (blk_cell BK122.out 5).trans rfl; have hfz21_0 := blk_frozen BK122.out 0; have hfz21_1 := blk_frozen BK122.out 1; have hfz21_2 := blk_frozen BK122.out 2; have hfz21_3 := blk_frozen BK122.out 3; have hfz21_4 := blk_frozen BK122.out 4; have hfz21_5 := blk_frozen BK122.out 5) | ((with_reducible refine gate_callee (f := 38) rfl ?_); refine goesL_ (some 27) rfl rfl Try.func38 (by kernel_rfl) rfl #[.agg #[.string a0_0, .int .i64 a0_1, .int .i64 a0_2, .int .i64 a0_3, .int .i64 a0_4, .int .i64 a0_5]] rfl (by (try simp only [List.map_toArray, List.map_cons, List.map_nil]); first | done | rfl | (simp only [List.length_drop, List.length_take]; rfl)) ?_; (with_reducible refine (laws_toPipe.calls a0_0 a0_1 a0_2 a0_3 a0_4 a0_5 t132 t133 t134 t135 t136 t137 _ A11.out).mono ?_); rintro e w22 ⟨rfl, hb⟩; refine ⟨_, rfl, ?_⟩; have n0_ := Aside0.mk (blk_below (g := gb122) (o := .cells #[.string a0_0, .int .i64 a0_1, .int .i64 a0_2, .int .i64 a0_3, .int .i64 a0_4, .int .i64 a0_5] 36 (0, 0)) (by (with_reducible repeat (first | refine blk_drewN ?_ _ | refine blk_drew ?_ | refine blk_alloc ?_ _)); exact BK122.out) hb); have n1_ := Aside0.mk (below_step (by repeat (first | (with_reducible first | exact HB.out | apply below_alloc | apply pw_below_drewN | apply below_drew1 | refine below_set ?_ GE122.out) | exact HB.out)) hb); clear BK122; clear HB; have BK122 := n0_; have HB := n1_; clear n0_ n1_; (try clear hb); (try clear hb2); (try clear hk); (try clear hi)) | ((with_reducible refine gate_callee (f := 46) rfl ?_); refine goesL_ (some 30) rfl rfl Try.func46 (by kernel_rfl) rfl #[.agg #[.string t132, .int .i64 t133, .int .i64 t134, .int .i64 t135, .int .i64 t136, .int .i64 t137], .int .i64 a1, .int .i64 a2] rfl (by (try simp only [List.map_toArray, List.map_cons, List.map_nil]); first | done | rfl | (simp only [List.length_drop, List.length_take]; rfl)) ?_; (with_reducible refine (impl_WidthFor.calls t132 t133 t134 t135 t136 t137 a1 a2 t138 t139 _ A12.out).mono ?_); rintro e w23 ⟨rfl, hb⟩; refine ⟨_, rfl, ?_⟩; have n0_ := Aside0.mk (blk_below (g := gb122) (o := .cells #[.string a0_0, .int .i64 a0_1, .int .i64 a0_2, .int .i64 a0_3, .int .i64 a0_4, .int .i64 a0_5] 36 (0, 0)) (by (with_reducible repeat (first | refine blk_drewN ?_ _ | refine blk_drew ?_ | refine blk_alloc ?_ _)); exact BK122.out) hb); have n1_ := Aside0.mk (below_step (by repeat (first | (with_reducible first | exact HB.out | apply below_alloc | apply pw_below_drewN | apply below_drew1 | refine below_set ?_ GE122.out) | exact HB.out)) hb); clear BK122; clear HB; have BK122 := n0_; have HB := n1_; clear n0_ n1_; (try clear hb); (try clear hb2); (try clear hk); (try clear hi)))
        go_ret
        exact ⟨by first | rfl | (simp [errW_none, errW_some] <;> rfl) | (simp [*, errW_none, errW_some] <;> rfl), by repeat (first | (with_reducible first | exact HB.out | apply below_alloc | apply pw_below_drewN | apply below_drew1 | refine below_set ?_ GE122.out) | exact HB.out)⟩
      · rw [if_neg c14] at H
        have c14b0 : (t139 == t131) = false := beq_eq_false_iff_ne.mpr c14
        have c14b1 : (t139 != t131) = true := bne_iff_ne.mpr c14
        obtain rfl := Option.some.inj H
        go_enter Try.func15, Try.ntmps15
        go_wp2_with (first | ((with_reducible refine gate_dst (N := 3) rfl ?_); refine box_event ?hg (N := 3) ?hd (cs := #[.string a0_0, .int .i64 a0_1, .int .i64 a0_2, .int .i64 a0_3, .int .i64 a0_4, .int .i64 a0_5]) (t := 36) ?hr ?_; (case hd => rfl); (case hg => rfl); (case hr => first | (go_simp; done) | (go_simp; rfl)); intro gb122 hg w24 hbox hb; have n0_ := Aside0.mk (below_step (by repeat (first | (with_reducible first | exact HB.out | apply below_alloc | apply pw_below_drewN | apply below_drew1) | exact HB.out)) hb); have n1_ := Aside0.mk (hbox); have n2_ := Aside0.mk ((by rw [hg]; exact (below_size (by repeat (first | (with_reducible first | exact HB.out | apply below_alloc | apply pw_below_drewN | apply below_drew1) | exact HB.out))) : w.heap.size ≤ gb122)); have n3_ := Aside0.mk ((by rw [hg]; exact (below_size (by repeat (first | (with_reducible first | exact HB.out | apply below_alloc | apply pw_below_drewN | apply below_drew1) | exact HB.out))) : w.heap.size ≤ gb122)); clear HB; have HB := n0_; have BK122 := n1_; have GW122 := n2_; have GE122 := n3_; clear n0_ n1_ n2_ n3_; clear hb hbox hg; have hcz25_0 : w24.cell? ⟨gb122, 0, none⟩ = some (.string a0_0) := (blk_cell BK122.out 0).trans rfl; have hcz25_1 : w24.cell? ⟨gb122, 1, none⟩ = some (.int .i64 a0_1) := (blk_cell BK122.out 1).trans rfl; have hcz25_2 : w24.cell? ⟨gb122, 2, none⟩ = some (.int .i64 a0_2) := (blk_cell BK122.out 2).trans rfl; have hcz25_3 : w24.cell? ⟨gb122, 3, none⟩ = some (.int .i64 a0_3) := (blk_cell BK122.out 3).trans rfl; have hcz25_4 : w24.cell? ⟨gb122, 4, none⟩ = some (.int .i64 a0_4) := (blk_cell BK122.out 4).trans rfl; have hcz25_5 : w24.cell? ⟨gb122, 5, none⟩ = some (.int .i64 a0_5) := (blk_cell BK122.out 5).trans rfl; have hfz25_0 := blk_frozen BK122.out 0; have hfz25_1 := blk_frozen BK122.out 1; have hfz25_2 := blk_frozen BK122.out 2; have hfz25_3 := blk_frozen BK122.out 3; have hfz25_4 := blk_frozen BK122.out 4; have hfz25_5 := blk_frozen BK122.out 5) | ((with_reducible refine gate_callee (f := 36) rfl ?_); refine goesL_ (some 14) rfl rfl Try.func36 (by kernel_rfl) rfl #[.agg #[.string a0_0, .int .i64 a0_1, .int .i64 a0_2, .int .i64 a0_3, .int .i64 a0_4, .int .i64 a0_5], .int .i64 1048576] rfl (by (try simp only [List.map_toArray, List.map_cons, List.map_nil]); first | done | rfl | (simp only [List.length_drop, List.length_take]; rfl)) ?_; (with_reducible refine (laws_szPipe.calls a0_0 a0_1 a0_2 a0_3 a0_4 a0_5 1048576 t123 _ A4.out).mono ?_); rintro e w26 ⟨rfl, hb⟩; refine ⟨_, rfl, ?_⟩; have n0_ := Aside0.mk (blk_below (g := gb122) (o := .cells #[.string a0_0, .int .i64 a0_1, .int .i64 a0_2, .int .i64 a0_3, .int .i64 a0_4, .int .i64 a0_5] 36 (0, 0)) (by (with_reducible repeat (first | refine blk_drewN ?_ _ | refine blk_drew ?_ | refine blk_alloc ?_ _)); exact BK122.out) hb); have n1_ := Aside0.mk (below_step (by repeat (first | (with_reducible first | exact HB.out | apply below_alloc | apply pw_below_drewN | apply below_drew1 | refine below_set ?_ GE122.out) | exact HB.out)) hb); clear BK122; clear HB; have BK122 := n0_; have HB := n1_; clear n0_ n1_; (try clear hb); (try clear hb2); (try clear hk); (try clear hi); have hcz27_0 : w26.cell? ⟨gb122, 0, none⟩ = some (.string a0_0) := (blk_cell BK122.out 0).trans rfl; have hcz27_1 : w26.cell? ⟨gb122, 1, none⟩ = some (.int .i64 a0_1) := (blk_cell BK122.out 1).trans rfl; have hcz27_2 : w26.cell? ⟨gb122, 2, none⟩ = some (.int .i64 a0_2) := (blk_cell BK122.out 2).trans rfl; have hcz27_3 : w26.cell? ⟨gb122, 3, none⟩ = some (.int .i64 a0_3) := (blk_cell BK122.out 3).trans rfl; have hcz27_4 : w26.cell? ⟨gb122, 4, none⟩ = some (.int .i64 a0_4) := (blk_cell BK122.out 4).trans rfl; have hcz27_5 : w26.cell? ⟨gb122, 5, none⟩ = some (.int .i64 a0_5) := (blk_cell BK122.out 5).trans rfl; have hfz27_0 := blk_frozen BK122.out 0; have hfz27_1 := blk_frozen BK122.out 1; have hfz27_2 := blk_frozen BK122.out 2; have hfz27_3 := blk_frozen BK122.out 3; have hfz27_4 := blk_frozen BK122.out 4; have hfz27_5 := blk_frozen BK122.out 5) | ((with_reducible refine gate_callee (f := 38) rfl ?_); refine goesL_ (some 19) rfl rfl Try.func38 (by kernel_rfl) rfl #[.agg #[.string a0_0, .int .i64 a0_1, .int .i64 a0_2, .int .i64 a0_3, .int .i64 a0_4, .int .i64 a0_5]] rfl (by (try simp only [List.map_toArray, List.map_cons, List.map_nil]); first | done | rfl | (simp only [List.length_drop, List.length_take]; rfl)) ?_; (with_reducible refine (laws_toPipe.calls a0_0 a0_1 a0_2 a0_3 a0_4 a0_5 t124 t125 t126 t127 t128 t129 _ A9.out).mono ?_); rintro e w28 ⟨rfl, hb⟩; refine ⟨_, rfl, ?_⟩; have n0_ := Aside0.mk (blk_below (g := gb122) (o := .cells #[.string a0_0, .int .i64 a0_1, .int .i64 a0_2, .int .i64 a0_3, .int .i64 a0_4, .int .i64 a0_5] 36 (0, 0)) (by (with_reducible repeat (first | refine blk_drewN ?_ _ | refine blk_drew ?_ | refine blk_alloc ?_ _)); exact BK122.out) hb); have n1_ := Aside0.mk (below_step (by repeat (first | (with_reducible first | exact HB.out | apply below_alloc | apply pw_below_drewN | apply below_drew1 | refine below_set ?_ GE122.out) | exact HB.out)) hb); clear BK122; clear HB; have BK122 := n0_; have HB := n1_; clear n0_ n1_; (try clear hb); (try clear hb2); (try clear hk); (try clear hi)) | ((with_reducible refine gate_callee (f := 45) rfl ?_); refine goesL_ (some 22) rfl rfl Try.func45 (by kernel_rfl) rfl #[.agg #[.string t124, .int .i64 t125, .int .i64 t126, .int .i64 t127, .int .i64 t128, .int .i64 t129], .int .i64 a1, .int .i64 a2] rfl (by (try simp only [List.map_toArray, List.map_cons, List.map_nil]); first | done | rfl | (simp only [List.length_drop, List.length_take]; rfl)) ?_; (with_reducible refine (spec_WidthFor.calls t124 t125 t126 t127 t128 t129 a1 a2 t130 t131 _ A10.out).mono ?_); rintro e w29 ⟨rfl, hb⟩; refine ⟨_, rfl, ?_⟩; have n0_ := Aside0.mk (blk_below (g := gb122) (o := .cells #[.string a0_0, .int .i64 a0_1, .int .i64 a0_2, .int .i64 a0_3, .int .i64 a0_4, .int .i64 a0_5] 36 (0, 0)) (by (with_reducible repeat (first | refine blk_drewN ?_ _ | refine blk_drew ?_ | refine blk_alloc ?_ _)); exact BK122.out) hb); have n1_ := Aside0.mk (below_step (by repeat (first | (with_reducible first | exact HB.out | apply below_alloc | apply pw_below_drewN | apply below_drew1 | refine below_set ?_ GE122.out) | exact HB.out)) hb); clear BK122; clear HB; have BK122 := n0_; have HB := n1_; clear n0_ n1_; (try clear hb); (try clear hb2); (try clear hk); (try clear hi); have hcz30_0 : w29.cell? ⟨gb122, 0, none⟩ = some (.string a0_0) := (blk_cell BK122.out 0).trans rfl; have hcz30_1 : w29.cell? ⟨gb122, 1, none⟩ = some (.int .i64 a0_1) := (blk_cell BK122.out 1).trans rfl; have hcz30_2 : w29.cell? ⟨gb122, 2, none⟩ = some (.int .i64 a0_2) := (blk_cell BK122.out 2).trans rfl; have hcz30_3 : w29.cell? ⟨gb122, 3, none⟩ = some (.int .i64 a0_3) := (blk_cell BK122.out 3).trans rfl; have hcz30_4 : w29.cell? ⟨gb122, 4, none⟩ = some (.int .i64 a0_4) := (blk_cell BK122.out 4).trans rfl; have hcz30_5 : w29.cell? ⟨gb122, 5, none⟩ = some (.int .i64 a0_5) := (blk_cell BK122.out 5).trans rfl; have hfz30_0 := blk_frozen BK122.out 0; have hfz30_1 := blk_frozen BK122.out 1; have hfz30_2 := blk_frozen BK122.out 2; have hfz30_3 := blk_frozen BK122.out 3; have hfz30_4 := blk_frozen BK122.out 4; have hfz30_5 := blk_frozen BK122.out 5) | ((with_reducible refine gate_callee (f := 38) rfl ?_); refine goesL_ (some 27) rfl rfl Try.func38 (by kernel_rfl) rfl #[.agg #[.string a0_0, .int .i64 a0_1, .int .i64 a0_2, .int .i64 a0_3, .int .i64 a0_4, .int .i64 a0_5]] rfl (by (try simp only [List.map_toArray, List.map_cons, List.map_nil]); first | done | rfl | (simp only [List.length_drop, List.length_take]; rfl)) ?_; (with_reducible refine (laws_toPipe.calls a0_0 a0_1 a0_2 a0_3 a0_4 a0_5 t132 t133 t134 t135 t136 t137 _ A11.out).mono ?_); rintro e w31 ⟨rfl, hb⟩; refine ⟨_, rfl, ?_⟩; have n0_ := Aside0.mk (blk_below (g := gb122) (o := .cells #[.string a0_0, .int .i64 a0_1, .int .i64 a0_2, .int .i64 a0_3, .int .i64 a0_4, .int .i64 a0_5] 36 (0, 0)) (by (with_reducible repeat (first | refine blk_drewN ?_ _ | refine blk_drew ?_ | refine blk_alloc ?_ _)); exact BK122.out) hb); have n1_ := Aside0.mk (below_step (by repeat (first | (with_reducible first | exact HB.out | apply below_alloc | apply pw_below_drewN | apply below_drew1 | refine below_set ?_ GE122.out) | exact HB.out)) hb); clear BK122; clear HB; have BK122 := n0_; have HB := n1_; clear n0_ n1_; (try clear hb); (try clear hb2); (try clear hk); (try clear hi)) | ((with_reducible refine gate_callee (f := 46) rfl ?_); refine goesL_ (some 30) rfl rfl Try.func46 (by kernel_rfl) rfl #[.agg #[.string t132, .int .i64 t133, .int .i64 t134, .int .i64 t135, .int .i64 t136, .int .i64 t137], .int .i64 a1, .int .i64 a2] rfl (by (try simp only [List.map_toArray, List.map_cons, List.map_nil]); first | done | rfl | (simp only [List.length_drop, List.length_take]; rfl)) ?_; (with_reducible refine (impl_WidthFor.calls t132 t133 t134 t135 t136 t137 a1 a2 t138 t139 _ A12.out).mono ?_); rintro e w32 ⟨rfl, hb⟩; refine ⟨_, rfl, ?_⟩; have n0_ := Aside0.mk (blk_below (g := gb122) (o := .cells #[.string a0_0, .int .i64 a0_1, .int .i64 a0_2, .int .i64 a0_3, .int .i64 a0_4, .int .i64 a0_5] 36 (0, 0)) (by (with_reducible repeat (first | refine blk_drewN ?_ _ | refine blk_drew ?_ | refine blk_alloc ?_ _)); exact BK122.out) hb); have n1_ := Aside0.mk (below_step (by repeat (first | (with_reducible first | exact HB.out | apply below_alloc | apply pw_below_drewN | apply below_drew1 | refine below_set ?_ GE122.out) | exact HB.out)) hb); clear BK122; clear HB; have BK122 := n0_; have HB := n1_; clear n0_ n1_; (try clear hb); (try clear hb2); (try clear hk); (try clear hi)))
        go_ret
        exact ⟨by first | rfl | (simp [errW_none, errW_some] <;> rfl) | (simp [*, errW_none, errW_some] <;> rfl), by repeat (first | (with_reducible first | exact HB.out | apply below_alloc | apply pw_below_drewN | apply below_drew1 | refine below_set ?_ GE122.out) | exact HB.out)⟩
    · rw [if_neg c13] at H
      have c13b0 : (t138 == t130) = false := beq_eq_false_iff_ne.mpr c13
      have c13b1 : (t138 != t130) = true := bne_iff_ne.mpr c13
      obtain rfl := Option.some.inj H
      go_enter Try.func15, Try.ntmps15
      go_wp2_with (first | ((with_reducible refine gate_dst (N := 3) rfl ?_); refine box_event ?hg (N := 3) ?hd (cs := #[.string a0_0, .int .i64 a0_1, .int .i64 a0_2, .int .i64 a0_3, .int .i64 a0_4, .int .i64 a0_5]) (t := 36) ?hr ?_; (case hd => rfl); (case hg => rfl); (case hr => first | (go_simp; done) | (go_simp; rfl)); intro gb122 hg w33 hbox hb; have n0_ := Aside0.mk (below_step (by repeat (first | (with_reducible first | exact HB.out | apply below_alloc | apply pw_below_drewN | apply below_drew1) | exact HB.out)) hb); have n1_ := Aside0.mk (hbox); have n2_ := Aside0.mk ((by rw [hg]; exact (below_size (by repeat (first | (with_reducible first | exact HB.out | apply below_alloc | apply pw_below_drewN | apply below_drew1) | exact HB.out))) : w.heap.size ≤ gb122)); have n3_ := Aside0.mk ((by rw [hg]; exact (below_size (by repeat (first | (with_reducible first | exact HB.out | apply below_alloc | apply pw_below_drewN | apply below_drew1) | exact HB.out))) : w.heap.size ≤ gb122)); clear HB; have HB := n0_; have BK122 := n1_; have GW122 := n2_; have GE122 := n3_; clear n0_ n1_ n2_ n3_; clear hb hbox hg; have hcz34_0 : w33.cell? ⟨gb122, 0, none⟩ = some (.string a0_0) := (blk_cell BK122.out 0).trans rfl; have hcz34_1 : w33.cell? ⟨gb122, 1, none⟩ = some (.int .i64 a0_1) := (blk_cell BK122.out 1).trans rfl; have hcz34_2 : w33.cell? ⟨gb122, 2, none⟩ = some (.int .i64 a0_2) := (blk_cell BK122.out 2).trans rfl; have hcz34_3 : w33.cell? ⟨gb122, 3, none⟩ = some (.int .i64 a0_3) := (blk_cell BK122.out 3).trans rfl; have hcz34_4 : w33.cell? ⟨gb122, 4, none⟩ = some (.int .i64 a0_4) := (blk_cell BK122.out 4).trans rfl; have hcz34_5 : w33.cell? ⟨gb122, 5, none⟩ = some (.int .i64 a0_5) := (blk_cell BK122.out 5).trans rfl; have hfz34_0 := blk_frozen BK122.out 0; have hfz34_1 := blk_frozen BK122.out 1; have hfz34_2 := blk_frozen BK122.out 2; have hfz34_3 := blk_frozen BK122.out 3; have hfz34_4 := blk_frozen BK122.out 4; have hfz34_5 := blk_frozen BK122.out 5) | ((with_reducible refine gate_callee (f := 36) rfl ?_); refine goesL_ (some 14) rfl rfl Try.func36 (by kernel_rfl) rfl #[.agg #[.string a0_0, .int .i64 a0_1, .int .i64 a0_2, .int .i64 a0_3, .int .i64 a0_4, .int .i64 a0_5], .int .i64 1048576] rfl (by (try simp only [List.map_toArray, List.map_cons, List.map_nil]); first | done | rfl | (simp only [List.length_drop, List.length_take]; rfl)) ?_; (with_reducible refine (laws_szPipe.calls a0_0 a0_1 a0_2 a0_3 a0_4 a0_5 1048576 t123 _ A4.out).mono ?_); rintro e w35 ⟨rfl, hb⟩; refine ⟨_, rfl, ?_⟩; have n0_ := Aside0.mk (blk_below (g := gb122) (o := .cells #[.string a0_0, .int .i64 a0_1, .int .i64 a0_2, .int .i64 a0_3, .int .i64 a0_4, .int .i64 a0_5] 36 (0, 0)) (by (with_reducible repeat (first | refine blk_drewN ?_ _ | refine blk_drew ?_ | refine blk_alloc ?_ _)); exact BK122.out) hb); have n1_ := Aside0.mk (below_step (by repeat (first | (with_reducible first | exact HB.out | apply below_alloc | apply pw_below_drewN | apply below_drew1 | refine below_set ?_ GE122.out) | exact HB.out)) hb); clear BK122; clear HB; have BK122 := n0_; have HB := n1_; clear n0_ n1_; (try clear hb); (try clear hb2); (try clear hk); (try clear hi); have hcz36_0 : w35.cell? ⟨gb122, 0, none⟩ = some (.string a0_0) := (blk_cell BK122.out 0).trans rfl; have hcz36_1 : w35.cell? ⟨gb122, 1, none⟩ = some (.int .i64 a0_1) := (blk_cell BK122.out 1).trans rfl; have hcz36_2 : w35.cell? ⟨gb122, 2, none⟩ = some (.int .i64 a0_2) := (blk_cell BK122.out 2).trans rfl; have hcz36_3 : w35.cell? ⟨gb122, 3, none⟩ = some (.int .i64 a0_3) := (blk_cell BK122.out 3).trans rfl; have hcz36_4 : w35.cell? ⟨gb122, 4, none⟩ = some (.int .i64 a0_4) := (blk_cell BK122.out 4).trans rfl; have hcz36_5 : w35.cell? ⟨gb122, 5, none⟩ = some (.int .i64 a0_5) := (blk_cell BK122.out 5).trans rfl; have hfz36_0 := blk_frozen BK122.out 0; have hfz36_1 := blk_frozen BK122.out 1; have hfz36_2 := blk_frozen BK122.out 2; have hfz36_3 := blk_frozen BK122.out 3; have hfz36_4 := blk_frozen BK122.out 4; have hfz36_5 := blk_frozen BK122.out 5) | ((with_reducible refine gate_callee (f := 38) rfl ?_); refine goesL_ (some 19) rfl rfl Try.func38 (by kernel_rfl) rfl #[.agg #[.string a0_0, .int .i64 a0_1, .int .i64 a0_2, .int .i64 a0_3, .int .i64 a0_4, .int .i64 a0_5]] rfl (by (try simp only [List.map_toArray, List.map_cons, List.map_nil]); first | done | rfl | (simp only [List.length_drop, List.length_take]; rfl)) ?_; (with_reducible refine (laws_toPipe.calls a0_0 a0_1 a0_2 a0_3 a0_4 a0_5 t124 t125 t126 t127 t128 t129 _ A9.out).mono ?_); rintro e w37 ⟨rfl, hb⟩; refine ⟨_, rfl, ?_⟩; have n0_ := Aside0.mk (blk_below (g := gb122) (o := .cells #[.string a0_0, .int .i64 a0_1, .int .i64 a0_2, .int .i64 a0_3, .int .i64 a0_4, .int .i64 a0_5] 36 (0, 0)) (by (with_reducible repeat (first | refine blk_drewN ?_ _ | refine blk_drew ?_ | refine blk_alloc ?_ _)); exact BK122.out) hb); have n1_ := Aside0.mk (below_step (by repeat (first | (with_reducible first | exact HB.out | apply below_alloc | apply pw_below_drewN | apply below_drew1 | refine below_set ?_ GE122.out) | exact HB.out)) hb); clear BK122; clear HB; have BK122 := n0_; have HB := n1_; clear n0_ n1_; (try clear hb); (try clear hb2); (try clear hk); (try clear hi)) | ((with_reducible refine gate_callee (f := 45) rfl ?_); refine goesL_ (some 22) rfl rfl Try.func45 (by kernel_rfl) rfl #[.agg #[.string t124, .int .i64 t125, .int .i64 t126, .int .i64 t127, .int .i64 t128, .int .i64 t129], .int .i64 a1, .int .i64 a2] rfl (by (try simp only [List.map_toArray, List.map_cons, List.map_nil]); first | done | rfl | (simp only [List.length_drop, List.length_take]; rfl)) ?_; (with_reducible refine (spec_WidthFor.calls t124 t125 t126 t127 t128 t129 a1 a2 t130 t131 _ A10.out).mono ?_); rintro e w38 ⟨rfl, hb⟩; refine ⟨_, rfl, ?_⟩; have n0_ := Aside0.mk (blk_below (g := gb122) (o := .cells #[.string a0_0, .int .i64 a0_1, .int .i64 a0_2, .int .i64 a0_3, .int .i64 a0_4, .int .i64 a0_5] 36 (0, 0)) (by (with_reducible repeat (first | refine blk_drewN ?_ _ | refine blk_drew ?_ | refine blk_alloc ?_ _)); exact BK122.out) hb); have n1_ := Aside0.mk (below_step (by repeat (first | (with_reducible first | exact HB.out | apply below_alloc | apply pw_below_drewN | apply below_drew1 | refine below_set ?_ GE122.out) | exact HB.out)) hb); clear BK122; clear HB; have BK122 := n0_; have HB := n1_; clear n0_ n1_; (try clear hb); (try clear hb2); (try clear hk); (try clear hi); have hcz39_0 : w38.cell? ⟨gb122, 0, none⟩ = some (.string a0_0) := (blk_cell BK122.out 0).trans rfl; have hcz39_1 : w38.cell? ⟨gb122, 1, none⟩ = some (.int .i64 a0_1) := (blk_cell BK122.out 1).trans rfl; have hcz39_2 : w38.cell? ⟨gb122, 2, none⟩ = some (.int .i64 a0_2) := (blk_cell BK122.out 2).trans rfl; have hcz39_3 : w38.cell? ⟨gb122, 3, none⟩ = some (.int .i64 a0_3) := (blk_cell BK122.out 3).trans rfl; have hcz39_4 : w38.cell? ⟨gb122, 4, none⟩ = some (.int .i64 a0_4) := (blk_cell BK122.out 4).trans rfl; have hcz39_5 : w38.cell? ⟨gb122, 5, none⟩ = some (.int .i64 a0_5) := (blk_cell BK122.out 5).trans rfl; have hfz39_0 := blk_frozen BK122.out 0; have hfz39_1 := blk_frozen BK122.out 1; have hfz39_2 := blk_frozen BK122.out 2; have hfz39_3 := blk_frozen BK122.out 3; have hfz39_4 := blk_frozen BK122.out 4; have hfz39_5 := blk_frozen BK122.out 5) | ((with_reducible refine gate_callee (f := 38) rfl ?_); refine goesL_ (some 27) rfl rfl Try.func38 (by kernel_rfl) rfl #[.agg #[.string a0_0, .int .i64 a0_1, .int .i64 a0_2, .int .i64 a0_3, .int .i64 a0_4, .int .i64 a0_5]] rfl (by (try simp only [List.map_toArray, List.map_cons, List.map_nil]); first | done | rfl | (simp only [List.length_drop, List.length_take]; rfl)) ?_; (with_reducible refine (laws_toPipe.calls a0_0 a0_1 a0_2 a0_3 a0_4 a0_5 t132 t133 t134 t135 t136 t137 _ A11.out).mono ?_); rintro e w40 ⟨rfl, hb⟩; refine ⟨_, rfl, ?_⟩; have n0_ := Aside0.mk (blk_below (g := gb122) (o := .cells #[.string a0_0, .int .i64 a0_1, .int .i64 a0_2, .int .i64 a0_3, .int .i64 a0_4, .int .i64 a0_5] 36 (0, 0)) (by (with_reducible repeat (first | refine blk_drewN ?_ _ | refine blk_drew ?_ | refine blk_alloc ?_ _)); exact BK122.out) hb); have n1_ := Aside0.mk (below_step (by repeat (first | (with_reducible first | exact HB.out | apply below_alloc | apply pw_below_drewN | apply below_drew1 | refine below_set ?_ GE122.out) | exact HB.out)) hb); clear BK122; clear HB; have BK122 := n0_; have HB := n1_; clear n0_ n1_; (try clear hb); (try clear hb2); (try clear hk); (try clear hi)) | ((with_reducible refine gate_callee (f := 46) rfl ?_); refine goesL_ (some 30) rfl rfl Try.func46 (by kernel_rfl) rfl #[.agg #[.string t132, .int .i64 t133, .int .i64 t134, .int .i64 t135, .int .i64 t136, .int .i64 t137], .int .i64 a1, .int .i64 a2] rfl (by (try simp only [List.map_toArray, List.map_cons, List.map_nil]); first | done | rfl | (simp only [List.length_drop, List.length_take]; rfl)) ?_; (with_reducible refine (impl_WidthFor.calls t132 t133 t134 t135 t136 t137 a1 a2 t138 t139 _ A12.out).mono ?_); rintro e w41 ⟨rfl, hb⟩; refine ⟨_, rfl, ?_⟩; have n0_ := Aside0.mk (blk_below (g := gb122) (o := .cells #[.string a0_0, .int .i64 a0_1, .int .i64 a0_2, .int .i64 a0_3, .int .i64 a0_4, .int .i64 a0_5] 36 (0, 0)) (by (with_reducible repeat (first | refine blk_drewN ?_ _ | refine blk_drew ?_ | refine blk_alloc ?_ _)); exact BK122.out) hb); have n1_ := Aside0.mk (below_step (by repeat (first | (with_reducible first | exact HB.out | apply below_alloc | apply pw_below_drewN | apply below_drew1 | refine below_set ?_ GE122.out) | exact HB.out)) hb); clear BK122; clear HB; have BK122 := n0_; have HB := n1_; clear n0_ n1_; (try clear hb); (try clear hb2); (try clear hk); (try clear hi)))
      go_ret
      exact ⟨by first | rfl | (simp [errW_none, errW_some] <;> rfl) | (simp [*, errW_none, errW_some] <;> rfl), by repeat (first | (with_reducible first | exact HB.out | apply below_alloc | apply pw_below_drewN | apply below_drew1 | refine below_set ?_ GE122.out) | exact HB.out)⟩

end Go.Proofs.Yteifocbmholocaa.PFnExactWidthFor
