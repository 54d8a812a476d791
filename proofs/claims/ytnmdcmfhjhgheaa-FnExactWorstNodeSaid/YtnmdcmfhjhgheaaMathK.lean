/- The walk of a loop over slices.Backward (a range over a function): the closure's contract; a region within a round; the world's state between the rounds. -/
import Derived.RangeFuncNested
import Derived.RangeFuncBound
import Derived.RangeFuncCalls
import Derived.RangeFuncLeaves
import Derived.Shelf.Abstract
import Derived.Shelf.RegionOpen
import Derived.WalkKit
import Derived.OwnWalkIn
import Derived.TacticsInMore
import Derived.LoopNIn
import Derived.LoopIn
import Derived.Test.YtnmdcmfhjhgheaaProg
import Derived.Test.YtnmdcmfhjhgheaaWMore
import Derived.Test.YtnmdcmfhjhgheaaWLast
import Derived.OrdersIn
import Derived.Test.YtnmdcmfhjhgheaaWInvWords
namespace Go.Proofs.Ytnmdcmfhjhgheaa.BW
section
open Go.RowKit Go.Shelf
section bw
attribute [local go_sem] Oper.semAt_some
def dn (m : Nat) : (k : Nat) → k ≤ m → List (Fin m)
  | 0, _ => []
  | k + 1, h => dn m k (by omega) ++ [⟨m - 1 - k, by omega⟩]
theorem dn_length (m : Nat) : ∀ (k : Nat) (h : k ≤ m), (dn m k h).length = k
  | 0, _ => rfl
  | k + 1, h => by simp [dn, dn_length m k (by omega)]
def KpB (p q : Nat) (W W' : World) : Prop := W'.heap[p]? = W.heap[p]? ∧ W'.heap[q]? = W.heap[q]?
theorem KpB.trans {p q : Nat} {A B C : World} (h : KpB p q A B) (k : KpB p q B C) : KpB p q A C := ⟨k.1.trans h.1, k.2.trans h.2⟩
set_option maxRecDepth 100000 in
set_option maxHeartbeats 2000000 in
theorem bw1_in (F : Fence) (n : Nat) (h84 : F.fn 84) (hro : F.round = none) (hn : 1 ≤ n) (l Bs g len cap : Nat) (nd bf pp : Fin len → Int) (hreach : len ≤ 9223372036854775807) (J Jx : List (Fin len) → World → Prop)
    (hY : ∀ (pre : List (Fin len)) (x : Fin len) (W : World), J pre W → pre.length < len → YieldAt F (n - 1) Try.prog l #[.int .i64 ((x : Nat) : Int), .agg #[.int .i64 (nd x), .int .i64 (bf x), .int .i64 (pp x)]] W fun e W' =>
      (e = .returned (.bool true) ∧ J (pre ++ [x]) W' ∧ KpB Bs g W W') ∨ (e = .returned (.bool false) ∧ Jx (pre ++ [x]) W'))
    (W : World) (A : Option Addr) (hA : 0 < len → A = some ⟨g, 0, none⟩) (hBs : W.cell? ⟨Bs, 0, none⟩ = some (.slice A len cap))
    (hc : ∀ j : Fin len, W.cell? ⟨g, (j : Nat) * 3, none⟩ = some (.int .i64 (nd j)) ∧ W.cell? ⟨g, (j : Nat) * 3 + 1, none⟩ = some (.int .i64 (bf j)) ∧ W.cell? ⟨g, (j : Nat) * 3 + 2, none⟩ = some (.int .i64 (pp j))) (h0 : J [] W) :
    CallsIn F n Try.prog 84 #[.func (.yield l) #[] #[], .pointer (some ⟨Bs, 0, none⟩)] W fun e W' => (∃ v, e = .returned v) ∧
      ((∃ ys, ys = dn len len (Nat.le_refl _) ∧ J ys W') ∨ (∃ pre : List (Fin len), True ∧ Jx pre W')) := by
  refine callsIn_of_wp Try.func84 rfl h84 ?_ hro
  simp only [Try.ntmps84, List.size_toArray, List.length_cons, List.length_nil, Nat.reduceAdd, Nat.reduceSub, Array.replicate_succ, Array.replicate_zero, List.push_toArray, List.append_toArray, List.nil_append, List.cons_append]
  gi_wp2
  gi_loopw [3] (fun i wr => ∃ (k : Nat) (hk : k ≤ len), i = .int .i64 ((len : Int) - 1 - k) ∧ J (dn len k hk) wr ∧ KpB Bs g W wr)
    (fun i _ => (intOf i + 1).toNat)
  case atStart => exact ⟨0, Nat.zero_le _, by simp, h0, rfl, rfl⟩
  case round =>
    obtain ⟨k, hk, rfl, hJs, hnx⟩ := hrel
    have hBs' : wr.cell? ⟨Bs, 0, none⟩ = some (.slice A len cap) := (World.cell?_of_block hnx.1).trans hBs
    by_cases hlt : k < len
    · have hK : k + 1 ≤ len := hlt
      rw [hA (by omega)] at hBs'
      clear hBs hA
      obtain ⟨x, hxe⟩ : ∃ x : Fin len, x = ⟨len - 1 - k, by omega⟩ := ⟨_, rfl⟩
      have hd : dn len (k + 1) hK = dn len k hk ++ [x] := by subst hxe; rfl
      have hx := hc x
      have e1 := (World.cell?_of_block (a := ⟨g, (x : Nat) * 3, none⟩) hnx.2).trans hx.1
      have e2 := (World.cell?_of_block (a := ⟨g, (x : Nat) * 3 + 1, none⟩) hnx.2).trans hx.2.1
      have e3 := (World.cell?_of_block (a := ⟨g, (x : Nat) * 3 + 2, none⟩) hnx.2).trans hx.2.2
      have hxv : (x : Nat) = len - 1 - k := by rw [hxe]
      have hi : (len : Int) - 1 - k = ((x : Nat) : Int) := by rw [hxv]; omega
      have hn1 : ((x : Nat) : Int) - 1 = (len : Int) - 1 - ((k + 1 : Nat) : Int) := by omega
      obtain ⟨fn, tmps, assign, body, hy, hR⟩ := hY _ x wr hJs (by rw [dn_length]; exact hlt)
      rw [hi]
      clear hi
      have hxl := x.2
      rw [← hd] at hR
      clear hd hx hxe hxv hc hY
      generalize (x : Nat) = j at e1 e2 e3 hn1 hy hxl ⊢
      generalize nd x = u1 at e1 hy
      generalize bf x = u2 at e2 hy
      generalize pp x = u3 at e3 hy
      have c2 : decide ((j : Int) < (len : Int)) = true := decide_eq_true (by omega)
      gi_wp2
      refine hR.mono ?_
      rintro e W3 (⟨rfl, hJ3, hk3⟩ | ⟨rfl, hJx3⟩)
      · gi_wp2
        go_roundw
        case rel => exact ⟨k + 1, hK, by simp, hJ3, hnx.trans hk3⟩
        case measure => simp [intOf]; omega
      · gi_wp2
        refine bodyPost_ret (results_none rfl _ _ _) rfl ?_
        exact ⟨⟨_, rfl⟩, .inr ⟨_, trivial, hJx3⟩⟩
    · obtain rfl : k = len := by omega
      gi_wp2
      go_end0
      exact ⟨⟨_, rfl⟩, .inl ⟨_, rfl, hJs⟩⟩
end bw
end
section
open Go.RowKit Go.Shelf Go.Proofs.YtnmdcmfhjhgheaaW.PrintLast
section rr
variable {P : Program} {ops : Array Oper} {Q : Exit → Act → World → Prop} {md : Region.Mode} {S : World → Prop} {ds : List Nat}
def noDefer (ops : Array Oper) : Bool := ops.all fun o => match o.op with | .defer _ => false | _ => true
theorem noDefer_spec {ops : Array Oper} (h : noDefer ops = true) (i : Nat) (o : Oper) (ho : ops[i]? = some o) : ∀ c, o.op ≠ .defer c := by
  intro c e
  unfold noDefer at h
  rw [Array.all_eq_true] at h
  obtain ⟨hi, he⟩ := Array.getElem?_eq_some_iff.1 ho
  have := h i hi
  rw [he, e] at this
  cases this
theorem wpOp_round {l n : Nat} (hp : ∀ (i : Nat) (o : Oper), ops[i]? = some o → ∀ c, o.op ≠ .defer c) (hQ : ¬ LetsOut Q) {i : Nat} {K : Act → World → Prop} {a : Act} {w : World}
    (h : wpOp P ops Q i K a w) : wpOpIn (Fence.wide.inRound l) n P ops Q i K a w := by
  unfold wpOp at h
  unfold wpOpIn
  cases ho : ops[i]? with
  | none => rw [ho] at h; exact h
  | some o =>
    rw [ho] at h
    simp only [] at h ⊢
    split at h
    · rename_i hw
      rw [if_pos hw]
      have h := h.resolve_right (fun h => hQ h.2)
      refine ⟨fun _ _ => trivial, ?_⟩
      rw [Fence.inRound_round, Oper.semAt_some l _ o (hp i o ho)]
      unfold Oper.wp at h
      generalize (execOp a.eval o).run P w = r at h ⊢
      cases r with
      | ok x w' =>
        cases x with
        | value v => exact h
        | skip => exact h
        | defer d => exact h
        | enter f args => exact ⟨by simp [Fence.wide, Fence.inRound], CallsIn.inRound l (callsIn_wide.2 h)⟩
        | row row args => exact ⟨by simp [Fence.wide, Fence.inRound], fun c cs _ => let ⟨v, w', r, s⟩ := h c cs; ⟨v, w', r, stepsIn_wide.2 s⟩⟩
        | _ => exact h.elim
      | halt x w' => cases x <;> exact h
    · rename_i hw
      rw [if_neg hw]
      exact ⟨fun _ _ => trivial, h⟩
theorem wpAny_round {l n : Nat} (hp : ∀ (i : Nat) (o : Oper), ops[i]? = some o → ∀ c, o.op ≠ .defer c) (hQ : ¬ LetsOut Q) : ∀ (fuel : Nat) (listed : Array Bool) (a : Act) (w : World),
    wpAny P md ops Q fuel listed a w → wpAnyIn (Fence.wide.inRound l) n P md ops Q fuel listed a w
  | 0, _, _, _, h => h
  | fuel + 1, _, _, _, h => ⟨h.1, fun i hi => wpOp_round hp hQ (wpOp_mono (fun a' w' h' => wpAny_round hp hQ fuel _ a' w' h') (h.2 i hi))⟩
theorem start_round {l k id n : Nat} {a : Act} {w : World} (lb : Array Bool) (hp : noDefer ops = true) (hQ : ¬ LetsOut Q) (hm : P.follows .mixedOrders = true) (hn : ops.size = n) (hl : Array.replicate n false = lb) (hS : S w.drew)
    (h : S w.drew → wpAnyLast P .any ops Q S ds n lb a w.drew) : (Code.region id ops true).wpIn (Fence.wide.inRound l) k P Q a w := by
  subst hn
  subst hl
  exact wpIn_region_any hm (wpAny_round (noDefer_spec hp) hQ _ _ _ _ (wpAny_of_last _ _ _ _ (h hS)))
end rr
end
section
open Go.RowKit Go.Shelf Go.Proofs.YtnmdcmfhjhgheaaW.PrintWords Go.Proofs.YtnmdcmfhjhgheaaW.PrintLast Go.Proofs.YtnmdcmfhjhgheaaW.PrintMore
structure St (w0 W1 : World) (v12 v16 : Value) (s f : List Int) (W : World) : Prop where
  below : Below w0.heap.size w0 W
  le : w0.heap.size ≤ W1.heap.size
  ko : KeepsOthers W1 W
  keep : ∀ (q : Nat) (cs : Array Value) (t : TypeId), t ≠ 2 → W1.heap[q]? = some (.cells cs t (0, 0)) → W.heap[q]? = some (.cells cs t (0, 0))
  r7 : Kd.R (Kd.int .i64) 2 W w0.heap.size (fun k => some k ≠ v16.ownBlock) v12 s
  r8 : Kd.R (Kd.int .i64) 2 W w0.heap.size (fun k => some k ≠ v12.ownBlock) v16 f
section
variable {w0 W1 W W2 W3 : World} {v12 v16 : Value} {s f s' f' : List Int}
theorem St.start (hb : Below w0.heap.size w0 W) (r7 : Kd.R (Kd.int .i64) 2 W w0.heap.size (fun k => some k ≠ v16.ownBlock) v12 s) (r8 : Kd.R (Kd.int .i64) 2 W w0.heap.size (fun k => some k ≠ v12.ownBlock) v16 f) : St w0 W v12 v16 s f W :=
  ⟨hb, hb.size, KeepsOthers.refl _, fun _ _ _ _ h => h, r7, r8⟩
theorem St.restart (h : St w0 W1 v12 v16 s f W) : St w0 W v12 v16 s f W := .start h.below h.r7 h.r8
theorem St.trans (h : St w0 W1 v12 v16 s f W2) (k : St w0 W2 v12 v16 s' f' W3) : St w0 W1 v12 v16 s' f' W3 :=
  ⟨k.below, h.le, h.ko.trans k.ko, fun q cs t ht hq => k.keep q cs t ht (h.keep q cs t ht hq), k.r7, k.r8⟩
theorem St.drew (h : St w0 W1 v12 v16 s f W) : St w0 W1 v12 v16 s f W.drew :=
  ⟨h.below.drew, h.le, h.ko.trans (KeepsOthers.drew _), h.keep, Kd.R_drew h.r7, Kd.R_drew h.r8⟩
theorem St.set7 (h : St w0 W1 v12 v16 s f W) {g n cap : Nat} (e : v12 = .slice (some ⟨g, 0, none⟩) n cap) (i x : Int) : St w0 W1 v12 v16 (s.set i.toNat x) f (W.setCell ⟨g, i.toNat, none⟩ (.int .i64 x)) := by
  subst e
  have hg := Kd.R_base h.r7 g rfl
  obtain ⟨cells, hc⟩ := Kd.R_typed h.r7 g rfl
  exact ⟨h.below.setCell hg _, h.le, h.ko.trans (KeepsOthers.setCell _ _ _), fun q cs t ht hq => blk_far (h.keep q cs t ht hq) (fun e => blk_ne (h.keep q cs t ht hq) hc ht e) _,
    Kd.R_putn h.r7 i x, Kd.R_mono (Kd.R_far (p := ⟨g, i.toNat, none⟩) (Kd.R_mono h.r8 (fun k_ hk => (⟨hk, fun e_ => hk (by rw [e_]; rfl)⟩ : _ ∧ k_ ≠ g))) (fun _ hk => hk.2) _) (fun _ hk => hk.1)⟩
theorem St.set8 (h : St w0 W1 v12 v16 s f W) {g n cap : Nat} (e : v16 = .slice (some ⟨g, 0, none⟩) n cap) (i x : Int) : St w0 W1 v12 v16 s (f.set i.toNat x) (W.setCell ⟨g, i.toNat, none⟩ (.int .i64 x)) := by
  subst e
  have hg := Kd.R_base h.r8 g rfl
  obtain ⟨cells, hc⟩ := Kd.R_typed h.r8 g rfl
  exact ⟨h.below.setCell hg _, h.le, h.ko.trans (KeepsOthers.setCell _ _ _), fun q cs t ht hq => blk_far (h.keep q cs t ht hq) (fun e => blk_ne (h.keep q cs t ht hq) hc ht e) _,
    Kd.R_mono (Kd.R_far (p := ⟨g, i.toNat, none⟩) (Kd.R_mono h.r7 (fun k_ hk => (⟨hk, fun e_ => hk (by rw [e_]; rfl)⟩ : _ ∧ k_ ≠ g))) (fun _ hk => hk.2) _) (fun _ hk => hk.1), Kd.R_putn h.r8 i x⟩
theorem R_others {base : Nat} {ok : Nat → Prop} {v : Value} {xs : List Int} (h : Kd.R (Kd.int .i64) 2 W base ok v xs) {row : Option Nat} (hg : W.grownBy W2 row) (hr : ∀ r, row = some r → ∃ o : Obj, W.heap[r]? = some o ∧ o.isCells = false) : Kd.R (Kd.int .i64) 2 W2 base ok v xs :=
  Kd.R_mono (Kd.R_grown (Kd.R_bound h) hg (fun k hk e => by
    obtain ⟨o, ho, hn⟩ := hr k e.symm
    obtain ⟨q, _, cells, hc⟩ := hk.2.2.2
    rw [hc] at ho
    cases ho
    cases hn)) (fun _ hk => hk.1)
theorem St.own {β : Type} : OwnFrom W1.heap.size (fun (_ : β) W => St w0 W1 v12 v16 s f W) := fun _ A B row hs hg hr => by
  have hr2 : ∀ r, row = some r → ∃ o : Obj, A.heap[r]? = some o ∧ o.isCells = false := fun r e => (hr r e).2
  refine ⟨hs.below.grown hg (Nat.le_trans hs.le hs.ko.size) (fun k e => Nat.le_trans hs.le (hr k e).1), hs.le, ⟨Nat.le_trans hs.ko.size hg.size, fun k o hk ho => ?_⟩, fun q cs t ht hq => ?_, R_others hs.r7 hg hr2, R_others hs.r8 hg hr2⟩
  · have h1 := hs.ko.same k o hk ho
    refine (hg.block k (Array.getElem?_eq_some_iff.1 h1).1 (fun e => ?_)).trans h1
    have h2 := (hr k e.symm).1
    have h3 := (Array.getElem?_eq_some_iff.1 hk).1
    omega
  · exact blk_grown (hs.keep q cs t ht hq) hg (fun e => by
      obtain ⟨o, ho, hn⟩ := hr2 q e.symm
      rw [hs.keep q cs t ht hq] at ho
      cases ho
      cases hn)
theorem St.alloc (h : St w0 W1 v12 v16 s f W) (o : Obj) : St w0 W1 v12 v16 s f (W.alloc o) := St.own (β := Unit).alloc (s := ()) o h
end
structure RS (w0 : World) (g : Nat) (bx : Array Value) (d : List Int) (m : Nat) (b1 b5 b6 b7 b8 b9 : Bool) (v12 v16 : Value) (q7 q8 : Nat) (w : World) : Prop where
  below : Below w0.heap.size w0 w
  box : w.heap[g]? = some (.cells bx 31 (0, 0))
  r12 : b1 = true → Kd.R (Kd.int .i64) 2 w w0.heap.size (fun _ => True) v12 d
  r16 : b5 = true → Kd.R (Kd.int .i64) 2 w w0.heap.size (fun _ => True) v16 (List.replicate m 0)
  d16 : b1 = true → b5 = true → ∀ k, v12.ownBlock = some k → v16.ownBlock ≠ some k
  x7 : b6 = true → w0.heap.size ≤ q7 ∧ w.heap[q7]? = some (.cells #[if b8 then v12 else .slice none 0 0] 22 (0, 0))
  x8 : b7 = true → w0.heap.size ≤ q8 ∧ w.heap[q8]? = some (.cells #[if b9 then v16 else .slice none 0 0] 22 (0, 0))
  d78 : b6 = true → b7 = true → q7 ≠ q8
section
variable {w0 w w1 : World} {g : Nat} {bx : Array Value} {d : List Int} {m : Nat} {b1 b5 b6 b7 b8 b9 : Bool} {v12 v16 : Value} {q7 q8 : Nat}
theorem RS.row12 (h : RS w0 g bx d m false b5 b6 b7 false b9 v12 v16 q7 q8 w) (hb : Below w.heap.size w w1) {v : Value} (hr : Kd.R (Kd.int .i64) 2 w1 w.heap.size (fun _ => True) v d) : RS w0 g bx d m true b5 b6 b7 false b9 v v16 q7 q8 w1 :=
  ⟨h.below.trans (hb.mono h.below.size), blk_below h.box hb, fun _ => Kd.R_lower hr h.below.size, fun hb5 => Kd.R_below (h.r16 hb5) hb, fun _ hb5 k hk hk2 => by
    have h1 := Kd.R_base hr k hk
    have h2 := Kd.R_lt (h.r16 hb5) k hk2
    omega, fun hb6 => ⟨(h.x7 hb6).1, blk_below (h.x7 hb6).2 hb⟩, fun hb7 => ⟨(h.x8 hb7).1, blk_below (h.x8 hb7).2 hb⟩, h.d78⟩
theorem RS.row16 (h : RS w0 g bx d m b1 false b6 b7 b8 false v12 v16 q7 q8 w) (hb : Below w.heap.size w w1) {v : Value} (hr : Kd.R (Kd.int .i64) 2 w1 w.heap.size (fun _ => True) v (List.replicate m 0)) : RS w0 g bx d m b1 true b6 b7 b8 false v12 v q7 q8 w1 :=
  ⟨h.below.trans (hb.mono h.below.size), blk_below h.box hb, fun hb1 => Kd.R_below (h.r12 hb1) hb, fun _ => Kd.R_lower hr h.below.size, fun hb1 _ k hk hk2 => by
    have h1 := Kd.R_base hr k hk2
    have h2 := Kd.R_lt (h.r12 hb1) k hk
    omega, fun hb6 => ⟨(h.x7 hb6).1, blk_below (h.x7 hb6).2 hb⟩, fun hb7 => ⟨(h.x8 hb7).1, blk_below (h.x8 hb7).2 hb⟩, h.d78⟩
theorem RS.new7 (h : RS w0 g bx d m b1 b5 false b7 false b9 v12 v16 q7 q8 w) : RS w0 g bx d m b1 b5 true b7 false b9 v12 v16 w.heap.size q8 (w.alloc (.cells #[.slice none 0 0] 22 (0, 0))) := by
  have hb : Below w.heap.size w (w.alloc (.cells #[.slice none 0 0] 22 (0, 0))) := (Below.refl _ _).alloc (Nat.le_refl _) _
  exact ⟨h.below.trans (hb.mono h.below.size), blk_below h.box hb, fun hb1 => Kd.R_below (h.r12 hb1) hb, fun hb5 => Kd.R_below (h.r16 hb5) hb, h.d16, fun _ => ⟨h.below.size, World.alloc_heap_new w _⟩,
    fun hb7 => ⟨(h.x8 hb7).1, blk_below (h.x8 hb7).2 hb⟩, fun _ hb7 e => by have := blk_lt (h.x8 hb7).2; omega⟩
theorem RS.new8 (h : RS w0 g bx d m b1 b5 b6 false b8 false v12 v16 q7 q8 w) : RS w0 g bx d m b1 b5 b6 true b8 false v12 v16 q7 w.heap.size (w.alloc (.cells #[.slice none 0 0] 22 (0, 0))) := by
  have hb : Below w.heap.size w (w.alloc (.cells #[.slice none 0 0] 22 (0, 0))) := (Below.refl _ _).alloc (Nat.le_refl _) _
  exact ⟨h.below.trans (hb.mono h.below.size), blk_below h.box hb, fun hb1 => Kd.R_below (h.r12 hb1) hb, fun hb5 => Kd.R_below (h.r16 hb5) hb, h.d16, fun hb6 => ⟨(h.x7 hb6).1, blk_below (h.x7 hb6).2 hb⟩, fun _ => ⟨h.below.size, World.alloc_heap_new w _⟩,
    fun hb6 _ e => by have := blk_lt (h.x7 hb6).2; omega⟩
theorem R_box {base : Nat} {v : Value} {xs : List Int} (h : Kd.R (Kd.int .i64) 2 w base (fun _ => True) v xs) {q : Nat} {cs : Array Value} (hb : w.heap[q]? = some (.cells cs 22 (0, 0))) (u : Value) : Kd.R (Kd.int .i64) 2 (w.setCell ⟨q, 0, none⟩ u) base (fun _ => True) v xs :=
  Kd.R_mono (Kd.R_far (p := ⟨q, 0, none⟩) (Kd.R_types h hb (by decide)) (fun _ hk => hk.2) u) (fun _ _ => trivial)
theorem RS.put7 (h : RS w0 g bx d m true b5 true b7 false b9 v12 v16 q7 q8 w) : RS w0 g bx d m true b5 true b7 true b9 v12 v16 q7 q8 (w.setCell ⟨q7, 0, none⟩ v12) := by
  have h7 := h.x7 rfl
  exact ⟨h.below.setCell h7.1 _, blk_far h.box (blk_ne h.box h7.2 (by decide)) _, fun hb1 => R_box (h.r12 hb1) h7.2 _, fun hb5 => R_box (h.r16 hb5) h7.2 _, h.d16, fun _ => ⟨h7.1, blk_put h7.2 0 _ rfl⟩,
    fun hb7 => ⟨(h.x8 hb7).1, blk_far (h.x8 hb7).2 (fun e => h.d78 rfl hb7 e.symm) _⟩, h.d78⟩
theorem RS.put8 (h : RS w0 g bx d m b1 true b6 true b8 false v12 v16 q7 q8 w) : RS w0 g bx d m b1 true b6 true b8 true v12 v16 q7 q8 (w.setCell ⟨q8, 0, none⟩ v16) := by
  have h8 := h.x8 rfl
  exact ⟨h.below.setCell h8.1 _, blk_far h.box (blk_ne h.box h8.2 (by decide)) _, fun hb1 => R_box (h.r12 hb1) h8.2 _, fun hb5 => R_box (h.r16 hb5) h8.2 _, h.d16,
    fun hb6 => ⟨(h.x7 hb6).1, blk_far (h.x7 hb6).2 (fun e => h.d78 hb6 rfl e) _⟩, fun _ => ⟨h8.1, blk_put h8.2 0 _ rfl⟩, h.d78⟩
theorem RS.apart (h : RS w0 g bx d m true true true true true true v12 v16 q7 q8 w) : Kd.R (Kd.int .i64) 2 w w0.heap.size (fun k => some k ≠ v16.ownBlock) v12 d ∧ Kd.R (Kd.int .i64) 2 w w0.heap.size (fun k => some k ≠ v12.ownBlock) v16 (List.replicate m 0) :=
  ⟨Kd.R_flat (fun h => h) (h.r12 rfl) (fun k hk _ e => h.d16 rfl rfl k hk e.symm), Kd.R_flat (fun h => h) (h.r16 rfl) (fun k hk _ e => h.d16 rfl rfl k e.symm hk)⟩
end
end
section
open Go.RowKit Go.Shelf Go.Proofs.YtnmdcmfhjhgheaaW.PrintWords Go.Proofs.YtnmdcmfhjhgheaaW.PrintLast Go.Proofs.YtnmdcmfhjhgheaaW.PrintMore
set_option maxRecDepth 100000 in
set_option maxHeartbeats 2000000 in
theorem bwd_calls (A : Option Addr) (len cap : Nat) (w : World) : Calls Try.prog 61 #[.slice A len cap] w fun e w' => ∃ Bs : Nat, e = .returned (.func (.func 84) #[] #[.pointer (some ⟨Bs, 0, none⟩)]) ∧ w'.heap[Bs]? = some (.cells #[.slice A len cap] 80 (0, 0)) ∧ w.heap.size ≤ Bs ∧ Below w.heap.size w w' := by
  go_enter Try.func61, Try.ntmps61
  go_wp2
  go_ret
  exact ⟨w.heap.size, by first | rfl | (simp; done), World.alloc_heap_new w _, Nat.le_refl _, (Below.refl _ _).alloc (Nat.le_refl _) _⟩
section
variable (F : Fence) (n : Nat)
theorem bw_stops (h84 : F.fn 84) (hro : F.round = none) (hn : 1 ≤ n) (Bs g len cap : Nat) (nd bf pp : Fin len → Int) (hreach : len ≤ 9223372036854775807) (A : Option Addr) (hA : 0 < len → A = some ⟨g, 0, none⟩) (w : World)
    (hBs : w.cell? ⟨Bs, 0, none⟩ = some (.slice A len cap))
    (hc : ∀ j : Fin len, w.cell? ⟨g, (j : Nat) * 3, none⟩ = some (.int .i64 (nd j)) ∧ w.cell? ⟨g, (j : Nat) * 3 + 1, none⟩ = some (.int .i64 (bf j)) ∧ w.cell? ⟨g, (j : Nat) * 3 + 2, none⟩ = some (.int .i64 (pp j))) :
    SeqStopsK F n Try.prog 84 #[.pointer (some ⟨Bs, 0, none⟩)] (fun x : Fin len => #[.int .i64 ((x : Nat) : Int), .agg #[.int .i64 (nd x), .int .i64 (bf x), .int .i64 (pp x)]]) (KpB Bs g) (fun ys => ys = dn len len (Nat.le_refl _)) (fun _ => True) len w := by
  intro l J Jx W hW hJ hJx hY h0
  have hk : ∀ {a : Addr} {v : Value}, w.cell? a = some v → W.cell? a = some v := fun {a v} h => (World.cell?_of_block (hW.block a.block (World.block_lt_of_cell? w a h))).trans h
  exact bw1_in F n h84 hro hn l Bs g len cap nd bf pp hreach J Jx (fun pre x W1 hj hl => hY pre x W1 hj hl) W A hA (hk hBs) (fun j => ⟨hk (hc j).1, hk (hc j).2.1, hk (hc j).2.2⟩) h0
end
end
end Go.Proofs.Ytnmdcmfhjhgheaa.BW
