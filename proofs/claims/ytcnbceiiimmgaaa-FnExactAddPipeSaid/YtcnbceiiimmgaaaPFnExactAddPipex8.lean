-- Printed by a program of this session (wip/hprint.sh: the kit's print with hand-proved contracts put in); not by print.sh itself.
import Derived.Test.YtcnbceiiimmgaaaPFnExactAddPipex0
namespace Go.Proofs.Ytcnbceiiimmgaaa.PFnExactAddPipe
open Go.RowKit Go.Proofs.YtcnbceiiimmgaaaW.PrintWords Go.Proofs.YtcnbceiiimmgaaaW.PrintLast Go.Proofs.YtcnbceiiimmgaaaW.PrintMore Go.Proofs.YtcnbceiiimmgaaaM
attribute [local go_sem] max2_int min2_int max_two min_two max_three min_three max_four min_four   -- for this text's walks alone
set_option linter.unusedVariables false
set_option linter.unusedSimpArgs false

/-! ### impl_Pipe_27: function 27 -/
open Go.Proofs.YtcnbceiiimmgaaaM
theorem reps_one {α : Type} {d : Kd α} {w : World} {base : Nat} {ok : Nat → Prop} {xs : List α} {inner : List Value} (hd : 0 < d.sz) (h : Reps (d.M w base ok) d.sz xs inner) : ∀ u ∈ inner, u.oneCell' = true := by
  intro u hu
  obtain ⟨p, hp, he⟩ := List.mem_iff_getElem.1 hu
  have hq : p / d.sz < xs.length := Nat.div_lt_of_lt_mul (by rw [Nat.mul_comm]; rw [h.1] at hp; exact hp)
  have hm := h.2 (p / d.sz) xs[p / d.sz] (List.getElem?_eq_getElem hq)
  refine d.K_one (d.K_of_M hm) u (List.mem_iff_getElem?.2 ⟨p % d.sz, ?_⟩)
  rw [List.getElem?_take_of_lt (Nat.mod_lt _ hd), List.getElem?_drop, Nat.mul_comm, Nat.div_add_mod, List.getElem?_eq_getElem hp, he]
/-- copy at elements of so many cells: all is read before anything is written. -/
theorem run_copy_k {P : Program} (w : World) (dT sT ty elem : TypeId) (k b o dLen dCap : Nat) (a : Addr) (sLen sCap : Nat) (cs : List Value)
    (hu : P.underlying dT = some (.slice elem)) (hs : (P.info? elem).map (·.size) = some k) (hn : cs.length = Nat.min sLen dLen * k)
    (hsrc : ∀ j v, cs[j]? = some v → w.cell? (a.add j) = some v) (hc : ∀ j, j < cs.length → (w.cell? ⟨b, o + j, none⟩).isSome = true) (hf : ∀ j, j < cs.length → w.frozen? ⟨b, o + j, none⟩ = false) (h1 : ∀ v ∈ cs, v.oneCell' = true) :
    (Builtin.copy_ #[dT, sT] ty #[.slice (some ⟨b, o, none⟩) dLen dCap, .slice (some a) sLen sCap]).run P w = .ok (goInt (Nat.min sLen dLen)) (w.setCells b o cs) := by
  have hl := run_loadCells_list (P := P) w a cs hsrc
  have hst := run_storeCells_cells (P := P) b o cs 0 w (by simpa using hc) (by simpa using hf) h1
  cases hq : P.info? elem with
  | none => simp [hq] at hs
  | some i =>
    have hi : i.size = k := by simpa [hq] using hs
    have hn' : Nat.min sLen dLen * k = cs.length := hn.symm
    simp [Builtin.copy_, run_underlying hu, Builtin.lenOf, Builtin.firstCells, sizeOf, typeInfo, hq, hi, hn', hl, hst]
theorem some_setCells (b : Nat) (vs : List Value) (o : Nat) (w : World) (h : ∀ j, j < vs.length → (w.cell? ⟨b, o + j, none⟩).isSome = true) (k : Nat) (hk : (w.cell? ⟨b, k, none⟩).isSome = true) : ((w.setCells b o vs).cell? ⟨b, k, none⟩).isSome = true := by
  by_cases hin : o ≤ k ∧ k < o + vs.length
  · have := World.cell?_setCells_in b vs o w h (k - o) (by omega)
    rw [show o + (k - o) = k by omega] at this
    rw [this]; rfl
  · rw [World.cell?_setCells_out b vs o w ⟨b, k, none⟩ (fun _ _ => by show k < o ∨ o + vs.length ≤ k; omega)]
    exact hk
theorem blk_get {w : World} {g : Nat} {cur : Array Value} {e : TypeId} {n : Nat} {xs : List Value} (hh : w.heap[g]? = some (.cells cur e (0, 0))) (ht : cur.toList.take n = xs) (j : Nat) (u : Value) (hu : xs[j]? = some u) : w.cell? ⟨g, j, none⟩ = some u := by
  rw [blk_cell hh j, ← Array.getElem?_toList]
  rw [← ht, List.getElem?_take] at hu
  split at hu
  · exact hu
  · cases hu
set_option maxHeartbeats 4000000 in
set_option maxRecDepth 100000 in
theorem ins_shift (i n g cap vb vcap : Nat) (inner vin : List Value) (cur vcur : Array Value) (w : World) (hi : i < n) (hroom : n + 1 ≤ cap) (hn : n ≤ 1000000) (hcm : cap ≤ 9223372036854775807) (hvb : vb ≠ g) (hlen : inner.length = n * 6) (hvl : vin.length = 6)
    (hh : w.heap[g]? = some (.cells cur 36 (0, 0))) (hcs : cur.size = cap * 6) (htk : cur.toList.take (n * 6) = inner) (hvh : w.heap[vb]? = some (.cells vcur 36 (0, 0))) (hvt : vcur.toList.take (1 * 6) = vin) (h1 : ∀ u ∈ inner, u.oneCell' = true) (h2 : ∀ u ∈ vin, u.oneCell' = true) :
    Calls Try.prog 27 #[.slice (some ⟨g, 0, none⟩) n cap, .int .i64 i, .slice (some ⟨vb, 0, none⟩) 1 vcap] w fun e w' => e = .returned (.slice (some ⟨g, 0, none⟩) (n + 1) cap) ∧ w' = (w.drew.setCells g ((i + 1) * 6) (inner.drop (i * 6))).setCells g (i * 6) vin := by
  obtain ⟨i0, hi0, hz0, hzs, hzb⟩ := info_parts info36
  have hsz : (Try.prog.info? 36).map (·.size) = some 6 := by rw [hi0]; simp [hzs]
  have hsz' : ∀ w, (Go.sizeOf 36).run Try.prog w = .ok 6 w := fun w => by simp [Go.sizeOf, typeInfo, hi0, hzs]
  have mixed : Try.prog.follows Departure.mixedOrders = true := by kernel_rfl
  have hz2 : ¬ ((i : Int) = (n : Int)) := by omega
  have hvsize : 6 ≤ vcur.size := by have := congrArg List.length hvt; rw [List.length_take, hvl, Array.length_toList] at this; omega
  have hov : ∀ lb cb, (callFunc 43 #[.slice (some ⟨vb, 0, none⟩) 1 vcap, .slice (some ⟨g, (i + 1) * 6, none⟩) lb cb]).run Try.prog w = .ok (.value (.bool false)) w := fun lb cb => by
    rw [run_callFunc_extern Try.func43 (z22_) (z22_) (z22_) (e := Extern.SlicesOverlaps.overlaps #[30, 30] #[4]) (z22_),
      Lib.run_overlaps_apart w 30 4 36 Try.underlying30 6 hsz' ⟨vb, 0, none⟩ ⟨g, (i + 1) * 6, none⟩ 1 vcap lb cb hvb 36 36 vcur.size cur.size (by simp [World.shape?, hvh]) (by simp [World.shape?, hh]) (by omega) (blk_frozen hvh 0) (blk_frozen hvh vcur.size)]
    rfl
  have hdl : (inner.drop (i * 6)).length = (n - i) * 6 := by rw [List.length_drop, hlen, Nat.sub_mul]
  have hsome : ∀ j, j < cap * 6 → (w.cell? ⟨g, j, none⟩).isSome = true := fun j hj => by rw [blk_cell hh j, Array.getElem?_eq_getElem (by omega)]; rfl
  have hw1 : IntKind.i64.wrap ((i : Int) + 1) = (i : Int) + 1 := by rw [IntKind.wrap_i64]; omega
  have hb1 : (0 : Int) ≤ (i : Int) + 1 := by omega
  have hin : i ≤ n := by omega
  have htn : ((i : Int) + 1).toNat = i + 1 := by omega
  have hb2 : ¬ (cap = i + 1) := by omega
  have hb3 : (i : Int) ≤ (n : Int) + 1 := by omega
  have hb4 : ¬ (cap = i) := by omega
  have hcp1 : ∀ ty dc sc, (Builtin.copy_ #[30, 30] ty #[.slice (some ⟨g, (i + 1) * 6, none⟩) (n - i) dc, .slice (some ⟨g, i * 6, none⟩) (n + 1 - i) sc]).run Try.prog w.drew = .ok (goInt (Nat.min (n + 1 - i) (n - i))) (w.drew.setCells g ((i + 1) * 6) (inner.drop (i * 6))) := fun ty dc sc =>
    run_copy_k w.drew _ _ ty 36 6 g ((i + 1) * 6) (n - i) dc ⟨g, i * 6, none⟩ (n + 1 - i) sc (inner.drop (i * 6)) Try.underlying30 hsz (by rw [hdl]; simp only [Nat.min_def]; split <;> omega)
      (fun j v hj => by rw [Addr.add_lit]; rw [List.getElem?_drop] at hj; exact blk_get hh htk _ v hj)
      (fun j hj => hsome _ (by rw [hdl] at hj; omega)) (fun j hj => blk_frozen hh _) (fun v hv => h1 v (List.mem_of_mem_drop hv))
  obtain ⟨W1, hW1⟩ : ∃ W1, W1 = w.drew.setCells g ((i + 1) * 6) (inner.drop (i * 6)) := ⟨_, rfl⟩
  have hsp1 : ∀ k, k < cap * 6 → (W1.cell? ⟨g, k, none⟩).isSome = true := fun k hk => by
    rw [hW1]
    exact some_setCells g (inner.drop (i * 6)) ((i + 1) * 6) w.drew (fun j hj => hsome _ (by rw [hdl] at hj; omega)) _ (hsome k hk)
  have hcp2 : ∀ (W : World), (∀ x, W.cell? x = W1.cell? x) → (∀ x, W.frozen? x = W1.frozen? x) → ∀ ty dc, (Builtin.copy_ #[30, 30] ty #[.slice (some ⟨g, i * 6, none⟩) (n + 1 - i) dc, .slice (some ⟨vb, 0, none⟩) 1 vcap]).run Try.prog W = .ok (goInt (Nat.min 1 (n + 1 - i))) (W.setCells g (i * 6) vin) := fun W hWc hWf ty dc =>
    run_copy_k W _ _ ty 36 6 g (i * 6) (n + 1 - i) dc ⟨vb, 0, none⟩ 1 vcap vin Try.underlying30 hsz (by rw [hvl]; simp only [Nat.min_def]; split <;> omega)
      (fun j v hj => by
        rw [Addr.add_lit, hWc, hW1, World.cell?_setCells_out g _ _ _ _ (fun h _ => absurd h hvb), Nat.zero_add]
        exact blk_get hvh hvt j v hj)
      (fun j hj => by rw [hWc]; exact hsp1 _ (by rw [hvl] at hj; omega)) (fun j hj => by rw [hWf, hW1, World.frozen?_setCells]; exact blk_frozen hh _) h2
  rw [← hW1] at hcp1
  have HS := Aside0.mk hsome
  have HW1 := Aside0.mk hW1
  clear hh hvh htk hvt hsome hsp1 hW1 h1 h2 hdl hlen hvl hcs
  go_enter Try.func27, Try.ntmps27
  go_wp2_with (simp only [hov])
  go_region_law_o (refine step_copy_runI rfl _ _ 30 30 rfl _ _ (by simp [Act.eval, Act.put]) (by simp [Act.eval, Act.put]) (hcp1 _ _ _) ?_)
  go_wp2_with (at_builtin; refine wpList_copy_runI _ rfl _ _ 30 30 rfl _ _ rfl rfl (hcp2 _ (fun _ => rfl) (fun _ => rfl) _ _) ?_)
  go_ret
  first | exact ⟨rfl, rfl⟩ | exact ⟨rfl, by rw [HW1.out]⟩
set_option maxHeartbeats 4000000 in
set_option maxRecDepth 100000 in
theorem ins_grow (i n g vb vcap : Nat) (inner vin : List Value) (cur vcur : Array Value) (w : World) (hi : i < n) (hn : n ≤ 1000000) (hvb : vb ≠ g) (hlen : inner.length = n * 6) (hvl : vin.length = 6)
    (hh : w.heap[g]? = some (.cells cur 36 (0, 0))) (hcs : cur.size = n * 6) (htk : cur.toList.take (n * 6) = inner) (hvh : w.heap[vb]? = some (.cells vcur 36 (0, 0))) (hvt : vcur.toList.take (1 * 6) = vin) (h1 : ∀ u ∈ inner, u.oneCell' = true) (h2 : ∀ u ∈ vin, u.oneCell' = true) :
    Calls Try.prog 27 #[.slice (some ⟨g, 0, none⟩) n n, .int .i64 i, .slice (some ⟨vb, 0, none⟩) 1 vcap] w fun e w' => ∃ (G : Nat) (ROW : Array Value), e = .returned (.slice (some ⟨w.heap.size, 0, none⟩) (n + 1) G) ∧ n + 1 ≤ G ∧ G ≤ 9223372036854775807 ∧ ROW.size = G * 6 ∧ ROW.toList.take (i * 6) = inner.take (i * 6) ∧
      w' = (((w.alloc (.cells ROW 36)).drew.setCells w.heap.size (i * 6) vin).drew).setCells w.heap.size ((i + 1) * 6) (inner.drop (i * 6)) := by
  obtain ⟨i0, hi0, hz0, hzs, hzb⟩ := info_parts info36
  have hsz : (Try.prog.info? 36).map (·.size) = some 6 := by rw [hi0]; simp [hzs]
  have mixed : Try.prog.follows Departure.mixedOrders = true := by kernel_rfl
  have hz2 : ¬ ((i : Int) = (n : Int)) := by omega
  have hz3 : (n : Int) < (n : Int) + 1 := by omega
  have hbw : g < w.heap.size := blk_lt hh
  have hvw : vb < w.heap.size := blk_lt hvh
  have hkk : (n : Int) + 1 - (i : Int) = ((n + 1 - i : Nat) : Int) := by omega
  have hik : i + (n + 1 - i) = n + 1 := by omega
  have htl : (inner.take (i * 6)).length = i * 6 := by rw [List.length_take, hlen]; omega
  have hold : (Builtin.firstCells i0.size i (.slice (some ⟨g, 0, none⟩) i n)).run Try.prog w.drew = .ok (inner.take (i * 6)).toArray w.drew := by
    rw [hzs]
    exact run_firstCells_some w.drew 6 i ⟨g, 0, none⟩ i n (inner.take (i * 6)) htl (fun j v hj => by
      rw [Addr.add_lit, Nat.zero_add]
      rw [List.getElem?_take] at hj
      split at hj
      · exact blk_get hh htk j v hj
      · cases hj)
  have hfit : Builtin.nextslicecap (i + (n + 1 - i)) n * i0.bytes ≤ 281474976710656 := by
    rw [hzb, hik]; exact growslice_fits (by omega) (by omega)
  have hrz : ∀ ty, (Builtin.append_ #[30, 3] ty #[.slice (some ⟨g, 0, none⟩) i n, .int .i64 ((n : Int) + 1 - (i : Int))]).run Try.prog w =
      .ok (.slice (some ⟨w.heap.size, 0, none⟩) (n + 1) (grownCap w (n + 1) n 36)) (w.drew.alloc (.cells ((inner.take (i * 6)).toArray ++ Builtin.zeroCells (Value.agg #[.string ⟨#[]⟩, .int .i64 0, .int .i64 0, .int .i64 0, .int .i64 0, .int .i64 0]).cells (n + 1 - i) ++ Builtin.zeroCells (Value.agg #[.string ⟨#[]⟩, .int .i64 0, .int .i64 0, .int .i64 0, .int .i64 0, .int .i64 0]).cells (grownCap w (n + 1) n 36 - (n + 1))) 36)) := fun ty => by
    have h := Lib.run_append_grow_zeros w 30 3 ty 36 i0 _ .i64 .i64 Try.underlying30 Try.underlying3 hi0 hz0 (some ⟨g, 0, none⟩) i n (inner.take (i * 6)) hold (n + 1 - i) (by omega) (by omega) (by omega) (by omega) (by rw [hzb]; omega) hfit
    rw [hik] at h
    rw [hkk]
    exact h
  obtain ⟨G, hG⟩ : ∃ G, G = grownCap w (n + 1) n 36 := ⟨_, rfl⟩
  obtain ⟨ROW, hROW⟩ : ∃ ROW : Array Value, ROW = (inner.take (i * 6)).toArray ++ Builtin.zeroCells (Value.agg #[.string ⟨#[]⟩, .int .i64 0, .int .i64 0, .int .i64 0, .int .i64 0, .int .i64 0]).cells (n + 1 - i) ++ Builtin.zeroCells (Value.agg #[.string ⟨#[]⟩, .int .i64 0, .int .i64 0, .int .i64 0, .int .i64 0, .int .i64 0]).cells (G - (n + 1)) := ⟨_, rfl⟩
  rw [← hG] at hrz
  rw [← hROW] at hrz
  have hGn : n + 1 ≤ G := by rw [hG]; exact grownCap_ge w _ _ _
  have hG63 : G ≤ 9223372036854775807 := by
    have := grownCap_le_maxLen w (n + 1) n 36 (by unfold maxLen; omega)
    rw [← hG] at this
    unfold maxLen at this
    omega
  have hzc : ∀ k, (Builtin.zeroCells (Value.agg #[.string ⟨#[]⟩, .int .i64 0, .int .i64 0, .int .i64 0, .int .i64 0, .int .i64 0]).cells k).size = k * 6 := fun k => by
    simp [Builtin.zeroCells, Value.cells]
  have hRs : ROW.size = G * 6 := by
    rw [hROW, Array.size_append, Array.size_append, hzc, hzc, List.size_toArray, htl]; omega
  have hRt : ROW.toList.take (i * 6) = inner.take (i * 6) := by
    rw [hROW, Array.toList_append, Array.toList_append, List.append_assoc, show ((inner.take (i * 6)).toArray).toList = inner.take (i * 6) from rfl, List.take_append_of_le_length (by rw [htl]; exact Nat.le_refl _), List.take_of_length_le (by rw [htl]; exact Nat.le_refl _)]
  clear hROW
  obtain ⟨W1, hW1⟩ : ∃ W1, W1 = w.drew.alloc (.cells ROW 36) := ⟨_, rfl⟩
  rw [← hW1] at hrz
  have hN : ∀ j, j < (n + 1) * 6 → (W1.cell? ⟨w.heap.size, j, none⟩).isSome = true := fun j hj => by
    rw [hW1, World.cell?_alloc_at (w := w.drew) ROW _ w.heap.size j rfl, Array.getElem?_eq_getElem (by omega)]; rfl
  have hNf : ∀ j, W1.frozen? ⟨w.heap.size, j, none⟩ = false := fun j => by rw [hW1]; exact World.frozen?_alloc_at (w := w.drew) ROW _ w.heap.size j rfl
  have hOb : ∀ j v, w.cell? ⟨g, j, none⟩ = some v → W1.cell? ⟨g, j, none⟩ = some v := fun j v h => by rw [hW1, World.cell?_alloc_past (w := w.drew) _ g j hbw]; exact h
  have hOv : ∀ j v, w.cell? ⟨vb, j, none⟩ = some v → W1.cell? ⟨vb, j, none⟩ = some v := fun j v h => by rw [hW1, World.cell?_alloc_past (w := w.drew) _ vb j hvw]; exact h
  have hcpA : ∀ (W : World), (∀ x, W.cell? x = W1.cell? x) → (∀ x, W.frozen? x = W1.frozen? x) → ∀ ty dc, (Builtin.copy_ #[30, 30] ty #[.slice (some ⟨w.heap.size, i * 6, none⟩) (n + 1 - i) dc, .slice (some ⟨vb, 0, none⟩) 1 vcap]).run Try.prog W = .ok (goInt (Nat.min 1 (n + 1 - i))) (W.setCells w.heap.size (i * 6) vin) := fun W hWc hWf ty dc =>
    run_copy_k W _ _ ty 36 6 w.heap.size (i * 6) (n + 1 - i) dc ⟨vb, 0, none⟩ 1 vcap vin Try.underlying30 hsz (by rw [hvl]; simp only [Nat.min_def]; split <;> omega)
      (fun j v hj => by rw [Addr.add_lit, hWc, Nat.zero_add]; exact hOv _ v (blk_get hvh hvt j v hj))
      (fun j hj => by rw [hWc]; exact hN _ (by rw [hvl] at hj; omega)) (fun j hj => by rw [hWf]; exact hNf _) h2
  have hGi : ¬ (G = i) := by omega
  have hGim : ¬ (G = i + 1) := by omega
  have hci : ¬ (n = i) := by omega
  have hbN : g ≠ w.heap.size := by omega
  have hdl : (inner.drop (i * 6)).length = (n - i) * 6 := by rw [List.length_drop, hlen, Nat.sub_mul]
  have hcpB : ∀ (W : World), (∀ x, W.cell? x = (W1.setCells w.heap.size (i * 6) vin).cell? x) → (∀ x, W.frozen? x = (W1.setCells w.heap.size (i * 6) vin).frozen? x) → ∀ ty dc sc, (Builtin.copy_ #[30, 30] ty #[.slice (some ⟨w.heap.size, (i + 1) * 6, none⟩) (n - i) dc, .slice (some ⟨g, i * 6, none⟩) (n - i) sc]).run Try.prog W = .ok (goInt (Nat.min (n - i) (n - i))) (W.setCells w.heap.size ((i + 1) * 6) (inner.drop (i * 6))) := fun W hWc hWf ty dc sc =>
    run_copy_k W _ _ ty 36 6 w.heap.size ((i + 1) * 6) (n - i) dc ⟨g, i * 6, none⟩ (n - i) sc (inner.drop (i * 6)) Try.underlying30 hsz (by rw [hdl]; simp)
      (fun j v hj => by
        rw [Addr.add_lit, hWc, World.cell?_setCells_out _ _ _ _ _ (fun h _ => absurd h hbN)]
        rw [List.getElem?_drop] at hj
        exact hOb _ v (blk_get hh htk _ v hj))
      (fun j hj => by rw [hWc]; exact some_setCells w.heap.size vin (i * 6) W1 (fun t ht => hN _ (by rw [hvl] at ht; omega)) _ (hN _ (by rw [hdl] at hj; omega)))
      (fun j hj => by rw [hWf, World.frozen?_setCells]; exact hNf _) (fun v hv => h1 v (List.mem_of_mem_drop hv))
  subst hW1
  have hE1 : ∀ x, ((w.alloc (.cells ROW 36)).drew).cell? x = (w.drew.alloc (.cells ROW 36)).cell? x := fun x => rfl
  have hE2 : ∀ x, ((w.alloc (.cells ROW 36)).drew).frozen? x = (w.drew.alloc (.cells ROW 36)).frozen? x := fun x => rfl
  have hF1 : ∀ x, (((w.alloc (.cells ROW 36)).drew.setCells w.heap.size (i * 6) vin).drew).cell? x = ((w.drew.alloc (.cells ROW 36)).setCells w.heap.size (i * 6) vin).cell? x := fun x => rfl
  have hF2 : ∀ x, (((w.alloc (.cells ROW 36)).drew.setCells w.heap.size (i * 6) vin).drew).frozen? x = ((w.drew.alloc (.cells ROW 36)).setCells w.heap.size (i * 6) vin).frozen? x := fun x => rfl
  have hw1 : IntKind.i64.wrap ((i : Int) + 1) = (i : Int) + 1 := by rw [IntKind.wrap_i64]; omega
  have hb1 : (0 : Int) ≤ (i : Int) + 1 := by omega
  have hin : i ≤ n := by omega
  have htn : ((i : Int) + 1).toNat = i + 1 := by omega
  have hb3 : (i : Int) ≤ (n : Int) := by omega
  have HRT := Aside0.mk hRt
  have HRS := Aside0.mk hRs
  have HGN := Aside0.mk hGn
  have HG6 := Aside0.mk hG63
  clear hkk hik hold hG hRt hRs hh hvh htk hvt hlen hvl hcs h1 h2 hN hNf hOb hOv hzc hdl htl hfit
  go_enter Try.func27, Try.ntmps27
  go_wp2_with (first
    | (at_builtin; refine Lib.wpList_append_run _ rfl _ _ _ _ rfl _ _ rfl rfl _ _ (hrz _) ?_)
    | (at_builtin; refine wpList_copy_runI _ rfl _ _ 30 30 rfl _ _ rfl rfl (hcpA _ hE1 hE2 _ _) ?_)
    | (at_builtin; refine wpList_copy_runI _ rfl _ _ 30 30 rfl _ _ rfl rfl (hcpB _ (fun _ => rfl) (fun _ => rfl) _ _ _) ?_))
  go_region_law_o (refine step_copy_runI rfl _ _ 30 30 rfl (.slice (some ⟨w.heap.size, (i + 1) * 6, none⟩) (n - i) (G - (i + 1))) (.slice (some ⟨g, i * 6, none⟩) (n - i) (n - i)) (by simp [Act.eval, Act.put]) (by simp [Act.eval, Act.put]) (hcpB _ hF1 hF2 3 (G - (i + 1)) (n - i)) ?_)
  go_wp2
  go_ret
  exact ⟨G, ROW, rfl, HGN.out, HG6.out, HRS.out, HRT.out, rfl⟩
theorem ins_list1 {α : Type} {R X V D c1 c2 : List α} {a : Nat} (hX : R.take a = X) (hx : X.length = a) (hv : V.length = 6) (h1 : c1 = R.take a ++ V ++ R.drop (a + V.length)) (h2 : c2 = c1.take (a + 6) ++ D ++ c1.drop (a + 6 + D.length)) : c2.take (a + 6 + D.length) = X ++ (V ++ D) := by
  have e1 : c1.take (a + 6) = X ++ V := by rw [h1, hX]; exact List.take_left' (by rw [List.length_append, hx, hv])
  rw [h2, e1, List.take_left' (by rw [List.length_append, List.length_append, hx, hv]), List.append_assoc]
theorem ins_list2 {α : Type} {C X V D c1 c2 : List α} {a : Nat} (hX : C.take a = X) (hx : X.length = a) (hC : a + 6 ≤ C.length) (hv : V.length = 6) (h1 : c1 = C.take (a + 6) ++ D ++ C.drop (a + 6 + D.length)) (h2 : c2 = c1.take a ++ V ++ c1.drop (a + V.length)) : c2.take (a + 6 + D.length) = X ++ (V ++ D) := by
  have hl : (C.take (a + 6)).length = a + 6 := by rw [List.length_take]; omega
  have e1 : c1.take a = X := by
    rw [h1, List.append_assoc, List.take_append_of_le_length (by omega), List.take_take, Nat.min_eq_left (by omega), hX]
  have e2 : c1.drop (a + V.length) = D ++ C.drop (a + 6 + D.length) := by
    rw [h1, List.append_assoc, hv]; exact List.drop_left' hl
  rw [h2, e1, e2, ← List.append_assoc (X ++ V), List.take_left' (by rw [List.length_append, List.length_append, hx, hv]), List.append_assoc]
theorem reps_cut {α : Type} {R : α → List Value → Prop} {sz i j : Nat} {xs : List α} {inner : List Value} (h : Reps R sz xs inner) (hij : i ≤ j) (hj : j ≤ xs.length) : Reps R sz (xs.take i ++ xs.drop j) (inner.take (i * sz) ++ inner.drop (j * sz)) := by
  have h1 : i * sz ≤ inner.length := by rw [h.1]; exact Nat.mul_le_mul_right _ (by omega)
  have ht : (inner.take (i * sz)).length = i * sz := by rw [List.length_take]; omega
  have hx : (xs.take i).length = i := by rw [List.length_take]; omega
  refine ⟨?_, fun q p hq => ?_⟩
  · rw [List.length_append, ht, List.length_append, hx, List.length_drop, List.length_drop, h.1, Nat.add_mul, Nat.sub_mul]
  · by_cases c : q < i
    · rw [List.getElem?_append_left (by rw [hx]; exact c), List.getElem?_take_of_lt c] at hq
      have hm := h.2 q p hq
      have hle : q * sz + sz ≤ i * sz := by rw [← Nat.succ_mul]; exact Nat.mul_le_mul_right _ c
      rw [List.drop_append_of_le_length (by rw [ht]; omega), List.take_append_of_le_length (by rw [List.length_drop, ht]; omega), List.drop_take, List.take_take, Nat.min_eq_left (by omega)]
      exact hm
    · rw [List.getElem?_append_right (by rw [hx]; omega), hx, List.getElem?_drop] at hq
      have hm := h.2 _ p hq
      have hle : i * sz ≤ q * sz := Nat.mul_le_mul_right _ (by omega)
      rw [List.drop_append, ht, List.drop_of_length_le (by rw [ht]; exact hle), List.nil_append, List.drop_drop, show j * sz + (q * sz - i * sz) = (j + (q - i)) * sz by rw [Nat.add_mul, Nat.sub_mul]]
      exact hm
theorem reps_ins {α : Type} {R : α → List Value → Prop} {sz i : Nat} {xs ys : List α} {inner vin : List Value} (h : Reps R sz xs inner) (h' : Reps R sz ys vin) (hi : i ≤ xs.length) : Reps R sz (xs.take i ++ (ys ++ xs.drop i)) (inner.take (i * sz) ++ (vin ++ inner.drop (i * sz))) := by
  have a1 := reps_cut h hi (Nat.le_refl xs.length)
  rw [List.drop_length, List.append_nil, ← h.1, List.drop_length, List.append_nil] at a1
  have a2 := reps_cut h (Nat.zero_le i) hi
  rw [Nat.zero_mul, List.take_zero, List.take_zero, List.nil_append, List.nil_append] at a2
  exact Kd.reps_append a1 (Kd.reps_append h' a2)
set_option maxHeartbeats 4000000 in
set_option maxRecDepth 100000 in
theorem ins_end (base : Nat) (ok : Nat → Prop) (u : Value) (A2 : Option Addr) (c2 : Nat) (xs : List S36) (y : S36) (w0 w : World) (hB : Below base w0 w) (hbase : base ≤ w.heap.size) (HO : Kd.R k36 36 w base ok u xs) (HR : Kd.C k36 w A2 1 [y]) (hfresh : ∀ k, w.heap.size ≤ k → ok k) (hl : xs.length ≤ 1000000) :
    Calls Try.prog 27 #[u, .int .i64 xs.length, .slice A2 1 c2] w fun e w' => ∃ v1, e = .returned v1 ∧ Kd.R k36 36 w' base ok v1 (xs ++ [y]) ∧ Below base w0 w' ∧ w.grownBy w' u.ownBlock ∧ (v1.ownBlock = u.ownBlock ∨ ∃ b, v1.ownBlock = some b ∧ w.heap.size ≤ b) := by
  obtain ⟨A, c, rfl⟩ := Kd.R_slice HO
  have hle := (Kd.R_reads' HO).2.1
  obtain ⟨n, hn⟩ : ∃ n, xs.length = n := ⟨_, rfl⟩
  rw [hn] at hle HO hl ⊢
  have HO' := Aside0.mk HO
  have HR' := Aside0.mk HR
  have HB' := Aside0.mk hB
  have HF := Aside0.mk hfresh
  clear HO HR hB hfresh
  have hnn : (n : Int) ≤ (n : Int) := Int.le_refl _
  rcases A with _ | ⟨ab, ao, asp⟩
  · go_enter Try.func27, Try.ntmps27
    go_wp2_with (at_builtin; refine Kd.R_append_rows k36 (w0 := w0) base rfl (.tmp 23) (.tmp 24) 30 36 (.agg #[(.string ⟨#[]⟩), (.int .i64 0), (.int .i64 0), (.int .i64 0), (.int .i64 0), (.int .i64 0)]) 56 rfl Try.underlying30 info36 rfl (by decide) (by omega) _ xs [y] _ _ _ ok (fun _ => False) rfl rfl HO'.out HR'.out (fun _ _ h => h) (fun _ h => h.elim) HF.out HB'.out hbase (by omega) ?_; intro v1 w1 ho hb hg hat)
    go_ret
    exact ⟨_, rfl, ho, hb, hg, hat⟩
  · go_enter Try.func27, Try.ntmps27
    go_wp2_with (at_builtin; refine Kd.R_append_rows k36 (w0 := w0) base rfl (.tmp 23) (.tmp 24) 30 36 (.agg #[(.string ⟨#[]⟩), (.int .i64 0), (.int .i64 0), (.int .i64 0), (.int .i64 0), (.int .i64 0)]) 56 rfl Try.underlying30 info36 rfl (by decide) (by omega) _ xs [y] _ _ _ ok (fun _ => False) rfl rfl HO'.out HR'.out (fun _ _ h => h) (fun _ h => h.elim) HF.out HB'.out hbase (by omega) ?_; intro v1 w1 ho hb hg hat)
    all_goals (go_ret; exact ⟨_, rfl, ho, hb, hg, hat⟩)
def impl_Pipe_27.f (l0 : List S36) (a1 : Int) (l2 : List S36) : Option (List S36 × List S36) := if 0 ≤ a1 ∧ a1 ≤ (l0.length : Int) ∧ l0.length ≤ 1000000 ∧ l2.length = 1 then some (l0.take a1.toNat ++ (l2 ++ l0.drop a1.toNat), l2) else none
set_option maxHeartbeats 4000000 in
set_option maxRecDepth 100000 in
theorem impl_Pipe_27.calls (P0_ : Nat → Prop) (u9000_ : Value) (l0 : List S36) (a1 : Int) (P2_ : Nat → Prop) (u9001_ : Value) (l2 : List S36) (r1 r2 : List S36) (w0 w : World) (hB : Below w0.heap.size w0 w) (ho0 : Kd.R k36 36 w w0.heap.size P0_ u9000_ l0) (hp0_2 : ∀ k_, P0_ k_ → ¬ P2_ k_) (ho2 : Kd.R k36 36 w w0.heap.size P2_ u9001_ l2) (hp2_0 : ∀ k_, P2_ k_ → ¬ P0_ k_) (h : impl_Pipe_27.f l0 a1 l2 = some (r1, r2)) :
    Calls Try.prog 27 #[u9000_, .int .i64 a1, u9001_] w fun e w' => ∃ v0_ : Value, e = .returned (v0_) ∧ Kd.R k36 36 w' w0.heap.size (fun k_ => ((P0_ k_ ∨ P2_ k_) ∨ w.heap.size ≤ k_) ∧ some k_ ≠ (u9001_ : Value).ownBlock) v0_ r1 ∧ Kd.R k36 36 w' w0.heap.size (fun k_ => ((P0_ k_ ∨ P2_ k_) ∨ w.heap.size ≤ k_)) u9001_ r2 ∧ Below w0.heap.size w0 w' ∧ Kept w w' (fun k_ => P0_ k_ ∨ P2_ k_) := by
  unfold impl_Pipe_27.f at h
  split at h
  case isFalse => exact absurd h (by simp)
  rename_i hc
  obtain ⟨rfl, rfl⟩ := Prod.mk.inj (Option.some.inj h)
  obtain ⟨i, rfl⟩ : ∃ i : Nat, a1 = (i : Int) := ⟨a1.toNat, by omega⟩
  rw [Int.toNat_natCast]
  obtain ⟨h0, h1, h2, h3⟩ := hc
  obtain ⟨y, rfl⟩ : ∃ y, l2 = [y] := by
    rcases l2 with _ | ⟨y, _ | ⟨z, t⟩⟩ <;> simp at h3
    exact ⟨y, rfl⟩
  have ho2' := ho2
  obtain ⟨hok2, vin, ⟨hlen2, hform2⟩, hreps2⟩ := ho2
  rcases hform2 with ⟨_, hn2⟩ | ⟨vb, vcap, vcur, rfl, hvg, hvh, hvc, hvm, hvs, hvtk⟩
  · simp at hn2
  have hvP : P2_ vb := hok2 vb rfl
  have hvlt : vb < w.heap.size := blk_lt hvh
  have keep2 : ∀ w' : World, w'.heap[vb]? = w.heap[vb]? → Kd.R k36 36 w' w0.heap.size (fun k_ => ((P0_ k_ ∨ P2_ k_) ∨ w.heap.size ≤ k_)) (.slice (some ⟨vb, 0, none⟩) [y].length vcap) [y] := fun w' hw' =>
    ⟨fun k hk => by have e : vb = k := Option.some.inj hk; rw [← e]; exact .inl (.inr hvP), vin, ⟨hlen2, .inr ⟨vb, vcap, vcur, rfl, hvg, by rw [hw']; exact hvh, hvc, hvm, hvs, hvtk⟩⟩, hreps2.imp_ (fun p c hp => by rw [k36_openM hp]; exact k36_mkM _ _ _ _)⟩
  by_cases hi : i = l0.length
  · subst hi
    refine (ins_end w0.heap.size (fun k_ => ((P0_ k_ ∨ P2_ k_) ∨ w.heap.size ≤ k_) ∧ some k_ ≠ (Value.slice (some ⟨vb, 0, none⟩) [y].length vcap).ownBlock) u9000_ (some ⟨vb, 0, none⟩) vcap l0 y w0 w hB hB.size (Kd.R_mono ho0 (fun k hk => ⟨.inl (.inl hk), fun e => hp0_2 k hk (by have e' : k = vb := Option.some.inj e; rw [e']; exact hvP)⟩)) (Kd.R_reads' ho2').2.2 (fun k hk => ⟨.inr hk, fun e => by have e' : k = vb := Option.some.inj e; omega⟩) (by omega)).mono ?_
    rintro e w' ⟨v1, rfl, hR, hb, hg, hat⟩
    have hvk : w'.heap[vb]? = w.heap[vb]? := hg.block vb hvlt (fun e => hp0_2 vb (ho0.1 vb e.symm) hvP)
    refine ⟨v1, rfl, ?_, keep2 w' hvk, hb, hg.size, fun k hk hnk => hg.block k hk (fun e => hnk (.inl (ho0.1 k e.symm)))⟩
    rw [List.take_length, List.drop_length, List.append_nil]
    exact hR
  · obtain ⟨hok, inner, ⟨hlen, hform⟩, hreps⟩ := ho0
    rcases hform with ⟨_, hn⟩ | ⟨g, cap, cur, rfl, hg, hh, hnc, hcm, hcs, htk⟩
    · omega
    have hgP : P0_ g := hok g rfl
    have hvb : vb ≠ g := fun e => hp0_2 g hgP (by rw [← e]; exact hvP)
    have hglt : g < w.heap.size := blk_lt hh
    have hlt : i < l0.length := by omega
    have one1 := reps_one (by decide) hreps
    have one2 := reps_one (by decide) hreps2
    have hll : (l0.take i ++ ([y] ++ l0.drop i)).length = l0.length + 1 := by rw [List.length_append, List.length_append, List.length_take, List.length_drop, List.length_singleton]; omega
    change inner.length = l0.length * 6 at hlen
    change vin.length = 1 * 6 at hlen2
    change cur.size = cap * 6 at hcs
    change cur.toList.take (l0.length * 6) = inner at htk
    change vcur.toList.take (1 * 6) = vin at hvtk
    have hX : (inner.take (i * 6)).length = i * 6 := by rw [List.length_take, hlen]; omega
    have hD : (inner.drop (i * 6)).length = (l0.length - i) * 6 := by rw [List.length_drop, hlen, Nat.sub_mul]
    have hlr : (inner.take (i * 6) ++ (vin ++ inner.drop (i * 6))).length = (l0.take i ++ ([y] ++ l0.drop i)).length * k36.sz := by
      rw [List.length_append, List.length_append, hX, hD, hlen2, hll]; show _ = (l0.length + 1) * 6; omega
    have hrr : ∀ (W : World) (ok : Nat → Prop), Reps (k36.M W w0.heap.size ok) k36.sz (l0.take i ++ ([y] ++ l0.drop i)) (inner.take (i * 6) ++ (vin ++ inner.drop (i * 6))) := fun W ok =>
      reps_ins (hreps.imp_ (fun p c hp => by rw [k36_openM hp]; exact k36_mkM _ _ _ _)) (hreps2.imp_ (fun p c hp => by rw [k36_openM hp]; exact k36_mkM _ _ _ _)) (by omega)
    by_cases hroom : l0.length + 1 ≤ cap
    · refine (ins_shift i l0.length g cap vb vcap inner vin cur vcur w hlt hroom h2 hcm hvb hlen hlen2 hh hcs htk hvh hvtk one1 one2).mono ?_
      rintro e w' ⟨rfl, rfl⟩
      obtain ⟨cur1, hh1, hs1, hl1⟩ := setCells_row (inner.drop (i * 6)) ((i + 1) * 6) w.drew cur (blk_drew hh) (by rw [hD, hcs]; omega)
      obtain ⟨cur2, hh2, hs2, hl2⟩ := setCells_row vin (i * 6) _ cur1 hh1 (by rw [hlen2, hs1, hcs]; omega)
      have hfar : ∀ k, k ≠ g → ((w.drew.setCells g ((i + 1) * 6) (inner.drop (i * 6))).setCells g (i * 6) vin).heap[k]? = w.heap[k]? := fun k hk => by rw [setCells_far _ _ k hk, setCells_far _ _ k hk]; rfl
      obtain ⟨a1, a2, a3, a4⟩ := setCells_same g vin (i * 6) (w.drew.setCells g ((i + 1) * 6) (inner.drop (i * 6)))
      obtain ⟨b1, b2, b3, b4⟩ := setCells_same g (inner.drop (i * 6)) ((i + 1) * 6) w.drew
      have hsz : ((w.drew.setCells g ((i + 1) * 6) (inner.drop (i * 6))).setCells g (i * 6) vin).heap.size = w.heap.size := a4.trans (b4.trans rfl)
      have ht := ins_list2 (C := cur.toList) (X := inner.take (i * 6)) (V := vin) (D := inner.drop (i * 6)) (c1 := cur1.toList) (c2 := cur2.toList) (a := i * 6) (by rw [← htk, List.take_take, Nat.min_eq_left (by omega)]) hX (by rw [Array.length_toList, hcs]; omega) hlen2 (by rw [hl1, show (i + 1) * 6 = i * 6 + 6 by omega]) hl2
      refine ⟨_, rfl, ⟨fun k hk => ?_, _, ⟨hlr, .inr ⟨g, cap, cur2, by rw [hll], hg, hh2, by rw [hll]; exact hroom, hcm, by rw [hs2, hs1]; exact hcs, ?_⟩⟩, hrr _ _⟩, keep2 _ (hfar vb hvb), ⟨a1.trans (b1.trans hB.os), a2.trans (b2.trans hB.tape), a3.trans (b3.trans hB.output), by rw [hsz]; exact hB.size, fun k hk => (hfar k (by omega)).trans (hB.block k hk)⟩, by rw [hsz]; exact Nat.le_refl _, fun k _ hk => hfar k (fun e => hk (.inl (by rw [e]; exact hgP)))⟩
      · have e : g = k := Option.some.inj hk
        rw [← e]
        exact ⟨.inl (.inl hgP), fun e2 => hvb (Option.some.inj e2).symm⟩
      · rw [hll, ← ht, hD]; show List.take ((l0.length + 1) * 6) _ = _; congr 1; omega
    · obtain rfl : cap = l0.length := by omega
      refine (ins_grow i l0.length g vb vcap inner vin cur vcur w hlt h2 hvb hlen hlen2 hh hcs htk hvh hvtk one1 one2).mono ?_
      rintro e w' ⟨G, ROW, rfl, hG1, hG2, hRs, hRt, rfl⟩
      have hnew : ((w.alloc (.cells ROW 36)).drew).heap[w.heap.size]? = some (.cells ROW 36 (0, 0)) := by
        show (w.heap.push (.cells ROW 36))[w.heap.size]? = _
        exact Array.getElem?_push_size
      obtain ⟨cur1, hh1, hs1, hl1⟩ := setCells_row vin (i * 6) _ ROW hnew (by rw [hlen2, hRs]; omega)
      obtain ⟨cur2, hh2, hs2, hl2⟩ := setCells_row (inner.drop (i * 6)) ((i + 1) * 6) _ cur1 (blk_drew hh1) (by rw [hD, hs1, hRs]; omega)
      have hfar : ∀ k, k < w.heap.size → ((((w.alloc (.cells ROW 36)).drew.setCells w.heap.size (i * 6) vin).drew).setCells w.heap.size ((i + 1) * 6) (inner.drop (i * 6))).heap[k]? = w.heap[k]? := fun k hk => by
        rw [setCells_far _ _ k (by omega)]
        show ((w.alloc (.cells ROW 36)).drew.setCells w.heap.size (i * 6) vin).heap[k]? = _
        rw [setCells_far _ _ k (by omega)]
        exact Below.heap_alloc w _ k hk
      obtain ⟨a1, a2, a3, a4⟩ := setCells_same w.heap.size (inner.drop (i * 6)) ((i + 1) * 6) (((w.alloc (.cells ROW 36)).drew.setCells w.heap.size (i * 6) vin).drew)
      obtain ⟨b1, b2, b3, b4⟩ := setCells_same w.heap.size vin (i * 6) (w.alloc (.cells ROW 36)).drew
      have hsz : ((((w.alloc (.cells ROW 36)).drew.setCells w.heap.size (i * 6) vin).drew).setCells w.heap.size ((i + 1) * 6) (inner.drop (i * 6))).heap.size = w.heap.size + 1 := by
        rw [a4]
        show ((w.alloc (.cells ROW 36)).drew.setCells w.heap.size (i * 6) vin).heap.size = _
        rw [b4]
        show (w.alloc (.cells ROW 36)).heap.size = _
        simp
      have ht := ins_list1 (R := ROW.toList) (X := inner.take (i * 6)) (V := vin) (D := inner.drop (i * 6)) (c1 := cur1.toList) (c2 := cur2.toList) (a := i * 6) hRt hX hlen2 hl1 (by rw [hl2, show (i + 1) * 6 = i * 6 + 6 by omega])
      have hbs := hB.size
      refine ⟨_, rfl, ⟨fun k hk => ?_, _, ⟨hlr, .inr ⟨w.heap.size, G, cur2, by rw [hll], hbs, hh2, by rw [hll]; exact hG1, hG2, by rw [hs2, hs1]; exact hRs, ?_⟩⟩, hrr _ _⟩, keep2 _ (hfar vb hvlt), ⟨a1.trans (b1.trans hB.os), a2.trans (b2.trans hB.tape), a3.trans (b3.trans hB.output), by rw [hsz]; omega, fun k hk => (hfar k (by omega)).trans (hB.block k hk)⟩, by rw [hsz]; omega, fun k hk _ => hfar k hk⟩
      · have e : w.heap.size = k := Option.some.inj hk
        rw [← e]
        exact ⟨.inr (Nat.le_refl _), fun e2 => by have e3 : w.heap.size = vb := Option.some.inj e2; omega⟩
      · rw [hll, ← ht, hD]; show List.take ((l0.length + 1) * 6) _ = _; congr 1; omega


/-! ### impl_Pipe_28: function 28 -/
open Go.Proofs.YtcnbceiiimmgaaaM
def impl_Pipe_28.f (l0 : List S36) : Option (List S36) := if l0.length < 2513169434916 then some l0 else none
set_option maxHeartbeats 8000000 in
set_option maxRecDepth 100000 in
theorem impl_Pipe_28.calls (A0 : Option Addr) (c0 : Nat) (l0 : List S36) (r : List S36) (w : World) (hr0 : Kd.C k36 w A0 l0.length l0) (hc0 : l0.length ≤ c0) (h : impl_Pipe_28.f l0 = some r) :
    Calls Try.prog 28 #[.slice A0 l0.length c0] w fun e w' => ∃ v0_ : Value, e = .returned (v0_) ∧ Kd.R k36 36 w' w.heap.size (fun _ => True) v0_ r ∧ Below w.heap.size w w' := by
  unfold impl_Pipe_28.f at h
  split at h
  case isFalse => exact absurd h (by simp)
  rename_i hl
  obtain rfl := Option.some.inj h;clear h;have HB := Aside0.mk (Below.refl w.heap.size w)
  cases A0 with
  | none =>
    have e0 : l0 = [] := by
      cases l0 with
      | nil => rfl
      | cons x l => obtain ⟨ad, h, _⟩ := hr0.2.2 (by simp); cases h
    subst e0;clear hr0 hl;(have hq : ∀ W, (binOp .eql 30 (.slice none 0 c0) (.slice none 0 0)).run Try.prog W = .ok (.bool true) W := fun W => Lib.run_eql_slice_nil W 30 36 none 0 c0 0 0 Try.underlying30);go_enter Try.func28, Try.ntmps28;go_wp2;go_ret;exact ⟨_, rfl, Kd.R_nil _ _ _ _ _, by repeat (first | exact HB.out | apply below_alloc | apply pw_below_drewN | apply below_drew1)⟩
  | some a =>
    have HR0 := Aside0.mk hr0;obtain ⟨y169, hy169⟩ : ∃ y_ : List S36, y_ = ([] : List S36) := ⟨_, rfl⟩;obtain ⟨y172, hy172⟩ : ∃ y_ : List S36, y_ = (y169 ++ l0) := ⟨_, rfl⟩;have Ny169 := Aside0.mk hy169;have Ny172 := Aside0.mk hy172;have LMc2 : Aside0 (y169.length + l0.length < 2513169434916) := ⟨by rw [hy169]; simpa using hl⟩;have HY : Aside0 (y172 = l0) := ⟨by rw [hy172, hy169]; rfl⟩;clear hr0 hl hy169 hy172;(have hq : ∀ W, (binOp .eql 30 (.slice (some a) l0.length c0) (.slice none 0 0)).run Try.prog W = .ok (.bool false) W := fun W => Lib.run_eql_slice_nil W 30 36 (some a) l0.length c0 0 0 Try.underlying30);go_enter Try.func28, Try.ntmps28
    go_wp2_with (first | ((with_reducible refine gate_dst (N := 5) rfl ?_); refine Kd.R_lit k36 _ 36 ?hg (N := 5) ?hd (xs := ([] : List S36)) (inner := []) (ok := fun _ => True) (okp := fun _ => True) ?hr ?hp (fun _ hk => hk) trivial (Below.refl _ _) (Nat.le_refl _) (by simp) ?_; (case hd => rfl); (case hg => rfl); (case hr => first | (go_simp; done) | (go_simp; rfl)); (case hp => exact (Reps.none _ _)); intro v170 w3 ho4 hb hg_ hnew_; clear hg_ hnew_; (first | rw [← Ny169.out] at ho4 | (simp only [Int.reduceToNat] at ho4; rw [← Ny169.out] at ho4)); have HO171 := Aside0.mk (Kd.R_lower ho4 (below_size (z64_))); replace HB := Aside0.mk (below_step (z64_) hb); clear hb ho4) | ((with_reducible refine gate_builtin (b := .append) (xs := #[.tmp 5, .tmp 6]) rfl ?_); at_builtin; refine Kd.R_append_rows k36 (w0 := w) w.heap.size rfl (.tmp 5) (.tmp 6) 30 36 (.agg #[(.string ⟨#[]⟩), (.int .i64 0), (.int .i64 0), (.int .i64 0), (.int .i64 0), (.int .i64 0)]) 56 rfl Try.underlying30 info36 rfl (by decide) (by omega) v170 y169 l0 _ _ _ (fun _ => True) (fun _ => False) rfl rfl ?aO ?aR (fun _ _ h => h) (fun _ h => h.elim) ?aF ?aB ?aS ?aL ?_; (case aR => repeat (first | exact (Kd.C_below HR0.out HB.out) | (with_reducible refine Kd.C_alloc ?_ _) | (with_reducible refine Kd.C_drewN ?_ _) | (with_reducible refine Kd.C_drew ?_))); (case aB => exact (z64_)); (case aF => exact (fun _ _ => trivial)); (case aO => exact (by (with_reducible repeat (first | apply Kd.R_alloc | apply Kd.R_drewN | apply Kd.R_drew)); exact HO171.out)); (case aS => exact (below_size (z64_))); (case aL => have := LMc2.out; omega); intro v173 w5 ho hb hg hat; rw [← Ny172.out] at ho; have n0_ := Aside0.mk (hb); have n1_ := Aside0.mk (ho); clear HB; clear HO171; have HB := n0_; have HO174 := n1_; clear n0_ n1_; clear ho hb hg hat))
    go_ret;exact ⟨_, rfl, z242_, z64_⟩

end Go.Proofs.Ytcnbceiiimmgaaa.PFnExactAddPipe
