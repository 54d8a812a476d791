/- Plain laws on distances in a graph of numbers: by a queue, and layer by layer. No program in sight. No condition. -/
import Derived.Test.YtcgbagdpedpdpaaMathH
namespace Go.Proofs.YtcgbagdpedpdpaaM
set_option linter.unusedVariables false
set_option linter.unusedSimpArgs false
inductive Dn (E : Int → Int → Prop) (s : Int) : Nat → Int → Prop
  | zero : Dn E s 0 s
  | step {d : Nat} {y x : Int} : Dn E s d y → E y x → Dn E s (d + 1) x
theorem Dn.last {E : Int → Int → Prop} {s : Int} {d : Nat} {x : Int} (h : Dn E s (d + 1) x) : ∃ y, Dn E s d y ∧ E y x := by
  cases h with
  | step h e => exact ⟨_, h, e⟩
theorem Dn.none {E : Int → Int → Prop} {s x : Int} (h : Dn E s 0 x) : x = s := by cases h; rfl
theorem lb_set {l : List Int} {y x v : Int} (y0 : 0 ≤ y) (y1 : y < l.length) (x0 : 0 ≤ x) : lb (l.set y.toNat v) x = if x = y then v else lb l x := by
  unfold lb
  by_cases c : x = y
  · subst c
    rw [if_pos rfl, List.getD_eq_getElem?_getD, List.getElem?_set_self (by omega)]; rfl
  · rw [if_neg c, List.getD_eq_getElem?_getD, List.getElem?_set_ne (by omega), ← List.getD_eq_getElem?_getD]
def negs (l : List Int) : Nat := l.countP fun v => decide (v < 0)
theorem negs_set : ∀ (l : List Int) (i : Nat) (v : Int), i < l.length → l.getD i 0 < 0 → 0 ≤ v → negs (l.set i v) + 1 = negs l
  | [], i, v, h, _, _ => by simp at h
  | a :: l, 0, v, _, h, hv => by
    have h' : a < 0 := by simpa using h
    have hv' : ¬ v < 0 := by omega
    simp [negs, List.countP_cons, h', hv']
  | a :: l, i + 1, v, h, h', hv => by
    have ih := negs_set l i v (by simpa using h) (by simpa using h') hv
    unfold negs at *
    simp only [List.set_cons_succ, List.countP_cons]
    omega
def fsweep (es : List (Int × Int)) (h : Int) : Nat → Nat → List Int × List Int → List Int × List Int
  | 0, _, st => st
  | d + 1, i, st =>
    match oth (es.getD i (0, 0)) h with
    | some y => if lb st.1 y < 0 then fsweep es h d (i + 1) (st.1.set y.toNat (lb st.1 h + 1), st.2 ++ [y]) else fsweep es h d (i + 1) st
    | none => fsweep es h d (i + 1) st
def fbfs (es : List (Int × Int)) : Nat → List Int × List Int → List Int
  | 0, st => st.1
  | f + 1, st => match st.2 with
    | [] => st.1
    | h :: _ => fbfs es f ((fsweep es h es.length 0 st).1, (fsweep es h es.length 0 st).2.drop 1)
abbrev EO (es : List (Int × Int)) (m : Nat) : Int → Int → Prop := EL es (fun _ => false) m
structure Que (es : List (Int × Int)) (n : Nat) (s : Int) (far work : List Int) (h : Int) (m : Nat) : Prop where
  len : far.length = n
  wr : ∀ w ∈ work, (0 ≤ w ∧ w < n) ∧ 0 ≤ lb far w
  val : ∀ x : Int, 0 ≤ x → x < n → lb far x = -1 ∨ (0 ≤ lb far x ∧ Dn (EO es es.length) s (lb far x).toNat x)
  src : 0 ≤ s ∧ lb far s = 0
  done : ∀ x : Int, 0 ≤ x → x < n → 0 ≤ lb far x → x ∉ work → ∀ y, EO es es.length x y → 0 ≤ lb far y ∧ lb far y ≤ lb far x + 1
  part : ∀ y, EO es m h y → 0 ≤ lb far y ∧ lb far y ≤ lb far h + 1
  sort : work.Pairwise fun a b => lb far a ≤ lb far b
  top : ∀ x : Int, 0 ≤ x → x < n → lb far x ≤ lb far h + 1
  few : ∀ x : Int, 0 ≤ x → x < n → lb far x + 1 + negs far ≤ n
theorem que_label {es : List (Int × Int)} {n : Nat} {s : Int} {far work : List Int} {h : Int} {i : Nat} (hE : EndsIn es n) (hi : i < es.length) {y : Int} (hy : oth (es.getD i (0, 0)) h = some y) (hh : h ∈ work)
    (q : Que es n s far work h i) (hn : lb far y < 0) : Que es n s (far.set y.toNat (lb far h + 1)) (work ++ [y]) h (i + 1) := by
  have hyr := hE.oth hi hy
  have hhr := q.wr h hh
  have hne : h ≠ y := fun e => by rw [e] at hhr; omega
  have hle : ∀ x : Int, 0 ≤ x → lb (far.set y.toNat (lb far h + 1)) x = if x = y then lb far h + 1 else lb far x := fun x x0 => lb_set hyr.1 (by rw [q.len]; exact hyr.2) x0
  have hE1 : EO es es.length h y := ⟨i, hi, hi, rfl, hy⟩
  have hneg := negs_set far y.toNat (lb far h + 1) (by have := q.len; omega) hn (by omega)
  have hEr : ∀ a b, EO es es.length a b → 0 ≤ b ∧ b < n := fun a b ⟨j, h1, h2, _, h4⟩ => hE.oth h2 h4
  refine ⟨by rw [List.length_set]; exact q.len, ?_, ?_, ?_, ?_, ?_, ?_, ?_, ?_⟩
  · intro w hw
    rcases List.mem_append.1 hw with g | g
    · have := q.wr w g
      refine ⟨this.1, ?_⟩
      rw [hle w this.1.1]; split <;> omega
    · rw [List.mem_singleton.1 g]
      exact ⟨hyr, by rw [hle y hyr.1, if_pos rfl]; omega⟩
  · intro x x0 x1
    rw [hle x x0]
    by_cases c : x = y
    · subst c
      rw [if_pos rfl]
      have hv := (q.val h hhr.1.1 hhr.1.2).resolve_left (by omega)
      refine .inr ⟨by omega, ?_⟩
      rw [show (lb far h + 1).toNat = (lb far h).toNat + 1 by omega]
      exact hv.2.step hE1
    · rw [if_neg c]; exact q.val x x0 x1
  · refine ⟨q.src.1, ?_⟩
    rw [hle s q.src.1, if_neg (fun e => by have := q.src.2; rw [e] at this; omega)]
    exact q.src.2
  · intro x x0 x1 hx hw z hz
    have hzr := hEr x z hz
    have hxy : x ≠ y := fun e => hw (List.mem_append_right _ (by rw [e]; exact List.mem_singleton_self _))
    rw [hle x x0, if_neg hxy] at hx ⊢
    have hd := q.done x x0 x1 hx (fun g => hw (List.mem_append_left _ g)) z hz
    rw [hle z hzr.1]
    have hzy : z ≠ y := fun e => by rw [e] at hd; omega
    rw [if_neg hzy]
    exact hd
  · rintro z ⟨j, h1, h2, h3, h4⟩
    have hzr := hE.oth h2 h4
    rw [hle z hzr.1, hle h hhr.1.1, if_neg hne]
    by_cases c : z = y
    · rw [if_pos c]; omega
    · rw [if_neg c]
      by_cases e : j = i
      · subst e; rw [hy] at h4; exact absurd (Option.some.inj h4).symm c
      · exact q.part z ⟨j, by omega, h2, h3, h4⟩
  · rw [List.pairwise_append]
    refine ⟨?_, List.pairwise_singleton _ _, ?_⟩
    · refine q.sort.imp_of_mem fun {a b} ha hb hab => ?_
      have ra := q.wr a ha
      have rb := q.wr b hb
      have ea : a ≠ y := fun e => by rw [e] at ra; omega
      have eb : b ≠ y := fun e => by rw [e] at rb; omega
      rw [hle a ra.1.1, hle b rb.1.1, if_neg ea, if_neg eb]
      exact hab
    · intro a ha b hb
      rw [List.mem_singleton.1 hb]
      have ra := q.wr a ha
      have ea : a ≠ y := fun e => by rw [e] at ra; omega
      rw [hle a ra.1.1, hle y hyr.1, if_neg ea, if_pos rfl]
      exact q.top a ra.1.1 ra.1.2
  · intro x x0 x1
    rw [hle x x0, hle h hhr.1.1, if_neg hne]
    have := q.top x x0 x1
    split <;> omega
  · intro x x0 x1
    rw [hle x x0]
    have h1 := q.few x x0 x1
    have h2 := q.few h hhr.1.1 hhr.1.2
    split <;> omega
theorem que_skip {es : List (Int × Int)} {n : Nat} {s : Int} {far work : List Int} {h : Int} {i : Nat} (q : Que es n s far work h i) (hk : ∀ y, oth (es.getD i (0, 0)) h = some y → 0 ≤ lb far y ∧ lb far y ≤ lb far h + 1) : Que es n s far work h (i + 1) :=
  ⟨q.len, q.wr, q.val, q.src, q.done, fun y ⟨j, h1, h2, h3, h4⟩ => by
    by_cases e : j = i
    · subst e; exact hk y h4
    · exact q.part y ⟨j, by omega, h2, h3, h4⟩, q.sort, q.top, q.few⟩
theorem fsweep_spec {es : List (Int × Int)} {n : Nat} {s h : Int} (hE : EndsIn es n) : ∀ (d i : Nat) (far work : List Int), i + d = es.length → h ∈ work → Que es n s far work h i →
    ∃ far' ext, fsweep es h d i (far, work) = (far', work ++ ext) ∧ Que es n s far' (work ++ ext) h es.length ∧ negs far' + ext.length = negs far
  | 0, i, far, work, hd, hh, q => ⟨far, [], by simp [fsweep], by rw [List.append_nil, show es.length = i by omega]; exact q, by simp⟩
  | d + 1, i, far, work, hd, hh, q => by
    simp only [fsweep]
    have skip : (∀ y, oth (es.getD i (0, 0)) h = some y → 0 ≤ lb far y ∧ lb far y ≤ lb far h + 1) → ∃ far' ext, fsweep es h d (i + 1) (far, work) = (far', work ++ ext) ∧ Que es n s far' (work ++ ext) h es.length ∧ negs far' + ext.length = negs far :=
      fun hk => fsweep_spec hE d (i + 1) far work (by omega) hh (que_skip q hk)
    split
    · rename_i y ho
      by_cases c : lb far y < 0
      · rw [if_pos c]
        obtain ⟨far', ext, e1, e2, e3⟩ := fsweep_spec hE d (i + 1) (far.set y.toNat (lb far h + 1)) (work ++ [y]) (by omega) (List.mem_append_left _ hh) (que_label hE (by omega) ho hh q c)
        have hyr := hE.oth (by omega) ho
        have hneg := negs_set far y.toNat (lb far h + 1) (by have := q.len; omega) c (by have := (q.wr h hh).2; omega)
        refine ⟨far', y :: ext, by rw [e1]; simp, by simpa using e2, by simp only [List.length_cons]; omega⟩
      · rw [if_neg c]
        refine skip fun z hz => ?_
        rw [ho] at hz
        obtain rfl := Option.some.inj hz
        have hyr := hE.oth (by omega) ho
        exact ⟨by omega, q.top y hyr.1 hyr.2⟩
    · rename_i ho
      exact skip fun z hz => by rw [ho] at hz; exact absurd hz (by simp)
theorem que_next {es : List (Int × Int)} {n : Nat} {s h : Int} {far far' r ext : List Int} (hE : EndsIn es n) (e2 : Que es n s far' (h :: r ++ ext) h es.length) : ∀ h' r', r ++ ext = h' :: r' → Que es n s far' (r ++ ext) h' 0 := by
  have hdone : ∀ x : Int, 0 ≤ x → x < n → 0 ≤ lb far' x → x ∉ r ++ ext → ∀ y, EO es es.length x y → 0 ≤ lb far' y ∧ lb far' y ≤ lb far' x + 1 := by
    intro x x0 x1 hx hw y hy
    by_cases c : x = h
    · subst c; exact e2.part y hy
    · exact e2.done x x0 x1 hx (fun g => by rcases List.mem_cons.1 (by simpa using g : x ∈ h :: (r ++ ext)) with g' | g'; exact c g'; exact hw g') y hy
  have hwr : ∀ w ∈ r ++ ext, (0 ≤ w ∧ w < (n : Int)) ∧ 0 ≤ lb far' w := fun w hw => e2.wr w (by simp at hw ⊢; exact .inr hw)
  have hsort : (h :: (r ++ ext)).Pairwise fun a b => lb far' a ≤ lb far' b := by simpa using e2.sort
  obtain ⟨hs1, hs2⟩ := List.pairwise_cons.1 hsort
  intro h' r' he
  have hm : h' ∈ r ++ ext := by rw [he]; exact List.mem_cons_self
  exact ⟨e2.len, hwr, e2.val, e2.src, hdone, fun y ⟨j, h1, _⟩ => by omega, hs2, fun x x0 x1 => by have := e2.top x x0 x1; have := hs1 h' hm; omega, e2.few⟩
structure IsFar (es : List (Int × Int)) (n : Nat) (s : Int) (far : List Int) : Prop where
  len : far.length = n
  at_ : ∀ x : Int, 0 ≤ x → x < n → (lb far x = -1 ∧ ∀ e, ¬ Dn (EO es es.length) s e x) ∨ (∃ d : Nat, lb far x = d ∧ d < n ∧ Dn (EO es es.length) s d x ∧ ∀ e, Dn (EO es es.length) s e x → d ≤ e)
theorem fbfs_spec {es : List (Int × Int)} {n : Nat} {s : Int} (hE : EndsIn es n) (s0 : 0 ≤ s) (s1 : s < n) : ∀ (f : Nat) (far work : List Int), negs far + work.length < f →
    (∀ h r, work = h :: r → Que es n s far work h 0) → (work = [] → ∃ h : Int, 0 ≤ h ∧ h < n ∧ Que es n s far [] h 0) → IsFar es n s (fbfs es f (far, work))
  | 0, far, work, hf, _, _ => by omega
  | f + 1, far, [], hf, _, hq => by
    obtain ⟨h, _, _, q⟩ := hq rfl
    simp only [fbfs]
    have key : ∀ e x, Dn (EO es es.length) s e x → (0 ≤ x ∧ x < n) ∧ 0 ≤ lb far x ∧ lb far x ≤ e := by
      intro e x hd
      induction hd with
      | zero => exact ⟨⟨s0, s1⟩, by rw [q.src.2]; omega, by rw [q.src.2]; omega⟩
      | step _ e1 ih =>
        have hz := q.done _ ih.1.1 ih.1.2 ih.2.1 (by simp) _ e1
        obtain ⟨j, h1, h2, h3, h4⟩ := e1
        exact ⟨hE.oth h2 h4, hz.1, by omega⟩
    refine ⟨q.len, fun x x0 x1 => ?_⟩
    rcases q.val x x0 x1 with g | g
    · exact .inl ⟨g, fun e he => by have := (key e x he).2.1; omega⟩
    · have hfew := q.few x x0 x1
      exact .inr ⟨(lb far x).toNat, by omega, by omega, g.2, fun e he => by have := (key e x he).2.2; omega⟩
  | f + 1, far, h :: r, hf, hq, _ => by
    have q := hq h r rfl
    simp only [fbfs]
    obtain ⟨far', ext, e1, e2, e3⟩ := fsweep_spec hE es.length 0 far (h :: r) (by omega) List.mem_cons_self q
    rw [e1]
    show IsFar es n s (fbfs es f (far', (h :: r ++ ext).drop 1))
    have hd : (h :: r ++ ext).drop 1 = r ++ ext := by simp
    rw [hd]
    have hh := e2.wr h (by simp)
    have hdone : ∀ x : Int, 0 ≤ x → x < n → 0 ≤ lb far' x → x ∉ r ++ ext → ∀ y, EO es es.length x y → 0 ≤ lb far' y ∧ lb far' y ≤ lb far' x + 1 := by
      intro x x0 x1 hx hw y hy
      by_cases c : x = h
      · subst c; exact e2.part y hy
      · exact e2.done x x0 x1 hx (fun g => by rcases List.mem_cons.1 (by simpa using g : x ∈ h :: (r ++ ext)) with g' | g'; exact c g'; exact hw g') y hy
    have hwr : ∀ w ∈ r ++ ext, (0 ≤ w ∧ w < (n : Int)) ∧ 0 ≤ lb far' w := fun w hw => e2.wr w (by simp at hw ⊢; exact .inr hw)
    have hsort : (h :: (r ++ ext)).Pairwise fun a b => lb far' a ≤ lb far' b := by simpa using e2.sort
    obtain ⟨hs1, hs2⟩ := List.pairwise_cons.1 hsort
    refine fbfs_spec hE s0 s1 f far' (r ++ ext) (by simp only [List.length_cons] at hf; rw [List.length_append]; omega) ?_ ?_
    · intro h' r' he
      have hm : h' ∈ r ++ ext := by rw [he]; exact List.mem_cons_self
      exact ⟨e2.len, hwr, e2.val, e2.src, hdone, fun y ⟨j, h1, _⟩ => by omega, hs2, fun x x0 x1 => by have := e2.top x x0 x1; have := hs1 h' hm; omega, e2.few⟩
    · intro he
      rw [he] at hdone
      exact ⟨h, hh.1.1, hh.1.2, e2.len, fun w hw => by simp at hw, e2.val, e2.src, hdone, fun y ⟨j, h1, _⟩ => by omega, List.Pairwise.nil, e2.top, e2.few⟩
theorem lb_rep {n : Nat} {x v : Int} (x0 : 0 ≤ x) (x1 : x < n) : lb (List.replicate n v) x = v := by
  unfold lb
  rw [List.getD_eq_getElem?_getD, List.getElem?_replicate, if_pos (by omega)]; rfl
theorem negs_rep (n : Nat) : negs (List.replicate n (-1)) = n := by
  unfold negs
  rw [List.countP_replicate]; simp
theorem que_start {es : List (Int × Int)} {n : Nat} {s : Int} (s0 : 0 ≤ s) (s1 : s < n) : negs ((List.replicate n (-1)).set s.toNat 0) + 1 = n ∧ Que es n s ((List.replicate n (-1)).set s.toNat 0) [s] s 0 := by
  have hneg := negs_set (List.replicate n (-1)) s.toNat 0 (by simp; omega) (by have := lb_rep (v := -1) s0 s1; unfold lb at this; omega) (by omega)
  rw [negs_rep] at hneg
  refine ⟨hneg, ?_⟩
  have hle : ∀ x : Int, 0 ≤ x → lb ((List.replicate n (-1)).set s.toNat 0) x = if x = s then 0 else lb (List.replicate n (-1)) x := fun x x0 => lb_set s0 (by simpa using s1) x0
  have hss : lb ((List.replicate n (-1)).set s.toNat 0) s = 0 := by rw [hle s s0, if_pos rfl]
  refine ⟨by simp, fun w hw => ?_, fun x x0 x1 => ?_, ⟨s0, hss⟩, fun x x0 x1 hx hw => ?_, fun y ⟨j, h1, _⟩ => by omega, List.pairwise_singleton _ _, fun x x0 x1 => ?_, fun x x0 x1 => ?_⟩
  · rw [List.mem_singleton.1 hw]; exact ⟨⟨s0, s1⟩, by rw [hss]; exact Int.le_refl _⟩
  · rw [hle x x0]
    by_cases c : x = s
    · subst c; rw [if_pos rfl]; exact .inr ⟨Int.le_refl _, .zero⟩
    · rw [if_neg c, lb_rep x0 x1]; exact .inl rfl
  · exfalso
    have c : x ≠ s := fun e => hw (by rw [e]; exact List.mem_singleton_self _)
    rw [hle x x0, if_neg c, lb_rep x0 x1] at hx
    omega
  · rw [hss, hle x x0]
    split
    · omega
    · rw [lb_rep x0 x1]; omega
  · rw [hle x x0]
    split
    · omega
    · rw [lb_rep x0 x1]; omega
theorem fbfs_far {es : List (Int × Int)} {n : Nat} {s : Int} (hE : EndsIn es n) (s0 : 0 ≤ s) (s1 : s < n) {f : Nat} (hf : n < f) : IsFar es n s (fbfs es f ((List.replicate n (-1)).set s.toNat 0, [s])) := by
  obtain ⟨hneg, q⟩ := que_start (es := es) s0 s1
  refine fbfs_spec hE s0 s1 f _ _ (by simp only [List.length_singleton]; omega) ?_ (fun h => by simp at h)
  intro h r he
  obtain ⟨rfl, rfl⟩ := List.cons.inj he
  exact q
def layer (es : List (Int × Int)) (t : Int) : Nat → Nat → List Int → List Int
  | 0, _, far => far
  | d + 1, i, far =>
    let far1 := if lb far (es.getD i (0, 0)).1 = t ∧ lb far (es.getD i (0, 0)).2 < 0 then far.set (es.getD i (0, 0)).2.toNat (t + 1) else far
    let far2 := if lb far1 (es.getD i (0, 0)).2 = t ∧ lb far1 (es.getD i (0, 0)).1 < 0 then far1.set (es.getD i (0, 0)).1.toNat (t + 1) else far1
    layer es t d (i + 1) far2
def layers (es : List (Int × Int)) : Nat → Nat → List Int → List Int
  | 0, _, far => far
  | d + 1, t, far => layers es d (t + 1) (layer es (t : Int) es.length 0 far)
structure Lay (es : List (Int × Int)) (n : Nat) (s : Int) (t i : Nat) (far : List Int) : Prop where
  len : far.length = n
  at_ : ∀ x : Int, 0 ≤ x → x < n →
    (∃ d : Nat, d ≤ t ∧ lb far x = d ∧ Dn (EO es es.length) s d x ∧ ∀ e, e < d → ¬ Dn (EO es es.length) s e x) ∨
    (lb far x = (t : Int) + 1 ∧ Dn (EO es es.length) s (t + 1) x ∧ ∀ e, e ≤ t → ¬ Dn (EO es es.length) s e x) ∨
    (lb far x = -1 ∧ (∀ e, e ≤ t → ¬ Dn (EO es es.length) s e x) ∧ ∀ y, EO es i y x → lb far y ≠ (t : Int))
theorem lay_put {es : List (Int × Int)} {n : Nat} {s : Int} {t i : Nat} {far : List Int} (hE : EndsIn es n) (q : Lay es n s t i far) {a b : Int} (he : EO es es.length a b) (ha : 0 ≤ a ∧ a < n) (hb : 0 ≤ b ∧ b < n) (h1 : lb far a = t) (h2 : lb far b < 0) :
    Lay es n s t i (far.set b.toNat ((t : Int) + 1)) := by
  have hle : ∀ x : Int, 0 ≤ x → lb (far.set b.toNat ((t : Int) + 1)) x = if x = b then (t : Int) + 1 else lb far x := fun x x0 => lb_set hb.1 (by rw [q.len]; exact hb.2) x0
  refine ⟨by rw [List.length_set]; exact q.len, fun x x0 x1 => ?_⟩
  rw [hle x x0]
  by_cases c : x = b
  · subst c
    rw [if_pos rfl]
    have hd : Dn (EO es es.length) s t a := by
      rcases q.at_ a ha.1 ha.2 with ⟨d, _, e2, e3, _⟩ | ⟨e1, _⟩ | ⟨e1, _⟩
      · have : d = t := by omega
        rw [← this]; exact e3
      · omega
      · omega
    have hno : ∀ e, e ≤ t → ¬ Dn (EO es es.length) s e x := by
      rcases q.at_ x x0 x1 with ⟨d, _, e2, _⟩ | ⟨e1, _⟩ | ⟨_, e2, _⟩
      · omega
      · omega
      · exact e2
    exact .inr (.inl ⟨rfl, hd.step he, hno⟩)
  · rw [if_neg c]
    rcases q.at_ x x0 x1 with g | g | ⟨g1, g2, g3⟩
    · exact .inl g
    · exact .inr (.inl g)
    · refine .inr (.inr ⟨g1, g2, fun y hy => ?_⟩)
      obtain ⟨j, j1, j2, j3, j4⟩ := hy
      have yr : 0 ≤ y ∧ y < n := hE.oth j2 (oth_symm j4)
      rw [hle y yr.1]
      split
      · omega
      · exact g3 y ⟨j, j1, j2, j3, j4⟩
theorem layer_spec {es : List (Int × Int)} {n : Nat} {s : Int} {t : Nat} (hE : EndsIn es n) : ∀ (d i : Nat) (far : List Int), i + d = es.length → Lay es n s t i far → Lay es n s t es.length (layer es (t : Int) d i far)
  | 0, i, far, hd, q => by
    simp only [layer]
    rw [show i = es.length by omega] at q
    exact q
  | d + 1, i, far, hd, q => by
    simp only [layer]
    have he := hE i (by omega)
    generalize hA : (es.getD i (0, 0)).1 = a at *
    generalize hB : (es.getD i (0, 0)).2 = b at *
    have e12 : EO es es.length a b := ⟨i, by omega, by omega, rfl, oth_of (.inl ⟨hA.symm, hB.symm⟩)⟩
    have e21 : EO es es.length b a := ⟨i, by omega, by omega, rfl, oth_of (.inr ⟨hB.symm, hA.symm⟩)⟩
    have q1 : Lay es n s t i (if lb far a = (t : Int) ∧ lb far b < 0 then far.set b.toNat ((t : Int) + 1) else far) := by
      split
      · rename_i c; exact lay_put hE q e12 he.1 he.2 c.1 c.2
      · exact q
    have f1 : lb (if lb far a = (t : Int) ∧ lb far b < 0 then far.set b.toNat ((t : Int) + 1) else far) a = (t : Int) → 0 ≤ lb (if lb far a = (t : Int) ∧ lb far b < 0 then far.set b.toNat ((t : Int) + 1) else far) b := by
      split
      · rename_i c
        intro _
        rw [lb_set he.2.1 (by rw [q.len]; exact he.2.2) he.2.1, if_pos rfl]; omega
      · rename_i c
        intro h
        have := fun g => c ⟨h, g⟩
        omega
    generalize (if lb far a = (t : Int) ∧ lb far b < 0 then far.set b.toNat ((t : Int) + 1) else far) = far1 at *
    have q2 : Lay es n s t i (if lb far1 b = (t : Int) ∧ lb far1 a < 0 then far1.set a.toNat ((t : Int) + 1) else far1) := by
      split
      · rename_i c; exact lay_put hE q1 e21 he.2 he.1 c.1 c.2
      · exact q1
    have f2 : (lb (if lb far1 b = (t : Int) ∧ lb far1 a < 0 then far1.set a.toNat ((t : Int) + 1) else far1) a = (t : Int) → 0 ≤ lb (if lb far1 b = (t : Int) ∧ lb far1 a < 0 then far1.set a.toNat ((t : Int) + 1) else far1) b) ∧
        (lb (if lb far1 b = (t : Int) ∧ lb far1 a < 0 then far1.set a.toNat ((t : Int) + 1) else far1) b = (t : Int) → 0 ≤ lb (if lb far1 b = (t : Int) ∧ lb far1 a < 0 then far1.set a.toNat ((t : Int) + 1) else far1) a) := by
      split
      · rename_i c
        rw [lb_set he.1.1 (by rw [q1.len]; exact he.1.2) he.1.1, lb_set he.1.1 (by rw [q1.len]; exact he.1.2) he.2.1, if_pos rfl]
        refine ⟨fun h => by omega, fun _ => by omega⟩
      · rename_i c
        exact ⟨f1, fun h => by have := fun g => c ⟨h, g⟩; omega⟩
    generalize (if lb far1 b = (t : Int) ∧ lb far1 a < 0 then far1.set a.toNat ((t : Int) + 1) else far1) = far2 at *
    refine layer_spec hE d (i + 1) far2 (by omega) ⟨q2.len, fun x x0 x1 => ?_⟩
    rcases q2.at_ x x0 x1 with g | g | ⟨g1, g2, g3⟩
    · exact .inl g
    · exact .inr (.inl g)
    · refine .inr (.inr ⟨g1, g2, ?_⟩)
      rintro y ⟨j, j1, j2, j3, j4⟩
      by_cases e : j = i
      · subst e
        intro hy
        rcases oth_ends j4 with ⟨k1, k2⟩ | ⟨k1, k2⟩
        · rw [hA] at k1; rw [hB] at k2; subst k1; subst k2
          have := f2.1 hy; omega
        · rw [hB] at k1; rw [hA] at k2; subst k1; subst k2
          have := f2.2 hy; omega
      · exact g3 y ⟨j, by omega, j2, j3, j4⟩
structure Upto (es : List (Int × Int)) (n : Nat) (s : Int) (t : Nat) (far : List Int) : Prop where
  len : far.length = n
  at_ : ∀ x : Int, 0 ≤ x → x < n →
    (∃ d : Nat, d ≤ t ∧ lb far x = d ∧ Dn (EO es es.length) s d x ∧ ∀ e, e < d → ¬ Dn (EO es es.length) s e x) ∨ (lb far x = -1 ∧ ∀ e, e ≤ t → ¬ Dn (EO es es.length) s e x)
theorem upto_next {es : List (Int × Int)} {n : Nat} {s : Int} {t : Nat} {far : List Int} (hE : EndsIn es n) (q : Upto es n s t far) : Upto es n s (t + 1) (layer es (t : Int) es.length 0 far) := by
  have hl : Lay es n s t 0 far := ⟨q.len, fun x x0 x1 => by
    rcases q.at_ x x0 x1 with g | g
    · exact .inl g
    · exact .inr (.inr ⟨g.1, g.2, fun y ⟨j, h1, _⟩ => by omega⟩)⟩
  have h := layer_spec hE es.length 0 far (by omega) hl
  generalize layer es (t : Int) es.length 0 far = far' at *
  refine ⟨h.len, fun x x0 x1 => ?_⟩
  rcases h.at_ x x0 x1 with ⟨d, g1, g2, g3, g4⟩ | ⟨g1, g2, g3⟩ | ⟨g1, g2, g3⟩
  · exact .inl ⟨d, by omega, g2, g3, g4⟩
  · exact .inl ⟨t + 1, Nat.le_refl _, by rw [g1]; push_cast; rfl, g2, fun e he => g3 e (by omega)⟩
  · refine .inr ⟨g1, fun e he hd => ?_⟩
    by_cases c : e ≤ t
    · exact g2 e c hd
    · have : e = t + 1 := by omega
      subst this
      obtain ⟨y, hy, hyx⟩ := hd.last
      have yr : 0 ≤ y ∧ y < n := by obtain ⟨j, _, j2, _, j4⟩ := hyx; exact hE.oth j2 (oth_symm j4)
      rcases h.at_ y yr.1 yr.2 with ⟨d, k1, k2, k3, k4⟩ | ⟨k1, k2, k3⟩ | ⟨k1, k2, k3⟩
      · by_cases c' : d = t
        · exact g3 y hyx (by rw [k2, c'])
        · exact g2 (d + 1) (by omega) (k3.step hyx)
      · exact k3 t (Nat.le_refl _) hy
      · exact k2 t (Nat.le_refl _) hy
theorem layers_spec {es : List (Int × Int)} {n : Nat} {s : Int} (hE : EndsIn es n) : ∀ (d t : Nat) (far : List Int), Upto es n s t far → Upto es n s (t + d) (layers es d t far)
  | 0, t, far, q => by simp only [layers]; exact q
  | d + 1, t, far, q => by
    simp only [layers]
    have := layers_spec hE d (t + 1) _ (upto_next hE q)
    rw [show t + (d + 1) = t + 1 + d by omega]
    exact this
theorem layers_far {es : List (Int × Int)} {n : Nat} {s : Int} (hE : EndsIn es n) (s0 : 0 ≤ s) (s1 : s < n) {far : List Int} (h : IsFar es n s far) : layers es n 0 ((List.replicate n (-1)).set s.toNat 0) = far := by
  have hle : ∀ x : Int, 0 ≤ x → lb ((List.replicate n (-1)).set s.toNat 0) x = if x = s then 0 else lb (List.replicate n (-1)) x := fun x x0 => lb_set s0 (by simpa using s1) x0
  have q0 : Upto es n s 0 ((List.replicate n (-1)).set s.toNat 0) := ⟨by simp, fun x x0 x1 => by
    rw [hle x x0]
    by_cases c : x = s
    · subst c; rw [if_pos rfl]; exact .inl ⟨0, Nat.le_refl _, rfl, .zero, fun e he => by omega⟩
    · rw [if_neg c, lb_rep x0 x1]
      refine .inr ⟨rfl, fun e he hd => ?_⟩
      have : e = 0 := by omega
      subst this
      exact c hd.none⟩
  have q := layers_spec hE n 0 _ q0
  rw [Nat.zero_add] at q
  generalize layers es n 0 ((List.replicate n (-1)).set s.toNat 0) = g at *
  have hp : ∀ x : Int, 0 ≤ x → x < n → lb g x = lb far x := by
    intro x x0 x1
    rcases q.at_ x x0 x1 with ⟨d, k1, k2, k3, k4⟩ | ⟨k1, k2⟩
    · rcases h.at_ x x0 x1 with ⟨l1, l2⟩ | ⟨d', l1, l2, l3, l4⟩
      · exact absurd k3 (l2 d)
      · have h1 := l4 d k3
        have h2 : d ≤ d' := Nat.le_of_not_lt fun g => k4 d' g l3
        rw [k2, l1]; omega
    · rcases h.at_ x x0 x1 with ⟨l1, l2⟩ | ⟨d', l1, l2, l3, l4⟩
      · rw [k1, l1]
      · exact absurd l3 (k2 d' (by omega))
  refine List.ext_getElem (by rw [q.len, h.len]) fun i h1 h2 => ?_
  have := hp (i : Int) (by omega) (by have := q.len; omega)
  unfold lb at this
  rw [Int.toNat_natCast, List.getD_eq_getElem?_getD, List.getD_eq_getElem?_getD, List.getElem?_eq_getElem h1, List.getElem?_eq_getElem h2] at this
  simpa using this
theorem far_nearer {es : List (Int × Int)} {n : Nat} {s : Int} (hE : EndsIn es n) {far : List Int} (h : IsFar es n s far) {x : Int} (x0 : 0 ≤ x) (x1 : x < n) (hx : 0 < lb far x) : ∃ i, i < es.length ∧ ∃ y, oth (es.getD i (0, 0)) x = some y ∧ lb far y = lb far x - 1 := by
  rcases h.at_ x x0 x1 with ⟨l1, l2⟩ | ⟨d, l1, l2, l3, l4⟩
  · omega
  · obtain ⟨d, rfl⟩ : ∃ m, d = m + 1 := ⟨d - 1, by omega⟩
    obtain ⟨y, hy, i, i1, i2, i3, i4⟩ := l3.last
    have yr := hE.oth i2 (oth_symm i4)
    refine ⟨i, i2, y, oth_symm i4, ?_⟩
    rcases h.at_ y yr.1 yr.2 with ⟨k1, k2⟩ | ⟨d', k1, k2, k3, k4⟩
    · exact absurd hy (k2 d)
    · have h1 := k4 d hy
      have h2 := l4 (d' + 1) (k3.step ⟨i, i1, i2, i3, i4⟩)
      rw [k1, l1]; omega
theorem far_zero {es : List (Int × Int)} {n : Nat} {s : Int} {far : List Int} (h : IsFar es n s far) {x : Int} (x0 : 0 ≤ x) (x1 : x < n) (hx : lb far x = 0) : x = s := by
  rcases h.at_ x x0 x1 with ⟨l1, l2⟩ | ⟨d, l1, l2, l3, l4⟩
  · omega
  · have : d = 0 := by omega
    subst this
    exact l3.none
theorem far_self {es : List (Int × Int)} {n : Nat} {s : Int} {far : List Int} (h : IsFar es n s far) (s0 : 0 ≤ s) (s1 : s < n) : lb far s = 0 := by
  rcases h.at_ s s0 s1 with ⟨l1, l2⟩ | ⟨d, l1, l2, l3, l4⟩
  · exact absurd Dn.zero (l2 0)
  · have := l4 0 .zero
    omega
end Go.Proofs.YtcgbagdpedpdpaaM
