/- Regions that draw their order and end in one operation L behind all others: what L leaves need not be of the class. No program in sight. -/
import Derived.Test.YtgigdpdmdldhnaaReg
namespace Go.Proofs.Ytgigdpdmdldhnaa
open Go
section
variable {P : Program} {ops : Array Oper} {md : Region.Mode} {C : World → Prop} {L : Nat}

/-- The class behind operation i: none behind the last. -/
def Behind (C : World → Prop) (L i : Nat) : World → Prop := fun w => i = L ∨ C w
theorem Behind.of {i : Nat} {w : World} (h : C w) : Behind C L i w := .inr h
theorem Behind.ne {i : Nat} {w : World} (h : Behind C L i w) (hi : i ≠ L) : C w := h.resolve_left hi

/-- Whatever order is picked from here on. -/
def wpAnyL (P : Program) (md : Region.Mode) (ops : Array Oper) (C : World → Prop) (L : Nat) (Q : Act → World → Prop) : Nat → Array Bool → Act → World → Prop
  | 0, listed, a, w => Region.ready md ops listed = [] ∧ Q a w
  | fuel + 1, listed, a, w =>
    (Region.ready md ops listed = [] → Q a w) ∧
    ∀ i ∈ Region.ready md ops listed, opC P ops (Behind C L i) i (wpAnyL P md ops C L Q fuel (listed.setIfInBounds i true)) a w

theorem wpAny_of_anyL {Q : Act → World → Prop} {Q' : Exit → Act → World → Prop} (hQ : ∀ a w, Q a w → Q' .normal a w) :
    ∀ (fuel : Nat) (listed : Array Bool) (a : Act) (w : World), wpAnyL P md ops C L Q fuel listed a w → wpAny P md ops Q' fuel listed a w
  | 0, _, _, _, h => ⟨h.1, hQ _ _ h.2⟩
  | fuel + 1, _, _, w, h => ⟨fun h0 => hQ _ _ (h.1 h0), fun i hi => by
      have h1 := h.2 i hi
      unfold opC at h1
      unfold wpOp
      split
      · rename_i ho; simp only [ho] at h1; exact wpAny_of_anyL hQ fuel _ _ _ h1
      · rename_i o ho
        simp only [ho] at h1
        split
        · rename_i hwn
          simp only [hwn, if_true] at h1
          exact .inl (wp_weaken (fun _ _ _ h => h.elim) (fun _ _ h => h.elim) (Oper.wp_mono (fun a w ⟨_, k⟩ => wpAny_of_anyL hQ fuel _ a w k) h1))
        · rename_i hwn; simp only [hwn] at h1; exact wpAny_of_anyL hQ fuel _ _ _ h1⟩

theorem calm_opL {i : Nat} {o : Oper} {v : Value} {a : Act} {w : World} (hi : ops[i]? = some o) (hC : C w) (hy : Calm P ops C o v a) {K : Act → World → Prop}
    (h : K (a.put o.dst v) w) : opC P ops (Behind C L i) i K a w := by
  have := hy.opC hi hC h
  unfold Go.Proofs.Ytgigdpdmdldhnaa.opC at *
  simp only [hi] at *
  split
  · rename_i hw
    simp only [hw, if_true] at this
    exact Oper.wp_mono (fun a w ⟨h1, h2⟩ => ⟨.of h1, h2⟩) this
  · rename_i hw
    simp only [hw] at this
    exact this
theorem opC_class {C C' : World → Prop} {i : Nat} {a : Act} {w : World} {K : Act → World → Prop} (h : ∀ w, C w → C' w) (hh : opC P ops C i K a w) : opC P ops C' i K a w := by
  unfold opC at *
  split
  · rename_i ho; simp only [ho] at hh; exact hh
  · rename_i o ho
    simp only [ho] at hh
    split
    · rename_i hw; simp only [hw, if_true] at hh; exact Oper.wp_mono (fun a w ⟨h1, h2⟩ => ⟨h _ h1, h2⟩) hh
    · rename_i hw; simp only [hw] at hh; exact hh

/-- Operation i stands ahead of the last one. -/
def aheadB (md : Region.Mode) (ops : Array Oper) (L i : Nat) : Bool := match ops[L]? with | some o => o.after.any (fun e => Region.binds md e && e.on == i) | none => false
theorem not_last {i j : Nat} {listed : Array Bool} (hB : aheadB md ops L i = true) (hi : i ∈ Region.ready md ops listed) (hj : j ∈ Region.ready md ops listed) : j ≠ L := by
  intro e
  subst e
  obtain ⟨_, oj, hoj, hall⟩ := mem_ready.1 hj
  unfold aheadB at hB
  simp only [hoj, Array.any_eq_true] at hB
  obtain ⟨q, hq, hB⟩ := hB
  simp only [Bool.and_eq_true, beq_iff_eq] at hB
  have h1 := hall oj.after[q] (Array.getElem_mem hq) hB.1
  have h0 := (mem_ready.1 hi).1
  rw [hB.2] at h1
  rcases Nat.lt_or_ge i listed.size with h' | h'
  · simp [h'] at h0 h1; rw [h0] at h1; cases h1
  · simp [Array.getElem?_eq_none h'] at h1

/-- A calm operation that may come up now may be taken first. -/
theorem wpAnyL_first {Q : Act → World → Prop} {i : Nat} {oi : Oper} {v : Value} (hi : ops[i]? = some oi) (hsel : ∀ (j : Nat) (o : Oper) cs b, ops[j]? = some o → o.op ≠ .select cs b) (hB : aheadB md ops L i = true) :
    ∀ (fuel : Nat) (listed : Array Bool) (a : Act) (w : World), C w →
      (∀ j oj, ops[j]? = some oj → j ≠ i → listed.getD j true = false → (∀ e ∈ oj.after, Region.binds md e = true → e.on ≠ i) → oi.apart ops oj = true) →
      i ∈ Region.ready md ops listed → Calm P ops C oi v a →
      wpAnyL P md ops C L Q fuel (listed.setIfInBounds i true) (a.put oi.dst v) w → wpAnyL P md ops C L Q (fuel + 1) listed a w := by
  intro fuel
  induction fuel with
  | zero =>
    intro listed a w hC _ hr hy H
    refine ⟨fun h => (by rw [h] at hr; cases hr), fun j hj => ?_⟩
    by_cases hji : j = i
    · subst hji; exact calm_opL hi hC hy H
    · have := ready_mono hj hji
      rw [H.1] at this
      cases this
  | succ fuel ih =>
    intro listed a w hC hfree hr hy H
    refine ⟨fun h => (by rw [h] at hr; cases hr), fun j hj => ?_⟩
    by_cases hji : j = i
    · subst hji; exact calm_opL hi hC hy H
    · have hjL := not_last hB hr hj
      have h1 := opC_class (C' := C) (fun w h => Behind.ne h hjL) (H.2 j (ready_mono hj hji))
      obtain ⟨hjun, oj, hoj, hall⟩ := mem_ready.1 hj
      have hnot : ∀ e ∈ oj.after, Region.binds md e = true → e.on ≠ i := fun e he hb heq => by
        have h1 := hall e he hb
        have h0 := (mem_ready.1 hr).1
        rw [heq] at h1
        rcases Nat.lt_or_ge i listed.size with h' | h'
        · simp [h'] at h0 h1; rw [h0] at h1; cases h1
        · simp [Array.getElem?_eq_none h'] at h1
      have h2 := opC_put hoj (hfree j oj hoj hji hjun hnot) (fun cs b => hsel i oi cs b hi) (fun cs b => hsel j oj cs b hoj) hy h1
      have hfree' : ∀ k ok, ops[k]? = some ok → k ≠ i → (listed.setIfInBounds j true).getD k true = false →
          (∀ e ∈ ok.after, Region.binds md e = true → e.on ≠ i) → oi.apart ops ok = true := fun k ok hk hki hun hno => by
        refine hfree k ok hk hki ?_ hno
        by_cases hjk : j = k
        · subst hjk; exact hjun
        · rw [getD_set_ne true hjk] at hun; exact hun
      refine opC_class (C := C) (fun w h => .of h) (opC_mono hC (fun a' w' hC' h3 => ih (listed.setIfInBounds j true) a' w' hC' hfree' (ready_mono hr (Ne.symm hji)) h3.1 ?_) h2)
      rw [Array.setIfInBounds_comm _ _ hji]
      exact h3.2

/-- A segment of calm operations. -/
theorem anyL_segs {Q : Act → World → Prop} (hs : Region.noSelect ops = true) : ∀ (is : List Nat) (l : List Oper) (fuel : Nat) (listed : Array Bool) (a : Act) (w : World),
    is.map (ops[·]?) = l.map some → segB md ops listed is = true → (∀ i ∈ is, aheadB md ops L i = true) → C w →
    wpQuiet P ops C (fun a' => wpAnyL P md ops C L Q fuel (listAll listed is) a' w) l a → wpAnyL P md ops C L Q (fuel + is.length) listed a w
  | [], l, fuel, listed, a, w, hl, _, _, _, h => by
    cases l with
    | nil => exact h
    | cons o l => simp at hl
  | i :: is, l, fuel, listed, a, w, hl, hB, hL, hC, h => by
    cases l with
    | nil => simp at hl
    | cons o l =>
      simp only [List.map_cons, List.cons.injEq] at hl
      obtain ⟨h0, hl⟩ := hl
      simp only [segB, Bool.and_eq_true, h0] at hB
      obtain ⟨⟨⟨hr, hf⟩, hc⟩, hB'⟩ := hB
      obtain ⟨v, hy, hK⟩ := calm_of_quiet hc h
      exact wpAnyL_first h0 (Region.noSelect_spec hs) (hL i (by simp)) (fuel + is.length) listed a w hC (Region.free_spec h0 hf) (by simpa using hr) hy
        (anyL_segs hs is l fuel _ _ w hl hB' (fun j hj => hL j (by simp [hj])) hC hK)

/-- As it is used: the operations written out. -/
theorem anyL_seg {Q : Act → World → Prop} {l : List Oper} (is : List Nat) (listed' : Array Bool) {n fuel : Nat} {listed : Array Bool} {a : Act} {w : World} (hn : fuel + is.length = n)
    (hB : (Region.noSelect l.toArray && is.all (· < l.length) && segB md l.toArray listed is && decide (listAll listed is = listed') && is.all (aheadB md l.toArray L)) = true) (hC : C w)
    (h : wpQuiet P l.toArray C (fun a' => wpAnyL P md l.toArray C L Q fuel listed' a' w) (pickOps l is) a) : wpAnyL P md l.toArray C L Q n listed a w := by
  simp only [Bool.and_eq_true, decide_eq_true_eq, List.all_eq_true] at hB
  obtain ⟨⟨⟨⟨hs, hi⟩, hB⟩, rfl⟩, hL⟩ := hB
  subst hn
  exact anyL_segs hs is _ fuel listed a w (pickOps_map hi) hB hL hC h

/-- One operation that is not calm, no other being ready; it is not the last. -/
theorem anyL_sole {Q : Act → World → Prop} {l : List Oper} (i : Nat) (listed' : Array Bool) {fuel : Nat} {listed : Array Bool} {a : Act} {w : World}
    (hB : (decide (i < l.length) && decide (Region.ready md l.toArray listed = [i]) && decide (listed.setIfInBounds i true = listed')) = true)
    (h : wpList P l.toArray (soleQ C (wpAnyL P md l.toArray C L Q fuel listed')) [l.getD i default] a w) : wpAnyL P md l.toArray C L Q (fuel + 1) listed a w := by
  simp only [Bool.and_eq_true, decide_eq_true_eq] at hB
  obtain ⟨⟨hi, hr⟩, rfl⟩ := hB
  refine ⟨fun hn => (by rw [hr] at hn; cases hn), fun j hj => ?_⟩
  rw [hr] at hj
  obtain rfl : j = i := by simpa using hj
  exact opC_class (C := C) (fun w h => .of h) (opC_of_sole j (by simp [hi]) h)

/-- Two operations are ready, none the last: each may come first. -/
theorem anyL_two {Q : Act → World → Prop} {l : List Oper} (i j : Nat) (li lj : Array Bool) {fuel : Nat} {listed : Array Bool} {a : Act} {w : World}
    (hB : (decide (i < l.length) && decide (j < l.length) && decide (Region.ready md l.toArray listed = [i, j]) && decide (listed.setIfInBounds i true = li) && decide (listed.setIfInBounds j true = lj)) = true)
    (h1 : wpList P l.toArray (soleQ C (wpAnyL P md l.toArray C L Q fuel li)) [l.getD i default] a w)
    (h2 : wpList P l.toArray (soleQ C (wpAnyL P md l.toArray C L Q fuel lj)) [l.getD j default] a w) : wpAnyL P md l.toArray C L Q (fuel + 1) listed a w := by
  simp only [Bool.and_eq_true, decide_eq_true_eq] at hB
  obtain ⟨⟨⟨⟨hi, hj⟩, hr⟩, rfl⟩, rfl⟩ := hB
  refine ⟨fun hn => (by rw [hr] at hn; cases hn), fun k hk => ?_⟩
  rw [hr] at hk
  simp only [List.mem_cons, List.not_mem_nil, or_false] at hk
  rcases hk with rfl | rfl
  · exact opC_class (C := C) (fun w h => .of h) (opC_of_sole k (by simp [hi]) h1)
  · exact opC_class (C := C) (fun w h => .of h) (opC_of_sole k (by simp [hj]) h2)
/-- THE LAST ONE. -/
theorem anyL_last {Q : Act → World → Prop} {l : List Oper} {listed : Array Bool} {a : Act} {w : World}
    (hB : (decide (L < l.length) && decide (Region.ready md l.toArray listed = [L]) && decide (Region.ready md l.toArray (listed.setIfInBounds L true) = [])) = true)
    (h : wpList P l.toArray (soleQ (fun _ => True) Q) [l.getD L default] a w) : wpAnyL P md l.toArray C L Q 1 listed a w := by
  simp only [Bool.and_eq_true, decide_eq_true_eq] at hB
  obtain ⟨⟨hi, hr⟩, hd⟩ := hB
  refine ⟨fun hn => (by rw [hr] at hn; cases hn), fun j hj => ?_⟩
  rw [hr] at hj
  obtain rfl : j = L := by simpa using hj
  have h1 := opC_of_sole (C := fun _ => True) j (by simp [hi]) h
  have h2 : opC P l.toArray (fun _ => True) j (wpAnyL P md l.toArray C j Q 0 (listed.setIfInBounds j true)) a w :=
    opC_mono (C := fun _ => True) trivial (fun a w _ hq => ⟨hd, hq⟩) h1
  exact opC_class (C := fun _ => True) (fun w _ => .inl rfl) h2

/-- THE REGION. -/
theorem wp_region_last (C : World → Prop) (L : Nat) {id : Nat} {l : List Oper} {Q : Exit → Act → World → Prop} {a : Act} {w : World} (n : Nat) (listed : Array Bool) (hm : P.follows .mixedOrders = true)
    (hB : (decide (l.length = n) && decide (Array.replicate n false = listed)) = true)
    (h : wpAnyL P .any l.toArray C L (fun a w => Q .normal a w) n listed a (w.drewN 1)) : (Code.region id l.toArray true).wp P Q a w := by
  simp only [Bool.and_eq_true, decide_eq_true_eq] at hB
  obtain ⟨rfl, rfl⟩ := hB
  refine wp_region_any hm (wpAny_of_anyL (C := C) (L := L) (Q := fun a w => Q .normal a w) (fun _ _ h => h) _ _ _ _ ?_)
  rw [List.size_toArray]
  exact h
end
end Go.Proofs.Ytgigdpdmdldhnaa
