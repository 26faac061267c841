/- Entries gathered over appends: what is owned behind each. No walk here. -/
import Derived.Test.YtgigdpdmdldhnaaTab4
import Derived.Test.YtgigdpdmdldhnaaSnt
import Derived.WalkKit
import Derived.ProofKit
namespace Go.Proofs.Ytgigdpdmdldhnaa
open Go.ChangeShapes Go.WideShapes Go.ChangeAt Go.RowKit
set_option linter.unusedVariables false
set_option linter.unusedSimpArgs false
--% elemEnt 68
theorem Try.elemEnt : ElemOk Try.prog 77 68 6 96 := by
  obtain ⟨i0, hi, hz0, hz1, hz2⟩ := info_parts Try.infoEnt
  exact ⟨Try.underlying77, ⟨i0, _, hi, hz0, hz1, hz2, rfl⟩, by decide⟩
def entC (e : EntryD) (v0 v1 v2 : Value) : List Value := [.int .i64 e.epoch, .int .i64 e.prio, v0, v1, v2, .int .i64 e.hits]
/-- Entries gathered, in blocks made since w1: with the cells and the rows of each. -/
def AccEF (w1 w : World) (v : Value) (es : List EntryD) (cs : List Value) (F : Nat → List Nat) : Prop :=
  Grow w1 w ∧ OwnESF w v es cs F ∧ Fresh w1 (allF v F es.length) ∧ w.ownsRow w1.heap.size 68 6 v es.length cs
def AccE (w1 w : World) (v : Value) (es : List EntryD) : Prop := ∃ cs F, AccEF w1 w v es cs F
theorem AccE.own {w1 w : World} {v : Value} {es : List EntryD} (h : AccE w1 w v es) : ∃ fp, OwnES2 w v es fp ∧ Fresh w1 fp := by
  obtain ⟨cs, F, h1, h2, h3, h4⟩ := h
  exact ⟨_, ⟨cs, F, h2, rfl⟩, h3⟩
theorem AccE.grew {w1 w : World} {v : Value} {es : List EntryD} (h : AccE w1 w v es) : Grow w1 w := by
  obtain ⟨cs, F, h1, h2, h3, h4⟩ := h; exact h1
theorem AccE.shape {w1 w : World} {v : Value} {es : List EntryD} (h : AccE w1 w v es) : ∃ a c, v = .slice a es.length c := by
  obtain ⟨cs, F, h1, h2, h3, h4⟩ := h; exact own_shape h4
theorem accE_of {w1 w : World} {v : Value} {es : List EntryD} {fp : List Nat} (g : Grow w1 w) (h : OwnES2 w v es fp) (hf : Fresh w1 fp) : AccE w1 w v es := by
  obtain ⟨cs, F, h1, rfl⟩ := h
  exact ⟨cs, F, g, h1, hf, own_from h1.1 (fun x hx => hf x (mem_allF.2 (.inl hx)))⟩
theorem AccEF.here {w1 w : World} {v : Value} {es : List EntryD} {cs : List Value} {F : Nat → List Nat} (h : AccEF w1 w v es cs F) : Here w (allF v F es.length) := OwnES2.here ⟨cs, F, h.2.1, rfl⟩
theorem AccEF.upd {w1 w w' : World} {v : Value} {es : List EntryD} {cs : List Value} {F : Nat → List Nat} {fq : List Nat} (h : AccEF w1 w v es cs F) (u : Upd fq w w') (hf : Fresh w1 fq) (ha : ∀ x ∈ allF v F es.length, x ∉ fq) : AccEF w1 w' v es cs F := by
  obtain ⟨h1, ⟨h2, h3, h4⟩, h5, h6⟩ := h
  have r := ((OwnR.of h2).1.upd u (fun x hx => ha x (mem_allF.2 (.inl hx)))).1
  exact ⟨h1.then_upd u hf, ⟨r, fun j hj => (h3 j hj).upd u (fun x hx => ha x (mem_allF.2 (.inr ⟨j, hj, hx⟩))) (fun _ _ => rfl), h4⟩, h5, own_from r (fun x hx => h5 x (mem_allF.2 (.inl hx)))⟩
theorem AccEF.grow {w1 w w' : World} {v : Value} {es : List EntryD} {cs : List Value} {F : Nat → List Nat} (h : AccEF w1 w v es cs F) (g : Grow w w') : AccEF w1 w' v es cs F :=
  h.upd (g.upd []) (by simp [Fresh]) (by simp)
theorem AccE.grow {w1 w w' : World} {v : Value} {es : List EntryD} (h : AccE w1 w v es) (g : Grow w w') : AccE w1 w' v es := by
  obtain ⟨cs, F, h⟩ := h; exact ⟨cs, F, h.grow g⟩
theorem OwnES2.nil (w : World) : OwnES2 w (.slice none 0 0) [] [] :=
  ⟨[], fun _ => [], ⟨World.ownsRow_nil _ _ _ _, fun j hj => absurd hj (Nat.not_lt_zero _), fun j hj => absurd hj (Nat.not_lt_zero _), fun i j _ hj => absurd hj (Nat.not_lt_zero _)⟩, rfl⟩
theorem AccE.nil {w1 w : World} (g : Grow w1 w) : AccE w1 w (.slice none 0 0) [] := accE_of g (OwnES2.nil w) (by simp [Fresh])
theorem accE_lit {w1 W : World} {n : Nat} (g : Grow w1 W) (h : W.heap.size = n) : AccE w1 (W.alloc (.cells #[] 68)) (.slice (some ⟨n, 0, none⟩) 0 0) [] := by
  subst h
  have h0 : OwnES2 (W.alloc (.cells #[] 68)) (.slice (some ⟨W.heap.size, 0, none⟩) 0 0) [] [W.heap.size] :=
    ⟨[], fun _ => [], ⟨own_mono (World.ownsRow_lit W #[] 0 (Nat.le_refl _) (by decide) rfl) (Nat.zero_le _), fun j hj => absurd hj (Nat.not_lt_zero _), fun j hj => absurd hj (Nat.not_lt_zero _), fun i j _ hj => absurd hj (Nat.not_lt_zero _)⟩, by simp [allF, fpOf, Value.ownBlock]⟩
  exact accE_of (g.trans (Grow.alloc _ _)) h0 (fun x hx => by simp only [List.mem_cons, List.not_mem_nil, or_false] at hx; subst hx; exact g.size)
theorem cells_left {cs l : List Value} {n i : Nat} (h : cs.length = n * 6) (hi : i < n * 6) : (cs ++ l)[i]? = cs[i]? := List.getElem?_append_left (by omega)
theorem cells_right {cs l : List Value} {n i : Nat} (h : cs.length = n * 6) : (cs ++ l)[n * 6 + i]? = l[i]? := by
  rw [List.getElem?_append_right (by omega)]; congr 1; omega
/-- One entry more. -/
theorem AccEF.onto_ {w1 w w' : World} {v v' : Value} {es : List EntryD} {cs : List Value} {F : Nat → List Nat} {e : EntryD} {x0 x1 x2 : Value} {fe : List Nat} (h : AccEF w1 w v es cs F)
    (he : OwnE2 w (.agg #[.int .i64 e.epoch, .int .i64 e.prio, x0, x1, x2, .int .i64 e.hits]) e fe) (hfe : Fresh w1 fe) (hd : ∀ x ∈ allF v F es.length, x ∉ fe)
    (ho : w'.ownsRow w1.heap.size 68 6 v' (es.length + 1) (cs ++ entC e x0 x1 x2)) (hg : w.grownBy w' v.ownBlock) (hm : Moved w v v') : AccEF w1 w' v' (es ++ [e]) (cs ++ entC e x0 x1 x2) (fun j => if j = es.length then fe else F j) := by
  have hH := h.here
  have hHe := he.here
  obtain ⟨h1, ⟨h2, h3, h4, h5⟩, h6, h7⟩ := h
  have u := Upd.of_grown hg
  have hl : cs.length = es.length * 6 := h2.1
  have hfv : Fresh w1 (fpOf v) := fun x hx => h6 x (mem_allF.2 (.inl hx))
  have hmv : ∀ x ∈ fpOf v', x ∈ fpOf v ∨ w.heap.size ≤ x := fun x hx => by
    have hb : v'.ownBlock = some x := by simpa [fpOf] using hx
    rcases hm x hb with h | h
    · exact .inl (by simp [fpOf, h])
    · exact .inr h
  have hlen : (es ++ [e]).length = es.length + 1 := by simp
  refine ⟨h1.then_upd u hfv, ⟨?_, fun j hj => ?_, fun j hj x hx hx2 => ?_, fun i j hij hj x hx hx2 => ?_⟩, fun x hx => ?_, ?_⟩
  · rw [hlen]; exact own_mono ho (Nat.zero_le _)
  · rw [hlen] at hj
    show EntF _ _ _ _ (if j = es.length then fe else F j)
    by_cases hjl : j < es.length
    · rw [if_neg (by omega), List.getElem_append_left hjl]
      exact (h3 j hjl).upd u (fun x hx hxv => h4 j hjl x hxv hx) (fun i hi => cells_left hl (by omega))
    · obtain rfl : j = es.length := by omega
      rw [if_pos rfl]
      have hee : (es ++ [e])[es.length] = e := by simp
      rw [hee]
      obtain ⟨v0, v1, v2, f0, f1, f2, e1, o0, o1, o2, rfl, hd1, hd2⟩ := he
      obtain ⟨rfl, rfl, rfl⟩ : x0 = v0 ∧ x1 = v1 ∧ x2 = v2 := by simpa using e1
      have ha : ∀ x ∈ (f0 ++ f1) ++ f2, x ∉ fpOf v := fun x hx hxv => hd x (mem_allF.2 (.inl hxv)) hx
      refine ⟨x0, x1, x2, f0, f1, f2, ?_, ?_, ?_, ?_, ?_, ?_, o0.upd u (fun x hx => ha x (by simp [hx])), o1.upd u (fun x hx => ha x (by simp [hx])), o2.upd u (fun x hx => ha x (by simp [hx])), rfl, hd1, hd2⟩
      · have := cells_right (l := entC e x0 x1 x2) (i := 0) hl; rw [Nat.add_zero] at this; rw [this]; rfl
      all_goals (rw [cells_right hl]; rfl)
  · rw [hlen] at hj
    change x ∈ (if j = es.length then fe else F j) at hx2
    by_cases hjl : j < es.length
    · rw [if_neg (by omega)] at hx2
      rcases hmv x hx with h | h
      · exact h4 j hjl x h hx2
      · have := hH x (mem_allF.2 (.inr ⟨j, hjl, hx2⟩)); omega
    · rw [if_pos (by omega)] at hx2
      rcases hmv x hx with h | h
      · exact hd x (mem_allF.2 (.inl h)) hx2
      · have := hHe x hx2; omega
  · rw [hlen] at hj
    have hil : i < es.length := by omega
    simp only [if_neg (show ¬ i = es.length by omega)] at hx
    change x ∈ (if j = es.length then fe else F j) at hx2
    by_cases hjl : j < es.length
    · rw [if_neg (by omega)] at hx2
      exact h5 i j hij hjl x hx hx2
    · rw [if_pos (by omega)] at hx2
      exact hd x (mem_allF.2 (.inr ⟨i, hil, hx⟩)) hx2
  · rw [hlen] at hx
    rcases mem_allF.1 hx with hx | ⟨j, hj, hx⟩
    · have hb : v'.ownBlock = some x := by simpa [fpOf] using hx
      exact (own_block ho hb).1
    · change x ∈ (if j = es.length then fe else F j) at hx
      by_cases hjl : j < es.length
      · rw [if_neg (by omega)] at hx
        exact h6 x (mem_allF.2 (.inr ⟨j, hjl, hx⟩))
      · rw [if_pos (by omega)] at hx
        exact hfe x hx
  · rw [hlen]; exact ho
theorem allF_onto {W : World} {v v' : Value} {F : Nat → List Nat} {n x : Nat} {fe : List Nat} (hm : Moved W v v') (hx : x ∈ allF v' (fun j => if j = n then fe else F j) (n + 1)) : x ∈ allF v F n ∨ x ∈ fe ∨ W.heap.size ≤ x := by
  rcases mem_allF.1 hx with hx | ⟨j, hj, hx⟩
  · have hb : v'.ownBlock = some x := by simpa [fpOf] using hx
    rcases hm x hb with h | h
    · exact .inl (mem_allF.2 (.inl (by simp [fpOf, h])))
    · exact .inr (.inr h)
  · change x ∈ (if j = n then fe else F j) at hx
    by_cases e : j = n
    · rw [if_pos e] at hx; exact .inr (.inl hx)
    · rw [if_neg e] at hx; exact .inl (mem_allF.2 (.inr ⟨j, by omega, hx⟩))
theorem entC_one (e : EntryD) (a0 a1 a2 : Option Addr) (n0 n1 n2 k0 k1 k2 : Nat) : ∀ y ∈ entC e (.slice a0 n0 k0) (.slice a1 n1 k1) (.slice a2 n2 k2), y.oneCell' = true := by
  intro y hy
  simp only [entC, List.mem_cons, List.not_mem_nil, or_false] at hy
  rcases hy with rfl | rfl | rfl | rfl | rfl | rfl <;> rfl
--%
end Go.Proofs.Ytgigdpdmdldhnaa
