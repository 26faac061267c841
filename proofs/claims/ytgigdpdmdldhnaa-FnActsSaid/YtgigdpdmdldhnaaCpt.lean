/- What slices.Sort and slices.Compact make together: each once, upwards. No program in sight. -/
import Derived.Lib.SlicesCompact
import Derived.Test.YtgigdpdmdldhnaaPfl
namespace Go.Proofs.Ytgigdpdmdldhnaa
open Go Go.Lib
set_option linter.unusedVariables false
set_option linter.unusedSimpArgs false
--%
theorem getD_arr {zs : List Int} {j : Nat} (hj : j < zs.length) : zs.toArray[j]! = zs[j] := by simp [hj]
theorem compact_up {zs : List Int} (h : ∀ i j (hij : i ≤ j) (hj : j < zs.length), zs[i]'(by omega) ≤ zs[j]) : ∀ m, m ≤ zs.length →
    (compactUpTo zs.toArray m).Pairwise (· < ·) ∧ ∀ x, x ∈ compactUpTo zs.toArray m ↔ ∃ j, ∃ hj : j < zs.length, j < m ∧ zs[j] = x
  | 0, _ => by simp [compactUpTo]
  | m + 1, hm => by
    obtain ⟨ih1, ih2⟩ := compact_up h m (by omega)
    rw [compactUpTo_succ, getD_arr (show m < zs.length by omega)]
    by_cases hk : keeps zs.toArray m = true
    · rw [if_pos hk]
      constructor
      · rw [List.pairwise_append]
        refine ⟨ih1, by simp, fun a ha b hb => ?_⟩
        simp only [List.mem_cons, List.not_mem_nil, or_false] at hb
        subst hb
        obtain ⟨j, hj, hjm, rfl⟩ := (ih2 a).1 ha
        have hk2 := of_decide_eq_true hk
        rcases hk2 with h0 | h0
        · omega
        · rw [getD_arr (show m < zs.length by omega), getD_arr (show m - 1 < zs.length by omega)] at h0
          have h1 := h j (m - 1) (by omega) (by omega)
          have h2 := h (m - 1) m (by omega) (by omega)
          omega
      · intro x
        rw [List.mem_append, ih2]
        simp only [List.mem_cons, List.not_mem_nil, or_false]
        constructor
        · rintro (⟨j, hj, hjm, e⟩ | rfl)
          · exact ⟨j, hj, by omega, e⟩
          · exact ⟨m, by omega, by omega, rfl⟩
        · rintro ⟨j, hj, hjm, rfl⟩
          by_cases e : j = m
          · subst e; exact .inr rfl
          · exact .inl ⟨j, hj, by omega, rfl⟩
    · rw [if_neg hk, List.append_nil]
      refine ⟨ih1, fun x => ?_⟩
      rw [ih2]
      have hk2 : ¬ (m = 0 ∨ zs.toArray[m]! ≠ zs.toArray[m - 1]!) := fun hh => hk (decide_eq_true hh)
      have hm0 : m ≠ 0 := fun e => hk2 (.inl e)
      have he : zs.toArray[m]! = zs.toArray[m - 1]! := Classical.byContradiction fun e => hk2 (.inr e)
      rw [getD_arr (show m < zs.length by omega), getD_arr (show m - 1 < zs.length by omega)] at he
      constructor
      · rintro ⟨j, hj, hjm, e⟩; exact ⟨j, hj, by omega, e⟩
      · rintro ⟨j, hj, hjm, rfl⟩
        by_cases e : j = m
        · subst e; exact ⟨j - 1, by omega, by omega, he.symm⟩
        · exact ⟨j, hj, by omega, rfl⟩
theorem sorted_at {zs : List Int} (h : zs.Pairwise (fun a b => decide (a ≤ b) = true)) (i j : Nat) (hij : i ≤ j) (hj : j < zs.length) : zs[i]'(by omega) ≤ zs[j] := by
  by_cases e : i = j
  · subst e; exact Int.le_refl _
  · exact of_decide_eq_true (List.pairwise_iff_getElem.1 h i j (by omega) hj (by omega))
/-- Sorted and compacted: what opL gathers. -/
theorem sortCompact {ps : List Int} (hb : ∀ x ∈ ps, 1 ≤ x ∧ x ≤ 255) : Lib.compact (ps.mergeSort fun x y => decide (x ≤ y)) = opL ps 255 := by
  have hs := List.pairwise_mergeSort (le := fun x y : Int => decide (x ≤ y)) (fun a b c h1 h2 => by simp at *; omega) (fun a b => by simp; omega) ps
  obtain ⟨h1, h2⟩ := compact_up (sorted_at hs) _ (Nat.le_refl _)
  refine up_eq h1 (opL_sorted 255) (fun x => ?_)
  unfold Lib.compact
  rw [h2, opL_mem]
  constructor
  · rintro ⟨j, hj, _, rfl⟩
    have hm : (ps.mergeSort fun x y => decide (x ≤ y))[j] ∈ ps := List.mem_mergeSort.1 (List.getElem_mem hj)
    exact ⟨hm, hb _ hm⟩
  · rintro ⟨hx, _⟩
    obtain ⟨j, hj, e⟩ := List.getElem_of_mem (List.mem_mergeSort.2 hx : x ∈ ps.mergeSort fun x y => decide (x ≤ y))
    exact ⟨j, hj, hj, e⟩
--%
end Go.Proofs.Ytgigdpdmdldhnaa
