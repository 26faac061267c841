/- FnHidden: no packet finds a hidden entry. In plain lists, no program in sight. -/
import Derived.Test.YtgigdpdmdldhnaaLk
import Derived.Test.YtgigdpdmdldhnaaHdn
import Derived.Test.YtgigdpdmdldhnaaCvh
namespace Go.Proofs.Ytgigdpdmdldhnaa
set_option linter.unusedVariables false
set_option linter.unusedSimpArgs false
--%
theorem idxN_two (P : Nat → Bool) : ∀ n, idxN P n = -1 ∨ ∃ i : Nat, i < n ∧ idxN P n = i ∧ P i = true ∧ ∀ j, j < i → P j = false := by
  intro n
  have : (∀ j, j < n → P j = false) ∨ ∃ i, i < n ∧ P i = true ∧ ∀ j, j < i → P j = false := by
    induction n with
    | zero => exact .inl (fun j hj => absurd hj (Nat.not_lt_zero _))
    | succ n ih =>
      rcases ih with h | ⟨i, h1, h2⟩
      · cases hp : P n
        · refine .inl (fun j hj => ?_)
          by_cases e : j = n
          · subst e; exact hp
          · exact h j (by omega)
        · exact .inr ⟨n, by omega, hp, h⟩
      · exact .inr ⟨i, by omega, h2⟩
  rcases this with h | ⟨i, h1, h2, h3⟩
  · exact .inl (idxN_no h)
  · exact .inr ⟨i, h1, idxN_yes h1 h2 h3, h2, h3⟩
theorem anyN_get {P : Nat → Bool} : ∀ {n : Nat}, anyN P n = true → ∃ k, k < n ∧ P k = true
  | n + 1, h => by
    rw [anyN_s, Bool.or_eq_true] at h
    rcases h with h | h
    · obtain ⟨k, h1, h2⟩ := anyN_get h; exact ⟨k, by omega, h2⟩
    · exact ⟨n, by omega, h⟩
theorem mem_hdL {es : List EntryD} {x : Int} : ∀ {n : Nat}, x ∈ hdL es n → ∃ i : Nat, i < n ∧ x = i ∧ anyN (hidP es i) i = true
  | n + 1, h => by
    unfold hdL at h
    split at h
    · rename_i hc
      rcases List.mem_append.1 h with h | h
      · obtain ⟨i, h1, h2⟩ := mem_hdL h; exact ⟨i, by omega, h2⟩
      · simp only [List.mem_cons, List.not_mem_nil, or_false] at h
        exact ⟨n, by omega, h, hc⟩
    · obtain ⟨i, h1, h2⟩ := mem_hdL h; exact ⟨i, by omega, h2⟩
theorem hid_not (d : TableD) (ep : Int) (h : HeadD) : lkF d ep h ∉ hdF d := by
  intro hm
  unfold hdF at hm
  split at hm
  · obtain ⟨i, h1, h2, h3⟩ := mem_hdL hm
    unfold lkF at h2
    split at h2
    · rcases idxN_two (lkP d.es ep h) d.es.length with k | ⟨i', k1, k2, k3, k4⟩
      · omega
      · obtain rfl : i' = i := by omega
        obtain ⟨k, q1, q2⟩ := anyN_get h3
        have := k4 k q1
        unfold hidP at q2
        unfold lkP at k3 this
        simp only [Bool.and_eq_true, decide_eq_true_eq] at q2 k3
        rw [cover_hit q2.2 k3.2, q2.1, k3.1] at this
        simp at this
    · omega
  · cases hm
--%
end Go.Proofs.Ytgigdpdmdldhnaa
