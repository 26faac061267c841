/- What a covered match hits, the covering one hits. In plain numbers, no program in sight. -/
import Derived.Test.YtgigdpdmdldhnaaMt
namespace Go.Proofs.Ytgigdpdmdldhnaa
set_option linter.unusedVariables false
set_option linter.unusedSimpArgs false
--%
theorem hitOk_iff {d : MatchD} {hs : List Int} : hitOk d hs = true ↔ mtOk d = true ∧ hdOk hs = true ∧ ∀ i, i < 8 → nv hs i &&& nv d.ms i = nv d.vs i := by
  unfold hitOk hitAt; simp only [Bool.and_eq_true, allB_iff, decide_eq_true_eq]
theorem cvOk_iff {a b : MatchD} : cvOk a b = true ↔ mtOk a = true ∧ mtOk b = true ∧ ∀ i, i < 8 → nv a.ms i ||| nv b.ms i = nv b.ms i ∧ nv b.vs i &&& nv a.ms i = nv a.vs i := by
  unfold cvOk cvAt; simp only [Bool.and_eq_true, allB_iff, decide_eq_true_eq]
theorem or_bit {x y : Nat} (h : x ||| y = y) (j : Nat) (hx : x.testBit j = true) : y.testBit j = true := by
  have := congrArg (fun z => z.testBit j) h
  simp only [Nat.testBit_or, hx, Bool.true_or] at this
  exact this.symm
theorem cover_hit {a b : MatchD} {hs : List Int} (hc : cvOk a b = true) (hh : hitOk b hs = true) : hitOk a hs = true := by
  obtain ⟨c1, c2, c3⟩ := cvOk_iff.1 hc
  obtain ⟨h1, h2, h3⟩ := hitOk_iff.1 hh
  refine hitOk_iff.2 ⟨c1, h2, fun i hi => ?_⟩
  obtain ⟨e1, e2⟩ := c3 i hi
  have e3 := h3 i hi
  rw [← e2, ← e3]
  apply Nat.eq_of_testBit_eq
  intro j
  simp only [Nat.testBit_and]
  cases ha : (nv a.ms i).testBit j
  · simp
  · rw [or_bit e1 j ha]; simp
--%
end Go.Proofs.Ytgigdpdmdldhnaa
