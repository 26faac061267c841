/- FnCovers: what the law says, in plain numbers. No program in sight. -/
import Derived.Test.YtkkhkojojnebjaaCvh
import Derived.Test.YtkkhkojojnebjaaMe
import Derived.Test.YtkkhkojojnebjaaPlb
namespace Go.Proofs.Ytkkhkojojnebjaa
set_option linter.unusedVariables false
set_option linter.unusedSimpArgs false
--%
theorem meOk_iff {a b : MatchD} : meOk a b = true ↔ mtOk a = true ∧ mtOk b = true ∧ ∀ i, i < 8 → (nv a.vs i ^^^ nv b.vs i) &&& nv a.ms i &&& nv b.ms i = 0 := by
  unfold meOk meAt; simp only [Bool.and_eq_true, allB_iff, decide_eq_true_eq]
theorem or_at (f g : Nat → Nat) (i : Nat) (hi : i < 8) : ((List.range 8).map fun i => ((f i ||| g i : Nat) : Int)).getD i 0 = ((f i ||| g i : Nat) : Int) := by
  rw [List.getD_eq_getElem?_getD, List.getElem?_map, List.getElem?_range hi]; rfl
theorem orM_at (a b : MatchD) (i : Nat) (hi : i < 8) : nv (orM a b).vs i = nv a.vs i ||| nv b.vs i ∧ nv (orM a b).ms i = nv a.ms i ||| nv b.ms i := by
  unfold nv orM
  simp only
  rw [or_at (fun i => nv a.vs i) (fun i => nv b.vs i) i hi, or_at (fun i => nv a.ms i) (fun i => nv b.ms i) i hi]
  exact ⟨Int.toNat_natCast _, Int.toNat_natCast _⟩
theorem fit_or {f : Int} {x y : Int} (h1 : fitB f x = true) (h2 : fitB f y = true) : fitB f ((x.toNat ||| y.toNat : Nat) : Int) = true := by
  obtain ⟨k, B, V, rfl, hk, hb, h48, h1B, rfl, hV, hf⟩ := fit_nat h1
  obtain ⟨k2, B2, V2, e, hk2, hb2, _, _, rfl, hV2, hf2⟩ := fit_nat h2
  have : B2 = B := by omega
  subst this
  refine fitB_true (by omega) (by omega) ?_
  rw [hf]
  have := Nat.or_lt_two_pow hV hV2
  simp only [Int.toNat_natCast]
  omega
theorem sub_or {x m : Nat} : x ||| m = m ↔ ∀ j, x.testBit j = true → m.testBit j = true := by
  constructor
  · exact fun h j hx => or_bit h j hx
  · intro h
    apply Nat.eq_of_testBit_eq
    intro j
    rw [Nat.testBit_or]
    cases hx : x.testBit j
    · simp
    · rw [h j hx]; rfl
theorem orM_ok {a b : MatchD} (h : meOk a b = true) : mtOk (orM a b) = true := by
  obtain ⟨h1, h2, h3⟩ := meOk_iff.1 h
  refine mtOk_yes (by simp [orM]) (hdOk_yes (by simp [orM]) (fun i hi => ?_)) (fun i hi => ?_)
  · have hi8 : i < 8 := by simpa [orM] using hi
    have e := or_at (fun i => nv a.ms i) (fun i => nv b.ms i) i hi8
    rw [show (orM a b).ms = (List.range 8).map fun i => ((nv a.ms i ||| nv b.ms i : Nat) : Int) from rfl, e]
    exact fit_or (mtOk_at h1 i hi8).1 (mtOk_at h2 i hi8).1
  · have o := orM_at a b i hi
    rw [mtAt_iff, o.1, o.2]
    have e := or_at (fun i => nv a.vs i) (fun i => nv b.vs i) i hi
    refine ⟨by rw [show (orM a b).vs = (List.range 8).map fun i => ((nv a.vs i ||| nv b.vs i : Nat) : Int) from rfl, e]; omega, sub_or.2 (fun j hj => ?_)⟩
    have s1 := sub_or.1 (mtOk_at h1 i hi).2.2.2 j
    have s2 := sub_or.1 (mtOk_at h2 i hi).2.2.2 j
    rw [Nat.testBit_or, Bool.or_eq_true] at hj ⊢
    exact hj.imp s1 s2
theorem and_iff {x m v : Nat} : x &&& m = v ↔ ∀ j, (x.testBit j && m.testBit j) = v.testBit j := by
  constructor
  · intro h j; rw [← h, Nat.testBit_and]
  · intro h; apply Nat.eq_of_testBit_eq; intro j; rw [Nat.testBit_and]; exact h j
theorem me_bit {a b : MatchD} (h : meOk a b = true) {i : Nat} (hi : i < 8) (j : Nat) (h1 : (nv a.ms i).testBit j = true) (h2 : (nv b.ms i).testBit j = true) : (nv a.vs i).testBit j = (nv b.vs i).testBit j := by
  have := congrArg (fun z => z.testBit j) ((meOk_iff.1 h).2.2 i hi)
  simp only [Nat.testBit_and, Nat.testBit_xor, h1, h2, Nat.zero_testBit, Bool.and_true] at this
  simpa using this
/-- Two matches that are hit by one head meet. -/
theorem hits_meet {a b : MatchD} {hs : List Int} (h1 : hitOk a hs = true) (h2 : hitOk b hs = true) : meOk a b = true := by
  obtain ⟨a1, a2, a3⟩ := hitOk_iff.1 h1
  obtain ⟨b1, b2, b3⟩ := hitOk_iff.1 h2
  refine meOk_iff.2 ⟨a1, b1, fun i hi => ?_⟩
  apply Nat.eq_of_testBit_eq
  intro j
  have e1 := and_iff.1 (a3 i hi) j
  have e2 := and_iff.1 (b3 i hi) j
  simp only [Nat.testBit_and, Nat.testBit_xor, Nat.zero_testBit, ← e1, ← e2]
  cases (nv a.ms i).testBit j <;> cases (nv b.ms i).testBit j <;> simp
theorem hit_or {a b : MatchD} {hs : List Int} (h : meOk a b = true) : hitOk (orM a b) hs = (hitOk a hs && hitOk b hs) := by
  obtain ⟨h1, h2, _⟩ := meOk_iff.1 h
  have key : hitOk (orM a b) hs = true ↔ (hitOk a hs && hitOk b hs) = true := by
    rw [Bool.and_eq_true, hitOk_iff, hitOk_iff, hitOk_iff]
    constructor
    · rintro ⟨-, hh, hx⟩
      refine ⟨⟨h1, hh, fun i hi => ?_⟩, h2, hh, fun i hi => ?_⟩
      all_goals
        have o := orM_at a b i hi
        have := hx i hi
        rw [o.1, o.2] at this
        refine and_iff.2 (fun j => ?_)
        have e := and_iff.1 this j
        have s1 := sub_or.1 (mtOk_at h1 i hi).2.2.2 j
        have s2 := sub_or.1 (mtOk_at h2 i hi).2.2.2 j
        have m := me_bit h hi j
        simp only [Nat.testBit_or] at e
        revert e s1 s2 m
        cases (nv a.ms i).testBit j <;> cases (nv b.ms i).testBit j <;> cases (nv a.vs i).testBit j <;> cases (nv b.vs i).testBit j <;> cases (nv hs i).testBit j <;> simp
    · rintro ⟨⟨-, hh, hx⟩, -, -, hy⟩
      refine ⟨orM_ok h, hh, fun i hi => ?_⟩
      have o := orM_at a b i hi
      rw [o.1, o.2]
      refine and_iff.2 (fun j => ?_)
      have e1 := and_iff.1 (hx i hi) j
      have e2 := and_iff.1 (hy i hi) j
      simp only [Nat.testBit_or, ← e1, ← e2]
      cases (nv hs i).testBit j <;> simp
  cases hA : hitOk (orM a b) hs <;> cases hB : (hitOk a hs && hitOk b hs) <;> simp_all
theorem cover_or {a b : MatchD} (h : meOk a b = true) : cvOk a (orM a b) = true ∧ cvOk b (orM a b) = true := by
  obtain ⟨h1, h2, _⟩ := meOk_iff.1 h
  refine ⟨cvOk_iff.2 ⟨h1, orM_ok h, fun i hi => ?_⟩, cvOk_iff.2 ⟨h2, orM_ok h, fun i hi => ?_⟩⟩
  all_goals
    have o := orM_at a b i hi
    rw [o.1, o.2]
    refine ⟨sub_or.2 (fun j hj => by rw [Nat.testBit_or, hj]; simp), and_iff.2 (fun j => ?_)⟩
    have s1 := sub_or.1 (mtOk_at h1 i hi).2.2.2 j
    have s2 := sub_or.1 (mtOk_at h2 i hi).2.2.2 j
    have m := me_bit h hi j
    simp only [Nat.testBit_or]
    revert s1 s2 m
    cases (nv a.ms i).testBit j <;> cases (nv b.ms i).testBit j <;> cases (nv a.vs i).testBit j <;> cases (nv b.vs i).testBit j <;> simp
theorem popN_mono {x y : Nat} (h : ∀ j, x.testBit j = true → y.testBit j = true) : ∀ k, popN x k ≤ popN y k
  | 0 => Nat.le_refl _
  | k + 1 => by
    have ih := popN_mono h k
    have hj := h k
    rw [Nat.testBit_eq_decide_div_mod_eq, Nat.testBit_eq_decide_div_mod_eq, decide_eq_true_eq, decide_eq_true_eq] at hj
    have := Nat.mod_lt (x / 2 ^ k) (show 0 < 2 by decide)
    simp only [popN]
    omega
theorem askL_mono {xs ys : List Int} (h : ∀ i, i < 8 → ∀ j, (nv xs i).testBit j = true → (nv ys i).testBit j = true) : ∀ k, k ≤ 8 → askL xs k ≤ askL ys k
  | 0, _ => Int.le_refl _
  | k + 1, hk => by
    have ih := askL_mono h k (by omega)
    have : popI (xs.getD k 0) ≤ popI (ys.getD k 0) := by
      have := popN_mono (h k (by omega)) 64
      unfold popI
      unfold nv at this
      omega
    simp only [askL]
    omega
theorem ask_or {a b : MatchD} (h : meOk a b = true) : askF a ≤ askF (orM a b) := by
  obtain ⟨h1, h2, _⟩ := meOk_iff.1 h
  rw [askF_yes h1, askF_yes (orM_ok h)]
  refine askL_mono (fun i hi j hj => ?_) 8 (Nat.le_refl _)
  rw [(orM_at a b i hi).2, Nat.testBit_or, hj]; simp
theorem meetF_wf (a b : MatchD) : WfM (meetF a b).1 := by
  cases h : meOk a b
  · rw [meetF_no h]; exact ⟨fun x hx => (by cases hx), fun x hx => (by cases hx)⟩
  · rw [meetF_yes h]; exact wf_mt (orM_ok h)
--%
end Go.Proofs.Ytkkhkojojnebjaa
