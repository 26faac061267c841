/- The first bits of a field: what the laws say of them, in plain numbers. No program in sight. -/
import Derived.Test.YtkkhkojojnebjaaMb
import Derived.Test.YtkkhkojojnebjaaAsk
namespace Go.Proofs.Ytkkhkojojnebjaa
set_option linter.unusedVariables false
set_option linter.unusedSimpArgs false
--%
theorem mask_bit {B N : Nat} (hN : N ≤ B) (i : Nat) : (2 ^ B - 2 ^ (B - N)).testBit i = (decide (B - N ≤ i) && decide (i < B)) := by
  have e1 : 2 ^ B - 2 ^ (B - N) = (2 ^ N - 1) * 2 ^ (B - N) := by
    rw [Nat.sub_mul, Nat.one_mul, ← Nat.pow_add]; congr 2; omega
  rw [e1, Nat.testBit_mul_two_pow, Nat.testBit_two_pow_sub_one]
  by_cases h : B - N ≤ i
  · have : decide (i - (B - N) < N) = decide (i < B) := decide_eq_decide.2 (by omega)
    rw [this]
  · simp [h]
theorem popN_ones (N : Nat) : ∀ k, k ≤ N → popN (2 ^ N - 1) k = k
  | 0, _ => rfl
  | k + 1, hk => by
    have ih := popN_ones N k (by omega)
    have hb : (2 ^ N - 1).testBit k = true := by rw [Nat.testBit_two_pow_sub_one]; simp; omega
    rw [Nat.testBit_eq_decide_div_mod_eq, decide_eq_true_eq] at hb
    simp only [popN]
    rw [ih, hb]
theorem popN_mask {B N : Nat} (hN : N ≤ B) (hB : B ≤ 64) : popN (2 ^ B - 2 ^ (B - N)) 64 = N := by
  have e1 : 2 ^ B - 2 ^ (B - N) = (2 ^ N - 1) * 2 ^ (B - N) := by
    rw [Nat.sub_mul, Nat.one_mul, ← Nat.pow_add]; congr 2; omega
  have e64 : (64 : Nat) = (B - N) + (64 - (B - N)) := by omega
  rw [e64, popN_add, popN_mod]
  have h0 : (2 ^ B - 2 ^ (B - N)) % 2 ^ (B - N) = 0 := by rw [e1]; exact Nat.mul_mod_left _ _
  have h1 : (2 ^ B - 2 ^ (B - N)) / 2 ^ (B - N) = 2 ^ N - 1 := by rw [e1]; exact Nat.mul_div_cancel _ (Nat.two_pow_pos _)
  rw [h0, h1, popN_0, Nat.zero_add]
  obtain ⟨m, hm⟩ : ∃ m, 64 - (B - N) = N + m := ⟨64 - B, by omega⟩
  rw [hm, popN_small (by have := Nat.two_pow_pos N; omega), popN_ones N N (Nat.le_refl _)]
theorem zero8_at {k : Nat} (x : Int) (hk : k < 8) (i : Nat) : (zero8.set k x).getD i 0 = if i = k then x else 0 := by
  have hl : zero8.length = 8 := rfl
  by_cases e : i = k
  · subst e
    rw [if_pos rfl, List.getD_eq_getElem?_getD, List.getElem?_set_self (by rw [hl]; exact hk)]; rfl
  · rw [if_neg e, List.getD_eq_getElem?_getD, List.getElem?_set_ne (Ne.symm e)]
    unfold zero8
    rw [List.getElem?_replicate]
    split <;> rfl
theorem zero8_zero (k : Nat) : zero8.set k 0 = zero8 := by
  unfold zero8
  rw [List.set_replicate_self]
theorem askL_zero (k : Nat) (hk : k < 8) (x : Int) : askL (zero8.set k x) 8 = popI x := by
  have p0 : popI 0 = 0 := by unfold popI; rw [show (0 : Int).toNat = 0 from rfl, popN_0]; rfl
  have z := fun i => zero8_at x hk i
  simp only [askL, z]
  rcases (by omega : k = 0 ∨ k = 1 ∨ k = 2 ∨ k = 3 ∨ k = 4 ∨ k = 5 ∨ k = 6 ∨ k = 7) with rfl | rfl | rfl | rfl | rfl | rfl | rfl | rfl <;> simp [p0]
/-- The bounds of a field's numbers. -/
theorem fit_nat {f v : Int} (h : fitB f v = true) : ∃ k B V : Nat, f = k ∧ k < 8 ∧ fieldBits f = B ∧ B ≤ 48 ∧ 1 ≤ B ∧ v = V ∧ V < 2 ^ B ∧ full f = ((2 ^ B - 1 : Nat) : Int) := by
  obtain ⟨⟨h0, h7⟩, hv, hf⟩ := fitB_iff.1 h
  obtain ⟨k, rfl⟩ := Int.eq_ofNat_of_zero_le h0
  obtain ⟨V, rfl⟩ := Int.eq_ofNat_of_zero_le hv
  have hb : ∃ B : Nat, fieldBits (k : Int) = B ∧ B ≤ 48 ∧ 1 ≤ B := by
    rcases bits_full (k : Int) with ⟨e, _⟩ | ⟨e, _⟩ | ⟨e, _⟩ | ⟨e, _⟩ | ⟨_, _, h3⟩
    · exact ⟨8, e, by decide, by decide⟩
    · exact ⟨48, e, by decide, by decide⟩
    · exact ⟨16, e, by decide, by decide⟩
    · exact ⟨32, e, by decide, by decide⟩
    · omega
  obtain ⟨B, e, h48, h1⟩ := hb
  have ef := full_pow (by omega) e
  refine ⟨k, B, V, rfl, by omega, e, h48, h1, rfl, ?_, ef⟩
  have := Nat.two_pow_pos B
  rw [ef] at hf; omega
theorem mbD_at {k B V N : Nat} (hb : fieldBits (k : Int) = B) : mbD k V N = ⟨zero8.set k ((V - V % 2 ^ (B - N) : Nat) : Int), zero8.set k ((2 ^ B - 2 ^ (B - N) : Nat) : Int)⟩ := by
  unfold mbD mbV mbM
  rw [hb]
  rfl
theorem mbD_ok {k B V N : Nat} (hk : k < 8) (hb : fieldBits (k : Int) = B) (hf : full (k : Int) = ((2 ^ B - 1 : Nat) : Int)) (hV : V < 2 ^ B) (hN : N ≤ B) : mtOk (mbD k V N) = true := by
  rw [mbD_at hb, ← mask_and hV hN]
  have hp := Nat.two_pow_pos (B - N)
  have f0 : ∀ i : Nat, i < 8 → fitB i 0 = true := fun i hi => fitB_true (by omega) (by omega) (full_bd _).1
  refine mtOk_yes (by simp [zero8]) (hdOk_yes (by simp [zero8]) (fun i hi => ?_)) (fun i hi => ?_)
  · have hi8 : i < 8 := by simpa [zero8] using hi
    rw [zero8_at _ hk]
    split
    · rename_i e; subst e
      exact fitB_true (by omega) (by omega) (by rw [hf]; have := Nat.two_pow_pos B; omega)
    · exact f0 i hi8
  · rw [mtAt_iff]
    unfold nv
    simp only [zero8_at _ hk]
    split
    · refine ⟨by omega, ?_⟩
      simp only [Int.toNat_natCast]
      apply Nat.eq_of_testBit_eq
      intro j
      simp only [Nat.testBit_or, Nat.testBit_and]
      cases V.testBit j <;> cases (2 ^ B - 2 ^ (B - N)).testBit j <;> rfl
    · exact ⟨by omega, by simp⟩
theorem mbD_zero {k B V : Nat} (hb : fieldBits (k : Int) = B) (hV : V < 2 ^ B) : mbD k V 0 = allM := by
  have := mbD_at (V := V) (N := 0) hb
  simp only [Nat.sub_zero, Nat.sub_self, Nat.mod_eq_of_lt hV] at this
  rw [show ((0 : Nat) : Int) = 0 from rfl] at this
  rw [this, zero8_zero]; rfl
theorem same_all : sameM allM allM = true := by decide
theorem cv_less {k B V N : Nat} (hk : k < 8) (hb : fieldBits (k : Int) = B) (hf : full (k : Int) = ((2 ^ B - 1 : Nat) : Int)) (hV : V < 2 ^ B) (hN : N + 1 ≤ B) : cvOk (mbD k V N) (mbD k V (N + 1 : Nat)) = true := by
  have h1 := mbD_ok hk hb hf hV (show N ≤ B by omega)
  have h2 := mbD_ok hk hb hf hV hN
  unfold cvOk
  rw [h1, h2, Bool.true_and, Bool.true_and]
  refine allB_true (fun i hi => ?_)
  unfold cvAt nv
  rw [mbD_at hb, mbD_at hb, ← mask_and hV hN, ← mask_and hV (show N ≤ B by omega)]
  simp only [zero8_at _ hk, Bool.and_eq_true, decide_eq_true_eq]
  split
  · simp only [Int.toNat_natCast]
    constructor <;> apply Nat.eq_of_testBit_eq <;> intro j <;> simp only [Nat.testBit_or, Nat.testBit_and, mask_bit hN, mask_bit (show N ≤ B by omega)]
    · by_cases a : B - N ≤ j
      · have : B - (N + 1) ≤ j := by omega
        simp [a, this]
      · simp [a]
    · by_cases a : B - N ≤ j
      · have : B - (N + 1) ≤ j := by omega
        simp [a, this]
      · simp [a]
  · exact ⟨by simp, by simp⟩
theorem cv_more {k B V N : Nat} (hk : k < 8) (hb : fieldBits (k : Int) = B) (hV : V < 2 ^ B) (hN : N + 1 ≤ B) : cvOk (mbD k V (N + 1 : Nat)) (mbD k V N) = false := by
  have : cvAt (mbD k V (N + 1 : Nat)) (mbD k V N) k = false := by
    unfold cvAt nv
    rw [mbD_at hb, mbD_at hb]
    simp only [zero8_at _ hk, if_true, Int.toNat_natCast]
    rw [decide_eq_false, Bool.false_and]
    intro h
    have := congrArg (fun x => x.testBit (B - (N + 1))) h
    simp only [Nat.testBit_or, mask_bit hN, mask_bit (show N ≤ B by omega)] at this
    have a : ¬ B - N ≤ B - (N + 1) := by omega
    have b : B - (N + 1) < B := by omega
    simp [a, b] at this
  unfold cvOk
  rw [allB_false k hk this]
  simp
theorem ask_mb {k B V N : Nat} (hk : k < 8) (hb : fieldBits (k : Int) = B) (hf : full (k : Int) = ((2 ^ B - 1 : Nat) : Int)) (hV : V < 2 ^ B) (hN : N ≤ B) (h48 : B ≤ 48) : askF (mbD k V N) = N := by
  rw [askF_yes (mbD_ok hk hb hf hV hN), mbD_at hb]
  show askL (zero8.set k _) 8 = _
  rw [askL_zero k hk]
  unfold popI
  rw [Int.toNat_natCast, popN_mask hN (by omega)]
theorem wf_mt {d : MatchD} (h : mtOk d = true) : WfM d := by
  obtain ⟨h1, h2, h3⟩ := mtOk_iff.1 h
  have hl := (hdOk_at h2).1
  have bd : ∀ i, i < 8 → (0 ≤ d.vs.getD i 0 ∧ d.vs.getD i 0 ≤ 281474976710655) ∧ 0 ≤ d.ms.getD i 0 ∧ d.ms.getD i 0 ≤ 281474976710655 := fun i hi => by
    obtain ⟨a, b, c, _⟩ := mtOk_at h i hi
    have := fitB_bd a
    exact ⟨⟨b, by omega⟩, this⟩
  constructor
  · intro x hx
    obtain ⟨i, hi, rfl⟩ := List.getElem_of_mem hx
    have := (bd i (by omega)).1
    rw [getD_at hi] at this
    omega
  · intro x hx
    obtain ⟨i, hi, rfl⟩ := List.getElem_of_mem hx
    have := (bd i (by omega)).2
    rw [getD_at hi] at this
    omega
--%
end Go.Proofs.Ytkkhkojojnebjaa
