/- The bitwise operators on ints that are not negative, as operations on naturals; what holds at all places of a list. No program in sight. -/
import Derived.Laws.BitsLemmas
import Derived.WalkKit
namespace Go.Proofs.Ytgigdpdmdldhnaa
open Go
theorem wraps_i64 (n : Int) (h₀ : 0 ≤ n) (h₁ : n < 2 ^ 63) : IntKind.i64.wrap n = n := by rw [IntKind.wrap_i64]; omega
theorem nat_of {a : Int} (h : 0 ≤ a) : a = ((a.toNat : Nat) : Int) := by omega
theorem and_i64 {a b : Int} (h1 : 0 ≤ a) (h2 : a ≤ 9223372036854775807) (h3 : 0 ≤ b) (h4 : b ≤ 9223372036854775807) : bits .and .i64 a b = ((a.toNat &&& b.toNat : Nat) : Int) := by
  have := (bits_nat .i64 63 (by decide) wraps_i64 a.toNat b.toNat (by omega) (by omega)).1
  rwa [← nat_of h1, ← nat_of h3] at this
theorem or_i64 {a b : Int} (h1 : 0 ≤ a) (h2 : a ≤ 9223372036854775807) (h3 : 0 ≤ b) (h4 : b ≤ 9223372036854775807) : bits .or .i64 a b = ((a.toNat ||| b.toNat : Nat) : Int) := by
  have := (bits_nat .i64 63 (by decide) wraps_i64 a.toNat b.toNat (by omega) (by omega)).2
  rwa [← nat_of h1, ← nat_of h3] at this
theorem ofInt_64 (a : Nat) (ha : a < 18446744073709551616) : (BitVec.ofInt 64 (a : Int)).toNat = a := by
  rw [BitVec.ofInt_natCast, BitVec.toNat_ofNat]; exact Nat.mod_eq_of_lt (by omega)
theorem xor_i64 {a b : Int} (h1 : 0 ≤ a) (h2 : a ≤ 9223372036854775807) (h3 : 0 ≤ b) (h4 : b ≤ 9223372036854775807) : bits .xor .i64 a b = ((a.toNat ^^^ b.toNat : Nat) : Int) := by
  obtain ⟨A, rfl⟩ := Int.eq_ofNat_of_zero_le h1
  obtain ⟨B, rfl⟩ := Int.eq_ofNat_of_zero_le h3
  simp only [Int.toNat_natCast]
  have hx : A ^^^ B < 2 ^ 63 := Nat.xor_lt_two_pow (by omega) (by omega)
  show IntKind.i64.wrap ((BitVec.ofInt 64 (A : Int) ^^^ BitVec.ofInt 64 (B : Int)).toNat : Int) = _
  rw [BitVec.toNat_xor, ofInt_64 A (by omega), ofInt_64 B (by omega)]
  exact wraps_i64 _ (by omega) (by omega)
theorem andNot_i64 {a b : Int} (h1 : 0 ≤ a) (h2 : a ≤ 9223372036854775807) (h3 : 0 ≤ b) (h4 : b ≤ 9223372036854775807) : bits .andNot .i64 a b = ((a.toNat &&& (18446744073709551615 - b.toNat) : Nat) : Int) := by
  obtain ⟨A, rfl⟩ := Int.eq_ofNat_of_zero_le h1
  obtain ⟨B, rfl⟩ := Int.eq_ofNat_of_zero_le h3
  simp only [Int.toNat_natCast]
  have e64 : 2 ^ 64 - 1 - B = 18446744073709551615 - B := by omega
  have hx : A &&& (18446744073709551615 - B) ≤ A := Nat.and_le_left
  show IntKind.i64.wrap ((BitVec.ofInt 64 (A : Int) &&& ~~~BitVec.ofInt 64 (B : Int)).toNat : Int) = _
  rw [BitVec.toNat_and, BitVec.toNat_not, ofInt_64 A (by omega), ofInt_64 B (by omega), e64]
  exact wraps_i64 _ (by omega) (by omega)
/-- Bits that both have, or that one lacks. -/
theorem sub_iff {a b : Nat} : a ||| b = b ↔ ∀ i, a.testBit i = true → b.testBit i = true := by
  constructor
  · intro h i hi
    have := congrArg (Nat.testBit · i) h
    simpa [hi] using this.symm
  · intro h
    apply Nat.eq_of_testBit_eq
    intro i
    simp only [Nat.testBit_or]
    cases ha : a.testBit i
    · simp
    · simp [h i ha]
theorem not_bit {b i : Nat} (hb : b < 2 ^ 64) : (2 ^ 64 - 1 - b).testBit i = (decide (i < 64) && !b.testBit i) := by
  have := Nat.testBit_two_pow_sub_succ hb i
  rwa [show 2 ^ 64 - (b + 1) = 2 ^ 64 - 1 - b by omega] at this
theorem high_bit {b n i : Nat} (hb : b < 2 ^ n) (hi : n ≤ i) : b.testBit i = false := Nat.testBit_lt_two_pow (Nat.lt_of_lt_of_le hb (Nat.pow_le_pow_right (by decide) hi))
theorem sub_andNot {a b : Nat} (ha : a < 2 ^ 63) (hb : b < 2 ^ 63) : (a &&& (18446744073709551615 - b) = 0) ↔ a ||| b = b := by
  rw [sub_iff]
  have hn : ∀ i, (18446744073709551615 - b).testBit i = (decide (i < 64) && !b.testBit i) := fun i => not_bit (by omega)
  constructor
  · intro h i hi
    have hlt : i < 64 := by
      rcases Nat.lt_or_ge i 63 with h' | h'
      · omega
      · rw [high_bit ha h'] at hi; cases hi
    have := congrArg (Nat.testBit · i) h
    simp only [Nat.testBit_and, hn, hi, Nat.zero_testBit, Bool.true_and, hlt, decide_true] at this
    simpa using this
  · intro h
    apply Nat.eq_of_testBit_eq
    intro i
    simp only [Nat.testBit_and, hn, Nat.zero_testBit]
    cases hi : a.testBit i
    · simp
    · simp [h i hi]
theorem andNot_zero {a b : Int} (h1 : 0 ≤ a) (h2 : a ≤ 9223372036854775807) (h3 : 0 ≤ b) (h4 : b ≤ 9223372036854775807) : bits .andNot .i64 a b = 0 ↔ a.toNat ||| b.toNat = b.toNat := by
  rw [andNot_i64 h1 h2 h3 h4, ← sub_andNot (by omega) (by omega)]
  omega
theorem or_self_iff {a b : Int} (h1 : 0 ≤ a) (h2 : a ≤ 9223372036854775807) (h3 : 0 ≤ b) (h4 : b ≤ 9223372036854775807) : bits .or .i64 a b = b ↔ a.toNat ||| b.toNat = b.toNat := by
  rw [or_i64 h1 h2 h3 h4]; omega
/-- What a match hits, bit by bit. -/
theorem hit_iff {h m v n : Nat} (hm : m < 2 ^ n) (hv : v ||| m = m) : (h &&& m = v) ↔ ∀ i, i < n → m.testBit i = true → v.testBit i = h.testBit i := by
  constructor
  · rintro rfl i _ hi
    simp [hi]
  · intro k
    apply Nat.eq_of_testBit_eq
    intro i
    simp only [Nat.testBit_and]
    cases hi : m.testBit i
    · cases hvi : v.testBit i
      · simp
      · have := sub_iff.1 hv i hvi; rw [hi] at this; cases this
    · rcases Nat.lt_or_ge i n with h' | h'
      · simp [k i h' hi]
      · rw [high_bit hm h'] at hi; cases hi
theorem cover_iff {am bm av bv n : Nat} (ha : am < 2 ^ n) (hav : av ||| am = am) :
    (am ||| bm = bm ∧ bv &&& am = av) ↔ ∀ i, i < n → am.testBit i = true → bm.testBit i = true ∧ av.testBit i = bv.testBit i := by
  rw [hit_iff ha hav, sub_iff]
  constructor
  · rintro ⟨h1, h2⟩ i hi hm
    exact ⟨h1 i hm, h2 i hi hm⟩
  · intro h
    refine ⟨fun i hm => ?_, fun i hi hm => (h i hi hm).2⟩
    rcases Nat.lt_or_ge i n with h' | h'
    · exact (h i h' hm).1
    · rw [high_bit ha h'] at hm; cases hm
theorem meet_iff {am bm av bv n : Nat} (ha : am < 2 ^ n) : ((av ^^^ bv) &&& am &&& bm = 0) ↔ ∀ i, i < n → am.testBit i = true → bm.testBit i = true → av.testBit i = bv.testBit i := by
  constructor
  · intro h i hi h1 h2
    have := congrArg (Nat.testBit · i) h
    simp only [Nat.testBit_and, Nat.testBit_xor, h1, h2, Nat.zero_testBit, Bool.and_true] at this
    simpa using this
  · intro h
    apply Nat.eq_of_testBit_eq
    intro i
    simp only [Nat.testBit_and, Nat.testBit_xor, Nat.zero_testBit]
    cases h1 : am.testBit i
    · simp
    · cases h2 : bm.testBit i
      · simp
      · rcases Nat.lt_or_ge i n with h' | h'
        · simp [h i h' h1 h2]
        · rw [high_bit ha h'] at h1; cases h1
/-- 'n >> i & 1'. -/
theorem shr_bit {n : Int} (h1 : 0 ≤ n) (h2 : n ≤ 9223372036854775807) (i : Nat) : bits .and .i64 (n / 2 ^ i) 1 = if n.toNat.testBit i then 1 else 0 := by
  obtain ⟨A, rfl⟩ := Int.eq_ofNat_of_zero_le h1
  have hd : ((A : Int) / 2 ^ i) = ((A / 2 ^ i : Nat) : Int) := by simp
  have hle : A / 2 ^ i ≤ A := Nat.div_le_self _ _
  have hle' : ((A / 2 ^ i : Nat) : Int) ≤ A := Int.ofNat_le.2 hle
  rw [hd, and_i64 (Int.natCast_nonneg _) (Int.le_trans hle' h2) (by omega) (by omega)]
  simp only [Int.toNat_natCast, Nat.testBit_eq_decide_div_mod_eq]
  have : (1 : Int).toNat = 1 := rfl
  rw [this, Nat.and_one_is_mod]
  have : A / 2 ^ i % 2 = 0 ∨ A / 2 ^ i % 2 = 1 := by omega
  rcases this with e | e <;> simp [e]
/-- What holds at all places. -/
def allB (n : Nat) (p : Nat → Bool) : Bool := (List.range n).all p
theorem allB_true {n : Nat} {p : Nat → Bool} (h : ∀ i, i < n → p i = true) : allB n p = true := by
  simp only [allB, List.all_eq_true, List.mem_range]; exact h
theorem allB_false {n : Nat} {p : Nat → Bool} (i : Nat) (hi : i < n) (h : p i = false) : allB n p = false := by
  simp only [allB, List.all_eq_false, List.mem_range]; exact ⟨i, hi, by simp [h]⟩
theorem allB_iff {n : Nat} {p : Nat → Bool} : allB n p = true ↔ ∀ i, i < n → p i = true := by simp only [allB, List.all_eq_true, List.mem_range]
theorem below_succ {k : Nat} {p : Nat → Bool} (h : ∀ i, i < k → p i = true) (hk : p k = true) : ∀ i, i < k + 1 → p i = true := fun i hi => by
  rcases Nat.lt_or_ge i k with h' | h'
  · exact h i h'
  · have : i = k := by omega
    exact this ▸ hk
theorem getD_at {zs : List Int} {k : Nat} (h : k < zs.length) : zs.getD k 0 = zs[k] := by simp [List.getD_eq_getElem?_getD, h]
end Go.Proofs.Ytgigdpdmdldhnaa
