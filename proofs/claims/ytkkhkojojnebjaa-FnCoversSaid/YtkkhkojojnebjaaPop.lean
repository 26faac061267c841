/- The count of one bits, as math/bits counts it, is the sum of the bits. No program in sight. -/
import Derived.Test.YtkkhkojojnebjaaBit
namespace Go.Proofs.Ytkkhkojojnebjaa
set_option linter.unusedVariables false
set_option linter.unusedSimpArgs false
--%
def popN (x : Nat) : Nat → Nat
  | 0 => 0
  | k + 1 => popN x k + x / 2 ^ k % 2
theorem popN_0 (k : Nat) : popN 0 k = 0 := by
  induction k with
  | zero => rfl
  | succ k ih => simp [popN, ih]
theorem popN_le (x k : Nat) : popN x k ≤ k := by
  induction k with
  | zero => exact Nat.le_refl _
  | succ k ih => unfold popN; have := Nat.mod_lt (x / 2 ^ k) (show 0 < 2 by decide); omega
theorem popN_add (x a b : Nat) : popN x (a + b) = popN x a + popN (x / 2 ^ a) b := by
  induction b with
  | zero => simp [popN]
  | succ b ih =>
    rw [← Nat.add_assoc]
    simp only [popN]
    rw [ih, Nat.div_div_eq_div_mul, ← Nat.pow_add, Nat.add_assoc]
theorem popN_mod (x a : Nat) : popN x a = popN (x % 2 ^ a) a := by
  have h : ∀ k, k ≤ a → popN x k = popN (x % 2 ^ a) k := by
    intro k hk
    induction k with
    | zero => rfl
    | succ k ih =>
      simp only [popN]
      rw [ih (by omega)]
      congr 1
      obtain ⟨d, rfl⟩ : ∃ d, a = k + 1 + d := ⟨a - (k + 1), by omega⟩
      have e1 : (2:Nat) ^ (k + 1 + d) = 2 ^ k * (2 * 2 ^ d) := by rw [Nat.pow_add, Nat.pow_succ, Nat.mul_assoc]
      rw [e1, Nat.mod_mul_right_div_self, Nat.mod_mul_right_mod]
  exact h a (Nat.le_refl _)
theorem popN_small {x n : Nat} (h : x < 2 ^ n) (m : Nat) : popN x (n + m) = popN x n := by
  rw [popN_add, Nat.div_eq_of_lt h, popN_0, Nat.add_zero]
def rep (c : Nat) : Nat → Nat
  | 0 => 0
  | n + 1 => 256 * rep c n + c
theorem rep_s (c n : Nat) : rep c (n + 1) = 256 * rep c n + c := rfl
theorem and_step (a r b s : Nat) (hr : r < 256) (hs : s < 256) : (256 * a + r) &&& (256 * b + s) = 256 * (a &&& b) + (r &&& s) := by
  have h1 : ((256 * a + r) &&& (256 * b + s)) / 2 ^ 8 = a &&& b := by
    rw [Nat.and_div_two_pow]; congr 1 <;> omega
  have h2 : ((256 * a + r) &&& (256 * b + s)) % 2 ^ 8 = r &&& s := by
    rw [Nat.and_mod_two_pow]; congr 1 <;> omega
  have h3 := Nat.div_add_mod ((256 * a + r) &&& (256 * b + s)) (2 ^ 8)
  rw [h1, h2] at h3
  omega
def pf1 (n x : Nat) : Nat := (x / 2 &&& rep 85 n) + (x &&& rep 85 n)
def pf2 (n x : Nat) : Nat := (x / 4 &&& rep 51 n) + (x &&& rep 51 n)
def pf3 (n x : Nat) : Nat := (x / 16 + x) &&& rep 15 n
def q1 (r : Nat) : Nat := (r / 2 &&& 85) + (r &&& 85)
def q2 (r : Nat) : Nat := (r / 4 &&& 51) + (r &&& 51)
theorem q1_dec : ∀ r : Fin 256, q1 r.val < 256 ∧ (128 + r.val / 2) &&& 85 = r.val / 2 &&& 85 := by decide +kernel
theorem q2_dec : ∀ r : Fin 256, q2 (q1 r.val) % 16 ≤ 4 ∧ q2 (q1 r.val) ≤ 68 ∧ (q2 (q1 r.val) / 16 + q2 (q1 r.val)) % 16 = popN r.val 8 := by decide +kernel
theorem q2_dec2 : ∀ (e : Fin 4) (r : Fin 256), (64 * e.val + r.val / 4) &&& 51 = r.val / 4 &&& 51 := by decide +kernel
theorem q1_lt {r : Nat} (h : r < 256) : q1 r < 256 := (q1_dec ⟨r, h⟩).1
theorem pf1_step (n a r : Nat) (hr : r < 256) : pf1 (n + 1) (256 * a + r) = 256 * pf1 n a + q1 r := by
  have h1 : (256 * a + r) / 2 = 256 * (a / 2) + (128 * (a % 2) + r / 2) := by omega
  unfold pf1 q1
  rw [rep_s, h1, and_step _ _ _ _ (by omega) (by omega), and_step _ _ _ _ hr (by omega)]
  have h2 : (128 * (a % 2) + r / 2) &&& 85 = r / 2 &&& 85 := by
    rcases Nat.mod_two_eq_zero_or_one a with h | h
    · rw [h]; congr 1; omega
    · rw [h]; exact (q1_dec ⟨r, hr⟩).2
  rw [h2]; omega
theorem pf2_step (n a r : Nat) (hr : r < 256) : pf2 (n + 1) (256 * a + r) = 256 * pf2 n a + q2 r := by
  have h1 : (256 * a + r) / 4 = 256 * (a / 4) + (64 * (a % 4) + r / 4) := by omega
  unfold pf2 q2
  rw [rep_s, h1, and_step _ _ _ _ (by omega) (by omega), and_step _ _ _ _ hr (by omega)]
  have h2 : (64 * (a % 4) + r / 4) &&& 51 = r / 4 &&& 51 := q2_dec2 ⟨a % 4, by omega⟩ ⟨r, hr⟩
  rw [h2]; omega
def pfx (n x : Nat) : Nat := pf2 n (pf1 n x)
theorem pfx_step (n a r : Nat) (hr : r < 256) : pfx (n + 1) (256 * a + r) = 256 * pfx n a + q2 (q1 r) := by
  unfold pfx; rw [pf1_step n a r hr, pf2_step _ _ _ (q1_lt hr)]
theorem pfx_low (n x : Nat) : pfx n x % 16 ≤ 4 := by
  cases n with
  | zero => simp [pfx, pf2, rep]
  | succ n =>
    have e : x = 256 * (x / 256) + x % 256 := by omega
    have hr : x % 256 < 256 := Nat.mod_lt _ (by decide)
    rw [e, pfx_step n _ _ hr]
    have := (q2_dec ⟨x % 256, hr⟩).1
    simp only at this
    omega
theorem pf3_step (n x : Nat) : pf3 (n + 1) (pfx (n + 1) x) = 256 * pf3 n (pfx n (x / 256)) + popN (x % 256) 8 := by
  have hr : x % 256 < 256 := Nat.mod_lt _ (by decide)
  have e : pfx (n + 1) x = 256 * pfx n (x / 256) + q2 (q1 (x % 256)) := by
    have e : x = 256 * (x / 256) + x % 256 := by omega
    conv => lhs; rw [e]
    rw [pfx_step n _ _ hr]
  obtain ⟨h1, h2, h3⟩ := q2_dec ⟨x % 256, hr⟩
  simp only at h1 h2 h3
  have hl := pfx_low n (x / 256)
  rw [e]
  generalize pfx n (x / 256) = c at *
  generalize q2 (q1 (x % 256)) = t at *
  have h4 : (256 * c + t) / 16 + (256 * c + t) = 256 * (c / 16 + c) + (16 * (c % 16) + t / 16 + t) := by omega
  unfold pf3
  rw [rep_s, h4, and_step _ _ _ _ (by omega) (by omega)]
  have h5 : (16 * (c % 16) + t / 16 + t) &&& 15 = popN (x % 256) 8 := by
    rw [show (15 : Nat) = 2 ^ 4 - 1 from rfl, Nat.and_two_pow_sub_one_eq_mod, ← h3]; omega
  rw [h5]
/-- The bytes' counts, each in its byte. -/
theorem pf3_bytes (x : Nat) : pf3 8 (pfx 8 x) = popN (x % 256) 8 + 256 * popN (x / 256 % 256) 8 + 65536 * popN (x / 65536 % 256) 8 + 16777216 * popN (x / 16777216 % 256) 8 + 4294967296 * popN (x / 4294967296 % 256) 8 + 1099511627776 * popN (x / 1099511627776 % 256) 8 + 281474976710656 * popN (x / 281474976710656 % 256) 8 + 72057594037927936 * popN (x / 72057594037927936 % 256) 8 := by
  rw [pf3_step, pf3_step, pf3_step, pf3_step, pf3_step, pf3_step, pf3_step, pf3_step]
  have z : pf3 0 (pfx 0 (x / 256 / 256 / 256 / 256 / 256 / 256 / 256 / 256)) = 0 := by simp [pf3, rep]
  rw [z]
  simp only [Nat.div_div_eq_div_mul, Nat.reduceMul]
  generalize popN (x % 256) 8 = p0
  generalize popN (x / 256 % 256) 8 = p1
  generalize popN (x / 65536 % 256) 8 = p2
  generalize popN (x / 16777216 % 256) 8 = p3
  generalize popN (x / 4294967296 % 256) 8 = p4
  generalize popN (x / 1099511627776 % 256) 8 = p5
  generalize popN (x / 281474976710656 % 256) 8 = p6
  generalize popN (x / 72057594037927936 % 256) 8 = p7
  omega
theorem popN_bytes (x : Nat) : popN x 64 = popN (x % 256) 8 + popN (x / 256 % 256) 8 + popN (x / 65536 % 256) 8 + popN (x / 16777216 % 256) 8 + popN (x / 4294967296 % 256) 8 + popN (x / 1099511627776 % 256) 8 + popN (x / 281474976710656 % 256) 8 + popN (x / 72057594037927936 % 256) 8 := by
  have s : ∀ y m, popN y (8 + m) = popN (y % 256) 8 + popN (y / 256) m := fun y m => by rw [popN_add, popN_mod y 8]
  have e : popN x 64 = popN x (8 + (8 + (8 + (8 + (8 + (8 + (8 + (8 + 0)))))))) := rfl
  rw [e, s, s, s, s, s, s, s, s]
  simp only [Nat.div_div_eq_div_mul, Nat.reduceMul]
  have z : ∀ y, popN y 0 = 0 := fun _ => rfl
  rw [z]
  omega
/-- What bits.OnesCount64 does behind the masks. -/
def foldC (z : Nat) : Nat := (z + z / 256 + (z + z / 256) / 65536 + (z + z / 256 + (z + z / 256) / 65536) / 4294967296) % 128
theorem foldC_bytes (p0 p1 p2 p3 p4 p5 p6 p7 : Nat) (h0 : p0 ≤ 8) (h1 : p1 ≤ 8) (h2 : p2 ≤ 8) (h3 : p3 ≤ 8) (h4 : p4 ≤ 8) (h5 : p5 ≤ 8) (h6 : p6 ≤ 8) (h7 : p7 ≤ 8) :
    foldC (p0 + 256 * p1 + 65536 * p2 + 16777216 * p3 + 4294967296 * p4 + 1099511627776 * p5 + 281474976710656 * p6 + 72057594037927936 * p7) = p0 + p1 + p2 + p3 + p4 + p5 + p6 + p7 := by
  unfold foldC
  generalize hz : p0 + 256 * p1 + 65536 * p2 + 16777216 * p3 + 4294967296 * p4 + 1099511627776 * p5 + 281474976710656 * p6 + 72057594037927936 * p7 = z
  have ha : z + z / 256 = (p0 + p1) + 256 * (p1 + p2) + 65536 * (p2 + p3) + 16777216 * (p3 + p4) + 4294967296 * (p4 + p5) + 1099511627776 * (p5 + p6) + 281474976710656 * (p6 + p7) + 72057594037927936 * p7 := by omega
  generalize z + z / 256 = a at *
  clear hz
  have hb : a + a / 65536 = (p0 + p1 + p2 + p3) + 256 * (p1 + p2 + p3 + p4) + 65536 * (p2 + p3 + p4 + p5) + 16777216 * (p3 + p4 + p5 + p6) + 4294967296 * (p4 + p5 + p6 + p7) + 1099511627776 * (p5 + p6 + p7) + 281474976710656 * (p6 + p7) + 72057594037927936 * p7 := by omega
  generalize a + a / 65536 = b at *
  clear ha
  have h1 : b % 256 = p0 + p1 + p2 + p3 := by
    generalize p1 + p2 + p3 + p4 = r1 at hb; generalize p2 + p3 + p4 + p5 = r2 at hb; generalize p3 + p4 + p5 + p6 = r3 at hb; generalize p4 + p5 + p6 + p7 = r4 at hb
    omega
  have h2 : b / 4294967296 = (p4 + p5 + p6 + p7) + 256 * (p5 + p6 + p7) + 65536 * (p6 + p7) + 16777216 * p7 := by
    generalize hs : p0 + p1 + p2 + p3 = r0 at hb; generalize hs1 : p1 + p2 + p3 + p4 = r1 at hb; generalize hs2 : p2 + p3 + p4 + p5 = r2 at hb; generalize hs3 : p3 + p4 + p5 + p6 = r3 at hb
    have : r0 ≤ 32 ∧ r1 ≤ 32 ∧ r2 ≤ 32 ∧ r3 ≤ 32 := by omega
    clear hs hs1 hs2 hs3
    omega
  generalize b / 4294967296 = q at *
  clear hb
  omega
theorem pop_all (x : Nat) (h : x < 18446744073709551616) : foldC (pf3 8 (pf2 8 (pf1 8 x))) = popN x 64 := by
  have e := pf3_bytes x
  unfold pfx at e
  rw [e, foldC_bytes _ _ _ _ _ _ _ _ (popN_le _ _) (popN_le _ _) (popN_le _ _) (popN_le _ _) (popN_le _ _) (popN_le _ _) (popN_le _ _) (popN_le _ _), popN_bytes x]
--%
end Go.Proofs.Ytkkhkojojnebjaa
