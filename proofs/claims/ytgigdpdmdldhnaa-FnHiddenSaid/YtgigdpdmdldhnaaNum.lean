/- Contracts of the functions that only compute with numbers. -/
import Derived.Test.YtgigdpdmdldhnaaRows
import Derived.Test.YtgigdpdmdldhnaaMem
import Derived.WalkKit
import Derived.ProofKit
import Derived.OpenShut
import Derived.Deep.QuietTactic
import Derived.BigQuiet
import Derived.Outline
import Derived.WalkSpells
namespace Go.Proofs.Ytgigdpdmdldhnaa
open Go.ChangeShapes Go.WideShapes Go.ChangeAt Go.RowKit
set_option linter.unusedVariables false
set_option linter.unusedSimpArgs false

def numOkB (n size : Int) : Bool := decide (1 ≤ size ∧ size ≤ 6 ∧ 0 ≤ n ∧ n < 256 ^ size.toNat)
def inB (lo hi n : Int) : Bool := decide (lo ≤ n ∧ n ≤ hi)
theorem inB_true {lo hi n : Int} (h1 : lo ≤ n) (h2 : n ≤ hi) : inB lo hi n = true := by simp [inB, h1, h2]
theorem inB_false {lo hi n : Int} (h : n < lo ∨ hi < n) : inB lo hi n = false := by unfold inB; rw [decide_eq_false]; omega
theorem inB_iff {lo hi n : Int} : inB lo hi n = true ↔ lo ≤ n ∧ n ≤ hi := by simp [inB]
def p256 (k : Nat) : Int := 256 ^ k
theorem p256_0 : p256 0 = 1 := by unfold p256; rw [Int.pow_zero]
theorem p256_s (k : Nat) : p256 (k+1) = p256 k * 256 := by unfold p256; rw [Int.pow_succ]
theorem p256_bd (k : Nat) (h : k ≤ 6) : 1 ≤ p256 k ∧ p256 k ≤ 281474976710656 := by
  unfold p256
  obtain rfl | rfl | rfl | rfl | rfl | rfl | rfl : k = 0 ∨ k = 1 ∨ k = 2 ∨ k = 3 ∨ k = 4 ∨ k = 5 ∨ k = 6 := by omega
  all_goals decide

--% isNumber 71
theorem isNumber_any (n : Int) (w : World) :
    Calls Try.prog 71 #[.int .i64 n] w fun e w' => e = .returned (.bool (inB 0 281474976710655 n)) ∧ w = w' := by
  by_cases h1 : 0 ≤ n
  · by_cases h2 : n ≤ 281474976710655
    · go_enter Try.func71, Try.ntmps71
      go_wp2
      go_ret
      exact ⟨ret_bool (inB_true h1 h2).symm, rfl⟩
    · go_enter Try.func71, Try.ntmps71
      go_wp2
      go_ret
      exact ⟨ret_bool (inB_false (by omega)).symm, rfl⟩
  · go_enter Try.func71, Try.ntmps71
    go_wp2
    go_ret
    exact ⟨ret_bool (inB_false (by omega)).symm, rfl⟩
--% l01Num 69
theorem l01Num_any (n : Int) (w : World) :
    Calls Try.prog 69 #[.int .i64 n] w fun e w' => e = .returned (.bool (inB 0 281474976710655 n)) ∧ w = w' := by
  by_cases h1 : 0 ≤ n
  · by_cases h2 : n ≤ 281474976710655
    · go_enter Try.func69, Try.ntmps69
      go_wp2
      go_ret
      exact ⟨ret_bool (inB_true h1 h2).symm, rfl⟩
    · go_enter Try.func69, Try.ntmps69
      go_wp2
      go_ret
      exact ⟨ret_bool (inB_false (by omega)).symm, rfl⟩
  · go_enter Try.func69, Try.ntmps69
    go_wp2
    go_ret
    exact ⟨ret_bool (inB_false (by omega)).symm, rfl⟩
--% isPort 68
theorem isPort_any (n : Int) (w : World) :
    Calls Try.prog 68 #[.int .i64 n] w fun e w' => e = .returned (.bool (inB 1 255 n)) ∧ w = w' := by
  by_cases h1 : 1 ≤ n
  · by_cases h2 : n ≤ 255
    · go_enter Try.func68, Try.ntmps68
      go_wp2
      go_ret
      exact ⟨ret_bool (inB_true h1 h2).symm, rfl⟩
    · go_enter Try.func68, Try.ntmps68
      go_wp2
      go_ret
      exact ⟨ret_bool (inB_false (by omega)).symm, rfl⟩
  · go_enter Try.func68, Try.ntmps68
    go_wp2
    go_ret
    exact ⟨ret_bool (inB_false (by omega)).symm, rfl⟩
--% pow 128
theorem pow_any (s : Int) (w : World) (h1 : 1 ≤ s) (h6 : s ≤ 6) :
    Calls Try.prog 128 #[.int .i64 s] w fun e w' => e = .returned (.int .i64 (p256 s.toNat)) ∧ w = w' := by
  obtain ⟨n, rfl⟩ := Int.eq_ofNat_of_zero_le (show 0 ≤ s by omega)
  go_enter Try.func128, Try.ntmps128
  go_wp2
  go_loop [3, 4] (fun p i => ∃ k : Nat, k ≤ n ∧ i = .int .i64 k ∧ p = .int .i64 (p256 k)) (fun _ i => n - (intOf i).toNat)
  case atStart => exact ⟨0, by omega, rfl, rfl⟩
  case round =>
    obtain ⟨k, hk, rfl, rfl⟩ := hrel
    have hb := p256_bd k (by omega)
    by_cases hlt : k < n
    · have hb' := p256_bd (k+1) (by omega)
      rw [p256_s] at hb'
      go_wp2
      go_round
      case rel => exact ⟨k + 1, by omega, by go_num, by rw [p256_s]⟩
      case measure => simp [intOf]; omega
    · obtain rfl : k = n := by omega
      go_wp2
      go_ret
      exact ⟨rfl, rfl⟩
--% NumOkS 140 128
theorem numOkS_any (n size : Int) (w : World) :
    Calls Try.prog 140 #[.int .i64 n, .int .i64 size] w fun e w' => e = .returned (.bool (numOkB n size)) ∧ w = w' := by
  by_cases hs : 1 ≤ size
  · by_cases hs' : size ≤ 6
    · by_cases h0 : 0 ≤ n
      · go_enter Try.func140, Try.ntmps140
        go_wp2_with (go_at_call 128; refine (pow_any _ _ hs hs').mono ?_; rintro e w' ⟨rfl, rfl⟩)
        go_ret
        exact ⟨ret_bool (decide_eq_decide.2 ⟨fun h => ⟨hs, hs', h0, h⟩, fun h => h.2.2.2⟩), rfl⟩
      · go_enter Try.func140, Try.ntmps140
        go_wp2
        go_ret
        exact ⟨ret_bool (by unfold numOkB; rw [decide_eq_false (by omega)]), rfl⟩
    · go_enter Try.func140, Try.ntmps140
      go_wp2
      go_ret
      exact ⟨ret_bool (by unfold numOkB; rw [decide_eq_false (by omega)]), rfl⟩
  · go_enter Try.func140, Try.ntmps140
    go_wp2
    go_ret
    exact ⟨ret_bool (by unfold numOkB; rw [decide_eq_false (by omega)]), rfl⟩
--% FieldBits 141 129
def fieldBits (f : Int) : Int := if f = 0 ∨ f = 7 then 8 else if f = 1 ∨ f = 2 then 48 else if f = 3 ∨ f = 4 then 16 else if f = 5 ∨ f = 6 then 32 else 0
theorem fieldBitsI_any (f : Int) (w : World) :
    Calls Try.prog 141 #[.int .i64 f] w fun e w' => e = .returned (.int .i64 (fieldBits f)) ∧ w = w' := by
  by_cases hs : 0 ≤ f ∧ f ≤ 7
  · obtain ⟨h1, h6⟩ := hs
    obtain rfl | rfl | rfl | rfl | rfl | rfl | rfl | rfl : f = 0 ∨ f = 1 ∨ f = 2 ∨ f = 3 ∨ f = 4 ∨ f = 5 ∨ f = 6 ∨ f = 7 := by omega
    all_goals
      go_enter Try.func141, Try.ntmps141
      go_wp2
      go_ret
      exact ⟨ret_int (by decide), rfl⟩
  · have hb : fieldBits f = 0 := by
      unfold fieldBits
      rw [if_neg (by omega), if_neg (by omega), if_neg (by omega), if_neg (by omega)]
    have h0 : (f == 0) = false := by simp; omega
    have h1 : (f == 1) = false := by simp; omega
    have h2 : (f == 2) = false := by simp; omega
    have h3 : (f == 3) = false := by simp; omega
    have h4 : (f == 4) = false := by simp; omega
    have h5 : (f == 5) = false := by simp; omega
    have h6 : (f == 6) = false := by simp; omega
    have h7 : (f == 7) = false := by simp; omega
    have HB := Lib.hid hb; clear hb hs
    go_enter Try.func141, Try.ntmps141
    go_wp2
    go_ret
    exact ⟨ret_int HB.out.symm, rfl⟩
def SomeGrow (v : Value) (w : World) (e : Ending) (w' : World) : Prop := e = .returned v ∧ Grow w w'
theorem fieldBitsS_any (f : Int) (w : World) :
    Calls Try.prog 129 #[.int .i64 f] w (SomeGrow (.int .i64 (fieldBits f)) w) := by
  by_cases h1 : 0 ≤ f
  · by_cases h6 : f < 8
    · obtain rfl | rfl | rfl | rfl | rfl | rfl | rfl | rfl : f = 0 ∨ f = 1 ∨ f = 2 ∨ f = 3 ∨ f = 4 ∨ f = 5 ∨ f = 6 ∨ f = 7 := by omega
      all_goals
        go_enter Try.func129, Try.ntmps129
        go_wp2
        go_ret
        exact ⟨ret_int (by decide), Grow.alloc _ _⟩
    · have hb : fieldBits f = 0 := by
        unfold fieldBits
        rw [if_neg (by omega), if_neg (by omega), if_neg (by omega), if_neg (by omega)]
      have HB := Lib.hid hb; clear hb
      go_enter Try.func129, Try.ntmps129
      go_wp2
      go_ret
      exact ⟨ret_int HB.out.symm, Grow.refl _⟩
  · have hb : fieldBits f = 0 := by
      unfold fieldBits
      rw [if_neg (by omega), if_neg (by omega), if_neg (by omega), if_neg (by omega)]
    have HB := Lib.hid hb; clear hb
    go_enter Try.func129, Try.ntmps129
    go_wp2
    go_ret
    exact ⟨ret_int HB.out.symm, Grow.refl _⟩
--%
end Go.Proofs.Ytgigdpdmdldhnaa
