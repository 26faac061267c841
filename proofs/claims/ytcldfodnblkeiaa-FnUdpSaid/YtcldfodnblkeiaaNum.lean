/- Contracts of the functions that only compute with numbers. -/
import Derived.Test.YtcldfodnblkeiaaRows
import Derived.Test.YtcldfodnblkeiaaMem
import Derived.WalkKit
import Derived.ProofKit
import Derived.OpenShut
import Derived.Deep.QuietTactic
import Derived.BigQuiet
import Derived.Outline
import Derived.WalkSpells
namespace Go.Proofs.Ytcldfodnblkeiaa
open Go.ChangeShapes Go.WideShapes Go.ChangeAt Go.RowKit
set_option linter.unusedVariables false
set_option linter.unusedSimpArgs false

def numOkB (n size : Int) : Bool := decide (1 ≤ size ∧ size ≤ 6 ∧ 0 ≤ n ∧ n < 256 ^ size.toNat)
def inB (lo hi n : Int) : Bool := decide (lo ≤ n ∧ n ≤ hi)
theorem inB_true {lo hi n : Int} (h1 : lo ≤ n) (h2 : n ≤ hi) : inB lo hi n = true := by simp [inB, h1, h2]
theorem inB_false {lo hi n : Int} (h : n < lo ∨ hi < n) : inB lo hi n = false := by unfold inB; rw [decide_eq_false]; omega
theorem inB_iff {lo hi n : Int} : inB lo hi n = true ↔ lo ≤ n ∧ n ≤ hi := by simp [inB]
def p256 (k : Nat) : Int := 256 ^ k
theorem p256_0 : p256 0 = 1 := by unfold p256; rw [Int.pow_zero]
theorem p256_s (k : Nat) : p256 (k+1) = p256 k * 256 := by unfold p256; rw [Int.pow_succ]
theorem p256_bd (k : Nat) (h : k ≤ 6) : 1 ≤ p256 k ∧ p256 k ≤ 281474976710656 := by
  unfold p256
  obtain rfl | rfl | rfl | rfl | rfl | rfl | rfl : k = 0 ∨ k = 1 ∨ k = 2 ∨ k = 3 ∨ k = 4 ∨ k = 5 ∨ k = 6 := by omega
  all_goals decide

--% isSize 104
theorem isSize_any (n : Int) (w : World) :
    Calls Try.prog 104 #[.int .i64 n] w fun e w' => e = .returned (.bool (inB 1 6 n)) ∧ w = w' := by
  by_cases h1 : 1 ≤ n
  · by_cases h2 : n ≤ 6
    · go_enter Try.func104, Try.ntmps104
      go_wp2
      go_ret
      exact ⟨ret_bool (inB_true h1 h2).symm, rfl⟩
    · go_enter Try.func104, Try.ntmps104
      go_wp2
      go_ret
      exact ⟨ret_bool (inB_false (by omega)).symm, rfl⟩
  · go_enter Try.func104, Try.ntmps104
    go_wp2
    go_ret
    exact ⟨ret_bool (inB_false (by omega)).symm, rfl⟩
--% isNumber 79
theorem isNumber_any (n : Int) (w : World) :
    Calls Try.prog 79 #[.int .i64 n] w fun e w' => e = .returned (.bool (inB 0 281474976710655 n)) ∧ w = w' := by
  by_cases h1 : 0 ≤ n
  · by_cases h2 : n ≤ 281474976710655
    · go_enter Try.func79, Try.ntmps79
      go_wp2
      go_ret
      exact ⟨ret_bool (inB_true h1 h2).symm, rfl⟩
    · go_enter Try.func79, Try.ntmps79
      go_wp2
      go_ret
      exact ⟨ret_bool (inB_false (by omega)).symm, rfl⟩
  · go_enter Try.func79, Try.ntmps79
    go_wp2
    go_ret
    exact ⟨ret_bool (inB_false (by omega)).symm, rfl⟩
--% l01Num 78
theorem l01Num_any (n : Int) (w : World) :
    Calls Try.prog 78 #[.int .i64 n] w fun e w' => e = .returned (.bool (inB 0 281474976710655 n)) ∧ w = w' := by
  by_cases h1 : 0 ≤ n
  · by_cases h2 : n ≤ 281474976710655
    · go_enter Try.func78, Try.ntmps78
      go_wp2
      go_ret
      exact ⟨ret_bool (inB_true h1 h2).symm, rfl⟩
    · go_enter Try.func78, Try.ntmps78
      go_wp2
      go_ret
      exact ⟨ret_bool (inB_false (by omega)).symm, rfl⟩
  · go_enter Try.func78, Try.ntmps78
    go_wp2
    go_ret
    exact ⟨ret_bool (inB_false (by omega)).symm, rfl⟩
--% isTag 80
theorem isTag_any (n : Int) (w : World) :
    Calls Try.prog 80 #[.int .i64 n] w fun e w' => e = .returned (.bool (inB (-1) 4094 n)) ∧ w = w' := by
  by_cases h1 : -1 ≤ n
  · by_cases h2 : n ≤ 4094
    · go_enter Try.func80, Try.ntmps80
      go_wp2
      go_ret
      exact ⟨ret_bool (inB_true h1 h2).symm, rfl⟩
    · go_enter Try.func80, Try.ntmps80
      go_wp2
      go_ret
      exact ⟨ret_bool (inB_false (by omega)).symm, rfl⟩
  · go_enter Try.func80, Try.ntmps80
    go_wp2
    go_ret
    exact ⟨ret_bool (inB_false (by omega)).symm, rfl⟩
--% isType 81
def typeB (n : Int) : Bool := decide (1536 ≤ n ∧ n ≤ 65535 ∧ n ≠ 33024)
theorem isType_any (n : Int) (w : World) :
    Calls Try.prog 81 #[.int .i64 n] w fun e w' => e = .returned (.bool (typeB n)) ∧ w = w' := by
  by_cases h1 : 1536 ≤ n
  · by_cases h2 : n ≤ 65535
    · by_cases h3 : n = 33024
      · have h3b : (n != 33024) = false := by simp [h3]
        have HH := Lib.hid h3; clear h3
        go_enter Try.func81, Try.ntmps81
        go_wp2
        go_ret
        exact ⟨ret_bool (by simp [typeB, HH.out]), rfl⟩
      · have h3b : (n != 33024) = true := by simp [h3]
        have HH := Lib.hid h3; clear h3
        go_enter Try.func81, Try.ntmps81
        go_wp2
        go_ret
        exact ⟨ret_bool (by simp [typeB, HH.out, h1, h2]), rfl⟩
    · go_enter Try.func81, Try.ntmps81
      go_wp2
      go_ret
      exact ⟨ret_bool (by unfold typeB; rw [decide_eq_false (by omega)]), rfl⟩
  · go_enter Try.func81, Try.ntmps81
    go_wp2
    go_ret
    exact ⟨ret_bool (by unfold typeB; rw [decide_eq_false (by omega)]), rfl⟩
--% pow 105
theorem pow_any (s : Int) (w : World) (h1 : 1 ≤ s) (h6 : s ≤ 6) :
    Calls Try.prog 105 #[.int .i64 s] w fun e w' => e = .returned (.int .i64 (p256 s.toNat)) ∧ w = w' := by
  obtain ⟨n, rfl⟩ := Int.eq_ofNat_of_zero_le (show 0 ≤ s by omega)
  go_enter Try.func105, Try.ntmps105
  go_wp2
  go_loop [3, 4] (fun p i => ∃ k : Nat, k ≤ n ∧ i = .int .i64 k ∧ p = .int .i64 (p256 k)) (fun _ i => n - (intOf i).toNat)
  case atStart => exact ⟨0, by omega, rfl, rfl⟩
  case round =>
    obtain ⟨k, hk, rfl, rfl⟩ := hrel
    have hb := p256_bd k (by omega)
    by_cases hlt : k < n
    · have hb' := p256_bd (k+1) (by omega)
      rw [p256_s] at hb'
      go_wp2
      go_round
      case rel => exact ⟨k + 1, by omega, by go_num, by rw [p256_s]⟩
      case measure => simp [intOf]; omega
    · obtain rfl : k = n := by omega
      go_wp2
      go_ret
      exact ⟨rfl, rfl⟩
--% NumOkI 89 104
theorem numOkI_any (n size : Int) (w : World) :
    Calls Try.prog 89 #[.int .i64 n, .int .i64 size] w fun e w' => e = .returned (.bool (numOkB n size)) ∧ w = w' := by
  by_cases hs : 1 ≤ size ∧ size ≤ 6
  · obtain ⟨h1, h6⟩ := hs
    have hB : inB 1 6 size = true := inB_true h1 h6
    by_cases h0 : 0 ≤ n
    · obtain rfl | rfl | rfl | rfl | rfl | rfl : size = 1 ∨ size = 2 ∨ size = 3 ∨ size = 4 ∨ size = 5 ∨ size = 6 := by omega
      all_goals
        go_enter Try.func89, Try.ntmps89
        go_wp2_with (go_at_call 104; refine (isSize_any _ _).mono ?_; rintro e w' ⟨rfl, rfl⟩)
        go_ret
        exact ⟨ret_bool (by simp [numOkB, h0]), rfl⟩
    · go_enter Try.func89, Try.ntmps89
      go_wp2_with (go_at_call 104; refine (isSize_any _ _).mono ?_; rintro e w' ⟨rfl, rfl⟩)
      go_ret
      exact ⟨ret_bool (by unfold numOkB; rw [decide_eq_false (by omega)]), rfl⟩
  · have hB : inB 1 6 size = false := inB_false (by omega)
    go_enter Try.func89, Try.ntmps89
    go_wp2_with (go_at_call 104; refine (isSize_any _ _).mono ?_; rintro e w' ⟨rfl, rfl⟩)
    go_ret
    exact ⟨ret_bool (by unfold numOkB; rw [decide_eq_false (by omega)]), rfl⟩
--% NumOkS 88 105
theorem numOkS_any (n size : Int) (w : World) :
    Calls Try.prog 88 #[.int .i64 n, .int .i64 size] w fun e w' => e = .returned (.bool (numOkB n size)) ∧ w = w' := by
  by_cases hs : 1 ≤ size
  · by_cases hs' : size ≤ 6
    · by_cases h0 : 0 ≤ n
      · go_enter Try.func88, Try.ntmps88
        go_wp2_with (go_at_call 105; refine (pow_any _ _ hs hs').mono ?_; rintro e w' ⟨rfl, rfl⟩)
        go_ret
        exact ⟨ret_bool (decide_eq_decide.2 ⟨fun h => ⟨hs, hs', h0, h⟩, fun h => h.2.2.2⟩), rfl⟩
      · go_enter Try.func88, Try.ntmps88
        go_wp2
        go_ret
        exact ⟨ret_bool (by unfold numOkB; rw [decide_eq_false (by omega)]), rfl⟩
    · go_enter Try.func88, Try.ntmps88
      go_wp2
      go_ret
      exact ⟨ret_bool (by unfold numOkB; rw [decide_eq_false (by omega)]), rfl⟩
  · go_enter Try.func88, Try.ntmps88
    go_wp2
    go_ret
    exact ⟨ret_bool (by unfold numOkB; rw [decide_eq_false (by omega)]), rfl⟩
--%
end Go.Proofs.Ytcldfodnblkeiaa
