/- slices.Equal on bytes. -/
import Derived.Test.YtcldfodnblkeiaaTy
import Derived.Test.YtcldfodnblkeiaaReg
import Derived.Test.YtcldfodnblkeiaaApp
import Derived.WalkKit
import Derived.ProofKit
import Derived.Deep.QuietTactic
import Derived.BigQuiet
import Derived.Outline
import Derived.WalkSpells
namespace Go.Proofs.Ytcldfodnblkeiaa
open Go.ChangeShapes Go.WideShapes Go.ChangeAt Go.RowKit
set_option linter.unusedVariables false
set_option linter.unusedSimpArgs false
--% Equal 92
theorem equalB_any (v1 v2 : Value) (xs ys : List Int) (w : World) (h1 : RdB w v1 xs) (h2 : RdB w v2 ys) :
    Calls Try.prog 92 #[v1, v2] w (QuietBool (decide (xs = ys)) w) := by
  obtain ⟨a1, c1, rfl, hlc1, hm1, hn1, hc1⟩ := Rd.ints h1
  obtain ⟨a2, c2, rfl, hlc2, hm2, hn2, hc2⟩ := Rd.ints h2
  clear h1 h2 hn1 hn2
  have H1 := Lib.hid hc1; clear hc1
  have H2 := Lib.hid hc2; clear hc2
  unfold maxLen at hm1 hm2
  by_cases hl : xs.length = ys.length
  · have hb : ((xs.length : Int) != (ys.length : Int)) = false := by simp [hl]
    have HL := Lib.hid hl; clear hl
    go_enter Try.func92, Try.ntmps92
    go_wp2
    go_loopw [13] (fun i wr => ∃ k : Nat, k ≤ xs.length ∧ i = .int .i64 k ∧ xs.take k = ys.take k ∧ ∃ n, wr = w.drewN n) (fun i _ => xs.length - (intOf i).toNat)
    case atStart => exact ⟨0, Nat.zero_le _, rfl, by simp, 0, rfl⟩
    case round =>
      obtain ⟨k, hk, rfl, htk, n, rfl⟩ := hrel
      have HT := Lib.hid htk; clear htk
      by_cases hlt : k < xs.length
      · have hlt2 : k < ys.length := by rw [← HL.out]; exact hlt
        obtain ⟨b1, o1, rfl, hc1⟩ := H1.out k hlt
        obtain ⟨b2, o2, rfl, hc2⟩ := H2.out k hlt2
        by_cases he : xs[k] = ys[k]
        · have heb : (xs[k] != ys[k]) = false := by rw [he]; simp
          have HE := Lib.hid he; clear he
          go_wp2
          go_quiet (fail)
          go_wp2
          go_roundw
          case rel => exact ⟨k + 1, by omega, by go_num, take_succ_eq hlt hlt2 HT.out HE.out, _, rfl⟩
          case measure => simp [intOf]; omega
        · have heb : (xs[k] != ys[k]) = true := by simpa using he
          have HE := Lib.hid he; clear he
          go_wp2
          go_quiet (fail)
          go_wp2
          go_ret
          exact ⟨ret_bool (decide_eq_false (ne_of_at hlt hlt2 HE.out)).symm, ex_drewN w _ _⟩
      · go_wp2
        go_ret
        exact ⟨ret_bool (decide_eq_true (by have := HT.out; rwa [List.take_of_length_le (by omega), List.take_of_length_le (by rw [← HL.out]; omega)] at this)).symm, _, rfl⟩
  · have hb : ((xs.length : Int) != (ys.length : Int)) = true := by simp; omega
    have hne : xs ≠ ys := fun h => hl (by rw [h])
    have HN := Lib.hid hne; clear hne
    go_enter Try.func92, Try.ntmps92
    go_wp2
    go_ret
    exact ⟨ret_bool (decide_eq_false HN.out).symm, 0, rfl⟩
theorem equal_B (w : World) (v1 v2 : Value) (x y : List Int) (h1 : RdB w v1 x) (h2 : RdB w v2 y) : Calls Try.prog 92 #[v1, v2] w (RetV (.bool (decide (x = y))) w) :=
  (equalB_any v1 v2 x y w h1 h2).mono fun _ _ h => RetV.of_quietBool h
--%
end Go.Proofs.Ytcldfodnblkeiaa
