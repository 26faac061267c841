/- Contracts: words and numbers in text. -/
import Derived.Test.YtgbaaapneddcoaaNum
import Derived.Test.YtgbaaapneddcoaaTy
import Derived.WalkKit
import Derived.ProofKit
import Derived.Deep.QuietTactic
import Derived.BigQuiet
import Derived.Outline
import Derived.WalkSpells
namespace Go.Proofs.Ytgbaaapneddcoaa
open Go.ChangeShapes Go.WideShapes Go.ChangeAt Go.RowKit
set_option linter.unusedVariables false
set_option linter.unusedSimpArgs false

def chr (s : ByteArray) (i : Nat) : Int := if h : i < s.size then (s[i].toNat : Int) else 0
theorem chr_at (s : ByteArray) (i : Nat) (h : i < s.size) : chr s i = (s[i].toNat : Int) := by simp [chr, h]
def WordP (s : ByteArray) : Prop := 1 ≤ s.size ∧ s.size ≤ 12 ∧ ∀ i, i < s.size → (97 ≤ chr s i ∧ chr s i ≤ 122) ∨ ((48 ≤ chr s i ∧ chr s i ≤ 57) ∧ i ≠ 0)
open Classical in
noncomputable def wordB (s : ByteArray) : Bool := decide (WordP s)
theorem wordB_true {s : ByteArray} (h : WordP s) : wordB s = true := by simp [wordB, h]
theorem wordB_false {s : ByteArray} (h : ¬ WordP s) : wordB s = false := by simp [wordB, h]
--% WordOkI 22 45 46
theorem wordOkI_any (s : ByteArray) (w : World) (hs : s.size ≤ 9223372036854775807) :
    Calls Try.prog 22 #[.string s] w (RetV (.bool (wordB s)) w) := by
  go_enter Try.func22, Try.ntmps22
  go_wp2
  go_loop [6] (fun i => ∃ k : Nat, k ≤ s.size ∧ i = .int .i64 k ∧ ∀ j, j < k → (97 ≤ chr s j ∧ chr s j ≤ 122) ∨ (48 ≤ chr s j ∧ chr s j ≤ 57)) (fun i => s.size - (intOf i).toNat)
  case atStart => exact ⟨0, Nat.zero_le _, rfl, fun j hj => by omega⟩
  case round =>
    obtain ⟨k, hk, rfl, hall⟩ := hrel
    have HA := Lib.hid hall; clear hall
    by_cases hlt : k < s.size
    · have hq := Lib.hid (chr_at s k hlt)
      by_cases h1 : 97 ≤ (s[k].toNat : Int) ∧ (s[k].toNat : Int) ≤ 122
      · have hB := inB_true h1.1 h1.2
        have HH := Lib.hid h1; clear h1
        go_wp2_with (first | (go_at_call 45; refine (isLetter_any _ _).mono ?_; rintro e w' ⟨rfl, rfl⟩) | (go_at_call 46; refine (isDigit_any _ _).mono ?_; rintro e w' ⟨rfl, rfl⟩))
        go_round
        case rel => exact ⟨k + 1, by omega, by go_num, fun j hj => by
          by_cases hjk : j = k
          · subst hjk; left; rw [hq.out]; exact HH.out
          · exact HA.out j (by omega)⟩
        case measure => simp [intOf]; omega
      · have hB : inB 97 122 (s[k].toNat : Int) = false := inB_false (by omega)
        by_cases h2 : 48 ≤ (s[k].toNat : Int) ∧ (s[k].toNat : Int) ≤ 57
        · have hB2 := inB_true h2.1 h2.2
          have HH := Lib.hid h2; clear h1 h2
          go_wp2_with (first | (go_at_call 45; refine (isLetter_any _ _).mono ?_; rintro e w' ⟨rfl, rfl⟩) | (go_at_call 46; refine (isDigit_any _ _).mono ?_; rintro e w' ⟨rfl, rfl⟩))
          go_round
          case rel => exact ⟨k + 1, by omega, by go_num, fun j hj => by
            by_cases hjk : j = k
            · subst hjk; right; rw [hq.out]; exact HH.out
            · exact HA.out j (by omega)⟩
          case measure => simp [intOf]; omega
        · have hB2 : inB 48 57 (s[k].toNat : Int) = false := inB_false (by omega)
          have hno : ¬ WordP s := fun h => by
            have := h.2.2 k hlt
            rw [hq.out] at this
            rcases this with h | h
            · exact h1 h
            · exact h2 h.1
          have HN := Lib.hid hno; clear h1 h2 hno
          go_wp2_with (first | (go_at_call 45; refine (isLetter_any _ _).mono ?_; rintro e w' ⟨rfl, rfl⟩) | (go_at_call 46; refine (isDigit_any _ _).mono ?_; rintro e w' ⟨rfl, rfl⟩))
          go_ret
          exact ⟨ret_bool (wordB_false HN.out).symm, Grow.refl _⟩
    · obtain rfl : k = s.size := by omega
      by_cases h1 : 1 ≤ s.size
      · by_cases h2 : s.size ≤ 12
        · have hq := Lib.hid (chr_at s 0 (by omega))
          have h0 : 0 < s.size := by omega
          by_cases h3 : 97 ≤ (s[0].toNat : Int) ∧ (s[0].toNat : Int) ≤ 122
          · have hB := inB_true h3.1 h3.2
            have HW : Hid (WordP s) := Lib.hid ⟨h1, h2, fun i hi => by
              rcases HA.out i hi with h | h
              · exact .inl h
              · by_cases hi0 : i = 0
                · subst hi0; left; rw [hq.out]; exact h3
                · exact .inr ⟨h, hi0⟩⟩
            clear h3
            go_wp2_with (first | (go_at_call 45; refine (isLetter_any _ _).mono ?_; rintro e w' ⟨rfl, rfl⟩))
            go_ret
            exact ⟨ret_bool (hB.trans (wordB_true HW.out).symm), Grow.refl _⟩
          · have hB : inB 97 122 (s[0].toNat : Int) = false := inB_false (by omega)
            have HW : Hid (¬ WordP s) := Lib.hid (fun h => by
              have := h.2.2 0 h0
              rw [hq.out] at this
              rcases this with h | h
              · exact h3 h
              · exact h.2 rfl)
            clear h3
            go_wp2_with (first | (go_at_call 45; refine (isLetter_any _ _).mono ?_; rintro e w' ⟨rfl, rfl⟩))
            go_ret
            exact ⟨ret_bool (wordB_false HW.out).symm, Grow.refl _⟩
        · have HW : Hid (¬ WordP s) := Lib.hid (fun h => by have := h.2.1; omega)
          go_wp2
          go_ret
          exact ⟨ret_bool (wordB_false HW.out).symm, Grow.refl _⟩
      · have HW : Hid (¬ WordP s) := Lib.hid (fun h => by have := h.1; omega)
        go_wp2
        go_ret
        exact ⟨ret_bool (wordB_false HW.out).symm, Grow.refl _⟩
--% WordOkS 21
theorem wordOkS_any (s : ByteArray) (w : World) (hs : s.size ≤ 9223372036854775807) :
    Calls Try.prog 21 #[.string s] w (RetV (.bool (wordB s)) w) := by
  by_cases h1 : 1 ≤ s.size
  · by_cases h2 : s.size ≤ 12
    · go_enter Try.func21, Try.ntmps21
      go_wp2
      go_loop [3] (fun i => ∃ k : Nat, k ≤ s.size ∧ i = .int .i64 k ∧ ∀ j, j < k → (97 ≤ chr s j ∧ chr s j ≤ 122) ∨ ((48 ≤ chr s j ∧ chr s j ≤ 57) ∧ j ≠ 0)) (fun i => s.size - (intOf i).toNat)
      case atStart => exact ⟨0, Nat.zero_le _, rfl, fun j hj => by omega⟩
      case round =>
        obtain ⟨k, hk, rfl, hall⟩ := hrel
        have HA := Lib.hid hall; clear hall
        by_cases hlt : k < s.size
        · have hq := Lib.hid (chr_at s k hlt)
          by_cases ha : 97 ≤ (s[k].toNat : Int)
          · by_cases hb : (s[k].toNat : Int) ≤ 122
            · go_wp2
              go_round
              case rel => exact ⟨k + 1, by omega, by go_num, fun j hj => by
                by_cases hjk : j = k
                · subst hjk; left; rw [hq.out]; exact ⟨ha, hb⟩
                · exact HA.out j (by omega)⟩
              case measure => simp [intOf]; omega
            · have hd : ¬ ((s[k].toNat : Int) ≤ 57) := by omega
              have hd2 : 48 ≤ (s[k].toNat : Int) := by omega
              have HN : Hid (¬ WordP s) := Lib.hid (fun h => by have := h.2.2 k hlt; rw [hq.out] at this; omega)
              go_wp2
              go_ret
              exact ⟨ret_bool (wordB_false HN.out).symm, Grow.refl _⟩
          · by_cases hc : 48 ≤ (s[k].toNat : Int)
            · by_cases hd : (s[k].toNat : Int) ≤ 57
              · by_cases h0 : k = 0
                · subst h0
                  have HN : Hid (¬ WordP s) := Lib.hid (fun h => by have := h.2.2 0 hlt; rw [hq.out] at this; omega)
                  go_wp2
                  go_ret
                  exact ⟨ret_bool (wordB_false HN.out).symm, Grow.refl _⟩
                · have hk0 : ((k : Int) == 0) = false := by simp; omega
                  go_wp2
                  go_round
                  case rel => exact ⟨k + 1, by omega, by go_num, fun j hj => by
                    by_cases hjk : j = k
                    · subst hjk; right; rw [hq.out]; exact ⟨⟨hc, hd⟩, h0⟩
                    · exact HA.out j (by omega)⟩
                  case measure => simp [intOf]; omega
              · have HN : Hid (¬ WordP s) := Lib.hid (fun h => by have := h.2.2 k hlt; rw [hq.out] at this; omega)
                go_wp2
                go_ret
                exact ⟨ret_bool (wordB_false HN.out).symm, Grow.refl _⟩
            · have HN : Hid (¬ WordP s) := Lib.hid (fun h => by have := h.2.2 k hlt; rw [hq.out] at this; omega)
              go_wp2
              go_ret
              exact ⟨ret_bool (wordB_false HN.out).symm, Grow.refl _⟩
        · obtain rfl : k = s.size := by omega
          have HW : Hid (WordP s) := Lib.hid ⟨h1, h2, HA.out⟩
          go_wp2
          go_ret
          exact ⟨ret_bool (wordB_true HW.out).symm, Grow.refl _⟩
    · have HW : Hid (¬ WordP s) := Lib.hid (fun h => by have := h.2.1; omega)
      go_enter Try.func21, Try.ntmps21
      go_wp2
      go_ret
      exact ⟨ret_bool (wordB_false HW.out).symm, Grow.refl _⟩
  · have HW : Hid (¬ WordP s) := Lib.hid (fun h => by have := h.1; omega)
    go_enter Try.func21, Try.ntmps21
    go_wp2
    go_ret
    exact ⟨ret_bool (wordB_false HW.out).symm, Grow.refl _⟩
--%
end Go.Proofs.Ytgbaaapneddcoaa
