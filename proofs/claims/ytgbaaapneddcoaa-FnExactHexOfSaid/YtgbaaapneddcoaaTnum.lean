/- Contracts: numbers read from text. -/
import Derived.Test.YtgbaaapneddcoaaTxt
import Derived.Test.YtgbaaapneddcoaaStr
import Derived.WalkKit
import Derived.ProofKit
import Derived.Deep.QuietTactic
import Derived.BigQuiet
import Derived.Outline
import Derived.WalkSpells
namespace Go.Proofs.Ytgbaaapneddcoaa
open Go.ChangeShapes Go.WideShapes Go.ChangeAt Go.RowKit
set_option linter.unusedVariables false
set_option linter.unusedSimpArgs false

/-- The value of the first k signs. -/
def tv (s : ByteArray) : Nat → Int
  | 0 => 0
  | k + 1 => 10 * tv s k + (chr s k - 48)
def DigP (s : ByteArray) (k : Nat) : Prop := ∀ i, i < k → 48 ≤ chr s i ∧ chr s i ≤ 57
theorem tv_bd (s : ByteArray) (k : Nat) (h : DigP s k) : 0 ≤ tv s k ∧ tv s k < 10 ^ k := by
  induction k with
  | zero => simp [tv]
  | succ k ih =>
    have h1 := ih (fun i hi => h i (by omega))
    have h2 := h k (by omega)
    have e : (10 : Int) ^ (k + 1) = 10 ^ k * 10 := Int.pow_succ ..
    unfold tv
    omega
theorem tv_le (s : ByteArray) (k : Nat) (h : DigP s k) (hk : k ≤ 15) : 0 ≤ tv s k ∧ tv s k ≤ 1000000000000000 := by
  have h1 := tv_bd s k h
  have h2 : (10 : Int) ^ k ≤ 1000000000000000 := by
    have h3 : (10 : Nat) ^ k ≤ 10 ^ 15 := Nat.pow_le_pow_right (by decide) hk
    have h4 : ((10 ^ k : Nat) : Int) = 10 ^ k := by push_cast; rfl
    rw [← h4]
    have : (10 : Nat) ^ 15 = 1000000000000000 := by decide
    omega
  omega
theorem toList_beq {a b : ByteArray} (h : a = b) : (a.toList == b.toList) = true := by subst h; simp
theorem toList_bne {a b : ByteArray} (h : a ≠ b) : (a.toList == b.toList) = false := by
  rw [beq_eq_false_iff_ne]
  intro e
  rw [ByteArray.toList_eq, ByteArray.toList_eq] at e
  exact h (ByteArray.ext (Array.ext' e))
theorem toList_full {s : ByteArray} (h : 1 ≤ s.size) : s.toList.isEmpty = false := by
  rw [ByteArray.toList_eq]
  cases hl : s.data.toList with
  | nil => have : s.size = 0 := by rw [← ByteArray.size_data, ← Array.length_toList, hl]; rfl
           omega
  | cons a l => rfl
theorem toList_none {s : ByteArray} (h : s.size = 0) : s.toList = [] := by
  rw [ByteArray.toList_eq]
  exact List.eq_nil_of_length_eq_zero (by rw [Array.length_toList, ByteArray.size_data, h])
theorem txt_nil_ne {s : ByteArray} (h : 1 ≤ s.size) : txt [] ≠ s := fun e => by subst e; rw [txt_size] at h; simp at h
def TextP (s : ByteArray) : Prop := 1 ≤ s.size ∧ s.size ≤ 15 ∧ DigP s s.size ∧ txt (numText (tv s s.size)) = s
open Classical in
noncomputable def textF (s : ByteArray) : Int × Bool := if TextP s then (tv s s.size, true) else (0, false)
theorem textF_yes {s : ByteArray} (h : TextP s) : textF s = (tv s s.size, true) := by simp [textF, h]
theorem textF_no {s : ByteArray} (h : ¬ TextP s) : textF s = (0, false) := by simp [textF, h]
theorem numText_nil {n : Int} (h : ¬ (0 ≤ n ∧ n ≤ 281474976710655)) : numText n = [] := by unfold numText; rw [if_neg h]
def RetP (r : Int × Bool) (w : World) (e : Ending) (w' : World) : Prop := e = .returned (.tuple #[.int .i64 r.1, .bool r.2]) ∧ Grow w w'

--% TextNumS 33
theorem textNumS_any (w : World) (s : ByteArray) (hs : s.size ≤ 9223372036854775807) : Calls Try.prog 33 #[.string s] w (RetP (textF s) w) := by
  by_cases h1 : 1 ≤ s.size
  · by_cases h2 : s.size ≤ 15
    · go_enter Try.func33, Try.ntmps33
      go_wp2
      go_loop [4, 5] (fun q i => ∃ k : Nat, k ≤ s.size ∧ i = .int .i64 k ∧ q = .int .i64 (tv s k) ∧ DigP s k) (fun _ i => s.size - (intOf i).toNat)
      case atStart => exact ⟨0, Nat.zero_le _, rfl, rfl, fun j hj => by omega⟩
      case round =>
        obtain ⟨k, hk, rfl, rfl, hall⟩ := hrel
        have hb := tv_le s k hall (by omega)
        have HA := Lib.hid hall; clear hall
        by_cases hlt : k < s.size
        · have hq := Lib.hid (chr_at s k hlt)
          by_cases ha : 48 ≤ (s[k].toNat : Int)
          · by_cases hc : (s[k].toNat : Int) ≤ 57
            · go_wp2
              go_round
              case rel =>
                refine ⟨k + 1, by omega, by go_num, ?_, fun j hj => ?_⟩
                · simp only [tv, hq.out]
                  go_num
                · by_cases hjk : j = k
                  · subst hjk; rw [hq.out]; exact ⟨ha, hc⟩
                  · exact HA.out j (by omega)
              case measure => simp [intOf]; omega
            · have HN : Hid (¬ TextP s) := Lib.hid (fun h => by have := h.2.2.1 k hlt; rw [hq.out] at this; omega)
              go_wp2
              go_ret2
              exact ⟨by rw [textF_no HN.out]; rfl, Grow.refl _⟩
          · have HN : Hid (¬ TextP s) := Lib.hid (fun h => by have := h.2.2.1 k hlt; rw [hq.out] at this; omega)
            go_wp2
            go_ret2
            exact ⟨by rw [textF_no HN.out]; rfl, Grow.refl _⟩
        · obtain rfl : k = s.size := by omega
          by_cases hn : tv s s.size ≤ 281474976710655
          · have hin := inB_true hb.1 hn
            by_cases he : txt (numText (tv s s.size)) = s
            · have HT : Hid (TextP s) := Lib.hid ⟨h1, h2, HA.out, he⟩
              have heb := toList_beq he
              clear he
              go_wp2_with (first | (go_at_call 43; refine (l01Num_any _ _).mono ?_; rintro e w' ⟨rfl, rfl⟩) | (go_at_call 19; refine (numTextS_any _ _ (by omega)).mono ?_; rintro e w' ⟨rfl, hg⟩))
              go_ret2
              exact ⟨by rw [textF_yes HT.out]; rfl, by assumption⟩
            · have HT : Hid (¬ TextP s) := Lib.hid (fun h => he h.2.2.2)
              have heb := toList_bne he
              clear he
              go_wp2_with (first | (go_at_call 43; refine (l01Num_any _ _).mono ?_; rintro e w' ⟨rfl, rfl⟩) | (go_at_call 19; refine (numTextS_any _ _ (by omega)).mono ?_; rintro e w' ⟨rfl, hg⟩))
              go_ret2
              exact ⟨by rw [textF_no HT.out]; rfl, by assumption⟩
          · have HT : Hid (¬ TextP s) := Lib.hid (fun h => by have := h.2.2.2; rw [numText_nil (by omega)] at this; exact txt_nil_ne h1 this)
            have hin : inB 0 281474976710655 (tv s s.size) = false := inB_false (by omega)
            go_wp2_with (first | (go_at_call 43; refine (l01Num_any _ _).mono ?_; rintro e w' ⟨rfl, rfl⟩))
            go_ret2
            exact ⟨by rw [textF_no HT.out]; rfl, Grow.refl _⟩
    · have HN : Hid (¬ TextP s) := Lib.hid (fun h => h2 h.2.1)
      go_enter Try.func33, Try.ntmps33
      go_wp2
      go_ret2
      exact ⟨by rw [textF_no HN.out]; rfl, Grow.refl _⟩
  · have HN : Hid (¬ TextP s) := Lib.hid (fun h => h1 h.1)
    go_enter Try.func33, Try.ntmps33
    go_wp2
    go_ret2
    exact ⟨by rw [textF_no HN.out]; rfl, Grow.refl _⟩
--% TextNumI 34
theorem textNumI_any (w : World) (s : ByteArray) (hs : s.size ≤ 9223372036854775807) : Calls Try.prog 34 #[.string s] w (RetP (textF s) w) := by
  by_cases h1 : 1 ≤ s.size
  · have hem := toList_full h1
    by_cases h2 : s.size ≤ 15
    · go_enter Try.func34, Try.ntmps34
      go_wp2
      go_loop [4, 15] (fun q i => ∃ k : Nat, k ≤ s.size ∧ i = .int .i64 k ∧ q = .int .i64 (tv s k) ∧ DigP s k) (fun _ i => s.size - (intOf i).toNat)
      case atStart => exact ⟨0, Nat.zero_le _, rfl, rfl, fun j hj => by omega⟩
      case round =>
        obtain ⟨k, hk, rfl, rfl, hall⟩ := hrel
        have hb := tv_le s k hall (by omega)
        have HA := Lib.hid hall; clear hall
        by_cases hlt : k < s.size
        · have hq := Lib.hid (chr_at s k hlt)
          by_cases ha : 48 ≤ (s[k].toNat : Int) ∧ (s[k].toNat : Int) ≤ 57
          · have hin := inB_true ha.1 ha.2
            obtain ⟨ha1, ha2⟩ := ha
            go_wp2_with (go_at_call 46; refine (isDigit_any _ _).mono ?_; rintro e w' ⟨rfl, rfl⟩)
            go_round
            case rel =>
              refine ⟨k + 1, by omega, by go_num, ?_, fun j hj => ?_⟩
              · simp only [tv, hq.out]
                try go_num
              · by_cases hjk : j = k
                · subst hjk; rw [hq.out]; exact ⟨ha1, ha2⟩
                · exact HA.out j (by omega)
            case measure => simp [intOf]; omega
          · have HN : Hid (¬ TextP s) := Lib.hid (fun h => by have := h.2.2.1 k hlt; rw [hq.out] at this; omega)
            have hin : inB 48 57 (s[k].toNat : Int) = false := inB_false (by omega)
            clear ha
            go_wp2_with (go_at_call 46; refine (isDigit_any _ _).mono ?_; rintro e w' ⟨rfl, rfl⟩)
            go_ret2
            exact ⟨by rw [textF_no HN.out]; rfl, Grow.refl _⟩
        · obtain rfl : k = s.size := by omega
          by_cases he : txt (numText (tv s s.size)) = s
          · have HT : Hid (TextP s) := Lib.hid ⟨h1, h2, HA.out, he⟩
            have heb := toList_beq he
            clear he
            go_wp2_with (first | (go_at_call 20; refine (numTextI_any _ _ (by omega)).mono ?_; rintro e w' ⟨rfl, hg⟩))
            go_ret2
            exact ⟨by rw [textF_yes HT.out]; rfl, by assumption⟩
          · have HT : Hid (¬ TextP s) := Lib.hid (fun h => he h.2.2.2)
            have heb := toList_bne he
            clear he
            go_wp2_with (first | (go_at_call 20; refine (numTextI_any _ _ (by omega)).mono ?_; rintro e w' ⟨rfl, hg⟩))
            go_ret2
            exact ⟨by rw [textF_no HT.out]; rfl, by assumption⟩
    · have HN : Hid (¬ TextP s) := Lib.hid (fun h => h2 h.2.1)
      go_enter Try.func34, Try.ntmps34
      go_wp2
      go_ret2
      exact ⟨by rw [textF_no HN.out]; rfl, Grow.refl _⟩
  · have HN : Hid (¬ TextP s) := Lib.hid (fun h => h1 h.1)
    have hem := toList_none (show s.size = 0 by omega)
    go_enter Try.func34, Try.ntmps34
    go_wp2
    go_ret2
    exact ⟨by rw [textF_no HN.out]; rfl, Grow.refl _⟩
--%
end Go.Proofs.Ytgbaaapneddcoaa
