/- PortsOk: contracts of the code. -/
import Derived.Test.YtgigdpdmdldhnaaInts
import Derived.Test.YtgigdpdmdldhnaaBit
import Derived.WalkKit
import Derived.ProofKit
import Derived.Deep.QuietTactic
import Derived.BigQuiet
import Derived.Outline
import Derived.WalkSpells
namespace Go.Proofs.Ytgigdpdmdldhnaa
open Go.ChangeShapes Go.WideShapes Go.ChangeAt Go.RowKit
set_option linter.unusedVariables false
set_option linter.unusedSimpArgs false
--%
def ptAt (zs : List Int) (i : Nat) : Bool := inB 1 255 (zs.getD i 0) && (decide (i = 0) || decide (zs.getD (i - 1) 0 < zs.getD i 0))
def ptOk (zs : List Int) : Bool := decide (zs.length ≤ 8) && allB zs.length (ptAt zs)
theorem ptOk_len {zs : List Int} (h : ¬ zs.length ≤ 8) : ptOk zs = false := by simp [ptOk]; omega
theorem ptOk_no {zs : List Int} (i : Nat) (hi : i < zs.length) (h : ptAt zs i = false) : ptOk zs = false := by unfold ptOk; rw [allB_false i hi h, Bool.and_false]
theorem ptOk_yes {zs : List Int} (h1 : zs.length ≤ 8) (h : ∀ i, i < zs.length → ptAt zs i = true) : ptOk zs = true := by unfold ptOk; rw [allB_true h, decide_eq_true h1]; rfl
theorem ptAt_1 {zs : List Int} {i : Nat} (h : inB 1 255 (zs.getD i 0) = false) : ptAt zs i = false := by unfold ptAt; rw [h]; rfl
theorem ptAt_0 {zs : List Int} (h : inB 1 255 (zs.getD 0 0) = true) : ptAt zs 0 = true := by unfold ptAt; rw [h]; rfl
theorem ptAt_s {zs : List Int} {m : Nat} (h : inB 1 255 (zs.getD (m + 1) 0) = true) (h2 : zs.getD m 0 < zs.getD (m + 1) 0) : ptAt zs (m + 1) = true := by
  unfold ptAt; rw [h, Nat.add_sub_cancel, decide_eq_true h2]; simp
theorem ptAt_n {zs : List Int} {m : Nat} (h2 : ¬ zs.getD m 0 < zs.getD (m + 1) 0) : ptAt zs (m + 1) = false := by
  unfold ptAt; rw [Nat.add_sub_cancel, decide_eq_false h2]; simp
theorem inB_dec {lo hi n : Int} (h : inB lo hi n = true) : lo ≤ n ∧ n ≤ hi := inB_iff.1 h
--% PortsOkI 19
theorem portsOkI_any (w : World) (v : Value) (zs : List Int) (h : RdN w v zs) : Calls Try.prog 19 #[v] w (RetV (.bool (ptOk zs)) w) := by
  obtain ⟨a, c, rfl, hlc, hm, hn, hc⟩ := Rd.ints h
  clear h hn
  have H := Lib.hid hc; clear hc
  unfold maxLen at hm
  go_enter Try.func19, Try.ntmps19
  go_wp2
  go_loopw [7] (fun i wr => ∃ k : Nat, k ≤ zs.length ∧ i = .int .i64 k ∧ (∀ j, j < k → ptAt zs j = true) ∧ Grow w wr) (fun i _ => zs.length - (intOf i).toNat)
  case atStart => exact ⟨0, Nat.zero_le _, rfl, fun j hj => absurd hj (Nat.not_lt_zero _), Grow.refl _⟩
  case round =>
    obtain ⟨k, hk, rfl, hal, hgr⟩ := hrel
    have HA := Lib.hid hal; have HG := Lib.hid hgr; clear hal hgr
    by_cases hlt : k < zs.length
    · obtain ⟨b, o, rfl, hcs⟩ := H.out k hlt
      have hc1 := HG.out.cell hcs
      clear hcs
      cases hp : inB 1 255 zs[k]
      · have HE := Lib.hid (ptOk_no k hlt (ptAt_1 (by rw [getD_at hlt]; exact hp)))
        go_wp2_with (go_at_call 68; refine (isPort_any _ _).mono ?_; rintro e w' ⟨rfl, rfl⟩; rw [hp])
        go_ret
        exact ⟨ret_bool HE.out.symm, HG.out⟩
      cases k with
      | zero =>
        rw [Nat.add_zero] at hc1
        have HK := Lib.hid (ptAt_0 (zs := zs) (by rw [getD_at hlt]; exact hp))
        go_wp2_with (go_at_call 68; refine (isPort_any _ _).mono ?_; rintro e w' ⟨rfl, rfl⟩; rw [hp])
        go_roundw
        case rel => exact ⟨0 + 1, by omega, by go_num, below_succ (p := fun j => ptAt zs j) HA.out HK.out, HG.out⟩
        case measure => simp [intOf]; omega
      | succ m =>
        obtain ⟨b', o', e', hcs⟩ := H.out m (by omega)
        obtain ⟨rfl, rfl⟩ : b = b' ∧ o = o' := by simpa using e'
        have hc2 := HG.out.cell hcs
        clear hcs e'
        have hl1 : m < zs.length := by omega
        by_cases hx : zs[m] < zs[m + 1]
        · have HK := Lib.hid (ptAt_s (zs := zs) (m := m) (by rw [getD_at hlt]; exact hp) (by rw [getD_at hlt, getD_at hl1]; exact hx))
          go_wp2_with (go_at_call 68; refine (isPort_any _ _).mono ?_; rintro e w' ⟨rfl, rfl⟩; rw [hp])
          go_roundw
          case rel => exact ⟨m + 1 + 1, by omega, by go_num, below_succ (p := fun j => ptAt zs j) HA.out HK.out, HG.out⟩
          case measure => simp [intOf]; omega
        · have HE := Lib.hid (ptOk_no (m + 1) hlt (ptAt_n (zs := zs) (m := m) (by rw [getD_at hlt, getD_at hl1]; exact hx)))
          go_wp2_with (go_at_call 68; refine (isPort_any _ _).mono ?_; rintro e w' ⟨rfl, rfl⟩; rw [hp])
          go_ret
          exact ⟨ret_bool HE.out.symm, HG.out⟩
    · obtain rfl : k = zs.length := by omega
      by_cases h8 : zs.length ≤ 8
      · have HE := Lib.hid (ptOk_yes h8 HA.out)
        go_wp2
        go_ret
        exact ⟨ret_bool (by rw [HE.out]; simp; omega), HG.out⟩
      · have HE := Lib.hid (ptOk_len h8)
        go_wp2
        go_ret
        exact ⟨ret_bool (by rw [HE.out]; simp; omega), HG.out⟩
--% PortsOkS 17
theorem portsOkS_any (w : World) (v : Value) (zs : List Int) (h : RdN w v zs) : Calls Try.prog 17 #[v] w (RetV (.bool (ptOk zs)) w) := by
  obtain ⟨a, c, rfl, hlc, hm, hn, hc⟩ := Rd.ints h
  clear h hn
  have H := Lib.hid hc; clear hc
  unfold maxLen at hm
  by_cases h8 : zs.length ≤ 8
  rotate_left
  · have HE := Lib.hid (ptOk_len h8)
    go_enter Try.func17, Try.ntmps17
    go_wp2
    go_ret
    exact ⟨ret_bool HE.out.symm, Grow.refl _⟩
  go_enter Try.func17, Try.ntmps17
  go_wp2
  go_loopw [10] (fun i wr => ∃ k : Nat, k ≤ zs.length ∧ i = .int .i64 k ∧ (∀ j, j < k → ptAt zs j = true) ∧ Grow w wr) (fun i _ => zs.length - (intOf i).toNat)
  case atStart => exact ⟨0, Nat.zero_le _, rfl, fun j hj => absurd hj (Nat.not_lt_zero _), Grow.refl _⟩
  case round =>
    obtain ⟨k, hk, rfl, hal, hgr⟩ := hrel
    have HA := Lib.hid hal; have HG := Lib.hid hgr; clear hal hgr
    by_cases hlt : k < zs.length
    · obtain ⟨b, o, rfl, hcs⟩ := H.out k hlt
      have hc1 := HG.out.cell hcs
      clear hcs
      by_cases hp1 : 1 ≤ zs[k]
      rotate_left
      · have HE := Lib.hid (ptOk_no k hlt (ptAt_1 (by rw [getD_at hlt]; exact inB_false (by omega))))
        go_wp2
        go_ret
        exact ⟨ret_bool HE.out.symm, HG.out⟩
      by_cases hp2 : zs[k] ≤ 255
      rotate_left
      · have HE := Lib.hid (ptOk_no k hlt (ptAt_1 (by rw [getD_at hlt]; exact inB_false (by omega))))
        go_wp2
        go_ret
        exact ⟨ret_bool HE.out.symm, HG.out⟩
      have HP := Lib.hid (inB_true hp1 hp2)
      cases k with
      | zero =>
        rw [Nat.add_zero] at hc1
        have HK := Lib.hid (ptAt_0 (zs := zs) (by rw [getD_at hlt]; exact HP.out))
        go_wp2
        go_roundw
        case rel => exact ⟨0 + 1, by omega, by go_num, below_succ (p := fun j => ptAt zs j) HA.out HK.out, HG.out⟩
        case measure => simp [intOf]; omega
      | succ m =>
        obtain ⟨b', o', e', hcs⟩ := H.out m (by omega)
        obtain ⟨rfl, rfl⟩ : b = b' ∧ o = o' := by simpa using e'
        have hc2 := HG.out.cell hcs
        clear hcs e'
        have hl1 : m < zs.length := by omega
        by_cases hx : zs[m] < zs[m + 1]
        · have HK := Lib.hid (ptAt_s (zs := zs) (m := m) (by rw [getD_at hlt]; exact HP.out) (by rw [getD_at hlt, getD_at hl1]; exact hx))
          go_wp2
          go_roundw
          case rel => exact ⟨m + 1 + 1, by omega, by go_num, below_succ (p := fun j => ptAt zs j) HA.out HK.out, HG.out⟩
          case measure => simp [intOf]; omega
        · have HE := Lib.hid (ptOk_no (m + 1) hlt (ptAt_n (zs := zs) (m := m) (by rw [getD_at hlt, getD_at hl1]; exact hx)))
          go_wp2
          go_ret
          exact ⟨ret_bool HE.out.symm, HG.out⟩
    · obtain rfl : k = zs.length := by omega
      have HE := Lib.hid (ptOk_yes h8 HA.out)
      go_wp2
      go_ret
      exact ⟨ret_bool HE.out.symm, HG.out⟩
--%
end Go.Proofs.Ytgigdpdmdldhnaa
