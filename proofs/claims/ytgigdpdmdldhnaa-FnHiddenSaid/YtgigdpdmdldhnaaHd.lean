/- Headers: what fits a field; contracts of the code. -/
import Derived.Test.YtgigdpdmdldhnaaPkt
import Derived.Test.YtgigdpdmdldhnaaBit
import Derived.WalkKit
import Derived.ProofKit
import Derived.Deep.QuietTactic
import Derived.BigQuiet
import Derived.Outline
import Derived.WalkSpells
namespace Go.Proofs.Ytgigdpdmdldhnaa
open Go.ChangeShapes Go.WideShapes Go.ChangeAt Go.RowKit
set_option linter.unusedVariables false
set_option linter.unusedSimpArgs false
--%
def full (f : Int) : Int := if f = 0 ∨ f = 7 then 255 else if f = 1 ∨ f = 2 then 281474976710655 else if f = 3 ∨ f = 4 then 65535 else if f = 5 ∨ f = 6 then 4294967295 else 0
def fitB (f v : Int) : Bool := decide (0 ≤ f ∧ f ≤ 7 ∧ 0 ≤ v ∧ v ≤ full f)
theorem bits_full (f : Int) : (fieldBits f = 8 ∧ full f = 255 ∧ 0 ≤ f ∧ f ≤ 7) ∨ (fieldBits f = 48 ∧ full f = 281474976710655 ∧ 0 ≤ f ∧ f ≤ 7) ∨ (fieldBits f = 16 ∧ full f = 65535 ∧ 0 ≤ f ∧ f ≤ 7) ∨ (fieldBits f = 32 ∧ full f = 4294967295 ∧ 0 ≤ f ∧ f ≤ 7) ∨ (fieldBits f = 0 ∧ full f = 0 ∧ ¬ (0 ≤ f ∧ f ≤ 7)) := by
  by_cases h : 0 ≤ f ∧ f ≤ 7
  · obtain rfl | rfl | rfl | rfl | rfl | rfl | rfl | rfl : f = 0 ∨ f = 1 ∨ f = 2 ∨ f = 3 ∨ f = 4 ∨ f = 5 ∨ f = 6 ∨ f = 7 := by omega
    all_goals decide
  · refine .inr (.inr (.inr (.inr ⟨?_, ?_, h⟩)))
    · unfold fieldBits; rw [if_neg (by omega), if_neg (by omega), if_neg (by omega), if_neg (by omega)]
    · unfold full; rw [if_neg (by omega), if_neg (by omega), if_neg (by omega), if_neg (by omega)]
theorem full_bd (f : Int) : 0 ≤ full f ∧ full f ≤ 281474976710655 := by have := bits_full f; omega
theorem fitB_true {f v : Int} (h1 : 0 ≤ f ∧ f ≤ 7) (h2 : 0 ≤ v) (h3 : v ≤ full f) : fitB f v = true := by simp [fitB, h1, h2, h3]
theorem fitB_no {f v : Int} (h : ¬ (0 ≤ f ∧ f ≤ 7) ∨ ¬ 0 ≤ v ∨ ¬ v ≤ full f) : fitB f v = false := by unfold fitB; rw [decide_eq_false]; omega
theorem fitB_iff {f v : Int} : fitB f v = true ↔ (0 ≤ f ∧ f ≤ 7) ∧ 0 ≤ v ∧ v ≤ full f := by unfold fitB; rw [decide_eq_true_iff]; omega
theorem fitB_bd {f v : Int} (h : fitB f v = true) : 0 ≤ v ∧ v ≤ 281474976710655 := by have := fitB_iff.1 h; have := full_bd f; omega
theorem fit_num {f v : Int} (h : 0 ≤ f ∧ f ≤ 7) : numOkB v (fieldBits f / 8) = fitB f v := by
  unfold numOkB fitB
  rcases bits_full f with ⟨h1, h2, _⟩ | ⟨h1, h2, _⟩ | ⟨h1, h2, _⟩ | ⟨h1, h2, _⟩ | ⟨_, _, h3⟩
  · rw [h1, h2]
    apply decide_eq_decide.2
    have : (256 : Int) ^ (8 / 8 : Int).toNat = 256 := by decide
    rw [this]; omega
  · rw [h1, h2]
    apply decide_eq_decide.2
    have : (256 : Int) ^ (48 / 8 : Int).toNat = 281474976710656 := by decide
    rw [this]; omega
  · rw [h1, h2]
    apply decide_eq_decide.2
    have : (256 : Int) ^ (16 / 8 : Int).toNat = 65536 := by decide
    rw [this]; omega
  · rw [h1, h2]
    apply decide_eq_decide.2
    have : (256 : Int) ^ (32 / 8 : Int).toNat = 4294967296 := by decide
    rw [this]; omega
  · omega
def hdOk (zs : List Int) : Bool := decide (zs.length = 8) && allB zs.length (fun i => fitB i (zs.getD i 0))
theorem hdOk_len {zs : List Int} (h : ¬ zs.length = 8) : hdOk zs = false := by simp [hdOk, h]
theorem hdOk_no {zs : List Int} (i : Nat) (hi : i < zs.length) (h : fitB i (zs.getD i 0) = false) : hdOk zs = false := by unfold hdOk; rw [allB_false i hi h, Bool.and_false]
theorem hdOk_yes {zs : List Int} (h8 : zs.length = 8) (h : ∀ i, i < zs.length → fitB (i : Nat) (zs.getD i 0) = true) : hdOk zs = true := by unfold hdOk; rw [allB_true h, decide_eq_true h8]; rfl
theorem hdOk_at {zs : List Int} (h : hdOk zs = true) : zs.length = 8 ∧ ∀ i, i < 8 → fitB (i : Nat) (zs.getD i 0) = true := by
  unfold hdOk at h
  simp only [Bool.and_eq_true, decide_eq_true_eq] at h
  exact ⟨h.1, fun i hi => allB_iff.1 h.2 i (by omega)⟩
--% allBits 142
theorem allBits_any (f : Int) (w : World) : Calls Try.prog 142 #[.int .i64 f] w fun e w' => e = .returned (.int .i64 (full f)) ∧ w = w' := by
  rcases bits_full f with ⟨h1, h2, _⟩ | ⟨h1, h2, _⟩ | ⟨h1, h2, _⟩ | ⟨h1, h2, _⟩ | ⟨h1, h2, _⟩
  all_goals (
    have H1 := Lib.hid h1; have H2 := Lib.hid h2; clear h1 h2
    go_enter Try.func142, Try.ntmps142
    go_wp2_with (go_at_call 141; refine (fieldBitsI_any _ _).mono ?_; rintro e w' ⟨rfl, rfl⟩; rw [H1.out])
    go_ret
    exact ⟨ret_int H2.out.symm, rfl⟩)
--% fitsField 122
theorem fitsField_any (f v : Int) (w : World) : Calls Try.prog 122 #[.int .i64 f, .int .i64 v] w (RetV (.bool (fitB f v)) w) := by
  have K1 := Lib.hid (fun w => fieldBitsI_any f w)
  have K2 := Lib.hid (fun w => allBits_any f w)
  have hb : 0 < fieldBits f ↔ 0 ≤ f ∧ f ≤ 7 := by have := bits_full f; omega
  have hbd := full_bd f
  by_cases h1 : 0 ≤ f ∧ f ≤ 7
  rotate_left
  · have HE := Lib.hid (fitB_no (v := v) (.inl h1))
    have h0 : ¬ 0 < fieldBits f := fun h => h1 (hb.1 h)
    clear hb h1
    generalize fieldBits f = b at *
    go_enter Try.func122, Try.ntmps122
    go_wp2_with (go_at_call 141; refine (K1.out _).mono ?_; rintro e w' ⟨rfl, rfl⟩)
    go_ret
    exact ⟨ret_bool HE.out.symm, Grow.refl _⟩
  have h0 : 0 < fieldBits f := hb.2 h1
  clear hb
  generalize fieldBits f = b at *
  by_cases h2 : 0 ≤ v
  rotate_left
  · have HE := Lib.hid (fitB_no (f := f) (.inr (.inl h2)))
    go_enter Try.func122, Try.ntmps122
    go_wp2_with (go_at_call 141; refine (K1.out _).mono ?_; rintro e w' ⟨rfl, rfl⟩)
    go_ret
    exact ⟨ret_bool HE.out.symm, Grow.refl _⟩
  by_cases h3 : v ≤ full f
  · have HE := Lib.hid (fitB_true h1 h2 h3)
    generalize full f = F at *
    go_enter Try.func122, Try.ntmps122
    go_wp2_with (first | (go_at_call 141; refine (K1.out _).mono ?_; rintro e w' ⟨rfl, rfl⟩) | (go_at_call 142; refine (K2.out _).mono ?_; rintro e w' ⟨rfl, rfl⟩))
    go_ret
    exact ⟨ret_bool HE.out.symm, Grow.refl _⟩
  · have HE := Lib.hid (fitB_no (f := f) (.inr (.inr h3)))
    generalize full f = F at *
    go_enter Try.func122, Try.ntmps122
    go_wp2_with (first | (go_at_call 141; refine (K1.out _).mono ?_; rintro e w' ⟨rfl, rfl⟩) | (go_at_call 142; refine (K2.out _).mono ?_; rintro e w' ⟨rfl, rfl⟩))
    go_ret
    exact ⟨ret_bool (by rw [HE.out, decide_eq_false (by omega)]), Grow.refl _⟩
--% fitsAll 89
theorem fitsAll_any (w : World) (v : Value) (zs : List Int) (h : RdN w v zs) : Calls Try.prog 89 #[v] w (RetV (.bool (hdOk zs)) w) := by
  obtain ⟨a, c, rfl, hlc, hm, hn, hc⟩ := Rd.ints h
  clear h hn
  have H := Lib.hid hc; clear hc
  unfold maxLen at hm
  go_enter Try.func89, Try.ntmps89
  go_wp2
  go_loopw [7] (fun i wr => ∃ k : Nat, k ≤ zs.length ∧ i = .int .i64 k ∧ (∀ j, j < k → fitB (j : Nat) (zs.getD j 0) = true) ∧ Grow w wr) (fun i _ => zs.length - (intOf i).toNat)
  case atStart => exact ⟨0, Nat.zero_le _, rfl, fun j hj => absurd hj (Nat.not_lt_zero _), Grow.refl _⟩
  case round =>
    obtain ⟨k, hk, rfl, hal, hgr⟩ := hrel
    have HA := Lib.hid hal; have HG := Lib.hid hgr; clear hal hgr
    by_cases hlt : k < zs.length
    · obtain ⟨b, o, rfl, hcs⟩ := H.out k hlt
      have hc1 := HG.out.cell hcs
      clear hcs
      cases hf : fitB (k : Nat) zs[k]
      · have HE := Lib.hid (hdOk_no k hlt (by rw [getD_at hlt]; exact hf))
        go_wp2_with fail
        refine (fitsField_any _ _ _).mono ?_
        rintro e w1 ⟨rfl, hg⟩
        rw [hf]
        have HG1 := Lib.hid (HG.out.trans hg); clear hg hf
        go_wp2
        go_ret
        exact ⟨ret_bool HE.out.symm, HG1.out⟩
      · go_wp2_with fail
        refine (fitsField_any _ _ _).mono ?_
        rintro e w1 ⟨rfl, hg⟩
        rw [hf]
        have HG1 := Lib.hid (HG.out.trans hg); clear hg
        have HF := Lib.hid hf; clear hf
        go_wp2
        go_roundw
        case rel => exact ⟨k + 1, by omega, by go_num, below_succ (p := fun j => fitB (j : Nat) (zs.getD j 0)) HA.out (by show fitB _ _ = true; rw [getD_at hlt]; exact HF.out), HG1.out⟩
        case measure => simp [intOf]; omega
    · obtain rfl : k = zs.length := by omega
      by_cases h8 : zs.length = 8
      · have hb : ((zs.length : Int) == 8) = true := by simp [h8]
        have HE := Lib.hid (hdOk_yes h8 HA.out); clear h8
        go_wp2
        go_ret
        exact ⟨ret_bool HE.out.symm, HG.out⟩
      · have hb : ((zs.length : Int) == 8) = false := by simp; omega
        have HE := Lib.hid (hdOk_len h8); clear h8
        go_wp2
        go_ret
        exact ⟨ret_bool HE.out.symm, HG.out⟩
--% l04Fits 121
theorem l04Fits_any (f v : Int) (w : World) : Calls Try.prog 121 #[.int .i64 f, .int .i64 v] w (RetV (.bool (fitB f v)) w) := by
  have K1 := Lib.hid (fun w => fieldBitsS_any f w)
  by_cases h0 : 0 ≤ f
  rotate_left
  · have HE := Lib.hid (fitB_no (f := f) (v := v) (.inl (by omega)))
    go_enter Try.func121, Try.ntmps121
    go_wp2
    go_ret
    exact ⟨ret_bool HE.out.symm, Grow.refl _⟩
  by_cases h7 : f < 8
  rotate_left
  · have HE := Lib.hid (fitB_no (f := f) (v := v) (.inl (by omega)))
    go_enter Try.func121, Try.ntmps121
    go_wp2
    go_ret
    exact ⟨ret_bool HE.out.symm, Grow.refl _⟩
  have HE := Lib.hid (fit_num (f := f) (v := v) (by omega))
  have hb : 0 ≤ fieldBits f ∧ fieldBits f ≤ 48 := by have := bits_full f; omega
  generalize fieldBits f = b at *
  go_enter Try.func121, Try.ntmps121
  go_wp2_with fail
  refine (K1.out _).mono ?_
  rintro e w1 ⟨rfl, hg⟩
  have HG := Lib.hid hg; clear hg
  go_wp2_with (go_at_call 140; refine (numOkS_any _ _ _).mono ?_; rintro e w' ⟨rfl, rfl⟩)
  go_ret
  exact ⟨ret_bool HE.out, HG.out⟩
--% HeadOkI 46
theorem headOkI_any (w : World) (V : Value) (d : DatH) (h : RdH w V d) : Calls Try.prog 46 #[V] w (RetV (.bool (hdOk d.vs)) w) := by
  obtain ⟨v, rfl, hv⟩ := h
  have HV := Lib.hid hv; clear hv
  go_enter Try.func46, Try.ntmps46
  go_wp2_with fail
  refine at_world (w := w) ?G (fun hG => (fitsAll_any _ _ _ (HV.out.grow hG)).mono ?_)
  case G => ((repeat (first | with_reducible exact Grow.refl _ | (with_reducible refine Grow.alloc_ ?_ _) | (with_reducible refine Grow.setCell_ ?_ (by first | exact Nat.le_refl _ | (simp only [World.alloc, Array.size_push]; omega) | omega) _))))
  rintro e w1 ⟨rfl, hg⟩
  have HG := Lib.hid (hG.trans hg); clear hG hg
  go_wp2
  go_ret
  exact ⟨rfl, HG.out⟩
--% HeadOkS 78
theorem headOkS_any (w : World) (V : Value) (d : DatH) (h : RdH w V d) : Calls Try.prog 78 #[V] w (RetV (.bool (hdOk d.vs)) w) := by
  obtain ⟨v, rfl, hv⟩ := h
  obtain ⟨a, c, rfl, hlc, hm, hn, hc⟩ := Rd.ints hv
  clear hv hn
  have H := Lib.hid hc; clear hc
  unfold maxLen at hm
  by_cases h8 : d.vs.length = 8
  rotate_left
  · have HE := Lib.hid (hdOk_len h8)
    have hb : ((d.vs.length : Int) != 8) = true := by simp; omega
    go_enter Try.func78, Try.ntmps78
    go_wp2
    go_ret
    refine ⟨ret_bool HE.out.symm, ?_⟩
    ((repeat (first | with_reducible exact Grow.refl _ | (with_reducible refine Grow.alloc_ ?_ _) | (with_reducible refine Grow.setCell_ ?_ (by first | exact Nat.le_refl _ | (simp only [World.alloc, Array.size_push]; omega) | omega) _))))
  have hb : ((d.vs.length : Int) != 8) = false := by simp [h8]
  have H8 := Lib.hid h8; clear h8
  go_enter Try.func78, Try.ntmps78
  go_wp2
  go_loopw [3] (fun i wr => ∃ k : Nat, k ≤ 8 ∧ i = .int .i64 k ∧ (∀ j, j < k → fitB (j : Nat) (d.vs.getD j 0) = true) ∧ Grow (w.alloc (Obj.cells #[Value.slice a d.vs.length c] 42)) wr) (fun i _ => 8 - (intOf i).toNat)
  case atStart => exact ⟨0, Nat.zero_le _, rfl, fun j hj => absurd hj (Nat.not_lt_zero _), Grow.refl _⟩
  case round =>
    obtain ⟨k, hk, rfl, hal, hgr⟩ := hrel
    have HA := Lib.hid hal
    have HG := Lib.hid ((Grow.alloc w _).trans hgr)
    have BX := Lib.hid ((Box.alloc w [Value.slice a d.vs.length c] _).grow hgr)
    have HW := Lib.hid hgr
    clear hal hgr
    by_cases hlt : k < 8
    · obtain ⟨b, o, rfl, hcs⟩ := H.out k (by rw [H8.out]; exact hlt)
      have hc1 := HG.out.cell hcs
      have hln : k < d.vs.length := by rw [H8.out]; exact hlt
      clear hcs
      have q0 := BX.out.one
      cases hf : fitB (k : Nat) d.vs[k]
      · have HE := Lib.hid (hdOk_no k hln (by rw [getD_at hln]; exact hf))
        go_wp2_with fail
        refine (l04Fits_any _ _ _).mono ?_
        rintro e w1 ⟨rfl, hg⟩
        rw [hf]
        have HG1 := Lib.hid (HG.out.trans hg); clear hg hf
        go_wp2
        go_ret
        exact ⟨ret_bool HE.out.symm, HG1.out⟩
      · go_wp2_with fail
        refine (l04Fits_any _ _ _).mono ?_
        rintro e w1 ⟨rfl, hg⟩
        rw [hf]
        have HG1 := Lib.hid (HW.out.trans hg); clear hg
        have HF := Lib.hid hf; clear hf
        go_wp2
        go_roundw
        case rel => exact ⟨k + 1, by omega, by go_num, below_succ (p := fun j => fitB (j : Nat) (d.vs.getD j 0)) HA.out (by show fitB _ _ = true; rw [getD_at hln]; exact HF.out), HG1.out⟩
        case measure => simp [intOf]; omega
    · obtain rfl : k = 8 := by omega
      have HE := Lib.hid (hdOk_yes H8.out (by rw [H8.out]; exact HA.out))
      go_wp2
      go_ret
      exact ⟨ret_bool HE.out.symm, HG.out⟩
--%
end Go.Proofs.Ytgigdpdmdldhnaa
