/- ActsOk: contracts of the code (printed by ga.py). -/
import Derived.Test.YtgigdpdmdldhnaaAc
import Derived.WalkKit
import Derived.ProofKit
import Derived.Deep.QuietTactic
import Derived.BigQuiet
import Derived.Outline
import Derived.WalkSpells
namespace Go.Proofs.Ytgigdpdmdldhnaa
open Go.ChangeShapes Go.WideShapes Go.ChangeAt Go.RowKit
set_option linter.unusedVariables false
set_option linter.unusedSimpArgs false
--%
def acAt (d : ActD) : Bool :=
  if d.kind = 1 then inB 1 255 d.a && decide (d.b = 0)
  else if d.kind = 3 then decide (d.a = 1 ∨ d.a = 2) && inB 0 281474976710655 d.b
  else decide (2 ≤ d.kind ∧ d.kind ≤ 5) && (decide (d.a = 0) && decide (d.b = 0))
def acOk (ds : List ActD) : Bool := decide (ds.length ≤ 12) && allB ds.length (fun i => acAt (ds.getD i default))
theorem getA_at {ds : List ActD} {k : Nat} (h : k < ds.length) : ds.getD k default = ds[k] := by simp [List.getD_eq_getElem?_getD, h]
theorem acOk_len {ds : List ActD} (h : ¬ ds.length ≤ 12) : acOk ds = false := by unfold acOk; rw [decide_eq_false h]; rfl
theorem acOk_no {ds : List ActD} (i : Nat) (hi : i < ds.length) (h : acAt ds[i] = false) : acOk ds = false := by unfold acOk; rw [allB_false i hi (by rw [getA_at hi]; exact h), Bool.and_false]
theorem acOk_yes {ds : List ActD} (h1 : ds.length ≤ 12) (h : ∀ i, i < ds.length → acAt (ds.getD i default) = true) : acOk ds = true := by unfold acOk; rw [allB_true h, decide_eq_true h1]; rfl
theorem acOk_iff {ds : List ActD} : acOk ds = true ↔ ds.length ≤ 12 ∧ ∀ i, i < ds.length → acAt (ds.getD i default) = true := by
  unfold acOk; simp only [Bool.and_eq_true, decide_eq_true_eq, allB_iff]
--% ActsOkI 24
set_option maxHeartbeats 2000000 in
theorem actsOkI_any (w : World) (v : Value) (ds : List ActD) (h : RdA w v ds) : Calls Try.prog 24 #[v] w (RetV (.bool (acOk ds)) w) := by
  obtain ⟨a, c, rfl, hlc, hm, hn, hc⟩ := RdA.acts h
  clear h hn
  have H := Lib.hid hc; clear hc
  unfold maxLen at hm
  go_enter Try.func24, Try.ntmps24
  go_wp2
  go_loopw [8] (fun i wr => ∃ k : Nat, k ≤ ds.length ∧ i = .int .i64 k ∧ (∀ j, j < k → acAt (ds.getD j default) = true) ∧ Grow w wr) (fun i _ => ds.length - (intOf i).toNat)
  case atStart => exact ⟨0, Nat.zero_le _, rfl, fun j hj => absurd hj (Nat.not_lt_zero _), Grow.refl _⟩
  case round =>
    obtain ⟨k, hk, rfl, hal, hgr⟩ := hrel
    have HA := Lib.hid hal; have HG := Lib.hid hgr; clear hal hgr
    by_cases hlt : k < ds.length
    · obtain ⟨b, o, rfl, s0, s1, s2⟩ := H.out k hlt
      have r0 := HG.out.cell s0; have r1 := HG.out.cell s1; have r2 := HG.out.cell s2
      clear s0 s1 s2
      have HY : Hid (acAt ds[k] = true → ∀ j, j < k + 1 → acAt (ds.getD j default) = true) := Lib.hid (fun h => below_succ (p := fun j => acAt (ds.getD j default)) HA.out (by show acAt (ds.getD k default) = true; rw [getA_at hlt]; exact h))
      have HN : Hid (acAt ds[k] = false → acOk ds = false) := Lib.hid (acOk_no k hlt)
      generalize ds[k] = q at *
      obtain ⟨kd, aa, bb⟩ := q
      simp only at r0 r1 r2
      have HY : Hid (acAt ⟨kd, aa, bb⟩ = true → ∀ j, j < k + 1 → acAt (ds.getD j default) = true) := HY
      have HN : Hid (acAt ⟨kd, aa, bb⟩ = false → acOk ds = false) := HN
      by_cases hk1 : kd = 1
      · subst hk1
        cases hp : inB 1 255 aa
        · have HE := Lib.hid (HN.out (by simp [acAt, hp] <;> omega))
          go_wp2_with (first | (go_at_call 68; refine (isPort_any _ _).mono ?_; rintro e w' ⟨rfl, rfl⟩; rw [hp]) | (go_at_call 71; refine (isNumber_any _ _).mono ?_; rintro e w' ⟨rfl, rfl⟩; rw [hp]))
          go_ret
          refine ⟨ret_bool HE.out.symm, ?_⟩
          ((repeat (first | with_reducible exact Grow.refl _ | (with_reducible refine Grow.alloc_ ?_ _) | (with_reducible refine Grow.setCell_ ?_ (by first | exact Nat.le_refl _ | (simp only [World.alloc, Array.size_push]; omega) | omega) _))))
          exact HG.out
        · by_cases hb : bb = 0
          · subst hb
            have HE := Lib.hid (HY.out (by simp [acAt, hp] <;> omega))
            go_wp2_with (first | (go_at_call 68; refine (isPort_any _ _).mono ?_; rintro e w' ⟨rfl, rfl⟩; rw [hp]) | (go_at_call 71; refine (isNumber_any _ _).mono ?_; rintro e w' ⟨rfl, rfl⟩; rw [hp]))
            go_roundw
            case rel =>
              refine ⟨k + 1, by omega, by go_num, HE.out, ?_⟩
              ((repeat (first | with_reducible exact Grow.refl _ | (with_reducible refine Grow.alloc_ ?_ _) | (with_reducible refine Grow.setCell_ ?_ (by first | exact Nat.le_refl _ | (simp only [World.alloc, Array.size_push]; omega) | omega) _))))
              exact HG.out
            case measure => simp [intOf]; omega
          · have hb0 : (bb == 0) = false := by simpa using hb
            have HE := Lib.hid (HN.out (by simp [acAt, hp, hb] <;> omega))
            go_wp2_with (first | (go_at_call 68; refine (isPort_any _ _).mono ?_; rintro e w' ⟨rfl, rfl⟩; rw [hp]) | (go_at_call 71; refine (isNumber_any _ _).mono ?_; rintro e w' ⟨rfl, rfl⟩; rw [hp]))
            go_ret
            refine ⟨ret_bool HE.out.symm, ?_⟩
            ((repeat (first | with_reducible exact Grow.refl _ | (with_reducible refine Grow.alloc_ ?_ _) | (with_reducible refine Grow.setCell_ ?_ (by first | exact Nat.le_refl _ | (simp only [World.alloc, Array.size_push]; omega) | omega) _))))
            exact HG.out
      · by_cases hk3 : kd = 3
        · subst hk3
          by_cases ha : aa = 1
          · subst ha
            cases hp : inB 0 281474976710655 bb
            · have HE := Lib.hid (HN.out (by simp [acAt, hp] <;> omega))
              go_wp2_with (first | (go_at_call 68; refine (isPort_any _ _).mono ?_; rintro e w' ⟨rfl, rfl⟩; rw [hp]) | (go_at_call 71; refine (isNumber_any _ _).mono ?_; rintro e w' ⟨rfl, rfl⟩; rw [hp]))
              go_ret
              refine ⟨ret_bool HE.out.symm, ?_⟩
              ((repeat (first | with_reducible exact Grow.refl _ | (with_reducible refine Grow.alloc_ ?_ _) | (with_reducible refine Grow.setCell_ ?_ (by first | exact Nat.le_refl _ | (simp only [World.alloc, Array.size_push]; omega) | omega) _))))
              exact HG.out
            · have HE := Lib.hid (HY.out (by simp [acAt, hp] <;> omega))
              go_wp2_with (first | (go_at_call 68; refine (isPort_any _ _).mono ?_; rintro e w' ⟨rfl, rfl⟩; rw [hp]) | (go_at_call 71; refine (isNumber_any _ _).mono ?_; rintro e w' ⟨rfl, rfl⟩; rw [hp]))
              go_roundw
              case rel =>
                refine ⟨k + 1, by omega, by go_num, HE.out, ?_⟩
                ((repeat (first | with_reducible exact Grow.refl _ | (with_reducible refine Grow.alloc_ ?_ _) | (with_reducible refine Grow.setCell_ ?_ (by first | exact Nat.le_refl _ | (simp only [World.alloc, Array.size_push]; omega) | omega) _))))
                exact HG.out
              case measure => simp [intOf]; omega
          · by_cases ha2 : aa = 2
            · subst ha2
              cases hp : inB 0 281474976710655 bb
              · have HE := Lib.hid (HN.out (by simp [acAt, hp] <;> omega))
                go_wp2_with (first | (go_at_call 68; refine (isPort_any _ _).mono ?_; rintro e w' ⟨rfl, rfl⟩; rw [hp]) | (go_at_call 71; refine (isNumber_any _ _).mono ?_; rintro e w' ⟨rfl, rfl⟩; rw [hp]))
                go_ret
                refine ⟨ret_bool HE.out.symm, ?_⟩
                ((repeat (first | with_reducible exact Grow.refl _ | (with_reducible refine Grow.alloc_ ?_ _) | (with_reducible refine Grow.setCell_ ?_ (by first | exact Nat.le_refl _ | (simp only [World.alloc, Array.size_push]; omega) | omega) _))))
                exact HG.out
              · have HE := Lib.hid (HY.out (by simp [acAt, hp] <;> omega))
                go_wp2_with (first | (go_at_call 68; refine (isPort_any _ _).mono ?_; rintro e w' ⟨rfl, rfl⟩; rw [hp]) | (go_at_call 71; refine (isNumber_any _ _).mono ?_; rintro e w' ⟨rfl, rfl⟩; rw [hp]))
                go_roundw
                case rel =>
                  refine ⟨k + 1, by omega, by go_num, HE.out, ?_⟩
                  ((repeat (first | with_reducible exact Grow.refl _ | (with_reducible refine Grow.alloc_ ?_ _) | (with_reducible refine Grow.setCell_ ?_ (by first | exact Nat.le_refl _ | (simp only [World.alloc, Array.size_push]; omega) | omega) _))))
                  exact HG.out
                case measure => simp [intOf]; omega
            · have h1 : (aa == 1) = false := by simpa using ha
              have h2 : (aa == 2) = false := by simpa using ha2
              have HE := Lib.hid (HN.out (by simp [acAt, ha, ha2] <;> omega))
              go_wp2_with (first | (go_at_call 68; refine (isPort_any _ _).mono ?_; rintro e w' ⟨rfl, rfl⟩; rw [hp]) | (go_at_call 71; refine (isNumber_any _ _).mono ?_; rintro e w' ⟨rfl, rfl⟩; rw [hp]))
              go_ret
              refine ⟨ret_bool HE.out.symm, ?_⟩
              ((repeat (first | with_reducible exact Grow.refl _ | (with_reducible refine Grow.alloc_ ?_ _) | (with_reducible refine Grow.setCell_ ?_ (by first | exact Nat.le_refl _ | (simp only [World.alloc, Array.size_push]; omega) | omega) _))))
              exact HG.out
        · by_cases hk2 : kd = 2
          · subst hk2
            by_cases ha : aa = 0
            · subst ha
              by_cases hb : bb = 0
              · subst hb
                have HE := Lib.hid (HY.out (by simp [acAt] <;> omega))
                go_wp2_with (first | (go_at_call 68; refine (isPort_any _ _).mono ?_; rintro e w' ⟨rfl, rfl⟩; rw [hp]) | (go_at_call 71; refine (isNumber_any _ _).mono ?_; rintro e w' ⟨rfl, rfl⟩; rw [hp]))
                go_roundw
                case rel =>
                  refine ⟨k + 1, by omega, by go_num, HE.out, ?_⟩
                  ((repeat (first | with_reducible exact Grow.refl _ | (with_reducible refine Grow.alloc_ ?_ _) | (with_reducible refine Grow.setCell_ ?_ (by first | exact Nat.le_refl _ | (simp only [World.alloc, Array.size_push]; omega) | omega) _))))
                  exact HG.out
                case measure => simp [intOf]; omega
              · have hb0 : (bb == 0) = false := by simpa using hb
                have HE := Lib.hid (HN.out (by simp [acAt, hb] <;> omega))
                go_wp2_with (first | (go_at_call 68; refine (isPort_any _ _).mono ?_; rintro e w' ⟨rfl, rfl⟩; rw [hp]) | (go_at_call 71; refine (isNumber_any _ _).mono ?_; rintro e w' ⟨rfl, rfl⟩; rw [hp]))
                go_ret
                refine ⟨ret_bool HE.out.symm, ?_⟩
                ((repeat (first | with_reducible exact Grow.refl _ | (with_reducible refine Grow.alloc_ ?_ _) | (with_reducible refine Grow.setCell_ ?_ (by first | exact Nat.le_refl _ | (simp only [World.alloc, Array.size_push]; omega) | omega) _))))
                exact HG.out
            · have ha0 : (aa == 0) = false := by simpa using ha
              have HE := Lib.hid (HN.out (by simp [acAt, ha] <;> omega))
              go_wp2_with (first | (go_at_call 68; refine (isPort_any _ _).mono ?_; rintro e w' ⟨rfl, rfl⟩; rw [hp]) | (go_at_call 71; refine (isNumber_any _ _).mono ?_; rintro e w' ⟨rfl, rfl⟩; rw [hp]))
              go_ret
              refine ⟨ret_bool HE.out.symm, ?_⟩
              ((repeat (first | with_reducible exact Grow.refl _ | (with_reducible refine Grow.alloc_ ?_ _) | (with_reducible refine Grow.setCell_ ?_ (by first | exact Nat.le_refl _ | (simp only [World.alloc, Array.size_push]; omega) | omega) _))))
              exact HG.out
          · by_cases hk4 : kd = 4
            · subst hk4
              by_cases ha : aa = 0
              · subst ha
                by_cases hb : bb = 0
                · subst hb
                  have HE := Lib.hid (HY.out (by simp [acAt] <;> omega))
                  go_wp2_with (first | (go_at_call 68; refine (isPort_any _ _).mono ?_; rintro e w' ⟨rfl, rfl⟩; rw [hp]) | (go_at_call 71; refine (isNumber_any _ _).mono ?_; rintro e w' ⟨rfl, rfl⟩; rw [hp]))
                  go_roundw
                  case rel =>
                    refine ⟨k + 1, by omega, by go_num, HE.out, ?_⟩
                    ((repeat (first | with_reducible exact Grow.refl _ | (with_reducible refine Grow.alloc_ ?_ _) | (with_reducible refine Grow.setCell_ ?_ (by first | exact Nat.le_refl _ | (simp only [World.alloc, Array.size_push]; omega) | omega) _))))
                    exact HG.out
                  case measure => simp [intOf]; omega
                · have hb0 : (bb == 0) = false := by simpa using hb
                  have HE := Lib.hid (HN.out (by simp [acAt, hb] <;> omega))
                  go_wp2_with (first | (go_at_call 68; refine (isPort_any _ _).mono ?_; rintro e w' ⟨rfl, rfl⟩; rw [hp]) | (go_at_call 71; refine (isNumber_any _ _).mono ?_; rintro e w' ⟨rfl, rfl⟩; rw [hp]))
                  go_ret
                  refine ⟨ret_bool HE.out.symm, ?_⟩
                  ((repeat (first | with_reducible exact Grow.refl _ | (with_reducible refine Grow.alloc_ ?_ _) | (with_reducible refine Grow.setCell_ ?_ (by first | exact Nat.le_refl _ | (simp only [World.alloc, Array.size_push]; omega) | omega) _))))
                  exact HG.out
              · have ha0 : (aa == 0) = false := by simpa using ha
                have HE := Lib.hid (HN.out (by simp [acAt, ha] <;> omega))
                go_wp2_with (first | (go_at_call 68; refine (isPort_any _ _).mono ?_; rintro e w' ⟨rfl, rfl⟩; rw [hp]) | (go_at_call 71; refine (isNumber_any _ _).mono ?_; rintro e w' ⟨rfl, rfl⟩; rw [hp]))
                go_ret
                refine ⟨ret_bool HE.out.symm, ?_⟩
                ((repeat (first | with_reducible exact Grow.refl _ | (with_reducible refine Grow.alloc_ ?_ _) | (with_reducible refine Grow.setCell_ ?_ (by first | exact Nat.le_refl _ | (simp only [World.alloc, Array.size_push]; omega) | omega) _))))
                exact HG.out
            · by_cases hk5 : kd = 5
              · subst hk5
                by_cases ha : aa = 0
                · subst ha
                  by_cases hb : bb = 0
                  · subst hb
                    have HE := Lib.hid (HY.out (by simp [acAt] <;> omega))
                    go_wp2_with (first | (go_at_call 68; refine (isPort_any _ _).mono ?_; rintro e w' ⟨rfl, rfl⟩; rw [hp]) | (go_at_call 71; refine (isNumber_any _ _).mono ?_; rintro e w' ⟨rfl, rfl⟩; rw [hp]))
                    go_roundw
                    case rel =>
                      refine ⟨k + 1, by omega, by go_num, HE.out, ?_⟩
                      ((repeat (first | with_reducible exact Grow.refl _ | (with_reducible refine Grow.alloc_ ?_ _) | (with_reducible refine Grow.setCell_ ?_ (by first | exact Nat.le_refl _ | (simp only [World.alloc, Array.size_push]; omega) | omega) _))))
                      exact HG.out
                    case measure => simp [intOf]; omega
                  · have hb0 : (bb == 0) = false := by simpa using hb
                    have HE := Lib.hid (HN.out (by simp [acAt, hb] <;> omega))
                    go_wp2_with (first | (go_at_call 68; refine (isPort_any _ _).mono ?_; rintro e w' ⟨rfl, rfl⟩; rw [hp]) | (go_at_call 71; refine (isNumber_any _ _).mono ?_; rintro e w' ⟨rfl, rfl⟩; rw [hp]))
                    go_ret
                    refine ⟨ret_bool HE.out.symm, ?_⟩
                    ((repeat (first | with_reducible exact Grow.refl _ | (with_reducible refine Grow.alloc_ ?_ _) | (with_reducible refine Grow.setCell_ ?_ (by first | exact Nat.le_refl _ | (simp only [World.alloc, Array.size_push]; omega) | omega) _))))
                    exact HG.out
                · have ha0 : (aa == 0) = false := by simpa using ha
                  have HE := Lib.hid (HN.out (by simp [acAt, ha] <;> omega))
                  go_wp2_with (first | (go_at_call 68; refine (isPort_any _ _).mono ?_; rintro e w' ⟨rfl, rfl⟩; rw [hp]) | (go_at_call 71; refine (isNumber_any _ _).mono ?_; rintro e w' ⟨rfl, rfl⟩; rw [hp]))
                  go_ret
                  refine ⟨ret_bool HE.out.symm, ?_⟩
                  ((repeat (first | with_reducible exact Grow.refl _ | (with_reducible refine Grow.alloc_ ?_ _) | (with_reducible refine Grow.setCell_ ?_ (by first | exact Nat.le_refl _ | (simp only [World.alloc, Array.size_push]; omega) | omega) _))))
                  exact HG.out
              · have h1 : (kd == 1) = false := by simpa using hk1
                have h3 : (kd == 3) = false := by simpa using hk3
                have h2 : (kd == 2) = false := by simpa using hk2
                have h4 : (kd == 4) = false := by simpa using hk4
                have h5 : (kd == 5) = false := by simpa using hk5
                have HE := Lib.hid (HN.out (by unfold acAt; simp only [hk1, hk3, if_false]; rw [decide_eq_false (by omega)]; rfl))
                go_wp2_with (first | (go_at_call 68; refine (isPort_any _ _).mono ?_; rintro e w' ⟨rfl, rfl⟩; rw [hp]) | (go_at_call 71; refine (isNumber_any _ _).mono ?_; rintro e w' ⟨rfl, rfl⟩; rw [hp]))
                go_ret
                refine ⟨ret_bool HE.out.symm, ?_⟩
                ((repeat (first | with_reducible exact Grow.refl _ | (with_reducible refine Grow.alloc_ ?_ _) | (with_reducible refine Grow.setCell_ ?_ (by first | exact Nat.le_refl _ | (simp only [World.alloc, Array.size_push]; omega) | omega) _))))
                exact HG.out
    · obtain rfl : k = ds.length := by omega
      by_cases h12 : ds.length ≤ 12
      · have HE := Lib.hid (acOk_yes h12 HA.out)
        go_wp2
        go_ret
        exact ⟨ret_bool (by rw [HE.out]; simp; omega), HG.out⟩
      · have HE := Lib.hid (acOk_len h12)
        go_wp2
        go_ret
        exact ⟨ret_bool (by rw [HE.out]; simp; omega), HG.out⟩
--% ActsOkS 22
set_option maxHeartbeats 2000000 in
theorem actsOkS_any (w : World) (v : Value) (ds : List ActD) (h : RdA w v ds) : Calls Try.prog 22 #[v] w (RetV (.bool (acOk ds)) w) := by
  obtain ⟨a, c, rfl, hlc, hm, hn, hc⟩ := RdA.acts h
  clear h hn
  have H := Lib.hid hc; clear hc
  unfold maxLen at hm
  by_cases h12 : ds.length ≤ 12
  rotate_left
  · have HE := Lib.hid (acOk_len h12)
    go_enter Try.func22, Try.ntmps22
    go_wp2
    go_ret
    exact ⟨ret_bool HE.out.symm, Grow.refl _⟩
  go_enter Try.func22, Try.ntmps22
  go_wp2
  go_loopw [11] (fun i wr => ∃ k : Nat, k ≤ ds.length ∧ i = .int .i64 k ∧ (∀ j, j < k → acAt (ds.getD j default) = true) ∧ Grow w wr) (fun i _ => ds.length - (intOf i).toNat)
  case atStart => exact ⟨0, Nat.zero_le _, rfl, fun j hj => absurd hj (Nat.not_lt_zero _), Grow.refl _⟩
  case round =>
    obtain ⟨k, hk, rfl, hal, hgr⟩ := hrel
    have HA := Lib.hid hal; have HG := Lib.hid hgr; clear hal hgr
    by_cases hlt : k < ds.length
    · obtain ⟨b, o, rfl, s0, s1, s2⟩ := H.out k hlt
      have r0 := HG.out.cell s0; have r1 := HG.out.cell s1; have r2 := HG.out.cell s2
      clear s0 s1 s2
      have HY : Hid (acAt ds[k] = true → ∀ j, j < k + 1 → acAt (ds.getD j default) = true) := Lib.hid (fun h => below_succ (p := fun j => acAt (ds.getD j default)) HA.out (by show acAt (ds.getD k default) = true; rw [getA_at hlt]; exact h))
      have HN : Hid (acAt ds[k] = false → acOk ds = false) := Lib.hid (acOk_no k hlt)
      generalize ds[k] = q at *
      obtain ⟨kd, aa, bb⟩ := q
      simp only at r0 r1 r2
      have HY : Hid (acAt ⟨kd, aa, bb⟩ = true → ∀ j, j < k + 1 → acAt (ds.getD j default) = true) := HY
      have HN : Hid (acAt ⟨kd, aa, bb⟩ = false → acOk ds = false) := HN
      by_cases hk1 : kd = 1
      · subst hk1
        by_cases ha : aa = 0
        · subst ha
          have hp : inB 1 255 0 = false := by decide
          by_cases hb : bb = 0
          · subst hb
            have HE := Lib.hid (HN.out (by simp [acAt, hp] <;> omega))
            go_wp2_with (go_at_call 69; refine (l01Num_any _ _).mono ?_; rintro e w' ⟨rfl, rfl⟩; rw [hp])
            go_ret
            refine ⟨ret_bool HE.out.symm, ?_⟩
            ((repeat (first | with_reducible exact Grow.refl _ | (with_reducible refine Grow.alloc_ ?_ _) | (with_reducible refine Grow.setCell_ ?_ (by first | exact Nat.le_refl _ | (simp only [World.alloc, Array.size_push]; omega) | omega) _))))
            exact HG.out
          · have hb0 : (bb == 0) = false := by simpa using hb
            have HE := Lib.hid (HN.out (by simp [acAt, hp] <;> omega))
            go_wp2_with (go_at_call 69; refine (l01Num_any _ _).mono ?_; rintro e w' ⟨rfl, rfl⟩; rw [hp])
            go_ret
            refine ⟨ret_bool HE.out.symm, ?_⟩
            ((repeat (first | with_reducible exact Grow.refl _ | (with_reducible refine Grow.alloc_ ?_ _) | (with_reducible refine Grow.setCell_ ?_ (by first | exact Nat.le_refl _ | (simp only [World.alloc, Array.size_push]; omega) | omega) _))))
            exact HG.out
        · have ha0 : (aa == 0) = false := by simpa using ha
          by_cases h1 : 1 ≤ aa
          · by_cases h2 : aa ≤ 255
            · have hp := inB_true h1 h2
              by_cases hb : bb = 0
              · subst hb
                have HE := Lib.hid (HY.out (by simp [acAt, hp] <;> omega))
                go_wp2_with (go_at_call 69; refine (l01Num_any _ _).mono ?_; rintro e w' ⟨rfl, rfl⟩; rw [hp])
                go_roundw
                case rel =>
                  refine ⟨k + 1, by omega, by go_num, HE.out, ?_⟩
                  ((repeat (first | with_reducible exact Grow.refl _ | (with_reducible refine Grow.alloc_ ?_ _) | (with_reducible refine Grow.setCell_ ?_ (by first | exact Nat.le_refl _ | (simp only [World.alloc, Array.size_push]; omega) | omega) _))))
                  exact HG.out
                case measure => simp [intOf]; omega
              · have hb0 : (bb == 0) = false := by simpa using hb
                have HE := Lib.hid (HN.out (by simp [acAt, hp, hb] <;> omega))
                go_wp2_with (go_at_call 69; refine (l01Num_any _ _).mono ?_; rintro e w' ⟨rfl, rfl⟩; rw [hp])
                go_ret
                refine ⟨ret_bool HE.out.symm, ?_⟩
                ((repeat (first | with_reducible exact Grow.refl _ | (with_reducible refine Grow.alloc_ ?_ _) | (with_reducible refine Grow.setCell_ ?_ (by first | exact Nat.le_refl _ | (simp only [World.alloc, Array.size_push]; omega) | omega) _))))
                exact HG.out
            · have hp : inB 1 255 aa = false := inB_false (by omega)
              have HE := Lib.hid (HN.out (by simp [acAt, hp] <;> omega))
              go_wp2_with (go_at_call 69; refine (l01Num_any _ _).mono ?_; rintro e w' ⟨rfl, rfl⟩; rw [hp])
              go_ret
              refine ⟨ret_bool HE.out.symm, ?_⟩
              ((repeat (first | with_reducible exact Grow.refl _ | (with_reducible refine Grow.alloc_ ?_ _) | (with_reducible refine Grow.setCell_ ?_ (by first | exact Nat.le_refl _ | (simp only [World.alloc, Array.size_push]; omega) | omega) _))))
              exact HG.out
          · have hp : inB 1 255 aa = false := inB_false (by omega)
            have HE := Lib.hid (HN.out (by simp [acAt, hp] <;> omega))
            go_wp2_with (go_at_call 69; refine (l01Num_any _ _).mono ?_; rintro e w' ⟨rfl, rfl⟩; rw [hp])
            go_ret
            refine ⟨ret_bool HE.out.symm, ?_⟩
            ((repeat (first | with_reducible exact Grow.refl _ | (with_reducible refine Grow.alloc_ ?_ _) | (with_reducible refine Grow.setCell_ ?_ (by first | exact Nat.le_refl _ | (simp only [World.alloc, Array.size_push]; omega) | omega) _))))
            exact HG.out
      · by_cases hk3 : kd = 3
        · subst hk3
          by_cases ha : aa = 0
          · subst ha
            by_cases hb : bb = 0
            · subst hb
              have HE := Lib.hid (HN.out (by simp [acAt] <;> omega))
              go_wp2_with (go_at_call 69; refine (l01Num_any _ _).mono ?_; rintro e w' ⟨rfl, rfl⟩; rw [hp])
              go_ret
              refine ⟨ret_bool HE.out.symm, ?_⟩
              ((repeat (first | with_reducible exact Grow.refl _ | (with_reducible refine Grow.alloc_ ?_ _) | (with_reducible refine Grow.setCell_ ?_ (by first | exact Nat.le_refl _ | (simp only [World.alloc, Array.size_push]; omega) | omega) _))))
              exact HG.out
            · have hb0 : (bb == 0) = false := by simpa using hb
              have HE := Lib.hid (HN.out (by simp [acAt] <;> omega))
              go_wp2_with (go_at_call 69; refine (l01Num_any _ _).mono ?_; rintro e w' ⟨rfl, rfl⟩; rw [hp])
              go_ret
              refine ⟨ret_bool HE.out.symm, ?_⟩
              ((repeat (first | with_reducible exact Grow.refl _ | (with_reducible refine Grow.alloc_ ?_ _) | (with_reducible refine Grow.setCell_ ?_ (by first | exact Nat.le_refl _ | (simp only [World.alloc, Array.size_push]; omega) | omega) _))))
              exact HG.out
          · have ha0 : (aa == 0) = false := by simpa using ha
            by_cases ha1 : aa = 1
            · subst ha1
              cases hp : inB 0 281474976710655 bb
              · have HE := Lib.hid (HN.out (by simp [acAt, hp] <;> omega))
                go_wp2_with (go_at_call 69; refine (l01Num_any _ _).mono ?_; rintro e w' ⟨rfl, rfl⟩; rw [hp])
                go_ret
                refine ⟨ret_bool HE.out.symm, ?_⟩
                ((repeat (first | with_reducible exact Grow.refl _ | (with_reducible refine Grow.alloc_ ?_ _) | (with_reducible refine Grow.setCell_ ?_ (by first | exact Nat.le_refl _ | (simp only [World.alloc, Array.size_push]; omega) | omega) _))))
                exact HG.out
              · have HE := Lib.hid (HY.out (by simp [acAt, hp] <;> omega))
                go_wp2_with (go_at_call 69; refine (l01Num_any _ _).mono ?_; rintro e w' ⟨rfl, rfl⟩; rw [hp])
                go_roundw
                case rel =>
                  refine ⟨k + 1, by omega, by go_num, HE.out, ?_⟩
                  ((repeat (first | with_reducible exact Grow.refl _ | (with_reducible refine Grow.alloc_ ?_ _) | (with_reducible refine Grow.setCell_ ?_ (by first | exact Nat.le_refl _ | (simp only [World.alloc, Array.size_push]; omega) | omega) _))))
                  exact HG.out
                case measure => simp [intOf]; omega
            · by_cases ha2 : aa = 2
              · subst ha2
                cases hp : inB 0 281474976710655 bb
                · have HE := Lib.hid (HN.out (by simp [acAt, hp] <;> omega))
                  go_wp2_with (go_at_call 69; refine (l01Num_any _ _).mono ?_; rintro e w' ⟨rfl, rfl⟩; rw [hp])
                  go_ret
                  refine ⟨ret_bool HE.out.symm, ?_⟩
                  ((repeat (first | with_reducible exact Grow.refl _ | (with_reducible refine Grow.alloc_ ?_ _) | (with_reducible refine Grow.setCell_ ?_ (by first | exact Nat.le_refl _ | (simp only [World.alloc, Array.size_push]; omega) | omega) _))))
                  exact HG.out
                · have HE := Lib.hid (HY.out (by simp [acAt, hp] <;> omega))
                  go_wp2_with (go_at_call 69; refine (l01Num_any _ _).mono ?_; rintro e w' ⟨rfl, rfl⟩; rw [hp])
                  go_roundw
                  case rel =>
                    refine ⟨k + 1, by omega, by go_num, HE.out, ?_⟩
                    ((repeat (first | with_reducible exact Grow.refl _ | (with_reducible refine Grow.alloc_ ?_ _) | (with_reducible refine Grow.setCell_ ?_ (by first | exact Nat.le_refl _ | (simp only [World.alloc, Array.size_push]; omega) | omega) _))))
                    exact HG.out
                  case measure => simp [intOf]; omega
              · have h1 : (aa == 1) = false := by simpa using ha1
                have h2 : (aa == 2) = false := by simpa using ha2
                have HE := Lib.hid (HN.out (by simp [acAt, ha1, ha2] <;> omega))
                go_wp2_with (go_at_call 69; refine (l01Num_any _ _).mono ?_; rintro e w' ⟨rfl, rfl⟩; rw [hp])
                go_ret
                refine ⟨ret_bool HE.out.symm, ?_⟩
                ((repeat (first | with_reducible exact Grow.refl _ | (with_reducible refine Grow.alloc_ ?_ _) | (with_reducible refine Grow.setCell_ ?_ (by first | exact Nat.le_refl _ | (simp only [World.alloc, Array.size_push]; omega) | omega) _))))
                exact HG.out
        · have h1 : (kd == 1) = false := by simpa using hk1
          have h3 : (kd == 3) = false := by simpa using hk3
          by_cases ha : aa = 0
          · subst ha
            by_cases hb : bb = 0
            · subst hb
              by_cases hl : 1 ≤ kd
              · by_cases hh : kd ≤ 5
                · have HE := Lib.hid (HY.out (by unfold acAt; simp only [hk1, hk3, if_false]; rw [decide_eq_true (by omega)]; rfl))
                  go_wp2_with (go_at_call 69; refine (l01Num_any _ _).mono ?_; rintro e w' ⟨rfl, rfl⟩; rw [hp])
                  go_roundw
                  case rel =>
                    refine ⟨k + 1, by omega, by go_num, HE.out, ?_⟩
                    ((repeat (first | with_reducible exact Grow.refl _ | (with_reducible refine Grow.alloc_ ?_ _) | (with_reducible refine Grow.setCell_ ?_ (by first | exact Nat.le_refl _ | (simp only [World.alloc, Array.size_push]; omega) | omega) _))))
                    exact HG.out
                  case measure => simp [intOf]; omega
                · have HE := Lib.hid (HN.out (by unfold acAt; simp only [hk1, hk3, if_false]; rw [decide_eq_false (by omega)]; rfl))
                  go_wp2_with (go_at_call 69; refine (l01Num_any _ _).mono ?_; rintro e w' ⟨rfl, rfl⟩; rw [hp])
                  go_ret
                  refine ⟨ret_bool HE.out.symm, ?_⟩
                  ((repeat (first | with_reducible exact Grow.refl _ | (with_reducible refine Grow.alloc_ ?_ _) | (with_reducible refine Grow.setCell_ ?_ (by first | exact Nat.le_refl _ | (simp only [World.alloc, Array.size_push]; omega) | omega) _))))
                  exact HG.out
              · have HE := Lib.hid (HN.out (by unfold acAt; simp only [hk1, hk3, if_false]; rw [decide_eq_false (by omega)]; rfl))
                go_wp2_with (go_at_call 69; refine (l01Num_any _ _).mono ?_; rintro e w' ⟨rfl, rfl⟩; rw [hp])
                go_ret
                refine ⟨ret_bool HE.out.symm, ?_⟩
                ((repeat (first | with_reducible exact Grow.refl _ | (with_reducible refine Grow.alloc_ ?_ _) | (with_reducible refine Grow.setCell_ ?_ (by first | exact Nat.le_refl _ | (simp only [World.alloc, Array.size_push]; omega) | omega) _))))
                exact HG.out
            · have hb0 : (bb == 0) = false := by simpa using hb
              have HE := Lib.hid (HN.out (by unfold acAt; simp only [hk1, hk3, if_false]; rw [decide_eq_false hb, Bool.and_false, Bool.and_false]))
              go_wp2_with (go_at_call 69; refine (l01Num_any _ _).mono ?_; rintro e w' ⟨rfl, rfl⟩; rw [hp])
              go_ret
              refine ⟨ret_bool HE.out.symm, ?_⟩
              ((repeat (first | with_reducible exact Grow.refl _ | (with_reducible refine Grow.alloc_ ?_ _) | (with_reducible refine Grow.setCell_ ?_ (by first | exact Nat.le_refl _ | (simp only [World.alloc, Array.size_push]; omega) | omega) _))))
              exact HG.out
          · have ha0 : (aa == 0) = false := by simpa using ha
            have HE := Lib.hid (HN.out (by unfold acAt; simp only [hk1, hk3, if_false]; rw [decide_eq_false ha, Bool.false_and, Bool.and_false]))
            go_wp2_with (go_at_call 69; refine (l01Num_any _ _).mono ?_; rintro e w' ⟨rfl, rfl⟩; rw [hp])
            go_ret
            refine ⟨ret_bool HE.out.symm, ?_⟩
            ((repeat (first | with_reducible exact Grow.refl _ | (with_reducible refine Grow.alloc_ ?_ _) | (with_reducible refine Grow.setCell_ ?_ (by first | exact Nat.le_refl _ | (simp only [World.alloc, Array.size_push]; omega) | omega) _))))
            exact HG.out
    · obtain rfl : k = ds.length := by omega
      have HE := Lib.hid (acOk_yes h12 HA.out)
      go_wp2
      go_ret
      exact ⟨ret_bool HE.out.symm, HG.out⟩
--%
end Go.Proofs.Ytgigdpdmdldhnaa
