/- EntryOk: contracts of the code (printed by gen_en.py). -/
import Derived.Test.YtgigdpdmdldhnaaEnt
import Derived.Test.YtgigdpdmdldhnaaMok
import Derived.Test.YtgigdpdmdldhnaaAok
import Derived.WalkKit
import Derived.ProofKit
import Derived.Deep.QuietTactic
import Derived.BigQuiet
import Derived.Outline
import Derived.WalkSpells
namespace Go.Proofs.Ytgigdpdmdldhnaa
open Go.ChangeShapes Go.WideShapes Go.ChangeAt Go.RowKit
set_option linter.unusedVariables false
set_option linter.unusedSimpArgs false
--%
def enOk (d : EntryD) : Bool := inB 0 1000000000 d.epoch && (inB 0 65535 d.prio && (inB 0 1000000000 d.hits && (mtOk d.m && acOk d.acts)))
--% upTo 93
theorem upTo_any (n m : Int) (w : World) : Calls Try.prog 93 #[.int .i64 n, .int .i64 m] w fun e w' => e = .returned (.bool (inB 0 m n)) ∧ w = w' := by
  by_cases h1 : 0 ≤ n
  · by_cases h2 : n ≤ m
    · go_enter Try.func93, Try.ntmps93
      go_wp2
      go_ret
      exact ⟨ret_bool (inB_true h1 h2).symm, rfl⟩
    · go_enter Try.func93, Try.ntmps93
      go_wp2
      go_ret
      exact ⟨ret_bool (inB_false (by omega)).symm, rfl⟩
  · go_enter Try.func93, Try.ntmps93
    go_wp2
    go_ret
    exact ⟨ret_bool (inB_false (by omega)).symm, rfl⟩
--% EntryOkI 50
set_option maxHeartbeats 2000000 in
theorem entryOkI_any (w : World) (V : Value) (d : EntryD) (h : RdE w V d) (wf : WfE d) : Calls Try.prog 50 #[V] w (RetV (.bool (enOk d)) w) := by
  obtain ⟨v0, v1, v2, rfl, h0, h1, h2⟩ := h
  have HM := Lib.hid (RdE.mOf h0 h1); have HA := Lib.hid h2; clear h0 h1 h2
  have WM := Lib.hid wf.2.2.1; clear wf
  cases hE : inB 0 1000000000 d.epoch
  · have HN : Hid (enOk d = false) := Lib.hid (by simp [enOk, hE])
    go_enter Try.func50, Try.ntmps50
    go_wp2_with (go_at_call 93; refine (upTo_any _ _ _).mono ?_; rintro e w' ⟨rfl, rfl⟩; first | rw [hE] | rw [hP] | rw [hH])
    go_ret
    refine ⟨ret_bool HN.out.symm, ?_⟩
    ((repeat (first | with_reducible exact Grow.refl _ | (with_reducible refine Grow.alloc_ ?_ _) | (with_reducible refine Grow.setCell_ ?_ (by first | exact Nat.le_refl _ | (simp only [World.alloc, Array.size_push]; omega) | omega) _))))
  cases hP : inB 0 65535 d.prio
  · have HN : Hid (enOk d = false) := Lib.hid (by simp [enOk, hP])
    go_enter Try.func50, Try.ntmps50
    go_wp2_with (go_at_call 93; refine (upTo_any _ _ _).mono ?_; rintro e w' ⟨rfl, rfl⟩; first | rw [hE] | rw [hP] | rw [hH])
    go_ret
    refine ⟨ret_bool HN.out.symm, ?_⟩
    ((repeat (first | with_reducible exact Grow.refl _ | (with_reducible refine Grow.alloc_ ?_ _) | (with_reducible refine Grow.setCell_ ?_ (by first | exact Nat.le_refl _ | (simp only [World.alloc, Array.size_push]; omega) | omega) _))))
  cases hH : inB 0 1000000000 d.hits
  · have HN : Hid (enOk d = false) := Lib.hid (by simp [enOk, hH])
    go_enter Try.func50, Try.ntmps50
    go_wp2_with (go_at_call 93; refine (upTo_any _ _ _).mono ?_; rintro e w' ⟨rfl, rfl⟩; first | rw [hE] | rw [hP] | rw [hH])
    go_ret
    refine ⟨ret_bool HN.out.symm, ?_⟩
    ((repeat (first | with_reducible exact Grow.refl _ | (with_reducible refine Grow.alloc_ ?_ _) | (with_reducible refine Grow.setCell_ ?_ (by first | exact Nat.le_refl _ | (simp only [World.alloc, Array.size_push]; omega) | omega) _))))
  cases hm : mtOk d.m
  · have HN : Hid (enOk d = false) := Lib.hid (by simp [enOk, hm])
    go_enter Try.func50, Try.ntmps50
    go_wp2_with (first | (go_at_call 93; refine (upTo_any _ _ _).mono ?_; rintro e w' ⟨rfl, rfl⟩; first | rw [hE] | rw [hP] | rw [hH]) | fail)
    refine at_world (w := w) ?G (fun hG => (matchOkI_any _ _ d.m (HM.out.grow hG) WM.out).mono ?_)
    case G => ((repeat (first | with_reducible exact Grow.refl _ | (with_reducible refine Grow.alloc_ ?_ _) | (with_reducible refine Grow.setCell_ ?_ (by first | exact Nat.le_refl _ | (simp only [World.alloc, Array.size_push]; omega) | omega) _))))
    rintro e w1 ⟨rfl, hg⟩
    rw [hm]
    have HG := Lib.hid (hG.trans hg)
    have BX := Lib.hid ((Box.alloc w _ _).grow hg)
    clear hG hg
    have ⟨a0, a1, a2, a3, a4, a5⟩ := BX.out.six
    have al := BX.out.1
    go_wp2
    go_ret
    exact ⟨ret_bool HN.out.symm, HG.out⟩
  cases ha : acOk d.acts
  · have HN : Hid (enOk d = false) := Lib.hid (by simp [enOk, ha])
    go_enter Try.func50, Try.ntmps50
    go_wp2_with (first | (go_at_call 93; refine (upTo_any _ _ _).mono ?_; rintro e w' ⟨rfl, rfl⟩; first | rw [hE] | rw [hP] | rw [hH]) | fail)
    refine at_world (w := w) ?G (fun hG => (matchOkI_any _ _ d.m (HM.out.grow hG) WM.out).mono ?_)
    case G => ((repeat (first | with_reducible exact Grow.refl _ | (with_reducible refine Grow.alloc_ ?_ _) | (with_reducible refine Grow.setCell_ ?_ (by first | exact Nat.le_refl _ | (simp only [World.alloc, Array.size_push]; omega) | omega) _))))
    rintro e w1 ⟨rfl, hg⟩
    rw [hm]
    have HG := Lib.hid (hG.trans hg)
    have BX := Lib.hid ((Box.alloc w _ _).grow hg)
    clear hG hg
    have ⟨a0, a1, a2, a3, a4, a5⟩ := BX.out.six
    have al := BX.out.1
    go_wp2_with fail
    refine (actsOkI_any _ _ _ (HA.out.grow HG.out)).mono ?_
    rintro e w2 ⟨rfl, hg⟩
    rw [ha]
    have HG := Lib.hid (HG.out.trans hg); clear hg
    go_wp2
    go_ret
    exact ⟨ret_bool HN.out.symm, HG.out⟩
  have HN : Hid (enOk d = true) := Lib.hid (by unfold enOk; rw [hE, hP, hH, hm, ha]; rfl)
  go_enter Try.func50, Try.ntmps50
  go_wp2_with (first | (go_at_call 93; refine (upTo_any _ _ _).mono ?_; rintro e w' ⟨rfl, rfl⟩; first | rw [hE] | rw [hP] | rw [hH]) | fail)
  refine at_world (w := w) ?G (fun hG => (matchOkI_any _ _ d.m (HM.out.grow hG) WM.out).mono ?_)
  case G => ((repeat (first | with_reducible exact Grow.refl _ | (with_reducible refine Grow.alloc_ ?_ _) | (with_reducible refine Grow.setCell_ ?_ (by first | exact Nat.le_refl _ | (simp only [World.alloc, Array.size_push]; omega) | omega) _))))
  rintro e w1 ⟨rfl, hg⟩
  rw [hm]
  have HG := Lib.hid (hG.trans hg)
  have BX := Lib.hid ((Box.alloc w _ _).grow hg)
  clear hG hg
  have ⟨a0, a1, a2, a3, a4, a5⟩ := BX.out.six
  have al := BX.out.1
  go_wp2_with fail
  refine (actsOkI_any _ _ _ (HA.out.grow HG.out)).mono ?_
  rintro e w2 ⟨rfl, hg⟩
  rw [ha]
  have HG := Lib.hid (HG.out.trans hg); clear hg
  go_wp2
  go_ret
  exact ⟨ret_bool HN.out.symm, HG.out⟩
--% EntryOkS 48
set_option maxHeartbeats 2000000 in
theorem entryOkS_any (w : World) (V : Value) (d : EntryD) (h : RdE w V d) (wf : WfE d) : Calls Try.prog 48 #[V] w (RetV (.bool (enOk d)) w) := by
  obtain ⟨v0, v1, v2, rfl, h0, h1, h2⟩ := h
  have HM := Lib.hid (RdE.mOf h0 h1); have HA := Lib.hid h2; clear h0 h1 h2
  have WM := Lib.hid wf.2.2.1; clear wf
  by_cases lE : 0 ≤ d.epoch
  rotate_left
  · have HN : Hid (enOk d = false) := Lib.hid (by have := inB_false (lo := 0) (hi := 1000000000) (n := d.epoch) (by omega); simp [enOk, this])
    go_enter Try.func48, Try.ntmps48
    go_wp2
    go_ret
    refine ⟨ret_bool HN.out.symm, ?_⟩
    ((repeat (first | with_reducible exact Grow.refl _ | (with_reducible refine Grow.alloc_ ?_ _) | (with_reducible refine Grow.setCell_ ?_ (by first | exact Nat.le_refl _ | (simp only [World.alloc, Array.size_push]; omega) | omega) _))))
  by_cases gE : d.epoch ≤ 1000000000
  rotate_left
  · have HN : Hid (enOk d = false) := Lib.hid (by have := inB_false (lo := 0) (hi := 1000000000) (n := d.epoch) (by omega); simp [enOk, this])
    go_enter Try.func48, Try.ntmps48
    go_wp2
    go_ret
    refine ⟨ret_bool HN.out.symm, ?_⟩
    ((repeat (first | with_reducible exact Grow.refl _ | (with_reducible refine Grow.alloc_ ?_ _) | (with_reducible refine Grow.setCell_ ?_ (by first | exact Nat.le_refl _ | (simp only [World.alloc, Array.size_push]; omega) | omega) _))))
  have hE := inB_true lE gE
  by_cases lP : 0 ≤ d.prio
  rotate_left
  · have HN : Hid (enOk d = false) := Lib.hid (by have := inB_false (lo := 0) (hi := 65535) (n := d.prio) (by omega); simp [enOk, this])
    go_enter Try.func48, Try.ntmps48
    go_wp2
    go_ret
    refine ⟨ret_bool HN.out.symm, ?_⟩
    ((repeat (first | with_reducible exact Grow.refl _ | (with_reducible refine Grow.alloc_ ?_ _) | (with_reducible refine Grow.setCell_ ?_ (by first | exact Nat.le_refl _ | (simp only [World.alloc, Array.size_push]; omega) | omega) _))))
  by_cases gP : d.prio ≤ 65535
  rotate_left
  · have HN : Hid (enOk d = false) := Lib.hid (by have := inB_false (lo := 0) (hi := 65535) (n := d.prio) (by omega); simp [enOk, this])
    go_enter Try.func48, Try.ntmps48
    go_wp2
    go_ret
    refine ⟨ret_bool HN.out.symm, ?_⟩
    ((repeat (first | with_reducible exact Grow.refl _ | (with_reducible refine Grow.alloc_ ?_ _) | (with_reducible refine Grow.setCell_ ?_ (by first | exact Nat.le_refl _ | (simp only [World.alloc, Array.size_push]; omega) | omega) _))))
  have hP := inB_true lP gP
  by_cases lH : 0 ≤ d.hits
  rotate_left
  · have HN : Hid (enOk d = false) := Lib.hid (by have := inB_false (lo := 0) (hi := 1000000000) (n := d.hits) (by omega); simp [enOk, this])
    go_enter Try.func48, Try.ntmps48
    go_wp2
    go_ret
    refine ⟨ret_bool HN.out.symm, ?_⟩
    ((repeat (first | with_reducible exact Grow.refl _ | (with_reducible refine Grow.alloc_ ?_ _) | (with_reducible refine Grow.setCell_ ?_ (by first | exact Nat.le_refl _ | (simp only [World.alloc, Array.size_push]; omega) | omega) _))))
  by_cases gH : d.hits ≤ 1000000000
  rotate_left
  · have HN : Hid (enOk d = false) := Lib.hid (by have := inB_false (lo := 0) (hi := 1000000000) (n := d.hits) (by omega); simp [enOk, this])
    go_enter Try.func48, Try.ntmps48
    go_wp2
    go_ret
    refine ⟨ret_bool HN.out.symm, ?_⟩
    ((repeat (first | with_reducible exact Grow.refl _ | (with_reducible refine Grow.alloc_ ?_ _) | (with_reducible refine Grow.setCell_ ?_ (by first | exact Nat.le_refl _ | (simp only [World.alloc, Array.size_push]; omega) | omega) _))))
  have hH := inB_true lH gH
  cases hm : mtOk d.m
  · have HN : Hid (enOk d = false) := Lib.hid (by simp [enOk, hm])
    go_enter Try.func48, Try.ntmps48
    go_wp2_with fail
    refine at_world (w := w) ?G (fun hG => (matchOkS_any _ _ d.m (HM.out.grow hG) WM.out).mono ?_)
    case G => ((repeat (first | with_reducible exact Grow.refl _ | (with_reducible refine Grow.alloc_ ?_ _) | (with_reducible refine Grow.setCell_ ?_ (by first | exact Nat.le_refl _ | (simp only [World.alloc, Array.size_push]; omega) | omega) _))))
    rintro e w1 ⟨rfl, hg⟩
    rw [hm]
    have HG := Lib.hid (hG.trans hg)
    have BX := Lib.hid ((Box.alloc w _ _).grow hg)
    clear hG hg
    have ⟨a0, a1, a2, a3, a4, a5⟩ := BX.out.six
    have al := BX.out.1
    go_wp2
    go_ret
    exact ⟨ret_bool HN.out.symm, HG.out⟩
  cases ha : acOk d.acts
  · have HN : Hid (enOk d = false) := Lib.hid (by simp [enOk, ha])
    go_enter Try.func48, Try.ntmps48
    go_wp2_with fail
    refine at_world (w := w) ?G (fun hG => (matchOkS_any _ _ d.m (HM.out.grow hG) WM.out).mono ?_)
    case G => ((repeat (first | with_reducible exact Grow.refl _ | (with_reducible refine Grow.alloc_ ?_ _) | (with_reducible refine Grow.setCell_ ?_ (by first | exact Nat.le_refl _ | (simp only [World.alloc, Array.size_push]; omega) | omega) _))))
    rintro e w1 ⟨rfl, hg⟩
    rw [hm]
    have HG := Lib.hid (hG.trans hg)
    have BX := Lib.hid ((Box.alloc w _ _).grow hg)
    clear hG hg
    have ⟨a0, a1, a2, a3, a4, a5⟩ := BX.out.six
    have al := BX.out.1
    go_wp2_with fail
    refine (actsOkS_any _ _ _ (HA.out.grow HG.out)).mono ?_
    rintro e w2 ⟨rfl, hg⟩
    rw [ha]
    have HG := Lib.hid (HG.out.trans hg); clear hg
    go_wp2
    go_ret
    exact ⟨ret_bool HN.out.symm, HG.out⟩
  have HN : Hid (enOk d = true) := Lib.hid (by unfold enOk; rw [hE, hP, hH, hm, ha]; rfl)
  go_enter Try.func48, Try.ntmps48
  go_wp2_with fail
  refine at_world (w := w) ?G (fun hG => (matchOkS_any _ _ d.m (HM.out.grow hG) WM.out).mono ?_)
  case G => ((repeat (first | with_reducible exact Grow.refl _ | (with_reducible refine Grow.alloc_ ?_ _) | (with_reducible refine Grow.setCell_ ?_ (by first | exact Nat.le_refl _ | (simp only [World.alloc, Array.size_push]; omega) | omega) _))))
  rintro e w1 ⟨rfl, hg⟩
  rw [hm]
  have HG := Lib.hid (hG.trans hg)
  have BX := Lib.hid ((Box.alloc w _ _).grow hg)
  clear hG hg
  have ⟨a0, a1, a2, a3, a4, a5⟩ := BX.out.six
  have al := BX.out.1
  go_wp2_with fail
  refine (actsOkS_any _ _ _ (HA.out.grow HG.out)).mono ?_
  rintro e w2 ⟨rfl, hg⟩
  rw [ha]
  have HG := Lib.hid (HG.out.trans hg); clear hg
  go_wp2
  go_ret
  exact ⟨ret_bool HN.out.symm, HG.out⟩
--%
end Go.Proofs.Ytgigdpdmdldhnaa
