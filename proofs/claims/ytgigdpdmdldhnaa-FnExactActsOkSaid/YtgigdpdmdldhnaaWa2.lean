/- walk of the law on acts -/
import Derived.Test.YtgigdpdmdldhnaaOpnA
import Derived.Test.YtgigdpdmdldhnaaAok
import Derived.WalkKit
import Derived.ProofKit
import Derived.OpenShut
import Derived.ShutString
import Derived.ChangeOld
import Derived.Below
import Derived.SizedLaws
import Derived.WalkSpells
import Derived.Deep.QuietTactic
import Derived.BigQuiet
import Derived.Outline
namespace Go.Proofs.Ytgigdpdmdldhnaa
open Go.ChangeShapes Go.WideShapes Go.ChangeAt Go.RowKit
open Go.ChangeMaps (open_string shut_string)
set_option linter.unusedVariables false
set_option linter.unusedSimpArgs false
--% actsOkS
theorem actsOkS_C (w : World) (v : Value) (d : DatA) (h : RdA w v d) (b : WfA d) (sm : SmA d) : Calls Try.prog 22 #[v] w (RetV (.bool (acOk d)) w) := actsOkS_any w v d h
--% actsOkI
theorem actsOkI_C (w : World) (v : Value) (d : DatA) (h : RdA w v d) (b : WfA d) (sm : SmA d) : Calls Try.prog 24 #[v] w (RetV (.bool (acOk d)) w) := actsOkI_any w v d h
--% walk ActsOk
theorem walk_FnExactActsOk (w : World) (v0 : Value) (d0 : DatA) (h0 : RdA w v0 d0) (b0 : WfA d0) :
    Calls Try.prog 4 #[v0] w (RetV (.bool true) w) := by
  have H0 := Lib.hid h0
  have B0 := Lib.hid b0
  clear h0 b0
  have hp0 : 0 ≤ sizeA d0 := by unfold sizeA; omega
  by_cases hz0 : 1048576 < sizeA d0
  · skip
    have HZ0 := Lib.hid (leftOf_no hz0)
    go_enter Try.func4, Try.ntmps4
    go_wp2_with fail
    refine at_call (w := w) ?G (fun hG => (sz_A _ _ _ _ (H0.out.grow hG) (by omega)).mono ?_)
    case G => ((repeat (first | with_reducible exact Grow.refl _ | (with_reducible refine Grow.alloc_ ?_ _) | (with_reducible refine Grow.setCell_ ?_ (by first | exact Nat.le_refl _ | (simp only [World.alloc, Array.size_push]; omega) | omega) _))))
    rintro e w1 ⟨rfl, hg⟩
    rw [HZ0.out]
    have G1_w := Lib.hid (hG.trans hg)
    clear hG hg 
    go_wp2
    go_ret
    exact ⟨rfl, G1_w.out⟩
  have HZ0 := Lib.hid (leftOf_yes hz0)
  have sm0 : Hid (SmA d0) := Lib.hid (by unfold SmA; omega)
  have KS := Lib.hid (fun (w : World) (v0 : Value) (h0 : RdA w v0 d0) => actsOkS_C w v0 d0 h0 B0.out sm0.out)
  have KI := Lib.hid (fun (w : World) (v0 : Value) (h0 : RdA w v0 d0) => actsOkI_C w v0 d0 h0 B0.out sm0.out)
  generalize acOk d0 = R at *
  go_enter Try.func4, Try.ntmps4
  go_wp2_with fail
  refine at_call (w := w) ?G (fun hG => (sz_A _ _ _ _ (H0.out.grow hG) (by omega)).mono ?_)
  case G => ((repeat (first | with_reducible exact Grow.refl _ | (with_reducible refine Grow.alloc_ ?_ _) | (with_reducible refine Grow.setCell_ ?_ (by first | exact Nat.le_refl _ | (simp only [World.alloc, Array.size_push]; omega) | omega) _))))
  rintro e w1 ⟨rfl, hg⟩
  rw [HZ0.out]
  have G1_w := Lib.hid (hG.trans hg)
  clear hG hg 
  go_wp2_with fail
  refine at_call (w := w1) ?G (fun hG => (to_A _ _ _ (H0.out.grow (G1_w.out.trans hG)) sm0.out).mono ?_)
  case G => ((repeat (first | with_reducible exact Grow.refl _ | (with_reducible refine Grow.alloc_ ?_ _) | (with_reducible refine Grow.setCell_ ?_ (by first | exact Nat.le_refl _ | (simp only [World.alloc, Array.size_push]; omega) | omega) _))))
  rintro e w2 ⟨y0, fpy0, rfl, ho, hf, hg⟩
  have Oy0 := Lib.hid ho; have Ry0 := Lib.hid ho.rd; have Fy0 := Lib.hid (hf.older hG); have Yy0 := Lib.hid ho.here
  have G2_w := Lib.hid (G1_w.out.trans (hG.trans hg))
  clear hG hg ho hf
  go_wp2_with fail
  refine at_call (w := w2) ?G (fun hG => (KS.out _ _ (Ry0.out.grow hG)).mono ?_)
  case G => ((repeat (first | with_reducible exact Grow.refl _ | (with_reducible refine Grow.alloc_ ?_ _) | (with_reducible refine Grow.setCell_ ?_ (by first | exact Nat.le_refl _ | (simp only [World.alloc, Array.size_push]; omega) | omega) _))))
  rintro e w3 ⟨rfl, hg⟩
  have G3_w := Lib.hid (G2_w.out.trans (hG.trans hg))
  have G3_w2 := Lib.hid (hG.trans hg)
  clear hG hg 
  go_wp2_with fail
  refine at_call (w := w3) ?G (fun hG => (to_A _ _ _ (H0.out.grow (G3_w.out.trans hG)) sm0.out).mono ?_)
  case G => ((repeat (first | with_reducible exact Grow.refl _ | (with_reducible refine Grow.alloc_ ?_ _) | (with_reducible refine Grow.setCell_ ?_ (by first | exact Nat.le_refl _ | (simp only [World.alloc, Array.size_push]; omega) | omega) _))))
  rintro e w4 ⟨x0, fpx0, rfl, ho, hf, hg⟩
  have Ox0 := Lib.hid ho; have Rx0 := Lib.hid ho.rd; have Fx0 := Lib.hid (hf.older hG); have Yx0 := Lib.hid ho.here
  have G4_w := Lib.hid (G3_w.out.trans (hG.trans hg))
  clear hG hg ho hf
  go_wp2_with fail
  refine at_call (w := w4) ?G (fun hG => (KI.out _ _ (Rx0.out.grow hG)).mono ?_)
  case G => ((repeat (first | with_reducible exact Grow.refl _ | (with_reducible refine Grow.alloc_ ?_ _) | (with_reducible refine Grow.setCell_ ?_ (by first | exact Nat.le_refl _ | (simp only [World.alloc, Array.size_push]; omega) | omega) _))))
  rintro e w5 ⟨rfl, hg⟩
  have G5_w := Lib.hid (G4_w.out.trans (hG.trans hg))
  have G5_w4 := Lib.hid (hG.trans hg)
  clear hG hg 
  go_wp2_with fail
  refine at_call (w := w5) ?G (fun hG => (to_A _ _ _ (H0.out.grow (G5_w.out.trans hG)) sm0.out).mono ?_)
  case G => ((repeat (first | with_reducible exact Grow.refl _ | (with_reducible refine Grow.alloc_ ?_ _) | (with_reducible refine Grow.setCell_ ?_ (by first | exact Nat.le_refl _ | (simp only [World.alloc, Array.size_push]; omega) | omega) _))))
  rintro e w6 ⟨t0, fpt0, rfl, ho, hf, hg⟩
  have Ot0 := Lib.hid ho; have Rt0 := Lib.hid ho.rd; have Ft0 := Lib.hid (hf.older hG); have Yt0 := Lib.hid ho.here
  have G6_w := Lib.hid (G5_w.out.trans (hG.trans hg))
  have G6_w4 := Lib.hid (G5_w4.out.trans (hG.trans hg))
  clear hG hg ho hf
  go_wp2_with fail
  refine at_call (w := w6) ?G (fun hG => (eq_A _ _ _ _ _ (Rx0.out.grow (G6_w4.out.trans hG)) (Rt0.out.grow hG)).mono ?_)
  case G => ((repeat (first | with_reducible exact Grow.refl _ | (with_reducible refine Grow.alloc_ ?_ _) | (with_reducible refine Grow.setCell_ ?_ (by first | exact Nat.le_refl _ | (simp only [World.alloc, Array.size_push]; omega) | omega) _))))
  rintro e w7 ⟨rfl, hg⟩
  have G7_w := Lib.hid (G6_w.out.trans (hG.trans hg))
  have G7_w4 := Lib.hid (G6_w4.out.trans (hG.trans hg))
  have G7_w6 := Lib.hid (hG.trans hg)
  clear hG hg 
  go_wp2
  go_ret
  exact ⟨rfl, G7_w.out⟩
--%
end Go.Proofs.Ytgigdpdmdldhnaa
