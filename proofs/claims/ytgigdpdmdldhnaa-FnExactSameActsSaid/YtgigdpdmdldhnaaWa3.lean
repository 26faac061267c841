/- walks of the laws on acts of a kind and on equal acts -/
import Derived.Test.YtgigdpdmdldhnaaOpnA
import Derived.Test.YtgigdpdmdldhnaaHa
import Derived.WalkKit
import Derived.ProofKit
import Derived.OpenShut
import Derived.ShutString
import Derived.ChangeOld
import Derived.Below
import Derived.SizedLaws
import Derived.WalkSpells
import Derived.Deep.QuietTactic
import Derived.BigQuiet
import Derived.Outline
namespace Go.Proofs.Ytgigdpdmdldhnaa
open Go.ChangeShapes Go.WideShapes Go.ChangeAt Go.RowKit
open Go.ChangeMaps (open_string shut_string)
set_option linter.unusedVariables false
set_option linter.unusedSimpArgs false
--% hasActS
theorem hasActS_C (w : World) (v : Value) (d : DatA) (h : RdA w v d) (b : WfA d) (n : Int) (hn : -9223372036854775808 ≤ n ∧ n ≤ 9223372036854775807) (sm : SmA d) : Calls Try.prog 26 #[v, .int .i64 n] w (RetV (.bool (haOk d n)) w) := hasActS_any w v d n h
--% sameActsS
theorem sameActsS_C (w : World) (v : Value) (d : DatA) (h : RdA w v d) (b : WfA d) (v2 : Value) (d2 : DatA) (h2 : RdA w v2 d2) (b2 : WfA d2) (sm : SmA d) (sm2 : SmA d2) : Calls Try.prog 28 #[v, v2] w (RetV (.bool (saOk d d2)) w) := sameActsS_any w v v2 d d2 h h2
--% hasActI
theorem hasActI_C (w : World) (v : Value) (d : DatA) (h : RdA w v d) (b : WfA d) (n : Int) (hn : -9223372036854775808 ≤ n ∧ n ≤ 9223372036854775807) (sm : SmA d) : Calls Try.prog 27 #[v, .int .i64 n] w (RetV (.bool (haOk d n)) w) := hasActI_any w v d n h
--% sameActsI
theorem sameActsI_C (w : World) (v : Value) (d : DatA) (h : RdA w v d) (b : WfA d) (v2 : Value) (d2 : DatA) (h2 : RdA w v2 d2) (b2 : WfA d2) (sm : SmA d) (sm2 : SmA d2) : Calls Try.prog 29 #[v, v2] w (RetV (.bool (saOk d d2)) w) := sameActsI_any w v v2 d d2 h h2
--% walk HasAct
theorem walk_FnExactHasAct (w : World) (v0 : Value) (d0 : DatA) (h0 : RdA w v0 d0) (b0 : WfA d0) (n1 : Int) (hn1 : -9223372036854775808 ≤ n1 ∧ n1 ≤ 9223372036854775807) :
    Calls Try.prog 5 #[v0, .int .i64 n1] w (RetV (.bool true) w) := by
  have H0 := Lib.hid h0
  have B0 := Lib.hid b0
  clear h0 b0
  have hp0 : 0 ≤ sizeA d0 := by unfold sizeA; omega
  by_cases hz0 : 1048576 < sizeA d0
  · skip
    have HZ0 := Lib.hid (leftOf_no hz0)
    go_enter Try.func5, Try.ntmps5
    go_wp2_with fail
    refine at_call (w := w) ?G (fun hG => (sz_A _ _ _ _ (H0.out.grow hG) (by omega)).mono ?_)
    case G => ((repeat (first | with_reducible exact Grow.refl _ | (with_reducible refine Grow.alloc_ ?_ _) | (with_reducible refine Grow.setCell_ ?_ (by first | exact Nat.le_refl _ | (simp only [World.alloc, Array.size_push]; omega) | omega) _))))
    rintro e w1 ⟨rfl, hg⟩
    rw [HZ0.out]
    have G1_w := Lib.hid (hG.trans hg)
    clear hG hg 
    go_wp2
    go_ret
    exact ⟨rfl, G1_w.out⟩
  have HZ0 := Lib.hid (leftOf_yes hz0)
  have sm0 : Hid (SmA d0) := Lib.hid (by unfold SmA; omega)
  have KS := Lib.hid (fun (w : World) (v0 : Value) (h0 : RdA w v0 d0) => hasActS_C w v0 d0 h0 B0.out n1 hn1 sm0.out)
  have KI := Lib.hid (fun (w : World) (v0 : Value) (h0 : RdA w v0 d0) => hasActI_C w v0 d0 h0 B0.out n1 hn1 sm0.out)
  generalize haOk d0 n1 = R at *
  go_enter Try.func5, Try.ntmps5
  go_wp2_with fail
  refine at_call (w := w) ?G (fun hG => (sz_A _ _ _ _ (H0.out.grow hG) (by omega)).mono ?_)
  case G => ((repeat (first | with_reducible exact Grow.refl _ | (with_reducible refine Grow.alloc_ ?_ _) | (with_reducible refine Grow.setCell_ ?_ (by first | exact Nat.le_refl _ | (simp only [World.alloc, Array.size_push]; omega) | omega) _))))
  rintro e w1 ⟨rfl, hg⟩
  rw [HZ0.out]
  have G1_w := Lib.hid (hG.trans hg)
  clear hG hg 
  go_wp2_with fail
  refine at_call (w := w1) ?G (fun hG => (to_A _ _ _ (H0.out.grow (G1_w.out.trans hG)) sm0.out).mono ?_)
  case G => ((repeat (first | with_reducible exact Grow.refl _ | (with_reducible refine Grow.alloc_ ?_ _) | (with_reducible refine Grow.setCell_ ?_ (by first | exact Nat.le_refl _ | (simp only [World.alloc, Array.size_push]; omega) | omega) _))))
  rintro e w2 ⟨y0, fpy0, rfl, ho, hf, hg⟩
  have Oy0 := Lib.hid ho; have Ry0 := Lib.hid ho.rd; have Fy0 := Lib.hid (hf.older hG); have Yy0 := Lib.hid ho.here
  have G2_w := Lib.hid (G1_w.out.trans (hG.trans hg))
  clear hG hg ho hf
  go_wp2_with fail
  refine at_call (w := w2) ?G (fun hG => (KS.out _ _ (Ry0.out.grow hG)).mono ?_)
  case G => ((repeat (first | with_reducible exact Grow.refl _ | (with_reducible refine Grow.alloc_ ?_ _) | (with_reducible refine Grow.setCell_ ?_ (by first | exact Nat.le_refl _ | (simp only [World.alloc, Array.size_push]; omega) | omega) _))))
  rintro e w3 ⟨rfl, hg⟩
  have G3_w := Lib.hid (G2_w.out.trans (hG.trans hg))
  have G3_w2 := Lib.hid (hG.trans hg)
  clear hG hg 
  go_wp2_with fail
  refine at_call (w := w3) ?G (fun hG => (to_A _ _ _ (H0.out.grow (G3_w.out.trans hG)) sm0.out).mono ?_)
  case G => ((repeat (first | with_reducible exact Grow.refl _ | (with_reducible refine Grow.alloc_ ?_ _) | (with_reducible refine Grow.setCell_ ?_ (by first | exact Nat.le_refl _ | (simp only [World.alloc, Array.size_push]; omega) | omega) _))))
  rintro e w4 ⟨x0, fpx0, rfl, ho, hf, hg⟩
  have Ox0 := Lib.hid ho; have Rx0 := Lib.hid ho.rd; have Fx0 := Lib.hid (hf.older hG); have Yx0 := Lib.hid ho.here
  have G4_w := Lib.hid (G3_w.out.trans (hG.trans hg))
  clear hG hg ho hf
  go_wp2_with fail
  refine at_call (w := w4) ?G (fun hG => (KI.out _ _ (Rx0.out.grow hG)).mono ?_)
  case G => ((repeat (first | with_reducible exact Grow.refl _ | (with_reducible refine Grow.alloc_ ?_ _) | (with_reducible refine Grow.setCell_ ?_ (by first | exact Nat.le_refl _ | (simp only [World.alloc, Array.size_push]; omega) | omega) _))))
  rintro e w5 ⟨rfl, hg⟩
  have G5_w := Lib.hid (G4_w.out.trans (hG.trans hg))
  have G5_w4 := Lib.hid (hG.trans hg)
  clear hG hg 
  go_wp2_with fail
  refine at_call (w := w5) ?G (fun hG => (to_A _ _ _ (H0.out.grow (G5_w.out.trans hG)) sm0.out).mono ?_)
  case G => ((repeat (first | with_reducible exact Grow.refl _ | (with_reducible refine Grow.alloc_ ?_ _) | (with_reducible refine Grow.setCell_ ?_ (by first | exact Nat.le_refl _ | (simp only [World.alloc, Array.size_push]; omega) | omega) _))))
  rintro e w6 ⟨t0, fpt0, rfl, ho, hf, hg⟩
  have Ot0 := Lib.hid ho; have Rt0 := Lib.hid ho.rd; have Ft0 := Lib.hid (hf.older hG); have Yt0 := Lib.hid ho.here
  have G6_w := Lib.hid (G5_w.out.trans (hG.trans hg))
  have G6_w4 := Lib.hid (G5_w4.out.trans (hG.trans hg))
  clear hG hg ho hf
  go_wp2_with fail
  refine at_call (w := w6) ?G (fun hG => (eq_A _ _ _ _ _ (Rx0.out.grow (G6_w4.out.trans hG)) (Rt0.out.grow hG)).mono ?_)
  case G => ((repeat (first | with_reducible exact Grow.refl _ | (with_reducible refine Grow.alloc_ ?_ _) | (with_reducible refine Grow.setCell_ ?_ (by first | exact Nat.le_refl _ | (simp only [World.alloc, Array.size_push]; omega) | omega) _))))
  rintro e w7 ⟨rfl, hg⟩
  have G7_w := Lib.hid (G6_w.out.trans (hG.trans hg))
  have G7_w4 := Lib.hid (G6_w4.out.trans (hG.trans hg))
  have G7_w6 := Lib.hid (hG.trans hg)
  clear hG hg 
  go_wp2
  go_ret
  exact ⟨rfl, G7_w.out⟩
--% walk SameActs
theorem walk_FnExactSameActs (w : World) (v0 : Value) (d0 : DatA) (h0 : RdA w v0 d0) (b0 : WfA d0) (v1 : Value) (d1 : DatA) (h1 : RdA w v1 d1) (b1 : WfA d1) :
    Calls Try.prog 6 #[v0, v1] w (RetV (.bool true) w) := by
  have H0 := Lib.hid h0
  have B0 := Lib.hid b0
  clear h0 b0
  have H1 := Lib.hid h1
  have B1 := Lib.hid b1
  clear h1 b1
  have hp0 : 0 ≤ sizeA d0 := by unfold sizeA; omega
  have hp1 : 0 ≤ sizeA d1 := by unfold sizeA; omega
  by_cases hz0 : 1048576 < sizeA d0
  · skip
    have HZ0 := Lib.hid (leftOf_no hz0)
    go_enter Try.func6, Try.ntmps6
    go_wp2_with fail
    refine at_call (w := w) ?G (fun hG => (sz_A _ _ _ _ (H0.out.grow hG) (by omega)).mono ?_)
    case G => ((repeat (first | with_reducible exact Grow.refl _ | (with_reducible refine Grow.alloc_ ?_ _) | (with_reducible refine Grow.setCell_ ?_ (by first | exact Nat.le_refl _ | (simp only [World.alloc, Array.size_push]; omega) | omega) _))))
    rintro e w1 ⟨rfl, hg⟩
    rw [HZ0.out]
    have G1_w := Lib.hid (hG.trans hg)
    clear hG hg 
    go_wp2
    go_ret
    exact ⟨rfl, G1_w.out⟩
  have HZ0 := Lib.hid (leftOf_yes hz0)
  by_cases hz1 : 1048576 - sizeA d0 < sizeA d1
  · skip
    have HZ1 := Lib.hid (leftOf_no hz1)
    go_enter Try.func6, Try.ntmps6
    go_wp2_with fail
    refine at_call (w := w) ?G (fun hG => (sz_A _ _ _ _ (H0.out.grow hG) (by omega)).mono ?_)
    case G => ((repeat (first | with_reducible exact Grow.refl _ | (with_reducible refine Grow.alloc_ ?_ _) | (with_reducible refine Grow.setCell_ ?_ (by first | exact Nat.le_refl _ | (simp only [World.alloc, Array.size_push]; omega) | omega) _))))
    rintro e w1 ⟨rfl, hg⟩
    rw [HZ0.out]
    have G1_w := Lib.hid (hG.trans hg)
    clear hG hg 
    go_wp2_with fail
    refine at_call (w := w1) ?G (fun hG => (sz_A _ _ _ _ (H1.out.grow (G1_w.out.trans hG)) (by omega)).mono ?_)
    case G => ((repeat (first | with_reducible exact Grow.refl _ | (with_reducible refine Grow.alloc_ ?_ _) | (with_reducible refine Grow.setCell_ ?_ (by first | exact Nat.le_refl _ | (simp only [World.alloc, Array.size_push]; omega) | omega) _))))
    rintro e w2 ⟨rfl, hg⟩
    rw [HZ1.out]
    have G2_w := Lib.hid (G1_w.out.trans (hG.trans hg))
    clear hG hg 
    go_wp2
    go_ret
    exact ⟨rfl, G2_w.out⟩
  have HZ1 := Lib.hid (leftOf_yes hz1)
  have sm0 : Hid (SmA d0) := Lib.hid (by unfold SmA; omega)
  have sm1 : Hid (SmA d1) := Lib.hid (by unfold SmA; omega)
  have KS := Lib.hid (fun (w : World) (v0 : Value) (h0 : RdA w v0 d0) (v1 : Value) (h1 : RdA w v1 d1) => sameActsS_C w v0 d0 h0 B0.out v1 d1 h1 B1.out sm0.out sm1.out)
  have KI := Lib.hid (fun (w : World) (v0 : Value) (h0 : RdA w v0 d0) (v1 : Value) (h1 : RdA w v1 d1) => sameActsI_C w v0 d0 h0 B0.out v1 d1 h1 B1.out sm0.out sm1.out)
  generalize saOk d0 d1 = R at *
  go_enter Try.func6, Try.ntmps6
  go_wp2_with fail
  refine at_call (w := w) ?G (fun hG => (sz_A _ _ _ _ (H0.out.grow hG) (by omega)).mono ?_)
  case G => ((repeat (first | with_reducible exact Grow.refl _ | (with_reducible refine Grow.alloc_ ?_ _) | (with_reducible refine Grow.setCell_ ?_ (by first | exact Nat.le_refl _ | (simp only [World.alloc, Array.size_push]; omega) | omega) _))))
  rintro e w1 ⟨rfl, hg⟩
  rw [HZ0.out]
  have G1_w := Lib.hid (hG.trans hg)
  clear hG hg 
  go_wp2_with fail
  refine at_call (w := w1) ?G (fun hG => (sz_A _ _ _ _ (H1.out.grow (G1_w.out.trans hG)) (by omega)).mono ?_)
  case G => ((repeat (first | with_reducible exact Grow.refl _ | (with_reducible refine Grow.alloc_ ?_ _) | (with_reducible refine Grow.setCell_ ?_ (by first | exact Nat.le_refl _ | (simp only [World.alloc, Array.size_push]; omega) | omega) _))))
  rintro e w2 ⟨rfl, hg⟩
  rw [HZ1.out]
  have G2_w := Lib.hid (G1_w.out.trans (hG.trans hg))
  clear hG hg 
  go_wp2_with fail
  refine at_call (w := w2) ?G (fun hG => (to_A _ _ _ (H0.out.grow (G2_w.out.trans hG)) sm0.out).mono ?_)
  case G => ((repeat (first | with_reducible exact Grow.refl _ | (with_reducible refine Grow.alloc_ ?_ _) | (with_reducible refine Grow.setCell_ ?_ (by first | exact Nat.le_refl _ | (simp only [World.alloc, Array.size_push]; omega) | omega) _))))
  rintro e w3 ⟨y0, fpy0, rfl, ho, hf, hg⟩
  have Oy0 := Lib.hid ho; have Ry0 := Lib.hid ho.rd; have Fy0 := Lib.hid (hf.older hG); have Yy0 := Lib.hid ho.here
  have G3_w := Lib.hid (G2_w.out.trans (hG.trans hg))
  clear hG hg ho hf
  go_wp2_with fail
  refine at_call (w := w3) ?G (fun hG => (to_A _ _ _ (H1.out.grow (G3_w.out.trans hG)) sm1.out).mono ?_)
  case G => ((repeat (first | with_reducible exact Grow.refl _ | (with_reducible refine Grow.alloc_ ?_ _) | (with_reducible refine Grow.setCell_ ?_ (by first | exact Nat.le_refl _ | (simp only [World.alloc, Array.size_push]; omega) | omega) _))))
  rintro e w4 ⟨y1, fpy1, rfl, ho, hf, hg⟩
  have Oy1 := Lib.hid ho; have Ry1 := Lib.hid ho.rd; have Fy1 := Lib.hid (hf.older hG); have Yy1 := Lib.hid ho.here
  have G4_w := Lib.hid (G3_w.out.trans (hG.trans hg))
  have G4_w3 := Lib.hid (hG.trans hg)
  clear hG hg ho hf
  go_wp2_with fail
  refine at_call (w := w4) ?G (fun hG => (KS.out _ _ (Ry0.out.grow (G4_w3.out.trans hG)) _ (Ry1.out.grow hG)).mono ?_)
  case G => ((repeat (first | with_reducible exact Grow.refl _ | (with_reducible refine Grow.alloc_ ?_ _) | (with_reducible refine Grow.setCell_ ?_ (by first | exact Nat.le_refl _ | (simp only [World.alloc, Array.size_push]; omega) | omega) _))))
  rintro e w5 ⟨rfl, hg⟩
  have G5_w := Lib.hid (G4_w.out.trans (hG.trans hg))
  have G5_w3 := Lib.hid (G4_w3.out.trans (hG.trans hg))
  have G5_w4 := Lib.hid (hG.trans hg)
  clear hG hg 
  go_wp2_with fail
  refine at_call (w := w5) ?G (fun hG => (to_A _ _ _ (H0.out.grow (G5_w.out.trans hG)) sm0.out).mono ?_)
  case G => ((repeat (first | with_reducible exact Grow.refl _ | (with_reducible refine Grow.alloc_ ?_ _) | (with_reducible refine Grow.setCell_ ?_ (by first | exact Nat.le_refl _ | (simp only [World.alloc, Array.size_push]; omega) | omega) _))))
  rintro e w6 ⟨x0, fpx0, rfl, ho, hf, hg⟩
  have Ox0 := Lib.hid ho; have Rx0 := Lib.hid ho.rd; have Fx0 := Lib.hid (hf.older hG); have Yx0 := Lib.hid ho.here
  have G6_w := Lib.hid (G5_w.out.trans (hG.trans hg))
  clear hG hg ho hf
  go_wp2_with fail
  refine at_call (w := w6) ?G (fun hG => (to_A _ _ _ (H1.out.grow (G6_w.out.trans hG)) sm1.out).mono ?_)
  case G => ((repeat (first | with_reducible exact Grow.refl _ | (with_reducible refine Grow.alloc_ ?_ _) | (with_reducible refine Grow.setCell_ ?_ (by first | exact Nat.le_refl _ | (simp only [World.alloc, Array.size_push]; omega) | omega) _))))
  rintro e w7 ⟨x1, fpx1, rfl, ho, hf, hg⟩
  have Ox1 := Lib.hid ho; have Rx1 := Lib.hid ho.rd; have Fx1 := Lib.hid (hf.older hG); have Yx1 := Lib.hid ho.here
  have G7_w := Lib.hid (G6_w.out.trans (hG.trans hg))
  have G7_w6 := Lib.hid (hG.trans hg)
  clear hG hg ho hf
  go_wp2_with fail
  refine at_call (w := w7) ?G (fun hG => (KI.out _ _ (Rx0.out.grow (G7_w6.out.trans hG)) _ (Rx1.out.grow hG)).mono ?_)
  case G => ((repeat (first | with_reducible exact Grow.refl _ | (with_reducible refine Grow.alloc_ ?_ _) | (with_reducible refine Grow.setCell_ ?_ (by first | exact Nat.le_refl _ | (simp only [World.alloc, Array.size_push]; omega) | omega) _))))
  rintro e w8 ⟨rfl, hg⟩
  have G8_w := Lib.hid (G7_w.out.trans (hG.trans hg))
  have G8_w6 := Lib.hid (G7_w6.out.trans (hG.trans hg))
  have G8_w7 := Lib.hid (hG.trans hg)
  clear hG hg 
  go_wp2_with fail
  refine at_call (w := w8) ?G (fun hG => (to_A _ _ _ (H0.out.grow (G8_w.out.trans hG)) sm0.out).mono ?_)
  case G => ((repeat (first | with_reducible exact Grow.refl _ | (with_reducible refine Grow.alloc_ ?_ _) | (with_reducible refine Grow.setCell_ ?_ (by first | exact Nat.le_refl _ | (simp only [World.alloc, Array.size_push]; omega) | omega) _))))
  rintro e w9 ⟨t0, fpt0, rfl, ho, hf, hg⟩
  have Ot0 := Lib.hid ho; have Rt0 := Lib.hid ho.rd; have Ft0 := Lib.hid (hf.older hG); have Yt0 := Lib.hid ho.here
  have G9_w := Lib.hid (G8_w.out.trans (hG.trans hg))
  have G9_w6 := Lib.hid (G8_w6.out.trans (hG.trans hg))
  have G9_w7 := Lib.hid (G8_w7.out.trans (hG.trans hg))
  clear hG hg ho hf
  go_wp2_with fail
  refine at_call (w := w9) ?G (fun hG => (eq_A _ _ _ _ _ (Rx0.out.grow (G9_w6.out.trans hG)) (Rt0.out.grow hG)).mono ?_)
  case G => ((repeat (first | with_reducible exact Grow.refl _ | (with_reducible refine Grow.alloc_ ?_ _) | (with_reducible refine Grow.setCell_ ?_ (by first | exact Nat.le_refl _ | (simp only [World.alloc, Array.size_push]; omega) | omega) _))))
  rintro e w10 ⟨rfl, hg⟩
  have G10_w := Lib.hid (G9_w.out.trans (hG.trans hg))
  have G10_w6 := Lib.hid (G9_w6.out.trans (hG.trans hg))
  have G10_w7 := Lib.hid (G9_w7.out.trans (hG.trans hg))
  have G10_w9 := Lib.hid (hG.trans hg)
  clear hG hg 
  go_wp2_with fail
  refine at_call (w := w10) ?G (fun hG => (to_A _ _ _ (H1.out.grow (G10_w.out.trans hG)) sm1.out).mono ?_)
  case G => ((repeat (first | with_reducible exact Grow.refl _ | (with_reducible refine Grow.alloc_ ?_ _) | (with_reducible refine Grow.setCell_ ?_ (by first | exact Nat.le_refl _ | (simp only [World.alloc, Array.size_push]; omega) | omega) _))))
  rintro e w11 ⟨t1, fpt1, rfl, ho, hf, hg⟩
  have Ot1 := Lib.hid ho; have Rt1 := Lib.hid ho.rd; have Ft1 := Lib.hid (hf.older hG); have Yt1 := Lib.hid ho.here
  have G11_w := Lib.hid (G10_w.out.trans (hG.trans hg))
  have G11_w6 := Lib.hid (G10_w6.out.trans (hG.trans hg))
  have G11_w7 := Lib.hid (G10_w7.out.trans (hG.trans hg))
  clear hG hg ho hf
  go_wp2_with fail
  refine at_call (w := w11) ?G (fun hG => (eq_A _ _ _ _ _ (Rx1.out.grow (G11_w7.out.trans hG)) (Rt1.out.grow hG)).mono ?_)
  case G => ((repeat (first | with_reducible exact Grow.refl _ | (with_reducible refine Grow.alloc_ ?_ _) | (with_reducible refine Grow.setCell_ ?_ (by first | exact Nat.le_refl _ | (simp only [World.alloc, Array.size_push]; omega) | omega) _))))
  rintro e w12 ⟨rfl, hg⟩
  have G12_w := Lib.hid (G11_w.out.trans (hG.trans hg))
  have G12_w6 := Lib.hid (G11_w6.out.trans (hG.trans hg))
  have G12_w7 := Lib.hid (G11_w7.out.trans (hG.trans hg))
  have G12_w11 := Lib.hid (hG.trans hg)
  clear hG hg 
  go_wp2
  go_ret
  exact ⟨rfl, G12_w.out⟩
--%
end Go.Proofs.Ytgigdpdmdldhnaa
