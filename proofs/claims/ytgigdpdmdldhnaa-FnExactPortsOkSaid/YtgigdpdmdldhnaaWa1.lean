/- walk of the law on ports -/
import Derived.Test.YtgigdpdmdldhnaaOpn
import Derived.Test.YtgigdpdmdldhnaaPt
import Derived.WalkKit
import Derived.ProofKit
import Derived.OpenShut
import Derived.ShutString
import Derived.ChangeOld
import Derived.Below
import Derived.SizedLaws
import Derived.WalkSpells
import Derived.Deep.QuietTactic
import Derived.BigQuiet
import Derived.Outline
namespace Go.Proofs.Ytgigdpdmdldhnaa
open Go.ChangeShapes Go.WideShapes Go.ChangeAt Go.RowKit
open Go.ChangeMaps (open_string shut_string)
set_option linter.unusedVariables false
set_option linter.unusedSimpArgs false
--% portsOkS
theorem portsOkS_C (w : World) (v : Value) (d : DatN) (h : RdN w v d) (b : WfN d) (sm : SmN d) : Calls Try.prog 17 #[v] w (RetV (.bool (ptOk d)) w) := portsOkS_any w v d h
--% portsOkI
theorem portsOkI_C (w : World) (v : Value) (d : DatN) (h : RdN w v d) (b : WfN d) (sm : SmN d) : Calls Try.prog 19 #[v] w (RetV (.bool (ptOk d)) w) := portsOkI_any w v d h
--% walk PortsOk
theorem walk_FnExactPortsOk (w : World) (v0 : Value) (d0 : DatN) (h0 : RdN w v0 d0) (b0 : WfN d0) :
    Calls Try.prog 3 #[v0] w (RetV (.bool true) w) := by
  have H0 := Lib.hid h0
  have B0 := Lib.hid b0
  obtain ⟨a0, c0, rfl, hlc0, hm0, hn0', hc0'⟩ := Rd.ints h0
  clear hn0' hc0'
  unfold maxLen at hm0
  clear h0 b0
  by_cases hl0 : 1048576 < d0.length
  · skip
    go_enter Try.func3, Try.ntmps3
    go_wp2
    go_ret
    exact ⟨rfl, Grow.refl _⟩
  have sm0 : Hid (SmN d0) := Lib.hid (by unfold SmN; omega)
  have KS := Lib.hid (fun (w : World) (v0 : Value) (h0 : RdN w v0 d0) => portsOkS_C w v0 d0 h0 B0.out sm0.out)
  have KI := Lib.hid (fun (w : World) (v0 : Value) (h0 : RdN w v0 d0) => portsOkI_C w v0 d0 h0 B0.out sm0.out)
  generalize ptOk d0 = R at *
  go_enter Try.func3, Try.ntmps3
  go_wp2_with fail
  refine at_call (w := w) ?G (fun hG => (to_N _ _ _ (H0.out.grow hG) sm0.out).mono ?_)
  case G => ((repeat (first | with_reducible exact Grow.refl _ | (with_reducible refine Grow.alloc_ ?_ _) | (with_reducible refine Grow.setCell_ ?_ (by first | exact Nat.le_refl _ | (simp only [World.alloc, Array.size_push]; omega) | omega) _))))
  rintro e w1 ⟨y0, fpy0, rfl, ho, hf, hg⟩
  have Oy0 := Lib.hid ho; have Ry0 := Lib.hid ho.rd; have Fy0 := Lib.hid (hf.older hG); have Yy0 := Lib.hid ho.here
  have G1_w := Lib.hid (hG.trans hg)
  clear hG hg ho hf
  go_wp2_with fail
  refine at_call (w := w1) ?G (fun hG => (KS.out _ _ (Ry0.out.grow hG)).mono ?_)
  case G => ((repeat (first | with_reducible exact Grow.refl _ | (with_reducible refine Grow.alloc_ ?_ _) | (with_reducible refine Grow.setCell_ ?_ (by first | exact Nat.le_refl _ | (simp only [World.alloc, Array.size_push]; omega) | omega) _))))
  rintro e w2 ⟨rfl, hg⟩
  have G2_w := Lib.hid (G1_w.out.trans (hG.trans hg))
  have G2_w1 := Lib.hid (hG.trans hg)
  clear hG hg 
  go_wp2_with fail
  refine at_call (w := w2) ?G (fun hG => (to_N _ _ _ (H0.out.grow (G2_w.out.trans hG)) sm0.out).mono ?_)
  case G => ((repeat (first | with_reducible exact Grow.refl _ | (with_reducible refine Grow.alloc_ ?_ _) | (with_reducible refine Grow.setCell_ ?_ (by first | exact Nat.le_refl _ | (simp only [World.alloc, Array.size_push]; omega) | omega) _))))
  rintro e w3 ⟨x0, fpx0, rfl, ho, hf, hg⟩
  have Ox0 := Lib.hid ho; have Rx0 := Lib.hid ho.rd; have Fx0 := Lib.hid (hf.older hG); have Yx0 := Lib.hid ho.here
  have G3_w := Lib.hid (G2_w.out.trans (hG.trans hg))
  clear hG hg ho hf
  go_wp2_with fail
  refine at_call (w := w3) ?G (fun hG => (KI.out _ _ (Rx0.out.grow hG)).mono ?_)
  case G => ((repeat (first | with_reducible exact Grow.refl _ | (with_reducible refine Grow.alloc_ ?_ _) | (with_reducible refine Grow.setCell_ ?_ (by first | exact Nat.le_refl _ | (simp only [World.alloc, Array.size_push]; omega) | omega) _))))
  rintro e w4 ⟨rfl, hg⟩
  have G4_w := Lib.hid (G3_w.out.trans (hG.trans hg))
  have G4_w3 := Lib.hid (hG.trans hg)
  clear hG hg 
  go_wp2_with fail
  refine at_call (w := w4) ?G (fun hG => (to_N _ _ _ (H0.out.grow (G4_w.out.trans hG)) sm0.out).mono ?_)
  case G => ((repeat (first | with_reducible exact Grow.refl _ | (with_reducible refine Grow.alloc_ ?_ _) | (with_reducible refine Grow.setCell_ ?_ (by first | exact Nat.le_refl _ | (simp only [World.alloc, Array.size_push]; omega) | omega) _))))
  rintro e w5 ⟨t0, fpt0, rfl, ho, hf, hg⟩
  have Ot0 := Lib.hid ho; have Rt0 := Lib.hid ho.rd; have Ft0 := Lib.hid (hf.older hG); have Yt0 := Lib.hid ho.here
  have G5_w := Lib.hid (G4_w.out.trans (hG.trans hg))
  have G5_w3 := Lib.hid (G4_w3.out.trans (hG.trans hg))
  clear hG hg ho hf
  go_wp2_with fail
  refine at_call (w := w5) ?G (fun hG => (eq_N _ _ _ _ _ (Rx0.out.grow (G5_w3.out.trans hG)) (Rt0.out.grow hG)).mono ?_)
  case G => ((repeat (first | with_reducible exact Grow.refl _ | (with_reducible refine Grow.alloc_ ?_ _) | (with_reducible refine Grow.setCell_ ?_ (by first | exact Nat.le_refl _ | (simp only [World.alloc, Array.size_push]; omega) | omega) _))))
  rintro e w6 ⟨rfl, hg⟩
  have G6_w := Lib.hid (G5_w.out.trans (hG.trans hg))
  have G6_w3 := Lib.hid (G5_w3.out.trans (hG.trans hg))
  have G6_w5 := Lib.hid (hG.trans hg)
  clear hG hg 
  go_wp2
  go_ret
  exact ⟨rfl, G6_w.out⟩
--%
end Go.Proofs.Ytgigdpdmdldhnaa
