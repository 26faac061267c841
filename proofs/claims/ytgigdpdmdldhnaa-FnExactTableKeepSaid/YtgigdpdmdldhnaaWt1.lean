/- walk of the law on tables -/
import Derived.Test.YtgigdpdmdldhnaaOpnT
import Derived.Test.YtgigdpdmdldhnaaToks
import Derived.WalkKit
import Derived.ProofKit
import Derived.OpenShut
import Derived.ShutString
import Derived.ChangeOld
import Derived.Below
import Derived.SizedLaws
import Derived.WalkSpells
import Derived.Deep.QuietTactic
import Derived.BigQuiet
import Derived.Outline
namespace Go.Proofs.Ytgigdpdmdldhnaa
open Go.ChangeShapes Go.WideShapes Go.ChangeAt Go.RowKit
open Go.ChangeMaps (open_string shut_string)
set_option linter.unusedVariables false
set_option linter.unusedSimpArgs false
--%
theorem RdT.shape {w : World} {V : Value} {d : TableD} (h : RdT w V d) : ∃ a c, V = .agg #[.int .i64 d.cap, .slice a d.es.length c] := by
  obtain ⟨v0, rfl, a, c, rfl, -⟩ := h
  exact ⟨a, c, rfl⟩
--% tableOkS
theorem tableOkS_C (w : World) (v : Value) (d : DatT) (h : RdT w v d) (b : WfT d) (sm : SmT d) : Calls Try.prog 53 #[v] w (RetV (.bool (tbB d)) w) := tableOkS_any w v d h b
--% tableOkI
theorem tableOkI_C (w : World) (v : Value) (d : DatT) (h : RdT w v d) (b : WfT d) (sm : SmT d) : Calls Try.prog 55 #[v] w (RetV (.bool (tbB d)) w) := tableOkI_any w v d h b
--% walk TableOk
theorem walk_FnExactTableOk (w : World) (v0 : Value) (d0 : DatT) (h0 : RdT w v0 d0) (b0 : WfT d0) :
    Calls Try.prog 11 #[v0] w (RetV (.bool true) w) := by
  obtain ⟨sa0v0, sc0v0, rfl⟩ := h0.shape
  have H0 := Lib.hid h0
  have B0 := Lib.hid b0
  clear h0 b0
  have hp0 : 0 ≤ sizeT d0 := by have := sumE_nn d0.es; unfold sizeT sizeES; omega
  by_cases hz0 : 1048576 < sizeT d0
  · skip
    have HZ0 := Lib.hid (leftOf_no hz0)
    go_enter Try.func11, Try.ntmps11
    go_wp2_with fail
    refine at_call (w := w) ?G (fun hG => (sz_T _ _ _ _ (H0.out.grow hG) (by omega)).mono ?_)
    case G => ((repeat (first | with_reducible exact Grow.refl _ | (with_reducible refine Grow.alloc_ ?_ _) | (with_reducible refine Grow.setCell_ ?_ (by first | exact Nat.le_refl _ | (simp only [World.alloc, Array.size_push]; omega) | omega) _))))
    rintro e w1 ⟨rfl, hg⟩
    rw [HZ0.out]
    have G1_w := Lib.hid (hG.trans hg)
    have Ba0 := Lib.hid (((Box.alloc _ _ _).grow hg))
    clear hG hg 
    go_wp2
    go_ret
    exact ⟨rfl, G1_w.out⟩
  have HZ0 := Lib.hid (leftOf_yes hz0)
  have sm0 : Hid (SmT d0) := Lib.hid (by unfold SmT; omega)
  have KS := Lib.hid (fun (w : World) (v0 : Value) (h0 : RdT w v0 d0) => tableOkS_C w v0 d0 h0 B0.out sm0.out)
  have KI := Lib.hid (fun (w : World) (v0 : Value) (h0 : RdT w v0 d0) => tableOkI_C w v0 d0 h0 B0.out sm0.out)
  generalize tbB d0 = R at *
  go_enter Try.func11, Try.ntmps11
  go_wp2_with fail
  refine at_call (w := w) ?G (fun hG => (sz_T _ _ _ _ (H0.out.grow hG) (by omega)).mono ?_)
  case G => ((repeat (first | with_reducible exact Grow.refl _ | (with_reducible refine Grow.alloc_ ?_ _) | (with_reducible refine Grow.setCell_ ?_ (by first | exact Nat.le_refl _ | (simp only [World.alloc, Array.size_push]; omega) | omega) _))))
  rintro e w1 ⟨rfl, hg⟩
  rw [HZ0.out]
  have G1_w := Lib.hid (hG.trans hg)
  have Ba0 := Lib.hid (((Box.alloc _ _ _).grow hg))
  clear hG hg 
  have ⟨q0a0, q1a0⟩ := Ba0.out.two
  have la0 := Ba0.out.1
  go_wp2_with fail
  refine at_call (w := w1) ?G (fun hG => (to_T _ _ _ (H0.out.grow (G1_w.out.trans hG)) sm0.out).mono ?_)
  case G => ((repeat (first | with_reducible exact Grow.refl _ | (with_reducible refine Grow.alloc_ ?_ _) | (with_reducible refine Grow.setCell_ ?_ (by first | exact Nat.le_refl _ | (simp only [World.alloc, Array.size_push]; omega) | omega) _))))
  rintro e w2 ⟨y0, fpy0, rfl, ho, hf, hg⟩
  clear q0a0 q1a0 la0
  obtain ⟨sa0y0, sc0y0, rfl⟩ := ho.rd.shape
  have Oy0 := Lib.hid ho; have Ry0 := Lib.hid ho.rd; have Fy0 := Lib.hid (hf.older hG); have Yy0 := Lib.hid ho.here
  have G2_w := Lib.hid (G1_w.out.trans (hG.trans hg))
  have Ba0 := Lib.hid (Ba0.out.grow (hG.trans hg))
  clear hG hg ho hf
  go_wp2_with fail
  refine at_call (w := w2) ?G (fun hG => (KS.out _ _ (Ry0.out.grow hG)).mono ?_)
  case G => ((repeat (first | with_reducible exact Grow.refl _ | (with_reducible refine Grow.alloc_ ?_ _) | (with_reducible refine Grow.setCell_ ?_ (by first | exact Nat.le_refl _ | (simp only [World.alloc, Array.size_push]; omega) | omega) _))))
  rintro e w3 ⟨rfl, hg⟩
  have G3_w := Lib.hid (G2_w.out.trans (hG.trans hg))
  have G3_w2 := Lib.hid (hG.trans hg)
  have Ba0 := Lib.hid (Ba0.out.grow (hG.trans hg))
  clear hG hg 
  have ⟨q0a0, q1a0⟩ := Ba0.out.two
  have la0 := Ba0.out.1
  go_wp2_with fail
  refine at_call (w := w3) ?G (fun hG => (to_T _ _ _ (H0.out.grow (G3_w.out.trans hG)) sm0.out).mono ?_)
  case G => ((repeat (first | with_reducible exact Grow.refl _ | (with_reducible refine Grow.alloc_ ?_ _) | (with_reducible refine Grow.setCell_ ?_ (by first | exact Nat.le_refl _ | (simp only [World.alloc, Array.size_push]; omega) | omega) _))))
  rintro e w4 ⟨x0, fpx0, rfl, ho, hf, hg⟩
  clear q0a0 q1a0 la0
  obtain ⟨sa0x0, sc0x0, rfl⟩ := ho.rd.shape
  have Ox0 := Lib.hid ho; have Rx0 := Lib.hid ho.rd; have Fx0 := Lib.hid (hf.older hG); have Yx0 := Lib.hid ho.here
  have G4_w := Lib.hid (G3_w.out.trans (hG.trans hg))
  have Ba0 := Lib.hid (Ba0.out.grow (hG.trans hg))
  clear hG hg ho hf
  go_wp2_with fail
  refine at_call (w := w4) ?G (fun hG => (KI.out _ _ (Rx0.out.grow hG)).mono ?_)
  case G => ((repeat (first | with_reducible exact Grow.refl _ | (with_reducible refine Grow.alloc_ ?_ _) | (with_reducible refine Grow.setCell_ ?_ (by first | exact Nat.le_refl _ | (simp only [World.alloc, Array.size_push]; omega) | omega) _))))
  rintro e w5 ⟨rfl, hg⟩
  have G5_w := Lib.hid (G4_w.out.trans (hG.trans hg))
  have G5_w4 := Lib.hid (hG.trans hg)
  have Ba0 := Lib.hid (Ba0.out.grow (hG.trans hg))
  have Bx0 := Lib.hid (((Box.alloc _ _ _).grow hg))
  clear hG hg 
  go_wp2_with fail
  have hne : Nonempty (Cl (Grow w5)) := ⟨⟨w5, Grow.refl _⟩⟩
  have ⟨p0a0, p1a0⟩ := Ba0.out.two_
  have ⟨p0x0, p1x0⟩ := Bx0.out.two_
  refine wp_region_mix (Cls (Grow w5)) 5 #[false, false, false, false, false] (by kernel_rfl) (by kernel_rfl) ⟨⟨_, Grow.drewN _ 1⟩, rfl⟩ ?_
  refine anyC_seg [0, 1] #[true, true, false, false, false] (fuel := 3) rfl (by kernel_rfl) ⟨⟨_, Grow.drewN _ 1⟩, rfl⟩ ?_
  simp only [pickOps, List.getD_cons_succ, List.getD_cons_zero]
  repeat (go_big_quiet_step (fail))
  refine wpQuiet_nil ?_
  refine anyC_sole 2 #[true, true, true, false, false] (fuel := 2) (by kernel_rfl) ?_
  simp only [List.getD_cons_succ, List.getD_cons_zero]
  go_wp2_with fail
  refine (to_T _ _ _ (H0.out.grow (G5_w.out.trans (Grow.drewN _ 1))) sm0.out).mono ?_
  rintro e w6 ⟨t0, fpt0, rfl, ht, ft, hg⟩
  have Rt0 := Lib.hid ht.rd; have Dw6 := Lib.hid ((Grow.drewN _ 1).trans hg); clear hg ht ft
  go_wp2
  refine ⟨⟨⟨_, Dw6.out⟩, rfl⟩, ?_⟩
  refine anyC_sole 3 #[true, true, true, true, false] (fuel := 1) (by kernel_rfl) ?_
  simp only [List.getD_cons_succ, List.getD_cons_zero]
  go_wp2_with fail
  refine (eq_T _ _ _ _ _ (Rx0.out.grow (G5_w4.out.trans Dw6.out)) Rt0.out).mono ?_
  rintro e w7 ⟨rfl, hg⟩
  have Dw7 := Lib.hid (Dw6.out.trans hg); clear hg
  go_wp2
  refine ⟨⟨⟨_, Dw7.out⟩, rfl⟩, ?_⟩
  refine anyC_seg [4] #[true, true, true, true, true] (fuel := 0) rfl (by kernel_rfl) ⟨⟨_, Dw7.out⟩, rfl⟩ ?_
  simp only [pickOps, List.getD_cons_succ, List.getD_cons_zero]
  repeat (go_big_quiet_step (fail))
  refine wpQuiet_nil ?_
  refine anyC_done (by kernel_rfl) ?_
  clear hne p0a0 p1a0 p0x0 p1x0
  have hG := Grow.refl w5; have hg := Dw7.out
  have G7_w := Lib.hid (G5_w.out.trans (hG.trans hg))
  have G7_w4 := Lib.hid (G5_w4.out.trans (hG.trans hg))
  have Ba0 := Lib.hid (Ba0.out.grow (hG.trans hg))
  have Bx0 := Lib.hid (Bx0.out.grow (hG.trans hg))
  clear hG hg
  go_wp2
  go_ret
  exact ⟨rfl, G7_w.out⟩
--%
end Go.Proofs.Ytgigdpdmdldhnaa
