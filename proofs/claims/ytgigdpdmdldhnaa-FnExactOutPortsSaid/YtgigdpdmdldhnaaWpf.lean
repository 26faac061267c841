/- Perform: the walk of the law, out of the contracts -/
import Derived.Test.YtgigdpdmdldhnaaPf
import Derived.Test.YtgigdpdmdldhnaaPfs
import Derived.Test.YtgigdpdmdldhnaaSn2
import Derived.Test.YtgigdpdmdldhnaaOpnA
import Derived.Test.YtgigdpdmdldhnaaTab3
import Derived.WalkKit
import Derived.ProofKit
import Derived.OpenShut
import Derived.ShutString
import Derived.ChangeOld
import Derived.Below
import Derived.SizedLaws
import Derived.WalkSpells
import Derived.Deep.QuietTactic
import Derived.BigQuiet
import Derived.Outline
namespace Go.Proofs.Ytgigdpdmdldhnaa
open Go.ChangeShapes Go.WideShapes Go.ChangeAt Go.RowKit
open Go.ChangeMaps (open_string shut_string)
set_option linter.unusedVariables false
set_option linter.unusedSimpArgs false
--%
theorem cntA_bd (d : DatA) (h : SmA d) : 0 ≤ cntA d ∧ cntA d ≤ 3145728 := by unfold SmA sizeA at h; unfold cntA; omega
--% performSC
theorem performS_C (w : World) (v : Value) (d : DatH) (h : RdH w v d) (b : WfH d) (v2 : Value) (d2 : DatN) (h2 : RdN w v2 d2) (b2 : WfN d2) (v3 : Value) (d3 : DatA) (h3 : RdA w v3 d3) (b3 : WfA d3) (sm : SmH d) (sm2 : SmN d2) (sm3 : SmA d3) : Calls Try.prog 31 #[v, v2, v3] w (RetNew2 OwnS (pfF d.vs d2 d3) (.bool (pfB d.vs d2 d3)) w) := performS_any w v v2 v3 d d2 d3 h h2 h3
--% performIC
theorem performI_C (w : World) (v : Value) (d : DatH) (h : RdH w v d) (b : WfH d) (v2 : Value) (d2 : DatN) (h2 : RdN w v2 d2) (b2 : WfN d2) (v3 : Value) (d3 : DatA) (h3 : RdA w v3 d3) (b3 : WfA d3) (sm : SmH d) (sm2 : SmN d2) (sm3 : SmA d3) : Calls Try.prog 33 #[v, v2, v3] w (RetNew2 OwnS (pfF d.vs d2 d3) (.bool (pfB d.vs d2 d3)) w) := performI_any w v v2 v3 d d2 d3 h h2 h3
--% walk Perform
theorem walk_FnExactPerform (w : World) (v0 : Value) (d0 : DatH) (h0 : RdH w v0 d0) (b0 : WfH d0) (v1 : Value) (d1 : DatN) (h1 : RdN w v1 d1) (b1 : WfN d1) (v2 : Value) (d2 : DatA) (h2 : RdA w v2 d2) (b2 : WfA d2) :
    Calls Try.prog 7 #[v0, v1, v2] w (RetV (.bool true) w) := by
  obtain ⟨sa0v0, sc0v0, rfl⟩ := h0.shape
  have H0 := Lib.hid h0
  have B0 := Lib.hid b0
  clear h0 b0
  have H1 := Lib.hid h1
  have B1 := Lib.hid b1
  obtain ⟨a1, c1, rfl, hlc1, hm1, hn1', hc1'⟩ := Rd.ints h1
  clear hn1' hc1'
  unfold maxLen at hm1
  clear h1 b1
  have H2 := Lib.hid h2
  have B2 := Lib.hid b2
  clear h2 b2
  by_cases hl1 : 1048576 < d1.length
  · skip
    go_enter Try.func7, Try.ntmps7
    go_wp2
    go_ret
    exact ⟨rfl, by ((repeat (first | with_reducible exact Grow.refl _ | (with_reducible refine Grow.alloc_ ?_ _) | (with_reducible refine Grow.setCell_ ?_ (by first | exact Nat.le_refl _ | (simp only [World.alloc, Array.size_push]; omega) | omega) _))))⟩
  have sm1 : Hid (SmN d1) := Lib.hid (by unfold SmN; omega)
  have hp0 : 0 ≤ sizeH d0 := by unfold sizeH; omega
  have hp2 : 0 ≤ sizeA d2 := by unfold sizeA; omega
  by_cases hz0 : 1048576 < sizeH d0
  · skip
    have HZ0 := Lib.hid (leftOf_no hz0)
    go_enter Try.func7, Try.ntmps7
    go_wp2_with fail
    refine at_call (w := w) ?G (fun hG => (sz_H _ _ _ _ (H0.out.grow hG) (by omega)).mono ?_)
    case G => ((repeat (first | with_reducible exact Grow.refl _ | (with_reducible refine Grow.alloc_ ?_ _) | (with_reducible refine Grow.setCell_ ?_ (by first | exact Nat.le_refl _ | (simp only [World.alloc, Array.size_push]; omega) | omega) _))))
    rintro e w1 ⟨rfl, hg⟩
    rw [HZ0.out]
    have G1_w := Lib.hid (hG.trans hg)
    have Ba0 := Lib.hid (((Box.alloc _ _ _).grow hg))
    clear hG hg 
    go_wp2
    go_ret
    exact ⟨rfl, G1_w.out⟩
  have HZ0 := Lib.hid (leftOf_yes hz0)
  by_cases hz2 : 1048576 - sizeH d0 < sizeA d2
  · skip
    have HZ2 := Lib.hid (leftOf_no hz2)
    go_enter Try.func7, Try.ntmps7
    go_wp2_with fail
    refine at_call (w := w) ?G (fun hG => (sz_H _ _ _ _ (H0.out.grow hG) (by omega)).mono ?_)
    case G => ((repeat (first | with_reducible exact Grow.refl _ | (with_reducible refine Grow.alloc_ ?_ _) | (with_reducible refine Grow.setCell_ ?_ (by first | exact Nat.le_refl _ | (simp only [World.alloc, Array.size_push]; omega) | omega) _))))
    rintro e w1 ⟨rfl, hg⟩
    rw [HZ0.out]
    have G1_w := Lib.hid (hG.trans hg)
    have Ba0 := Lib.hid (((Box.alloc _ _ _).grow hg))
    clear hG hg 
    go_wp2_with fail
    refine at_call (w := w1) ?G (fun hG => (sz_A _ _ _ _ (H2.out.grow (G1_w.out.trans hG)) (by omega)).mono ?_)
    case G => ((repeat (first | with_reducible exact Grow.refl _ | (with_reducible refine Grow.alloc_ ?_ _) | (with_reducible refine Grow.setCell_ ?_ (by first | exact Nat.le_refl _ | (simp only [World.alloc, Array.size_push]; omega) | omega) _))))
    rintro e w2 ⟨rfl, hg⟩
    rw [HZ2.out]
    have G2_w := Lib.hid (G1_w.out.trans (hG.trans hg))
    have Ba0 := Lib.hid (Ba0.out.grow (hG.trans hg))
    clear hG hg 
    go_wp2
    go_ret
    exact ⟨rfl, G2_w.out⟩
  have HZ2 := Lib.hid (leftOf_yes hz2)
  have sm0 : Hid (SmH d0) := Lib.hid (by unfold SmH; omega)
  have sm2 : Hid (SmA d2) := Lib.hid (by unfold SmA; omega)
  have KS := Lib.hid (fun (w : World) (v0 : Value) (h0 : RdH w v0 d0) (v1 : Value) (h1 : RdN w v1 d1) (v2 : Value) (h2 : RdA w v2 d2) => performS_C w v0 d0 h0 B0.out v1 d1 h1 B1.out v2 d2 h2 B2.out sm0.out sm1.out sm2.out)
  have KI := Lib.hid (fun (w : World) (v0 : Value) (h0 : RdH w v0 d0) (v1 : Value) (h1 : RdN w v1 d1) (v2 : Value) (h2 : RdA w v2 d2) => performI_C w v0 d0 h0 B0.out v1 d1 h1 B1.out v2 d2 h2 B2.out sm0.out sm1.out sm2.out)
  have SG := Lib.hid (pfF_sm d0.vs d1 d2)
  generalize pfF d0.vs d1 d2 = D at *
  generalize pfB d0.vs d1 d2 = R at *
  go_enter Try.func7, Try.ntmps7
  go_wp2_with fail
  refine at_call (w := w) ?G (fun hG => (sz_H _ _ _ _ (H0.out.grow hG) (by omega)).mono ?_)
  case G => ((repeat (first | with_reducible exact Grow.refl _ | (with_reducible refine Grow.alloc_ ?_ _) | (with_reducible refine Grow.setCell_ ?_ (by first | exact Nat.le_refl _ | (simp only [World.alloc, Array.size_push]; omega) | omega) _))))
  rintro e w1 ⟨rfl, hg⟩
  rw [HZ0.out]
  have G1_w := Lib.hid (hG.trans hg)
  have Ba0 := Lib.hid (((Box.alloc _ _ _).grow hg))
  clear hG hg 
  go_wp2_with fail
  refine at_call (w := w1) ?G (fun hG => (sz_A _ _ _ _ (H2.out.grow (G1_w.out.trans hG)) (by omega)).mono ?_)
  case G => ((repeat (first | with_reducible exact Grow.refl _ | (with_reducible refine Grow.alloc_ ?_ _) | (with_reducible refine Grow.setCell_ ?_ (by first | exact Nat.le_refl _ | (simp only [World.alloc, Array.size_push]; omega) | omega) _))))
  rintro e w2 ⟨rfl, hg⟩
  rw [HZ2.out]
  have G2_w := Lib.hid (G1_w.out.trans (hG.trans hg))
  have Ba0 := Lib.hid (Ba0.out.grow (hG.trans hg))
  clear hG hg 
  have q0a0 := Ba0.out.one
  have la0 := Ba0.out.1
  go_wp2_with fail
  refine at_call (w := w2) ?G (fun hG => (to_H _ _ _ (H0.out.grow (G2_w.out.trans hG)) sm0.out).mono ?_)
  case G => ((repeat (first | with_reducible exact Grow.refl _ | (with_reducible refine Grow.alloc_ ?_ _) | (with_reducible refine Grow.setCell_ ?_ (by first | exact Nat.le_refl _ | (simp only [World.alloc, Array.size_push]; omega) | omega) _))))
  rintro e w3 ⟨y0, fpy0, rfl, ho, hf, hg⟩
  clear q0a0 la0
  obtain ⟨sa0y0, sc0y0, rfl⟩ := ho.rd.shape
  have Oy0 := Lib.hid ho; have Ry0 := Lib.hid ho.rd; have Fy0 := Lib.hid (hf.older hG); have Yy0 := Lib.hid ho.here
  have G3_w := Lib.hid (G2_w.out.trans (hG.trans hg))
  have Ba0 := Lib.hid (Ba0.out.grow (hG.trans hg))
  clear hG hg ho hf
  go_wp2_with fail
  refine at_call (w := w3) ?G (fun hG => (to_N _ _ _ (H1.out.grow (G3_w.out.trans hG)) sm1.out).mono ?_)
  case G => ((repeat (first | with_reducible exact Grow.refl _ | (with_reducible refine Grow.alloc_ ?_ _) | (with_reducible refine Grow.setCell_ ?_ (by first | exact Nat.le_refl _ | (simp only [World.alloc, Array.size_push]; omega) | omega) _))))
  rintro e w4 ⟨y1, fpy1, rfl, ho, hf, hg⟩
  have Oy1 := Lib.hid ho; have Ry1 := Lib.hid ho.rd; have Fy1 := Lib.hid (hf.older hG); have Yy1 := Lib.hid ho.here
  have G4_w := Lib.hid (G3_w.out.trans (hG.trans hg))
  have G4_w3 := Lib.hid (hG.trans hg)
  have Ba0 := Lib.hid (Ba0.out.grow (hG.trans hg))
  clear hG hg ho hf
  go_wp2_with fail
  refine at_call (w := w4) ?G (fun hG => (to_A _ _ _ (H2.out.grow (G4_w.out.trans hG)) sm2.out).mono ?_)
  case G => ((repeat (first | with_reducible exact Grow.refl _ | (with_reducible refine Grow.alloc_ ?_ _) | (with_reducible refine Grow.setCell_ ?_ (by first | exact Nat.le_refl _ | (simp only [World.alloc, Array.size_push]; omega) | omega) _))))
  rintro e w5 ⟨y2, fpy2, rfl, ho, hf, hg⟩
  have Oy2 := Lib.hid ho; have Ry2 := Lib.hid ho.rd; have Fy2 := Lib.hid (hf.older hG); have Yy2 := Lib.hid ho.here
  have G5_w := Lib.hid (G4_w.out.trans (hG.trans hg))
  have G5_w3 := Lib.hid (G4_w3.out.trans (hG.trans hg))
  have G5_w4 := Lib.hid (hG.trans hg)
  have Ba0 := Lib.hid (Ba0.out.grow (hG.trans hg))
  clear hG hg ho hf
  go_wp2_with fail
  refine at_call (w := w5) ?G (fun hG => (KS.out _ _ (Ry0.out.grow (G5_w3.out.trans hG)) _ (Ry1.out.grow (G5_w4.out.trans hG)) _ (Ry2.out.grow hG)).mono ?_)
  case G => ((repeat (first | with_reducible exact Grow.refl _ | (with_reducible refine Grow.alloc_ ?_ _) | (with_reducible refine Grow.setCell_ ?_ (by first | exact Nat.le_refl _ | (simp only [World.alloc, Array.size_push]; omega) | omega) _))))
  rintro e w6 ⟨z, fpz, rfl, ho, hf, hg⟩
  have Oz := Lib.hid ho; have Rz := Lib.hid ho.rd; have Fz := Lib.hid (hf.older hG); have Yz := Lib.hid ho.here
  have G6_w := Lib.hid (G5_w.out.trans (hG.trans hg))
  have G6_w3 := Lib.hid (G5_w3.out.trans (hG.trans hg))
  have G6_w4 := Lib.hid (G5_w4.out.trans (hG.trans hg))
  have G6_w5 := Lib.hid (hG.trans hg)
  have Ba0 := Lib.hid (Ba0.out.grow (hG.trans hg))
  clear hG hg ho hf
  have q0a0 := Ba0.out.one
  have la0 := Ba0.out.1
  go_wp2_with fail
  refine at_call (w := w6) ?G (fun hG => (to_H _ _ _ (H0.out.grow (G6_w.out.trans hG)) sm0.out).mono ?_)
  case G => ((repeat (first | with_reducible exact Grow.refl _ | (with_reducible refine Grow.alloc_ ?_ _) | (with_reducible refine Grow.setCell_ ?_ (by first | exact Nat.le_refl _ | (simp only [World.alloc, Array.size_push]; omega) | omega) _))))
  rintro e w7 ⟨x0, fpx0, rfl, ho, hf, hg⟩
  clear q0a0 la0
  obtain ⟨sa0x0, sc0x0, rfl⟩ := ho.rd.shape
  have Ox0 := Lib.hid ho; have Rx0 := Lib.hid ho.rd; have Fx0 := Lib.hid (hf.older hG); have Yx0 := Lib.hid ho.here
  have Na0_x0 : Hid (w.heap.size ∉ fpx0) := Lib.hid (fun hm => by have h1 := Fx0.out _ hm; have h2 := Ba0.out.1; omega)
  have G7_w := Lib.hid (G6_w.out.trans (hG.trans hg))
  have G7_w6 := Lib.hid (hG.trans hg)
  have Ba0 := Lib.hid (Ba0.out.grow (hG.trans hg))
  clear hG hg ho hf
  go_wp2_with fail
  refine at_call (w := w7) ?G (fun hG => (to_N _ _ _ (H1.out.grow (G7_w.out.trans hG)) sm1.out).mono ?_)
  case G => ((repeat (first | with_reducible exact Grow.refl _ | (with_reducible refine Grow.alloc_ ?_ _) | (with_reducible refine Grow.setCell_ ?_ (by first | exact Nat.le_refl _ | (simp only [World.alloc, Array.size_push]; omega) | omega) _))))
  rintro e w8 ⟨x1, fpx1, rfl, ho, hf, hg⟩
  have Ox1 := Lib.hid ho; have Rx1 := Lib.hid ho.rd; have Fx1 := Lib.hid (hf.older hG); have Yx1 := Lib.hid ho.here
  have Na0_x1 : Hid (w.heap.size ∉ fpx1) := Lib.hid (fun hm => by have h1 := Fx1.out _ hm; have h2 := Ba0.out.1; omega)
  have Nx0_x1 : Hid (w7.heap.size ∉ fpx1) := Lib.hid (fun hm => by have h1 := hf _ hm; have h2 := hG.size; simp only [World.alloc, Array.size_push] at h1; omega)
  have G8_w := Lib.hid (G7_w.out.trans (hG.trans hg))
  have G8_w6 := Lib.hid (G7_w6.out.trans (hG.trans hg))
  have G8_w7 := Lib.hid (hG.trans hg)
  have Ba0 := Lib.hid (Ba0.out.grow (hG.trans hg))
  have Bx0 := Lib.hid (((Box.alloc _ _ _).grow hg))
  have Nx0_x0 : Hid (w7.heap.size ∉ fpx0) := Lib.hid (fun hm => by have h1 := Yx0.out _ hm; have h2 := Nat.le_refl 0; omega)
  clear hG hg ho hf
  go_wp2_with fail
  refine at_call (w := w8) ?G (fun hG => (to_A _ _ _ (H2.out.grow (G8_w.out.trans hG)) sm2.out).mono ?_)
  case G => ((repeat (first | with_reducible exact Grow.refl _ | (with_reducible refine Grow.alloc_ ?_ _) | (with_reducible refine Grow.setCell_ ?_ (by first | exact Nat.le_refl _ | (simp only [World.alloc, Array.size_push]; omega) | omega) _))))
  rintro e w9 ⟨x2, fpx2, rfl, ho, hf, hg⟩
  have Ox2 := Lib.hid ho; have Rx2 := Lib.hid ho.rd; have Fx2 := Lib.hid (hf.older hG); have Yx2 := Lib.hid ho.here
  have Na0_x2 : Hid (w.heap.size ∉ fpx2) := Lib.hid (fun hm => by have h1 := Fx2.out _ hm; have h2 := Ba0.out.1; omega)
  have Nx0_x2 : Hid (w7.heap.size ∉ fpx2) := Lib.hid (fun hm => by have h1 := Fx2.out _ hm; have h2 := Bx0.out.1; omega)
  have G9_w := Lib.hid (G8_w.out.trans (hG.trans hg))
  have G9_w6 := Lib.hid (G8_w6.out.trans (hG.trans hg))
  have G9_w7 := Lib.hid (G8_w7.out.trans (hG.trans hg))
  have G9_w8 := Lib.hid (hG.trans hg)
  have Ba0 := Lib.hid (Ba0.out.grow (hG.trans hg))
  have Bx0 := Lib.hid (Bx0.out.grow (hG.trans hg))
  clear hG hg ho hf
  have q0x0 := Bx0.out.one
  have lx0 := Bx0.out.1
  go_wp2_with fail
  refine at_call (w := w9) ?G (fun hG => (KI.out _ _ (Rx0.out.grow (G9_w7.out.trans hG)) _ (Rx1.out.grow (G9_w8.out.trans hG)) _ (Rx2.out.grow hG)).mono ?_)
  case G => ((repeat (first | with_reducible exact Grow.refl _ | (with_reducible refine Grow.alloc_ ?_ _) | (with_reducible refine Grow.setCell_ ?_ (by first | exact Nat.le_refl _ | (simp only [World.alloc, Array.size_push]; omega) | omega) _))))
  rintro e w10 ⟨g, fpg, rfl, ho, hf, hg⟩
  clear q0x0 lx0
  have Og := Lib.hid ho; have Rg := Lib.hid ho.rd; have Fg := Lib.hid (hf.older hG); have Yg := Lib.hid ho.here
  have Na0_g : Hid (w.heap.size ∉ fpg) := Lib.hid (fun hm => by have h1 := Fg.out _ hm; have h2 := Ba0.out.1; omega)
  have Nx0_g : Hid (w7.heap.size ∉ fpg) := Lib.hid (fun hm => by have h1 := Fg.out _ hm; have h2 := Bx0.out.1; omega)
  have G10_w := Lib.hid (G9_w.out.trans (hG.trans hg))
  have G10_w6 := Lib.hid (G9_w6.out.trans (hG.trans hg))
  have G10_w7 := Lib.hid (G9_w7.out.trans (hG.trans hg))
  have G10_w8 := Lib.hid (G9_w8.out.trans (hG.trans hg))
  have G10_w9 := Lib.hid (hG.trans hg)
  have Ba0 := Lib.hid (Ba0.out.grow (hG.trans hg))
  have Bx0 := Lib.hid (Bx0.out.grow (hG.trans hg))
  clear hG hg ho hf
  go_wp2_with fail
  refine at_call (w := w10) ?G (fun hG => (eq_S _ _ _ _ _ (Rg.out.grow hG) (Rz.out.grow (G10_w6.out.trans hG))).mono ?_)
  case G => ((repeat (first | with_reducible exact Grow.refl _ | (with_reducible refine Grow.alloc_ ?_ _) | (with_reducible refine Grow.setCell_ ?_ (by first | exact Nat.le_refl _ | (simp only [World.alloc, Array.size_push]; omega) | omega) _))))
  rintro e w11 ⟨rfl, hg⟩
  have G11_w := Lib.hid (G10_w.out.trans (hG.trans hg))
  have G11_w6 := Lib.hid (G10_w6.out.trans (hG.trans hg))
  have G11_w7 := Lib.hid (G10_w7.out.trans (hG.trans hg))
  have G11_w8 := Lib.hid (G10_w8.out.trans (hG.trans hg))
  have G11_w9 := Lib.hid (G10_w9.out.trans (hG.trans hg))
  have G11_w10 := Lib.hid (hG.trans hg)
  have Ba0 := Lib.hid (Ba0.out.grow (hG.trans hg))
  have Bx0 := Lib.hid (Bx0.out.grow (hG.trans hg))
  clear hG hg 
  go_wp2_with fail
  have hne : Nonempty (Cl (Grow w11)) := ⟨⟨w11, Grow.refl _⟩⟩
  have p0a0 := Ba0.out.one_
  have p0x0 := Bx0.out.one_
  refine wp_region_mix (Cls (Grow w11)) 5 #[false, false, false, false, false] (by kernel_rfl) (by kernel_rfl) ⟨⟨_, Grow.drewN _ 1⟩, rfl⟩ ?_
  refine anyC_seg [0, 1] #[true, true, false, false, false] (fuel := 3) rfl (by kernel_rfl) ⟨⟨_, Grow.drewN _ 1⟩, rfl⟩ ?_
  simp only [pickOps, List.getD_cons_succ, List.getD_cons_zero]
  repeat (go_big_quiet_step (fail))
  refine wpQuiet_nil ?_
  refine anyC_sole 2 #[true, true, true, false, false] (fuel := 2) (by kernel_rfl) ?_
  simp only [List.getD_cons_succ, List.getD_cons_zero]
  go_wp2_with fail
  refine (to_H _ _ _ (H0.out.grow (G11_w.out.trans (Grow.drewN _ 1))) sm0.out).mono ?_
  rintro e w12 ⟨t0, fpt0, rfl, ht, ft, hg⟩
  have Rt0 := Lib.hid ht.rd; have Dw12 := Lib.hid ((Grow.drewN _ 1).trans hg); clear hg ht ft
  go_wp2
  refine ⟨⟨⟨_, Dw12.out⟩, rfl⟩, ?_⟩
  refine anyC_sole 3 #[true, true, true, true, false] (fuel := 1) (by kernel_rfl) ?_
  simp only [List.getD_cons_succ, List.getD_cons_zero]
  go_wp2_with fail
  refine (eq_H _ _ _ _ _ (Rx0.out.grow (G11_w7.out.trans Dw12.out)) Rt0.out).mono ?_
  rintro e w13 ⟨rfl, hg⟩
  have Dw13 := Lib.hid (Dw12.out.trans hg); clear hg
  go_wp2
  refine ⟨⟨⟨_, Dw13.out⟩, rfl⟩, ?_⟩
  refine anyC_seg [4] #[true, true, true, true, true] (fuel := 0) rfl (by kernel_rfl) ⟨⟨_, Dw13.out⟩, rfl⟩ ?_
  simp only [pickOps, List.getD_cons_succ, List.getD_cons_zero]
  repeat (go_big_quiet_step (fail))
  refine wpQuiet_nil ?_
  refine anyC_done (by kernel_rfl) ?_
  clear hne p0a0 p0x0
  have hG := Grow.refl w11; have hg := Dw13.out
  have G13_w := Lib.hid (G11_w.out.trans (hG.trans hg))
  have G13_w6 := Lib.hid (G11_w6.out.trans (hG.trans hg))
  have G13_w7 := Lib.hid (G11_w7.out.trans (hG.trans hg))
  have G13_w8 := Lib.hid (G11_w8.out.trans (hG.trans hg))
  have G13_w9 := Lib.hid (G11_w9.out.trans (hG.trans hg))
  have G13_w10 := Lib.hid (G11_w10.out.trans (hG.trans hg))
  have Ba0 := Lib.hid (Ba0.out.grow (hG.trans hg))
  have Bx0 := Lib.hid (Bx0.out.grow (hG.trans hg))
  clear hG hg
  go_wp2_with fail
  refine at_call (w := w13) ?G (fun hG => (to_N _ _ _ (H1.out.grow (G13_w.out.trans hG)) sm1.out).mono ?_)
  case G => ((repeat (first | with_reducible exact Grow.refl _ | (with_reducible refine Grow.alloc_ ?_ _) | (with_reducible refine Grow.setCell_ ?_ (by first | exact Nat.le_refl _ | (simp only [World.alloc, Array.size_push]; omega) | omega) _))))
  rintro e w14 ⟨t1, fpt1, rfl, ho, hf, hg⟩
  have Ot1 := Lib.hid ho; have Rt1 := Lib.hid ho.rd; have Ft1 := Lib.hid (hf.older hG); have Yt1 := Lib.hid ho.here
  have G14_w := Lib.hid (G13_w.out.trans (hG.trans hg))
  have G14_w6 := Lib.hid (G13_w6.out.trans (hG.trans hg))
  have G14_w7 := Lib.hid (G13_w7.out.trans (hG.trans hg))
  have G14_w8 := Lib.hid (G13_w8.out.trans (hG.trans hg))
  have G14_w9 := Lib.hid (G13_w9.out.trans (hG.trans hg))
  have G14_w10 := Lib.hid (G13_w10.out.trans (hG.trans hg))
  have Ba0 := Lib.hid (Ba0.out.grow (hG.trans hg))
  have Bx0 := Lib.hid (Bx0.out.grow (hG.trans hg))
  clear hG hg ho hf
  go_wp2_with fail
  refine at_call (w := w14) ?G (fun hG => (eq_N _ _ _ _ _ (Rx1.out.grow (G14_w8.out.trans hG)) (Rt1.out.grow hG)).mono ?_)
  case G => ((repeat (first | with_reducible exact Grow.refl _ | (with_reducible refine Grow.alloc_ ?_ _) | (with_reducible refine Grow.setCell_ ?_ (by first | exact Nat.le_refl _ | (simp only [World.alloc, Array.size_push]; omega) | omega) _))))
  rintro e w15 ⟨rfl, hg⟩
  have G15_w := Lib.hid (G14_w.out.trans (hG.trans hg))
  have G15_w6 := Lib.hid (G14_w6.out.trans (hG.trans hg))
  have G15_w7 := Lib.hid (G14_w7.out.trans (hG.trans hg))
  have G15_w8 := Lib.hid (G14_w8.out.trans (hG.trans hg))
  have G15_w9 := Lib.hid (G14_w9.out.trans (hG.trans hg))
  have G15_w10 := Lib.hid (G14_w10.out.trans (hG.trans hg))
  have G15_w14 := Lib.hid (hG.trans hg)
  have Ba0 := Lib.hid (Ba0.out.grow (hG.trans hg))
  have Bx0 := Lib.hid (Bx0.out.grow (hG.trans hg))
  clear hG hg 
  go_wp2_with fail
  refine at_call (w := w15) ?G (fun hG => (to_A _ _ _ (H2.out.grow (G15_w.out.trans hG)) sm2.out).mono ?_)
  case G => ((repeat (first | with_reducible exact Grow.refl _ | (with_reducible refine Grow.alloc_ ?_ _) | (with_reducible refine Grow.setCell_ ?_ (by first | exact Nat.le_refl _ | (simp only [World.alloc, Array.size_push]; omega) | omega) _))))
  rintro e w16 ⟨t2, fpt2, rfl, ho, hf, hg⟩
  have Ot2 := Lib.hid ho; have Rt2 := Lib.hid ho.rd; have Ft2 := Lib.hid (hf.older hG); have Yt2 := Lib.hid ho.here
  have G16_w := Lib.hid (G15_w.out.trans (hG.trans hg))
  have G16_w6 := Lib.hid (G15_w6.out.trans (hG.trans hg))
  have G16_w7 := Lib.hid (G15_w7.out.trans (hG.trans hg))
  have G16_w8 := Lib.hid (G15_w8.out.trans (hG.trans hg))
  have G16_w9 := Lib.hid (G15_w9.out.trans (hG.trans hg))
  have G16_w10 := Lib.hid (G15_w10.out.trans (hG.trans hg))
  have Ba0 := Lib.hid (Ba0.out.grow (hG.trans hg))
  have Bx0 := Lib.hid (Bx0.out.grow (hG.trans hg))
  clear hG hg ho hf
  go_wp2_with fail
  refine at_call (w := w16) ?G (fun hG => (eq_A _ _ _ _ _ (Rx2.out.grow (G16_w9.out.trans hG)) (Rt2.out.grow hG)).mono ?_)
  case G => ((repeat (first | with_reducible exact Grow.refl _ | (with_reducible refine Grow.alloc_ ?_ _) | (with_reducible refine Grow.setCell_ ?_ (by first | exact Nat.le_refl _ | (simp only [World.alloc, Array.size_push]; omega) | omega) _))))
  rintro e w17 ⟨rfl, hg⟩
  have G17_w := Lib.hid (G16_w.out.trans (hG.trans hg))
  have G17_w6 := Lib.hid (G16_w6.out.trans (hG.trans hg))
  have G17_w7 := Lib.hid (G16_w7.out.trans (hG.trans hg))
  have G17_w8 := Lib.hid (G16_w8.out.trans (hG.trans hg))
  have G17_w9 := Lib.hid (G16_w9.out.trans (hG.trans hg))
  have G17_w10 := Lib.hid (G16_w10.out.trans (hG.trans hg))
  have G17_w16 := Lib.hid (hG.trans hg)
  have Ba0 := Lib.hid (Ba0.out.grow (hG.trans hg))
  have Bx0 := Lib.hid (Bx0.out.grow (hG.trans hg))
  clear hG hg 
  have P0 := Lib.hid (Ox0.out.grow G17_w7.out)
  have P1 := Lib.hid (Ox1.out.grow G17_w8.out)
  have P2 := Lib.hid (Ox2.out.grow G17_w9.out)
  have PG := Lib.hid (Og.out.grow G17_w10.out)
  have AG0 : Hid (∀ x ∈ fpg, x ∉ fpx0) := Lib.hid (fun x hx hm => by have h1 := Yx0.out x hm; have h2 := Fg.out x hx; have h3 := G9_w7.out.size; omega)
  have AG1 : Hid (∀ x ∈ fpg, x ∉ fpx1) := Lib.hid (fun x hx hm => by have h1 := Yx1.out x hm; have h2 := Fg.out x hx; have h3 := G9_w8.out.size; omega)
  have AG2 : Hid (∀ x ∈ fpg, x ∉ fpx2) := Lib.hid (fun x hx hm => by have h1 := Yx2.out x hm; have h2 := Fg.out x hx; have h3 := Nat.le_refl 0; omega)
  have AA0_1 : Hid (∀ x ∈ fpx1, x ∉ fpx0) := Lib.hid (fun x hx hm => by have h1 := Yx0.out x hm; have h2 := Fx1.out x hx; have h3 := Nat.le_refl 0; omega)
  have AA0_2 : Hid (∀ x ∈ fpx2, x ∉ fpx0) := Lib.hid (fun x hx hm => by have h1 := Yx0.out x hm; have h2 := Fx2.out x hx; have h3 := G8_w7.out.size; omega)
  have AA1_2 : Hid (∀ x ∈ fpx2, x ∉ fpx1) := Lib.hid (fun x hx hm => by have h1 := Yx1.out x hm; have h2 := Fx2.out x hx; have h3 := Nat.le_refl 0; omega)
  have kb0 := cntH_bd d0 sm0.out
  have q0x0 := Bx0.out.one
  have lx0 := Bx0.out.1
  go_wp2_with fail
  refine at_call (w := w17) ?G (fun hG => (mark_H _ _ _ _ _ (P0.out.grow hG) sm0.out (by omega)).mono ?_)
  case G => ((repeat (first | with_reducible exact Grow.refl _ | (with_reducible refine Grow.alloc_ ?_ _) | (with_reducible refine Grow.setCell_ ?_ (by first | exact Nat.le_refl _ | (simp only [World.alloc, Array.size_push]; omega) | omega) _))))
  rintro e w18 ⟨rfl, ho, hu⟩
  clear q0x0 lx0
  have HU := Lib.hid (hG.upd_then hu); clear hG hu
  clear ho
  have P1 := Lib.hid (P1.out.upd HU.out AA0_1.out)
  have P2 := Lib.hid (P2.out.upd HU.out AA0_2.out)
  have PG := Lib.hid (PG.out.upd HU.out AG0.out)
  have G18_w := Lib.hid (G17_w.out.then_upd HU.out (Fx0.out.older G6_w.out))
  have G18_w6 := Lib.hid (G17_w6.out.then_upd HU.out (Fx0.out.older (Grow.refl _)))
  have Ba0 := Lib.hid (Ba0.out.upd HU.out Na0_x0.out)
  have Bx0 := Lib.hid (Bx0.out.upd HU.out Nx0_x0.out)
  have kb1 := cntN_bd d1 sm1.out
  go_wp2_with fail
  refine at_call (w := w18) ?G (fun hG => (mark_N _ _ _ _ _ (P1.out.grow hG) sm1.out (by omega)).mono ?_)
  case G => ((repeat (first | with_reducible exact Grow.refl _ | (with_reducible refine Grow.alloc_ ?_ _) | (with_reducible refine Grow.setCell_ ?_ (by first | exact Nat.le_refl _ | (simp only [World.alloc, Array.size_push]; omega) | omega) _))))
  rintro e w19 ⟨rfl, ho, hu⟩
  have HU := Lib.hid (hG.upd_then hu); clear hG hu
  clear ho
  have P2 := Lib.hid (P2.out.upd HU.out AA1_2.out)
  have PG := Lib.hid (PG.out.upd HU.out AG1.out)
  have G19_w := Lib.hid (G18_w.out.then_upd HU.out (Fx1.out.older G7_w.out))
  have G19_w6 := Lib.hid (G18_w6.out.then_upd HU.out (Fx1.out.older G7_w6.out))
  have Ba0 := Lib.hid (Ba0.out.upd HU.out Na0_x1.out)
  have Bx0 := Lib.hid (Bx0.out.upd HU.out Nx0_x1.out)
  have kb2 := cntA_bd d2 sm2.out
  go_wp2_with fail
  refine at_call (w := w19) ?G (fun hG => (mark_A _ _ _ _ _ (P2.out.grow hG) sm2.out (by omega)).mono ?_)
  case G => ((repeat (first | with_reducible exact Grow.refl _ | (with_reducible refine Grow.alloc_ ?_ _) | (with_reducible refine Grow.setCell_ ?_ (by first | exact Nat.le_refl _ | (simp only [World.alloc, Array.size_push]; omega) | omega) _))))
  rintro e w20 ⟨rfl, ho, hu⟩
  have HU := Lib.hid (hG.upd_then hu); clear hG hu
  clear ho
  have PG := Lib.hid (PG.out.upd HU.out AG2.out)
  have G20_w := Lib.hid (G19_w.out.then_upd HU.out (Fx2.out.older G8_w.out))
  have G20_w6 := Lib.hid (G19_w6.out.then_upd HU.out (Fx2.out.older G8_w6.out))
  have Ba0 := Lib.hid (Ba0.out.upd HU.out Na0_x2.out)
  have Bx0 := Lib.hid (Bx0.out.upd HU.out Nx0_x2.out)
  go_wp2_with fail
  refine at_call (w := w20) ?G (fun hG => (eq_S _ _ _ _ _ (PG.out.grow hG).rd (Rz.out.grow (G20_w6.out.trans hG))).mono ?_)
  case G => ((repeat (first | with_reducible exact Grow.refl _ | (with_reducible refine Grow.alloc_ ?_ _) | (with_reducible refine Grow.setCell_ ?_ (by first | exact Nat.le_refl _ | (simp only [World.alloc, Array.size_push]; omega) | omega) _))))
  rintro e w21 ⟨rfl, hg⟩
  have PG := Lib.hid (PG.out.grow (hG.trans hg))
  have G21_w := Lib.hid (G20_w.out.trans (hG.trans hg))
  have G21_w6 := Lib.hid (G20_w6.out.trans (hG.trans hg))
  have Ba0 := Lib.hid (Ba0.out.grow (hG.trans hg))
  have Bx0 := Lib.hid (Bx0.out.grow (hG.trans hg))
  clear hG hg 
  have kbg := cntS_bd _ SG.out
  go_wp2_with fail
  refine at_call (w := w21) ?G (fun hG => (mark_S _ _ _ _ _ (PG.out.grow hG) SG.out (by omega)).mono ?_)
  case G => ((repeat (first | with_reducible exact Grow.refl _ | (with_reducible refine Grow.alloc_ ?_ _) | (with_reducible refine Grow.setCell_ ?_ (by first | exact Nat.le_refl _ | (simp only [World.alloc, Array.size_push]; omega) | omega) _))))
  rintro e w22 ⟨rfl, ho, hu⟩
  have HU := Lib.hid (hG.upd_then hu); clear hG hu
  have QG := Lib.hid ho.rd; clear ho
  have G22_w := Lib.hid (G21_w.out.then_upd HU.out (Fg.out.older G9_w.out))
  have G22_w6 := Lib.hid (G21_w6.out.then_upd HU.out (Fg.out.older G9_w6.out))
  have Ba0 := Lib.hid (Ba0.out.upd HU.out Na0_g.out)
  have Bx0 := Lib.hid (Bx0.out.upd HU.out Nx0_g.out)
  go_wp2_with fail
  refine at_call (w := w22) ?G (fun hG => (held_S _ _ _ _ (QG.out.grow hG) SG.out (by omega)).mono ?_)
  case G => ((repeat (first | with_reducible exact Grow.refl _ | (with_reducible refine Grow.alloc_ ?_ _) | (with_reducible refine Grow.setCell_ ?_ (by first | exact Nat.le_refl _ | (simp only [World.alloc, Array.size_push]; omega) | omega) _))))
  rintro e w23 ⟨rfl, hg⟩
  have G23_w := Lib.hid (G22_w.out.trans (hG.trans hg))
  have G23_w6 := Lib.hid (G22_w6.out.trans (hG.trans hg))
  have G23_w22 := Lib.hid (hG.trans hg)
  have Ba0 := Lib.hid (Ba0.out.grow (hG.trans hg))
  have Bx0 := Lib.hid (Bx0.out.grow (hG.trans hg))
  clear hG hg 
  have q0a0 := Ba0.out.one
  have la0 := Ba0.out.1
  go_wp2_with fail
  refine at_call (w := w23) ?G (fun hG => (to_H _ _ _ (H0.out.grow (G23_w.out.trans hG)) sm0.out).mono ?_)
  case G => ((repeat (first | with_reducible exact Grow.refl _ | (with_reducible refine Grow.alloc_ ?_ _) | (with_reducible refine Grow.setCell_ ?_ (by first | exact Nat.le_refl _ | (simp only [World.alloc, Array.size_push]; omega) | omega) _))))
  rintro e w24 ⟨u0, fpu0, rfl, ho, hf, hg⟩
  clear q0a0 la0
  obtain ⟨sa0u0, sc0u0, rfl⟩ := ho.rd.shape
  have Ou0 := Lib.hid ho; have Ru0 := Lib.hid ho.rd; have Fu0 := Lib.hid (hf.older hG); have Yu0 := Lib.hid ho.here
  have G24_w := Lib.hid (G23_w.out.trans (hG.trans hg))
  have G24_w6 := Lib.hid (G23_w6.out.trans (hG.trans hg))
  have G24_w22 := Lib.hid (G23_w22.out.trans (hG.trans hg))
  have Ba0 := Lib.hid (Ba0.out.grow (hG.trans hg))
  have Bx0 := Lib.hid (Bx0.out.grow (hG.trans hg))
  clear hG hg ho hf
  go_wp2_with fail
  refine at_call (w := w24) ?G (fun hG => (to_N _ _ _ (H1.out.grow (G24_w.out.trans hG)) sm1.out).mono ?_)
  case G => ((repeat (first | with_reducible exact Grow.refl _ | (with_reducible refine Grow.alloc_ ?_ _) | (with_reducible refine Grow.setCell_ ?_ (by first | exact Nat.le_refl _ | (simp only [World.alloc, Array.size_push]; omega) | omega) _))))
  rintro e w25 ⟨u1, fpu1, rfl, ho, hf, hg⟩
  have Ou1 := Lib.hid ho; have Ru1 := Lib.hid ho.rd; have Fu1 := Lib.hid (hf.older hG); have Yu1 := Lib.hid ho.here
  have G25_w := Lib.hid (G24_w.out.trans (hG.trans hg))
  have G25_w6 := Lib.hid (G24_w6.out.trans (hG.trans hg))
  have G25_w22 := Lib.hid (G24_w22.out.trans (hG.trans hg))
  have G25_w24 := Lib.hid (hG.trans hg)
  have Ba0 := Lib.hid (Ba0.out.grow (hG.trans hg))
  have Bx0 := Lib.hid (Bx0.out.grow (hG.trans hg))
  clear hG hg ho hf
  go_wp2_with fail
  refine at_call (w := w25) ?G (fun hG => (to_A _ _ _ (H2.out.grow (G25_w.out.trans hG)) sm2.out).mono ?_)
  case G => ((repeat (first | with_reducible exact Grow.refl _ | (with_reducible refine Grow.alloc_ ?_ _) | (with_reducible refine Grow.setCell_ ?_ (by first | exact Nat.le_refl _ | (simp only [World.alloc, Array.size_push]; omega) | omega) _))))
  rintro e w26 ⟨u2, fpu2, rfl, ho, hf, hg⟩
  have Ou2 := Lib.hid ho; have Ru2 := Lib.hid ho.rd; have Fu2 := Lib.hid (hf.older hG); have Yu2 := Lib.hid ho.here
  have G26_w := Lib.hid (G25_w.out.trans (hG.trans hg))
  have G26_w6 := Lib.hid (G25_w6.out.trans (hG.trans hg))
  have G26_w22 := Lib.hid (G25_w22.out.trans (hG.trans hg))
  have G26_w24 := Lib.hid (G25_w24.out.trans (hG.trans hg))
  have G26_w25 := Lib.hid (hG.trans hg)
  have Ba0 := Lib.hid (Ba0.out.grow (hG.trans hg))
  have Bx0 := Lib.hid (Bx0.out.grow (hG.trans hg))
  clear hG hg ho hf
  go_wp2_with fail
  refine at_call (w := w26) ?G (fun hG => (KI.out _ _ (Ru0.out.grow (G26_w24.out.trans hG)) _ (Ru1.out.grow (G26_w25.out.trans hG)) _ (Ru2.out.grow hG)).mono ?_)
  case G => ((repeat (first | with_reducible exact Grow.refl _ | (with_reducible refine Grow.alloc_ ?_ _) | (with_reducible refine Grow.setCell_ ?_ (by first | exact Nat.le_refl _ | (simp only [World.alloc, Array.size_push]; omega) | omega) _))))
  rintro e w27 ⟨k, fpk, rfl, ho, hf, hg⟩
  have Ok := Lib.hid ho; have Rk := Lib.hid ho.rd; have Fk := Lib.hid (hf.older hG); have Yk := Lib.hid ho.here
  have G27_w := Lib.hid (G26_w.out.trans (hG.trans hg))
  have G27_w6 := Lib.hid (G26_w6.out.trans (hG.trans hg))
  have G27_w22 := Lib.hid (G26_w22.out.trans (hG.trans hg))
  have G27_w24 := Lib.hid (G26_w24.out.trans (hG.trans hg))
  have G27_w25 := Lib.hid (G26_w25.out.trans (hG.trans hg))
  have G27_w26 := Lib.hid (hG.trans hg)
  have Ba0 := Lib.hid (Ba0.out.grow (hG.trans hg))
  have Bx0 := Lib.hid (Bx0.out.grow (hG.trans hg))
  clear hG hg ho hf
  go_wp2_with fail
  refine at_call (w := w27) ?G (fun hG => (eq_S _ _ _ _ _ (Rk.out.grow hG) (Rz.out.grow (G27_w6.out.trans hG))).mono ?_)
  case G => ((repeat (first | with_reducible exact Grow.refl _ | (with_reducible refine Grow.alloc_ ?_ _) | (with_reducible refine Grow.setCell_ ?_ (by first | exact Nat.le_refl _ | (simp only [World.alloc, Array.size_push]; omega) | omega) _))))
  rintro e w28 ⟨rfl, hg⟩
  have G28_w := Lib.hid (G27_w.out.trans (hG.trans hg))
  have G28_w6 := Lib.hid (G27_w6.out.trans (hG.trans hg))
  have G28_w22 := Lib.hid (G27_w22.out.trans (hG.trans hg))
  have G28_w24 := Lib.hid (G27_w24.out.trans (hG.trans hg))
  have G28_w25 := Lib.hid (G27_w25.out.trans (hG.trans hg))
  have G28_w26 := Lib.hid (G27_w26.out.trans (hG.trans hg))
  have G28_w27 := Lib.hid (hG.trans hg)
  have Ba0 := Lib.hid (Ba0.out.grow (hG.trans hg))
  have Bx0 := Lib.hid (Bx0.out.grow (hG.trans hg))
  clear hG hg 
  go_wp2_with fail
  refine at_call (w := w28) ?G (fun hG => (held_S _ _ _ _ (QG.out.grow (G28_w22.out.trans hG)) SG.out (by omega)).mono ?_)
  case G => ((repeat (first | with_reducible exact Grow.refl _ | (with_reducible refine Grow.alloc_ ?_ _) | (with_reducible refine Grow.setCell_ ?_ (by first | exact Nat.le_refl _ | (simp only [World.alloc, Array.size_push]; omega) | omega) _))))
  rintro e w29 ⟨rfl, hg⟩
  have G29_w := Lib.hid (G28_w.out.trans (hG.trans hg))
  have G29_w6 := Lib.hid (G28_w6.out.trans (hG.trans hg))
  have G29_w22 := Lib.hid (G28_w22.out.trans (hG.trans hg))
  have G29_w24 := Lib.hid (G28_w24.out.trans (hG.trans hg))
  have G29_w25 := Lib.hid (G28_w25.out.trans (hG.trans hg))
  have G29_w26 := Lib.hid (G28_w26.out.trans (hG.trans hg))
  have G29_w27 := Lib.hid (G28_w27.out.trans (hG.trans hg))
  have Ba0 := Lib.hid (Ba0.out.grow (hG.trans hg))
  have Bx0 := Lib.hid (Bx0.out.grow (hG.trans hg))
  clear hG hg 
  go_wp2
  go_ret
  exact ⟨rfl, G29_w.out⟩
--%
end Go.Proofs.Ytgigdpdmdldhnaa
