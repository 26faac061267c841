/- walk of the law on matches that meet -/
import Derived.Test.YtkkhkojojnebjaaOpn
import Derived.Test.YtkkhkojojnebjaaMi
import Derived.Test.YtkkhkojojnebjaaMe
import Derived.WalkKit
import Derived.ProofKit
import Derived.OpenShut
import Derived.ShutString
import Derived.ChangeOld
import Derived.Below
import Derived.SizedLaws
import Derived.WalkSpells
import Derived.Deep.QuietTactic
import Derived.BigQuiet
import Derived.Outline
namespace Go.Proofs.Ytkkhkojojnebjaa
open Go.ChangeShapes Go.WideShapes Go.ChangeAt Go.RowKit
open Go.ChangeMaps (open_string shut_string)
set_option linter.unusedVariables false
set_option linter.unusedSimpArgs false
--% meetsS
theorem meetsS_C (w : World) (v : Value) (d : DatM) (h : RdM w v d) (b : WfM d) (v2 : Value) (d2 : DatM) (h2 : RdM w v2 d2) (b2 : WfM d2) (sm : SmM d) (sm2 : SmM d2) : Calls Try.prog 46 #[v, v2] w (RetV (.bool (meOk d d2)) w) := meetsS_any w v v2 d d2 h h2 b b2
--% meetsI
theorem meetsI_C (w : World) (v : Value) (d : DatM) (h : RdM w v d) (b : WfM d) (v2 : Value) (d2 : DatM) (h2 : RdM w v2 d2) (b2 : WfM d2) (sm : SmM d) (sm2 : SmM d2) : Calls Try.prog 47 #[v, v2] w (RetV (.bool (meOk d d2)) w) := meetsI_any w v v2 d d2 h h2 b b2
--% walk Meets
theorem walk_FnExactMeets (w : World) (v0 : Value) (d0 : DatM) (h0 : RdM w v0 d0) (b0 : WfM d0) (v1 : Value) (d1 : DatM) (h1 : RdM w v1 d1) (b1 : WfM d1) :
    Calls Try.prog 12 #[v0, v1] w (RetV (.bool true) w) := by
  obtain ⟨sa0v0, sc0v0, sa1v0, sc1v0, rfl⟩ := h0.shape
  have H0 := Lib.hid h0
  have B0 := Lib.hid b0
  clear h0 b0
  obtain ⟨sa0v1, sc0v1, sa1v1, sc1v1, rfl⟩ := h1.shape
  have H1 := Lib.hid h1
  have B1 := Lib.hid b1
  clear h1 b1
  have hp0 : 0 ≤ sizeM d0 := by unfold sizeM; omega
  have hp1 : 0 ≤ sizeM d1 := by unfold sizeM; omega
  by_cases hz0 : 1048576 < sizeM d0
  · skip
    have HZ0 := Lib.hid (leftOf_no hz0)
    go_enter Try.func12, Try.ntmps12
    go_wp2_with fail
    refine at_call (w := w) ?G (fun hG => (sz_M _ _ _ _ (H0.out.grow hG) (by omega)).mono ?_)
    case G => ((repeat (first | with_reducible exact Grow.refl _ | (with_reducible refine Grow.alloc_ ?_ _) | (with_reducible refine Grow.setCell_ ?_ (by first | exact Nat.le_refl _ | (simp only [World.alloc, Array.size_push]; omega) | omega) _))))
    rintro e w1 ⟨rfl, hg⟩
    rw [HZ0.out]
    have G1_w := Lib.hid (hG.trans hg)
    have Ba0 := Lib.hid (((Box.alloc _ _ _).grow ((Grow.alloc _ _).trans hg)))
    have Ba1 := Lib.hid (((Box.alloc _ _ _).grow hg).at_ (b' := w.heap.size + 1) (by simp only [World.alloc, Array.size_push]))
    clear hG hg 
    go_wp2
    go_ret
    exact ⟨rfl, G1_w.out⟩
  have HZ0 := Lib.hid (leftOf_yes hz0)
  by_cases hz1 : 1048576 - sizeM d0 < sizeM d1
  · skip
    have HZ1 := Lib.hid (leftOf_no hz1)
    go_enter Try.func12, Try.ntmps12
    go_wp2_with fail
    refine at_call (w := w) ?G (fun hG => (sz_M _ _ _ _ (H0.out.grow hG) (by omega)).mono ?_)
    case G => ((repeat (first | with_reducible exact Grow.refl _ | (with_reducible refine Grow.alloc_ ?_ _) | (with_reducible refine Grow.setCell_ ?_ (by first | exact Nat.le_refl _ | (simp only [World.alloc, Array.size_push]; omega) | omega) _))))
    rintro e w1 ⟨rfl, hg⟩
    rw [HZ0.out]
    have G1_w := Lib.hid (hG.trans hg)
    have Ba0 := Lib.hid (((Box.alloc _ _ _).grow ((Grow.alloc _ _).trans hg)))
    have Ba1 := Lib.hid (((Box.alloc _ _ _).grow hg).at_ (b' := w.heap.size + 1) (by simp only [World.alloc, Array.size_push]))
    clear hG hg 
    have ⟨q0a1, q1a1⟩ := Ba1.out.two
    have la1 := Ba1.out.1
    go_wp2_with fail
    refine at_call (w := w1) ?G (fun hG => (sz_M _ _ _ _ (H1.out.grow (G1_w.out.trans hG)) (by omega)).mono ?_)
    case G => ((repeat (first | with_reducible exact Grow.refl _ | (with_reducible refine Grow.alloc_ ?_ _) | (with_reducible refine Grow.setCell_ ?_ (by first | exact Nat.le_refl _ | (simp only [World.alloc, Array.size_push]; omega) | omega) _))))
    rintro e w2 ⟨rfl, hg⟩
    clear q0a1 q1a1 la1
    rw [HZ1.out]
    have G2_w := Lib.hid (G1_w.out.trans (hG.trans hg))
    have Ba0 := Lib.hid (Ba0.out.grow (hG.trans hg))
    have Ba1 := Lib.hid (Ba1.out.grow (hG.trans hg))
    clear hG hg 
    go_wp2
    go_ret
    exact ⟨rfl, G2_w.out⟩
  have HZ1 := Lib.hid (leftOf_yes hz1)
  have sm0 : Hid (SmM d0) := Lib.hid (by unfold SmM; omega)
  have sm1 : Hid (SmM d1) := Lib.hid (by unfold SmM; omega)
  have KS := Lib.hid (fun (w : World) (v0 : Value) (h0 : RdM w v0 d0) (v1 : Value) (h1 : RdM w v1 d1) => meetsS_C w v0 d0 h0 B0.out v1 d1 h1 B1.out sm0.out sm1.out)
  have KI := Lib.hid (fun (w : World) (v0 : Value) (h0 : RdM w v0 d0) (v1 : Value) (h1 : RdM w v1 d1) => meetsI_C w v0 d0 h0 B0.out v1 d1 h1 B1.out sm0.out sm1.out)
  generalize meOk d0 d1 = R at *
  go_enter Try.func12, Try.ntmps12
  go_wp2_with fail
  refine at_call (w := w) ?G (fun hG => (sz_M _ _ _ _ (H0.out.grow hG) (by omega)).mono ?_)
  case G => ((repeat (first | with_reducible exact Grow.refl _ | (with_reducible refine Grow.alloc_ ?_ _) | (with_reducible refine Grow.setCell_ ?_ (by first | exact Nat.le_refl _ | (simp only [World.alloc, Array.size_push]; omega) | omega) _))))
  rintro e w1 ⟨rfl, hg⟩
  rw [HZ0.out]
  have G1_w := Lib.hid (hG.trans hg)
  have Ba0 := Lib.hid (((Box.alloc _ _ _).grow ((Grow.alloc _ _).trans hg)))
  have Ba1 := Lib.hid (((Box.alloc _ _ _).grow hg).at_ (b' := w.heap.size + 1) (by simp only [World.alloc, Array.size_push]))
  clear hG hg 
  have ⟨q0a1, q1a1⟩ := Ba1.out.two
  have la1 := Ba1.out.1
  go_wp2_with fail
  refine at_call (w := w1) ?G (fun hG => (sz_M _ _ _ _ (H1.out.grow (G1_w.out.trans hG)) (by omega)).mono ?_)
  case G => ((repeat (first | with_reducible exact Grow.refl _ | (with_reducible refine Grow.alloc_ ?_ _) | (with_reducible refine Grow.setCell_ ?_ (by first | exact Nat.le_refl _ | (simp only [World.alloc, Array.size_push]; omega) | omega) _))))
  rintro e w2 ⟨rfl, hg⟩
  clear q0a1 q1a1 la1
  rw [HZ1.out]
  have G2_w := Lib.hid (G1_w.out.trans (hG.trans hg))
  have Ba0 := Lib.hid (Ba0.out.grow (hG.trans hg))
  have Ba1 := Lib.hid (Ba1.out.grow (hG.trans hg))
  clear hG hg 
  go_wp2_with fail
  have hne : Nonempty (Cl (Grow w2)) := ⟨⟨w2, Grow.refl _⟩⟩
  have ⟨p0a0, p1a0⟩ := Ba0.out.two_
  have ⟨p0a1, p1a1⟩ := Ba1.out.two_
  refine wp_region_mix (Cls (Grow w2)) 6 #[false, false, false, false, false, false] (by kernel_rfl) (by kernel_rfl) ⟨⟨_, Grow.drewN _ 1⟩, rfl⟩ ?_
  refine anyC_seg [0, 2] #[true, false, true, false, false, false] (fuel := 4) rfl (by kernel_rfl) ⟨⟨_, Grow.drewN _ 1⟩, rfl⟩ ?_
  simp only [pickOps, List.getD_cons_succ, List.getD_cons_zero]
  repeat (go_big_quiet_step (fail))
  refine wpQuiet_nil ?_
  refine anyC_sole 1 #[true, true, true, false, false, false] (fuel := 3) (by kernel_rfl) ?_
  simp only [List.getD_cons_succ, List.getD_cons_zero]
  go_wp2_with fail
  refine (to_M _ _ _ (H0.out.grow (G2_w.out.trans (Grow.drewN _ 1))) sm0.out).mono ?_
  rintro e w3 ⟨y0, fpy0, rfl, ht, ft, hg⟩
  have Ry0 := Lib.hid ht.rd; have Dw3 := Lib.hid ((Grow.drewN _ 1).trans hg); have Ew3 := Lib.hid hg; clear hg ht ft
  go_wp2
  refine ⟨⟨⟨_, Dw3.out⟩, rfl⟩, ?_⟩
  refine anyC_sole 3 #[true, true, true, true, false, false] (fuel := 2) (by kernel_rfl) ?_
  simp only [List.getD_cons_succ, List.getD_cons_zero]
  go_wp2_with fail
  refine (to_M _ _ _ (H1.out.grow (G2_w.out.trans Dw3.out)) sm1.out).mono ?_
  rintro e w4 ⟨y1, fpy1, rfl, ht, ft, hg⟩
  have Ry1 := Lib.hid ht.rd; have Dw4 := Lib.hid (Dw3.out.trans hg); have Ew4 := Lib.hid hg; clear hg ht ft
  go_wp2
  refine ⟨⟨⟨_, Dw4.out⟩, rfl⟩, ?_⟩
  refine anyC_sole 4 #[true, true, true, true, true, false] (fuel := 1) (by kernel_rfl) ?_
  simp only [List.getD_cons_succ, List.getD_cons_zero]
  go_wp2_with fail
  refine (KS.out _ _ (Ry0.out.grow Ew4.out) _ Ry1.out).mono ?_
  rintro e w5 ⟨rfl, hg⟩
  have Dw5 := Lib.hid (Dw4.out.trans hg); clear hg
  go_wp2
  refine ⟨⟨⟨_, Dw5.out⟩, rfl⟩, ?_⟩
  refine anyC_seg [5] #[true, true, true, true, true, true] (fuel := 0) rfl (by kernel_rfl) ⟨⟨_, Dw5.out⟩, rfl⟩ ?_
  simp only [pickOps, List.getD_cons_succ, List.getD_cons_zero]
  repeat (go_big_quiet_step (fail))
  refine wpQuiet_nil ?_
  refine anyC_done (by kernel_rfl) ?_
  clear hne p0a0 p1a0 p0a1 p1a1
  have hG := Grow.refl w2; have hg := Dw5.out
  have G5_w := Lib.hid (G2_w.out.trans (hG.trans hg))
  have Ba0 := Lib.hid (Ba0.out.grow (hG.trans hg))
  have Ba1 := Lib.hid (Ba1.out.grow (hG.trans hg))
  clear hG hg
  have ⟨q0a0, q1a0⟩ := Ba0.out.two
  have la0 := Ba0.out.1
  go_wp2_with fail
  refine at_call (w := w5) ?G (fun hG => (to_M _ _ _ (H0.out.grow (G5_w.out.trans hG)) sm0.out).mono ?_)
  case G => ((repeat (first | with_reducible exact Grow.refl _ | (with_reducible refine Grow.alloc_ ?_ _) | (with_reducible refine Grow.setCell_ ?_ (by first | exact Nat.le_refl _ | (simp only [World.alloc, Array.size_push]; omega) | omega) _))))
  rintro e w6 ⟨x0, fpx0, rfl, ho, hf, hg⟩
  clear q0a0 q1a0 la0
  obtain ⟨sa0x0, sc0x0, sa1x0, sc1x0, rfl⟩ := ho.rd.shape
  have Ox0 := Lib.hid ho; have Rx0 := Lib.hid ho.rd; have Fx0 := Lib.hid (hf.older hG); have Yx0 := Lib.hid ho.here
  have G6_w := Lib.hid (G5_w.out.trans (hG.trans hg))
  have Ba0 := Lib.hid (Ba0.out.grow (hG.trans hg))
  have Ba1 := Lib.hid (Ba1.out.grow (hG.trans hg))
  clear hG hg ho hf
  have ⟨q0a1, q1a1⟩ := Ba1.out.two
  have la1 := Ba1.out.1
  go_wp2_with fail
  refine at_call (w := w6) ?G (fun hG => (to_M _ _ _ (H1.out.grow (G6_w.out.trans hG)) sm1.out).mono ?_)
  case G => ((repeat (first | with_reducible exact Grow.refl _ | (with_reducible refine Grow.alloc_ ?_ _) | (with_reducible refine Grow.setCell_ ?_ (by first | exact Nat.le_refl _ | (simp only [World.alloc, Array.size_push]; omega) | omega) _))))
  rintro e w7 ⟨x1, fpx1, rfl, ho, hf, hg⟩
  clear q0a1 q1a1 la1
  obtain ⟨sa0x1, sc0x1, sa1x1, sc1x1, rfl⟩ := ho.rd.shape
  have Ox1 := Lib.hid ho; have Rx1 := Lib.hid ho.rd; have Fx1 := Lib.hid (hf.older hG); have Yx1 := Lib.hid ho.here
  have G7_w := Lib.hid (G6_w.out.trans (hG.trans hg))
  have G7_w6 := Lib.hid (hG.trans hg)
  have Ba0 := Lib.hid (Ba0.out.grow (hG.trans hg))
  have Ba1 := Lib.hid (Ba1.out.grow (hG.trans hg))
  have Bx0 := Lib.hid (((Box.alloc _ _ _).grow hg))
  clear hG hg ho hf
  have ⟨q0x0, q1x0⟩ := Bx0.out.two
  have lx0 := Bx0.out.1
  go_wp2_with fail
  refine at_call (w := w7) ?G (fun hG => (KI.out _ _ (Rx0.out.grow (G7_w6.out.trans hG)) _ (Rx1.out.grow hG)).mono ?_)
  case G => ((repeat (first | with_reducible exact Grow.refl _ | (with_reducible refine Grow.alloc_ ?_ _) | (with_reducible refine Grow.setCell_ ?_ (by first | exact Nat.le_refl _ | (simp only [World.alloc, Array.size_push]; omega) | omega) _))))
  rintro e w8 ⟨rfl, hg⟩
  clear q0x0 q1x0 lx0
  have G8_w := Lib.hid (G7_w.out.trans (hG.trans hg))
  have G8_w6 := Lib.hid (G7_w6.out.trans (hG.trans hg))
  have G8_w7 := Lib.hid (hG.trans hg)
  have Ba0 := Lib.hid (Ba0.out.grow (hG.trans hg))
  have Ba1 := Lib.hid (Ba1.out.grow (hG.trans hg))
  have Bx0 := Lib.hid (Bx0.out.grow (hG.trans hg))
  have Bx1 := Lib.hid (((Box.alloc _ _ _).grow hg))
  clear hG hg 
  go_wp2_with fail
  have hne : Nonempty (Cl (Grow w8)) := ⟨⟨w8, Grow.refl _⟩⟩
  have ⟨p0a0, p1a0⟩ := Ba0.out.two_
  have ⟨p0x0, p1x0⟩ := Bx0.out.two_
  refine wp_region_mix (Cls (Grow w8)) 5 #[false, false, false, false, false] (by kernel_rfl) (by kernel_rfl) ⟨⟨_, Grow.drewN _ 1⟩, rfl⟩ ?_
  refine anyC_seg [0, 1] #[true, true, false, false, false] (fuel := 3) rfl (by kernel_rfl) ⟨⟨_, Grow.drewN _ 1⟩, rfl⟩ ?_
  simp only [pickOps, List.getD_cons_succ, List.getD_cons_zero]
  repeat (go_big_quiet_step (fail))
  refine wpQuiet_nil ?_
  refine anyC_sole 2 #[true, true, true, false, false] (fuel := 2) (by kernel_rfl) ?_
  simp only [List.getD_cons_succ, List.getD_cons_zero]
  go_wp2_with fail
  refine (to_M _ _ _ (H0.out.grow (G8_w.out.trans (Grow.drewN _ 1))) sm0.out).mono ?_
  rintro e w9 ⟨t0, fpt0, rfl, ht, ft, hg⟩
  have Rt0 := Lib.hid ht.rd; have Dw9 := Lib.hid ((Grow.drewN _ 1).trans hg); clear hg ht ft
  go_wp2
  refine ⟨⟨⟨_, Dw9.out⟩, rfl⟩, ?_⟩
  refine anyC_sole 3 #[true, true, true, true, false] (fuel := 1) (by kernel_rfl) ?_
  simp only [List.getD_cons_succ, List.getD_cons_zero]
  go_wp2_with fail
  refine (eq_M _ _ _ _ _ (Rx0.out.grow (G8_w6.out.trans Dw9.out)) Rt0.out).mono ?_
  rintro e w10 ⟨rfl, hg⟩
  have Dw10 := Lib.hid (Dw9.out.trans hg); clear hg
  go_wp2
  refine ⟨⟨⟨_, Dw10.out⟩, rfl⟩, ?_⟩
  refine anyC_seg [4] #[true, true, true, true, true] (fuel := 0) rfl (by kernel_rfl) ⟨⟨_, Dw10.out⟩, rfl⟩ ?_
  simp only [pickOps, List.getD_cons_succ, List.getD_cons_zero]
  repeat (go_big_quiet_step (fail))
  refine wpQuiet_nil ?_
  refine anyC_done (by kernel_rfl) ?_
  clear hne p0a0 p1a0 p0x0 p1x0
  have hG := Grow.refl w8; have hg := Dw10.out
  have G10_w := Lib.hid (G8_w.out.trans (hG.trans hg))
  have G10_w6 := Lib.hid (G8_w6.out.trans (hG.trans hg))
  have G10_w7 := Lib.hid (G8_w7.out.trans (hG.trans hg))
  have Ba0 := Lib.hid (Ba0.out.grow (hG.trans hg))
  have Ba1 := Lib.hid (Ba1.out.grow (hG.trans hg))
  have Bx0 := Lib.hid (Bx0.out.grow (hG.trans hg))
  have Bx1 := Lib.hid (Bx1.out.grow (hG.trans hg))
  clear hG hg
  go_wp2_with fail
  have hne : Nonempty (Cl (Grow w10)) := ⟨⟨w10, Grow.refl _⟩⟩
  have ⟨p0a1, p1a1⟩ := Ba1.out.two_
  have ⟨p0x1, p1x1⟩ := Bx1.out.two_
  refine wp_region_mix (Cls (Grow w10)) 5 #[false, false, false, false, false] (by kernel_rfl) (by kernel_rfl) ⟨⟨_, Grow.drewN _ 1⟩, rfl⟩ ?_
  refine anyC_seg [0, 1] #[true, true, false, false, false] (fuel := 3) rfl (by kernel_rfl) ⟨⟨_, Grow.drewN _ 1⟩, rfl⟩ ?_
  simp only [pickOps, List.getD_cons_succ, List.getD_cons_zero]
  repeat (go_big_quiet_step (fail))
  refine wpQuiet_nil ?_
  refine anyC_sole 2 #[true, true, true, false, false] (fuel := 2) (by kernel_rfl) ?_
  simp only [List.getD_cons_succ, List.getD_cons_zero]
  go_wp2_with fail
  refine (to_M _ _ _ (H1.out.grow (G10_w.out.trans (Grow.drewN _ 1))) sm1.out).mono ?_
  rintro e w11 ⟨t1, fpt1, rfl, ht, ft, hg⟩
  have Rt1 := Lib.hid ht.rd; have Dw11 := Lib.hid ((Grow.drewN _ 1).trans hg); clear hg ht ft
  go_wp2
  refine ⟨⟨⟨_, Dw11.out⟩, rfl⟩, ?_⟩
  refine anyC_sole 3 #[true, true, true, true, false] (fuel := 1) (by kernel_rfl) ?_
  simp only [List.getD_cons_succ, List.getD_cons_zero]
  go_wp2_with fail
  refine (eq_M _ _ _ _ _ (Rx1.out.grow (G10_w7.out.trans Dw11.out)) Rt1.out).mono ?_
  rintro e w12 ⟨rfl, hg⟩
  have Dw12 := Lib.hid (Dw11.out.trans hg); clear hg
  go_wp2
  refine ⟨⟨⟨_, Dw12.out⟩, rfl⟩, ?_⟩
  refine anyC_seg [4] #[true, true, true, true, true] (fuel := 0) rfl (by kernel_rfl) ⟨⟨_, Dw12.out⟩, rfl⟩ ?_
  simp only [pickOps, List.getD_cons_succ, List.getD_cons_zero]
  repeat (go_big_quiet_step (fail))
  refine wpQuiet_nil ?_
  refine anyC_done (by kernel_rfl) ?_
  clear hne p0a1 p1a1 p0x1 p1x1
  have hG := Grow.refl w10; have hg := Dw12.out
  have G12_w := Lib.hid (G10_w.out.trans (hG.trans hg))
  have G12_w6 := Lib.hid (G10_w6.out.trans (hG.trans hg))
  have G12_w7 := Lib.hid (G10_w7.out.trans (hG.trans hg))
  have Ba0 := Lib.hid (Ba0.out.grow (hG.trans hg))
  have Ba1 := Lib.hid (Ba1.out.grow (hG.trans hg))
  have Bx0 := Lib.hid (Bx0.out.grow (hG.trans hg))
  have Bx1 := Lib.hid (Bx1.out.grow (hG.trans hg))
  clear hG hg
  go_wp2
  go_ret
  exact ⟨rfl, G12_w.out⟩
--%
end Go.Proofs.Ytkkhkojojnebjaa
