/- walks of the laws on the tests of packets and datagrams -/
import Derived.Test.YtcldfodnblkeiaaPok
import Derived.Test.YtcldfodnblkeiaaOpn
import Derived.WalkKit
import Derived.ProofKit
import Derived.OpenShut
import Derived.ShutString
import Derived.ChangeOld
import Derived.Below
import Derived.SizedLaws
import Derived.WalkSpells
import Derived.Deep.QuietTactic
import Derived.BigQuiet
import Derived.Outline
namespace Go.Proofs.Ytcldfodnblkeiaa
open Go.ChangeShapes Go.WideShapes Go.ChangeAt Go.RowKit
open Go.ChangeMaps (open_string shut_string)
set_option linter.unusedVariables false
set_option linter.unusedSimpArgs false
--% packetOkS
theorem packetOkS_C (w : World) (v : Value) (d : DatP) (h : RdP w v d) (b : WfP d) (sm : SmP d) : Calls Try.prog 21 #[v] w (RetV (.bool (pkOk d)) w) := packetOkS w v d h
--% packetOkI
theorem packetOkI_C (w : World) (v : Value) (d : DatP) (h : RdP w v d) (b : WfP d) (sm : SmP d) : Calls Try.prog 23 #[v] w (RetV (.bool (pkOk d)) w) := packetOkI w v d h
--% walk PacketOk
theorem walk_FnExactPacketOk (w : World) (v0 : Value) (d0 : DatP) (h0 : RdP w v0 d0) (b0 : WfP d0) :
    Calls Try.prog 3 #[v0] w (RetV (.bool true) w) := by
  obtain ⟨sa0v0, sc0v0, rfl⟩ := h0.shape
  have H0 := Lib.hid h0
  have B0 := Lib.hid b0
  clear h0 b0
  have hp0 : 0 ≤ sizeP d0 := by unfold sizeP; omega
  by_cases hz0 : 1048576 < sizeP d0
  · skip
    have HZ0 := Lib.hid (leftOf_no hz0)
    go_enter Try.func3, Try.ntmps3
    go_wp2_with fail
    refine at_world (w := w) ?G (fun hG => (sz_P _ _ _ _ (H0.out.grow hG) (by omega)).mono ?_)
    case G => ((repeat (first | with_reducible exact Grow.refl _ | (with_reducible refine Grow.alloc_ ?_ _) | (with_reducible refine Grow.setCell_ ?_ (by first | exact Nat.le_refl _ | (simp only [World.alloc, Array.size_push]; omega) | omega) _))))
    rintro e w1 ⟨rfl, hg⟩
    rw [HZ0.out]
    have G1_w := Lib.hid (hG.trans hg)
    have Ba0 := Lib.hid (((Box.alloc _ _ _).grow hg))
    clear hG hg 
    go_wp2
    go_ret
    exact ⟨rfl, G1_w.out⟩
  have HZ0 := Lib.hid (leftOf_yes hz0)
  have sm0 : Hid (SmP d0) := Lib.hid (by unfold SmP; omega)
  have KS := Lib.hid (fun (w : World) (v0 : Value) (h0 : RdP w v0 d0) => packetOkS_C w v0 d0 h0 B0.out sm0.out)
  have KI := Lib.hid (fun (w : World) (v0 : Value) (h0 : RdP w v0 d0) => packetOkI_C w v0 d0 h0 B0.out sm0.out)
  generalize pkOk d0 = R at *
  go_enter Try.func3, Try.ntmps3
  go_wp2_with fail
  refine at_world (w := w) ?G (fun hG => (sz_P _ _ _ _ (H0.out.grow hG) (by omega)).mono ?_)
  case G => ((repeat (first | with_reducible exact Grow.refl _ | (with_reducible refine Grow.alloc_ ?_ _) | (with_reducible refine Grow.setCell_ ?_ (by first | exact Nat.le_refl _ | (simp only [World.alloc, Array.size_push]; omega) | omega) _))))
  rintro e w1 ⟨rfl, hg⟩
  rw [HZ0.out]
  have G1_w := Lib.hid (hG.trans hg)
  have Ba0 := Lib.hid (((Box.alloc _ _ _).grow hg))
  clear hG hg 
  have ⟨q0a0, q1a0, q2a0, q3a0, q4a0⟩ := Ba0.out.five
  have la0 := Ba0.out.1
  go_wp2_with fail
  refine at_world (w := w1) ?G (fun hG => (to_P _ _ _ (H0.out.grow (G1_w.out.trans hG)) sm0.out).mono ?_)
  case G => ((repeat (first | with_reducible exact Grow.refl _ | (with_reducible refine Grow.alloc_ ?_ _) | (with_reducible refine Grow.setCell_ ?_ (by first | exact Nat.le_refl _ | (simp only [World.alloc, Array.size_push]; omega) | omega) _))))
  rintro e w2 ⟨y0, fpy0, rfl, ho, hf, hg⟩
  clear q0a0 q1a0 q2a0 q3a0 q4a0 la0
  obtain ⟨sa0y0, sc0y0, rfl⟩ := ho.rd.shape
  have Oy0 := Lib.hid ho; have Ry0 := Lib.hid ho.rd; have Fy0 := Lib.hid (hf.older hG); have Yy0 := Lib.hid ho.here
  have G2_w := Lib.hid (G1_w.out.trans (hG.trans hg))
  have Ba0 := Lib.hid (Ba0.out.grow (hG.trans hg))
  clear hG hg ho hf
  go_wp2_with fail
  refine at_world (w := w2) ?G (fun hG => (KS.out _ _ (Ry0.out.grow hG)).mono ?_)
  case G => ((repeat (first | with_reducible exact Grow.refl _ | (with_reducible refine Grow.alloc_ ?_ _) | (with_reducible refine Grow.setCell_ ?_ (by first | exact Nat.le_refl _ | (simp only [World.alloc, Array.size_push]; omega) | omega) _))))
  rintro e w3 ⟨rfl, hg⟩
  have G3_w := Lib.hid (G2_w.out.trans (hG.trans hg))
  have G3_w2 := Lib.hid (hG.trans hg)
  have Ba0 := Lib.hid (Ba0.out.grow (hG.trans hg))
  clear hG hg 
  have ⟨q0a0, q1a0, q2a0, q3a0, q4a0⟩ := Ba0.out.five
  have la0 := Ba0.out.1
  go_wp2_with fail
  refine at_world (w := w3) ?G (fun hG => (to_P _ _ _ (H0.out.grow (G3_w.out.trans hG)) sm0.out).mono ?_)
  case G => ((repeat (first | with_reducible exact Grow.refl _ | (with_reducible refine Grow.alloc_ ?_ _) | (with_reducible refine Grow.setCell_ ?_ (by first | exact Nat.le_refl _ | (simp only [World.alloc, Array.size_push]; omega) | omega) _))))
  rintro e w4 ⟨x0, fpx0, rfl, ho, hf, hg⟩
  clear q0a0 q1a0 q2a0 q3a0 q4a0 la0
  obtain ⟨sa0x0, sc0x0, rfl⟩ := ho.rd.shape
  have Ox0 := Lib.hid ho; have Rx0 := Lib.hid ho.rd; have Fx0 := Lib.hid (hf.older hG); have Yx0 := Lib.hid ho.here
  have G4_w := Lib.hid (G3_w.out.trans (hG.trans hg))
  have Ba0 := Lib.hid (Ba0.out.grow (hG.trans hg))
  clear hG hg ho hf
  go_wp2_with fail
  refine at_world (w := w4) ?G (fun hG => (KI.out _ _ (Rx0.out.grow hG)).mono ?_)
  case G => ((repeat (first | with_reducible exact Grow.refl _ | (with_reducible refine Grow.alloc_ ?_ _) | (with_reducible refine Grow.setCell_ ?_ (by first | exact Nat.le_refl _ | (simp only [World.alloc, Array.size_push]; omega) | omega) _))))
  rintro e w5 ⟨rfl, hg⟩
  have G5_w := Lib.hid (G4_w.out.trans (hG.trans hg))
  have G5_w4 := Lib.hid (hG.trans hg)
  have Ba0 := Lib.hid (Ba0.out.grow (hG.trans hg))
  have Bx0 := Lib.hid (((Box.alloc _ _ _).grow hg))
  clear hG hg 
  go_wp2_with fail
  have hne : Nonempty (Cl (Grow w5)) := ⟨⟨w5, Grow.refl _⟩⟩
  have ⟨p0a0, p1a0, p2a0, p3a0, p4a0⟩ := Ba0.out.five_
  have ⟨p0x0, p1x0, p2x0, p3x0, p4x0⟩ := Bx0.out.five_
  refine wp_region_mix (Cls (Grow w5)) 5 #[false, false, false, false, false] (by kernel_rfl) (by kernel_rfl) ⟨⟨_, Grow.drewN _ 1⟩, rfl⟩ ?_
  refine anyC_seg [0, 1] #[true, true, false, false, false] (fuel := 3) rfl (by kernel_rfl) ⟨⟨_, Grow.drewN _ 1⟩, rfl⟩ ?_
  simp only [pickOps, List.getD_cons_succ, List.getD_cons_zero]
  repeat (go_big_quiet_step (fail))
  refine wpQuiet_nil ?_
  refine anyC_sole 2 #[true, true, true, false, false] (fuel := 2) (by kernel_rfl) ?_
  simp only [List.getD_cons_succ, List.getD_cons_zero]
  go_wp2_with fail
  refine (to_P _ _ _ (H0.out.grow (G5_w.out.trans (Grow.drewN _ 1))) sm0.out).mono ?_
  rintro e w6 ⟨t0, fpt0, rfl, ht, ft, hg⟩
  have Rt0 := Lib.hid ht.rd; have Dw6 := Lib.hid ((Grow.drewN _ 1).trans hg); clear hg ht ft
  go_wp2
  refine ⟨⟨⟨_, Dw6.out⟩, rfl⟩, ?_⟩
  refine anyC_sole 3 #[true, true, true, true, false] (fuel := 1) (by kernel_rfl) ?_
  simp only [List.getD_cons_succ, List.getD_cons_zero]
  go_wp2_with fail
  refine (eq_P _ _ _ _ _ (Rx0.out.grow (G5_w4.out.trans Dw6.out)) Rt0.out).mono ?_
  rintro e w7 ⟨rfl, hg⟩
  have Dw7 := Lib.hid (Dw6.out.trans hg); clear hg
  go_wp2
  refine ⟨⟨⟨_, Dw7.out⟩, rfl⟩, ?_⟩
  refine anyC_seg [4] #[true, true, true, true, true] (fuel := 0) rfl (by kernel_rfl) ⟨⟨_, Dw7.out⟩, rfl⟩ ?_
  simp only [pickOps, List.getD_cons_succ, List.getD_cons_zero]
  repeat (go_big_quiet_step (fail))
  refine wpQuiet_nil ?_
  refine anyC_done (by kernel_rfl) ?_
  clear hne p0a0 p1a0 p2a0 p3a0 p4a0 p0x0 p1x0 p2x0 p3x0 p4x0
  have hG := Grow.refl w5; have hg := Dw7.out
  have G7_w := Lib.hid (G5_w.out.trans (hG.trans hg))
  have G7_w4 := Lib.hid (G5_w4.out.trans (hG.trans hg))
  have Ba0 := Lib.hid (Ba0.out.grow (hG.trans hg))
  have Bx0 := Lib.hid (Bx0.out.grow (hG.trans hg))
  clear hG hg
  go_wp2
  go_ret
  exact ⟨rfl, G7_w.out⟩
--% ipOkS
theorem ipOkS_C (w : World) (v : Value) (d : DatIp) (h : RdIp w v d) (b : WfIp d) (sm : SmIp d) : Calls Try.prog 38 #[v] w (RetV (.bool (ipOk d)) w) := ipOkS w v d h
--% ipOkI
theorem ipOkI_C (w : World) (v : Value) (d : DatIp) (h : RdIp w v d) (b : WfIp d) (sm : SmIp d) : Calls Try.prog 40 #[v] w (RetV (.bool (ipOk d)) w) := ipOkI w v d h
--% walk IpOk
theorem walk_FnExactIpOk (w : World) (v0 : Value) (d0 : DatIp) (h0 : RdIp w v0 d0) (b0 : WfIp d0) :
    Calls Try.prog 7 #[v0] w (RetV (.bool true) w) := by
  obtain ⟨sa0v0, sc0v0, rfl⟩ := h0.shape
  have H0 := Lib.hid h0
  have B0 := Lib.hid b0
  clear h0 b0
  have hp0 : 0 ≤ sizeIp d0 := by unfold sizeIp; omega
  by_cases hz0 : 1048576 < sizeIp d0
  · skip
    have HZ0 := Lib.hid (leftOf_no hz0)
    go_enter Try.func7, Try.ntmps7
    go_wp2_with fail
    refine at_world (w := w) ?G (fun hG => (sz_Ip _ _ _ _ (H0.out.grow hG) (by omega)).mono ?_)
    case G => ((repeat (first | with_reducible exact Grow.refl _ | (with_reducible refine Grow.alloc_ ?_ _) | (with_reducible refine Grow.setCell_ ?_ (by first | exact Nat.le_refl _ | (simp only [World.alloc, Array.size_push]; omega) | omega) _))))
    rintro e w1 ⟨rfl, hg⟩
    rw [HZ0.out]
    have G1_w := Lib.hid (hG.trans hg)
    have Ba0 := Lib.hid (((Box.alloc _ _ _).grow hg))
    clear hG hg 
    go_wp2
    go_ret
    exact ⟨rfl, G1_w.out⟩
  have HZ0 := Lib.hid (leftOf_yes hz0)
  have sm0 : Hid (SmIp d0) := Lib.hid (by unfold SmIp; omega)
  have KS := Lib.hid (fun (w : World) (v0 : Value) (h0 : RdIp w v0 d0) => ipOkS_C w v0 d0 h0 B0.out sm0.out)
  have KI := Lib.hid (fun (w : World) (v0 : Value) (h0 : RdIp w v0 d0) => ipOkI_C w v0 d0 h0 B0.out sm0.out)
  generalize ipOk d0 = R at *
  go_enter Try.func7, Try.ntmps7
  go_wp2_with fail
  refine at_world (w := w) ?G (fun hG => (sz_Ip _ _ _ _ (H0.out.grow hG) (by omega)).mono ?_)
  case G => ((repeat (first | with_reducible exact Grow.refl _ | (with_reducible refine Grow.alloc_ ?_ _) | (with_reducible refine Grow.setCell_ ?_ (by first | exact Nat.le_refl _ | (simp only [World.alloc, Array.size_push]; omega) | omega) _))))
  rintro e w1 ⟨rfl, hg⟩
  rw [HZ0.out]
  have G1_w := Lib.hid (hG.trans hg)
  have Ba0 := Lib.hid (((Box.alloc _ _ _).grow hg))
  clear hG hg 
  have ⟨q0a0, q1a0, q2a0, q3a0, q4a0⟩ := Ba0.out.five
  have la0 := Ba0.out.1
  go_wp2_with fail
  refine at_world (w := w1) ?G (fun hG => (to_Ip _ _ _ (H0.out.grow (G1_w.out.trans hG)) sm0.out).mono ?_)
  case G => ((repeat (first | with_reducible exact Grow.refl _ | (with_reducible refine Grow.alloc_ ?_ _) | (with_reducible refine Grow.setCell_ ?_ (by first | exact Nat.le_refl _ | (simp only [World.alloc, Array.size_push]; omega) | omega) _))))
  rintro e w2 ⟨y0, fpy0, rfl, ho, hf, hg⟩
  clear q0a0 q1a0 q2a0 q3a0 q4a0 la0
  obtain ⟨sa0y0, sc0y0, rfl⟩ := ho.rd.shape
  have Oy0 := Lib.hid ho; have Ry0 := Lib.hid ho.rd; have Fy0 := Lib.hid (hf.older hG); have Yy0 := Lib.hid ho.here
  have G2_w := Lib.hid (G1_w.out.trans (hG.trans hg))
  have Ba0 := Lib.hid (Ba0.out.grow (hG.trans hg))
  clear hG hg ho hf
  go_wp2_with fail
  refine at_world (w := w2) ?G (fun hG => (KS.out _ _ (Ry0.out.grow hG)).mono ?_)
  case G => ((repeat (first | with_reducible exact Grow.refl _ | (with_reducible refine Grow.alloc_ ?_ _) | (with_reducible refine Grow.setCell_ ?_ (by first | exact Nat.le_refl _ | (simp only [World.alloc, Array.size_push]; omega) | omega) _))))
  rintro e w3 ⟨rfl, hg⟩
  have G3_w := Lib.hid (G2_w.out.trans (hG.trans hg))
  have G3_w2 := Lib.hid (hG.trans hg)
  have Ba0 := Lib.hid (Ba0.out.grow (hG.trans hg))
  clear hG hg 
  have ⟨q0a0, q1a0, q2a0, q3a0, q4a0⟩ := Ba0.out.five
  have la0 := Ba0.out.1
  go_wp2_with fail
  refine at_world (w := w3) ?G (fun hG => (to_Ip _ _ _ (H0.out.grow (G3_w.out.trans hG)) sm0.out).mono ?_)
  case G => ((repeat (first | with_reducible exact Grow.refl _ | (with_reducible refine Grow.alloc_ ?_ _) | (with_reducible refine Grow.setCell_ ?_ (by first | exact Nat.le_refl _ | (simp only [World.alloc, Array.size_push]; omega) | omega) _))))
  rintro e w4 ⟨x0, fpx0, rfl, ho, hf, hg⟩
  clear q0a0 q1a0 q2a0 q3a0 q4a0 la0
  obtain ⟨sa0x0, sc0x0, rfl⟩ := ho.rd.shape
  have Ox0 := Lib.hid ho; have Rx0 := Lib.hid ho.rd; have Fx0 := Lib.hid (hf.older hG); have Yx0 := Lib.hid ho.here
  have G4_w := Lib.hid (G3_w.out.trans (hG.trans hg))
  have Ba0 := Lib.hid (Ba0.out.grow (hG.trans hg))
  clear hG hg ho hf
  go_wp2_with fail
  refine at_world (w := w4) ?G (fun hG => (KI.out _ _ (Rx0.out.grow hG)).mono ?_)
  case G => ((repeat (first | with_reducible exact Grow.refl _ | (with_reducible refine Grow.alloc_ ?_ _) | (with_reducible refine Grow.setCell_ ?_ (by first | exact Nat.le_refl _ | (simp only [World.alloc, Array.size_push]; omega) | omega) _))))
  rintro e w5 ⟨rfl, hg⟩
  have G5_w := Lib.hid (G4_w.out.trans (hG.trans hg))
  have G5_w4 := Lib.hid (hG.trans hg)
  have Ba0 := Lib.hid (Ba0.out.grow (hG.trans hg))
  have Bx0 := Lib.hid (((Box.alloc _ _ _).grow hg))
  clear hG hg 
  go_wp2_with fail
  have hne : Nonempty (Cl (Grow w5)) := ⟨⟨w5, Grow.refl _⟩⟩
  have ⟨p0a0, p1a0, p2a0, p3a0, p4a0⟩ := Ba0.out.five_
  have ⟨p0x0, p1x0, p2x0, p3x0, p4x0⟩ := Bx0.out.five_
  refine wp_region_mix (Cls (Grow w5)) 5 #[false, false, false, false, false] (by kernel_rfl) (by kernel_rfl) ⟨⟨_, Grow.drewN _ 1⟩, rfl⟩ ?_
  refine anyC_seg [0, 1] #[true, true, false, false, false] (fuel := 3) rfl (by kernel_rfl) ⟨⟨_, Grow.drewN _ 1⟩, rfl⟩ ?_
  simp only [pickOps, List.getD_cons_succ, List.getD_cons_zero]
  repeat (go_big_quiet_step (fail))
  refine wpQuiet_nil ?_
  refine anyC_sole 2 #[true, true, true, false, false] (fuel := 2) (by kernel_rfl) ?_
  simp only [List.getD_cons_succ, List.getD_cons_zero]
  go_wp2_with fail
  refine (to_Ip _ _ _ (H0.out.grow (G5_w.out.trans (Grow.drewN _ 1))) sm0.out).mono ?_
  rintro e w6 ⟨t0, fpt0, rfl, ht, ft, hg⟩
  have Rt0 := Lib.hid ht.rd; have Dw6 := Lib.hid ((Grow.drewN _ 1).trans hg); clear hg ht ft
  go_wp2
  refine ⟨⟨⟨_, Dw6.out⟩, rfl⟩, ?_⟩
  refine anyC_sole 3 #[true, true, true, true, false] (fuel := 1) (by kernel_rfl) ?_
  simp only [List.getD_cons_succ, List.getD_cons_zero]
  go_wp2_with fail
  refine (eq_Ip _ _ _ _ _ (Rx0.out.grow (G5_w4.out.trans Dw6.out)) Rt0.out).mono ?_
  rintro e w7 ⟨rfl, hg⟩
  have Dw7 := Lib.hid (Dw6.out.trans hg); clear hg
  go_wp2
  refine ⟨⟨⟨_, Dw7.out⟩, rfl⟩, ?_⟩
  refine anyC_seg [4] #[true, true, true, true, true] (fuel := 0) rfl (by kernel_rfl) ⟨⟨_, Dw7.out⟩, rfl⟩ ?_
  simp only [pickOps, List.getD_cons_succ, List.getD_cons_zero]
  repeat (go_big_quiet_step (fail))
  refine wpQuiet_nil ?_
  refine anyC_done (by kernel_rfl) ?_
  clear hne p0a0 p1a0 p2a0 p3a0 p4a0 p0x0 p1x0 p2x0 p3x0 p4x0
  have hG := Grow.refl w5; have hg := Dw7.out
  have G7_w := Lib.hid (G5_w.out.trans (hG.trans hg))
  have G7_w4 := Lib.hid (G5_w4.out.trans (hG.trans hg))
  have Ba0 := Lib.hid (Ba0.out.grow (hG.trans hg))
  have Bx0 := Lib.hid (Bx0.out.grow (hG.trans hg))
  clear hG hg
  go_wp2
  go_ret
  exact ⟨rfl, G7_w.out⟩
--% udOkS
theorem udOkS_C (w : World) (v : Value) (d : DatU) (h : RdU w v d) (b : WfU d) (sm : SmU d) : Calls Try.prog 51 #[v] w (RetV (.bool (udOk d)) w) := udOkS w v d h
--% udOkI
theorem udOkI_C (w : World) (v : Value) (d : DatU) (h : RdU w v d) (b : WfU d) (sm : SmU d) : Calls Try.prog 53 #[v] w (RetV (.bool (udOk d)) w) := udOkI w v d h
--% walk UdpOk
theorem walk_FnExactUdpOk (w : World) (v0 : Value) (d0 : DatU) (h0 : RdU w v0 d0) (b0 : WfU d0) :
    Calls Try.prog 11 #[v0] w (RetV (.bool true) w) := by
  obtain ⟨sa0v0, sc0v0, rfl⟩ := h0.shape
  have H0 := Lib.hid h0
  have B0 := Lib.hid b0
  clear h0 b0
  have hp0 : 0 ≤ sizeU d0 := by unfold sizeU; omega
  by_cases hz0 : 1048576 < sizeU d0
  · skip
    have HZ0 := Lib.hid (leftOf_no hz0)
    go_enter Try.func11, Try.ntmps11
    go_wp2_with fail
    refine at_world (w := w) ?G (fun hG => (sz_U _ _ _ _ (H0.out.grow hG) (by omega)).mono ?_)
    case G => ((repeat (first | with_reducible exact Grow.refl _ | (with_reducible refine Grow.alloc_ ?_ _) | (with_reducible refine Grow.setCell_ ?_ (by first | exact Nat.le_refl _ | (simp only [World.alloc, Array.size_push]; omega) | omega) _))))
    rintro e w1 ⟨rfl, hg⟩
    rw [HZ0.out]
    have G1_w := Lib.hid (hG.trans hg)
    have Ba0 := Lib.hid (((Box.alloc _ _ _).grow hg))
    clear hG hg 
    go_wp2
    go_ret
    exact ⟨rfl, G1_w.out⟩
  have HZ0 := Lib.hid (leftOf_yes hz0)
  have sm0 : Hid (SmU d0) := Lib.hid (by unfold SmU; omega)
  have KS := Lib.hid (fun (w : World) (v0 : Value) (h0 : RdU w v0 d0) => udOkS_C w v0 d0 h0 B0.out sm0.out)
  have KI := Lib.hid (fun (w : World) (v0 : Value) (h0 : RdU w v0 d0) => udOkI_C w v0 d0 h0 B0.out sm0.out)
  generalize udOk d0 = R at *
  go_enter Try.func11, Try.ntmps11
  go_wp2_with fail
  refine at_world (w := w) ?G (fun hG => (sz_U _ _ _ _ (H0.out.grow hG) (by omega)).mono ?_)
  case G => ((repeat (first | with_reducible exact Grow.refl _ | (with_reducible refine Grow.alloc_ ?_ _) | (with_reducible refine Grow.setCell_ ?_ (by first | exact Nat.le_refl _ | (simp only [World.alloc, Array.size_push]; omega) | omega) _))))
  rintro e w1 ⟨rfl, hg⟩
  rw [HZ0.out]
  have G1_w := Lib.hid (hG.trans hg)
  have Ba0 := Lib.hid (((Box.alloc _ _ _).grow hg))
  clear hG hg 
  have ⟨q0a0, q1a0, q2a0⟩ := Ba0.out.three
  have la0 := Ba0.out.1
  go_wp2_with fail
  refine at_world (w := w1) ?G (fun hG => (to_U _ _ _ (H0.out.grow (G1_w.out.trans hG)) sm0.out).mono ?_)
  case G => ((repeat (first | with_reducible exact Grow.refl _ | (with_reducible refine Grow.alloc_ ?_ _) | (with_reducible refine Grow.setCell_ ?_ (by first | exact Nat.le_refl _ | (simp only [World.alloc, Array.size_push]; omega) | omega) _))))
  rintro e w2 ⟨y0, fpy0, rfl, ho, hf, hg⟩
  clear q0a0 q1a0 q2a0 la0
  obtain ⟨sa0y0, sc0y0, rfl⟩ := ho.rd.shape
  have Oy0 := Lib.hid ho; have Ry0 := Lib.hid ho.rd; have Fy0 := Lib.hid (hf.older hG); have Yy0 := Lib.hid ho.here
  have G2_w := Lib.hid (G1_w.out.trans (hG.trans hg))
  have Ba0 := Lib.hid (Ba0.out.grow (hG.trans hg))
  clear hG hg ho hf
  go_wp2_with fail
  refine at_world (w := w2) ?G (fun hG => (KS.out _ _ (Ry0.out.grow hG)).mono ?_)
  case G => ((repeat (first | with_reducible exact Grow.refl _ | (with_reducible refine Grow.alloc_ ?_ _) | (with_reducible refine Grow.setCell_ ?_ (by first | exact Nat.le_refl _ | (simp only [World.alloc, Array.size_push]; omega) | omega) _))))
  rintro e w3 ⟨rfl, hg⟩
  have G3_w := Lib.hid (G2_w.out.trans (hG.trans hg))
  have G3_w2 := Lib.hid (hG.trans hg)
  have Ba0 := Lib.hid (Ba0.out.grow (hG.trans hg))
  clear hG hg 
  have ⟨q0a0, q1a0, q2a0⟩ := Ba0.out.three
  have la0 := Ba0.out.1
  go_wp2_with fail
  refine at_world (w := w3) ?G (fun hG => (to_U _ _ _ (H0.out.grow (G3_w.out.trans hG)) sm0.out).mono ?_)
  case G => ((repeat (first | with_reducible exact Grow.refl _ | (with_reducible refine Grow.alloc_ ?_ _) | (with_reducible refine Grow.setCell_ ?_ (by first | exact Nat.le_refl _ | (simp only [World.alloc, Array.size_push]; omega) | omega) _))))
  rintro e w4 ⟨x0, fpx0, rfl, ho, hf, hg⟩
  clear q0a0 q1a0 q2a0 la0
  obtain ⟨sa0x0, sc0x0, rfl⟩ := ho.rd.shape
  have Ox0 := Lib.hid ho; have Rx0 := Lib.hid ho.rd; have Fx0 := Lib.hid (hf.older hG); have Yx0 := Lib.hid ho.here
  have G4_w := Lib.hid (G3_w.out.trans (hG.trans hg))
  have Ba0 := Lib.hid (Ba0.out.grow (hG.trans hg))
  clear hG hg ho hf
  go_wp2_with fail
  refine at_world (w := w4) ?G (fun hG => (KI.out _ _ (Rx0.out.grow hG)).mono ?_)
  case G => ((repeat (first | with_reducible exact Grow.refl _ | (with_reducible refine Grow.alloc_ ?_ _) | (with_reducible refine Grow.setCell_ ?_ (by first | exact Nat.le_refl _ | (simp only [World.alloc, Array.size_push]; omega) | omega) _))))
  rintro e w5 ⟨rfl, hg⟩
  have G5_w := Lib.hid (G4_w.out.trans (hG.trans hg))
  have G5_w4 := Lib.hid (hG.trans hg)
  have Ba0 := Lib.hid (Ba0.out.grow (hG.trans hg))
  have Bx0 := Lib.hid (((Box.alloc _ _ _).grow hg))
  clear hG hg 
  go_wp2_with fail
  have hne : Nonempty (Cl (Grow w5)) := ⟨⟨w5, Grow.refl _⟩⟩
  have ⟨p0a0, p1a0, p2a0⟩ := Ba0.out.three_
  have ⟨p0x0, p1x0, p2x0⟩ := Bx0.out.three_
  refine wp_region_mix (Cls (Grow w5)) 5 #[false, false, false, false, false] (by kernel_rfl) (by kernel_rfl) ⟨⟨_, Grow.drewN _ 1⟩, rfl⟩ ?_
  refine anyC_seg [0, 1] #[true, true, false, false, false] (fuel := 3) rfl (by kernel_rfl) ⟨⟨_, Grow.drewN _ 1⟩, rfl⟩ ?_
  simp only [pickOps, List.getD_cons_succ, List.getD_cons_zero]
  repeat (go_big_quiet_step (fail))
  refine wpQuiet_nil ?_
  refine anyC_sole 2 #[true, true, true, false, false] (fuel := 2) (by kernel_rfl) ?_
  simp only [List.getD_cons_succ, List.getD_cons_zero]
  go_wp2_with fail
  refine (to_U _ _ _ (H0.out.grow (G5_w.out.trans (Grow.drewN _ 1))) sm0.out).mono ?_
  rintro e w6 ⟨t0, fpt0, rfl, ht, ft, hg⟩
  have Rt0 := Lib.hid ht.rd; have Dw6 := Lib.hid ((Grow.drewN _ 1).trans hg); clear hg ht ft
  go_wp2
  refine ⟨⟨⟨_, Dw6.out⟩, rfl⟩, ?_⟩
  refine anyC_sole 3 #[true, true, true, true, false] (fuel := 1) (by kernel_rfl) ?_
  simp only [List.getD_cons_succ, List.getD_cons_zero]
  go_wp2_with fail
  refine (eq_U _ _ _ _ _ (Rx0.out.grow (G5_w4.out.trans Dw6.out)) Rt0.out).mono ?_
  rintro e w7 ⟨rfl, hg⟩
  have Dw7 := Lib.hid (Dw6.out.trans hg); clear hg
  go_wp2
  refine ⟨⟨⟨_, Dw7.out⟩, rfl⟩, ?_⟩
  refine anyC_seg [4] #[true, true, true, true, true] (fuel := 0) rfl (by kernel_rfl) ⟨⟨_, Dw7.out⟩, rfl⟩ ?_
  simp only [pickOps, List.getD_cons_succ, List.getD_cons_zero]
  repeat (go_big_quiet_step (fail))
  refine wpQuiet_nil ?_
  refine anyC_done (by kernel_rfl) ?_
  clear hne p0a0 p1a0 p2a0 p0x0 p1x0 p2x0
  have hG := Grow.refl w5; have hg := Dw7.out
  have G7_w := Lib.hid (G5_w.out.trans (hG.trans hg))
  have G7_w4 := Lib.hid (G5_w4.out.trans (hG.trans hg))
  have Ba0 := Lib.hid (Ba0.out.grow (hG.trans hg))
  have Bx0 := Lib.hid (Bx0.out.grow (hG.trans hg))
  clear hG hg
  go_wp2
  go_ret
  exact ⟨rfl, G7_w.out⟩
--%
end Go.Proofs.Ytcldfodnblkeiaa
