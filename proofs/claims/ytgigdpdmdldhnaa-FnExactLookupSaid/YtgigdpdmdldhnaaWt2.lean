/- walk of the law on a look into a table -/
import Derived.Test.YtgigdpdmdldhnaaWt1
import Derived.Test.YtgigdpdmdldhnaaLk
import Derived.WalkKit
import Derived.ProofKit
import Derived.OpenShut
import Derived.ShutString
import Derived.ChangeOld
import Derived.Below
import Derived.SizedLaws
import Derived.WalkSpells
import Derived.Deep.QuietTactic
import Derived.BigQuiet
import Derived.Outline
namespace Go.Proofs.Ytgigdpdmdldhnaa
open Go.ChangeShapes Go.WideShapes Go.ChangeAt Go.RowKit
open Go.ChangeMaps (open_string shut_string)
set_option linter.unusedVariables false
set_option linter.unusedSimpArgs false
--% lookupSC
theorem lookupS_C (w : World) (v : Value) (d : DatT) (h : RdT w v d) (b : WfT d) (n : Int) (hn : -9223372036854775808 ≤ n ∧ n ≤ 9223372036854775807) (u : Value) (hd : DatH) (h2 : RdH w u hd) (b2 : WfH hd) (sm : SmT d) (sm2 : SmH hd) : Calls Try.prog 57 #[v, .int .i64 n, u] w (RetV (.int .i64 (lkF d n hd)) w) := lookupS_any w v u d n hd h h2 b b2
--% lookupIC
theorem lookupI_C (w : World) (v : Value) (d : DatT) (h : RdT w v d) (b : WfT d) (n : Int) (hn : -9223372036854775808 ≤ n ∧ n ≤ 9223372036854775807) (u : Value) (hd : DatH) (h2 : RdH w u hd) (b2 : WfH hd) (sm : SmT d) (sm2 : SmH hd) : Calls Try.prog 58 #[v, .int .i64 n, u] w (RetV (.int .i64 (lkF d n hd)) w) := lookupI_any w v u d n hd h h2 b b2
--% walk Lookup
theorem walk_FnExactLookup (w : World) (v0 : Value) (d0 : DatT) (h0 : RdT w v0 d0) (b0 : WfT d0) (n1 : Int) (hn1 : -9223372036854775808 ≤ n1 ∧ n1 ≤ 9223372036854775807) (v2 : Value) (d2 : DatH) (h2 : RdH w v2 d2) (b2 : WfH d2) :
    Calls Try.prog 12 #[v0, .int .i64 n1, v2] w (RetV (.bool true) w) := by
  obtain ⟨sa0v0, sc0v0, rfl⟩ := h0.shape
  have H0 := Lib.hid h0
  have B0 := Lib.hid b0
  clear h0 b0
  obtain ⟨sa0v2, sc0v2, rfl⟩ := h2.shape
  have H2 := Lib.hid h2
  have B2 := Lib.hid b2
  clear h2 b2
  have hp0 : 0 ≤ sizeT d0 := by have := sumE_nn d0.es; unfold sizeT sizeES; omega
  have hp2 : 0 ≤ sizeH d2 := by unfold sizeH; omega
  by_cases hz0 : 1048576 < sizeT d0
  · skip
    have HZ0 := Lib.hid (leftOf_no hz0)
    go_enter Try.func12, Try.ntmps12
    go_wp2_with fail
    refine at_call (w := w) ?G (fun hG => (sz_T _ _ _ _ (H0.out.grow hG) (by omega)).mono ?_)
    case G => ((repeat (first | with_reducible exact Grow.refl _ | (with_reducible refine Grow.alloc_ ?_ _) | (with_reducible refine Grow.setCell_ ?_ (by first | exact Nat.le_refl _ | (simp only [World.alloc, Array.size_push]; omega) | omega) _))))
    rintro e w1 ⟨rfl, hg⟩
    rw [HZ0.out]
    have G1_w := Lib.hid (hG.trans hg)
    have Ba0 := Lib.hid (((Box.alloc _ _ _).grow ((Grow.alloc _ _).trans hg)))
    have Ba2 := Lib.hid (((Box.alloc _ _ _).grow hg).at_ (b' := w.heap.size + 1) (by simp only [World.alloc, Array.size_push]))
    clear hG hg 
    go_wp2
    go_ret
    exact ⟨rfl, G1_w.out⟩
  have HZ0 := Lib.hid (leftOf_yes hz0)
  by_cases hz2 : 1048576 - sizeT d0 < sizeH d2
  · skip
    have HZ2 := Lib.hid (leftOf_no hz2)
    go_enter Try.func12, Try.ntmps12
    go_wp2_with fail
    refine at_call (w := w) ?G (fun hG => (sz_T _ _ _ _ (H0.out.grow hG) (by omega)).mono ?_)
    case G => ((repeat (first | with_reducible exact Grow.refl _ | (with_reducible refine Grow.alloc_ ?_ _) | (with_reducible refine Grow.setCell_ ?_ (by first | exact Nat.le_refl _ | (simp only [World.alloc, Array.size_push]; omega) | omega) _))))
    rintro e w1 ⟨rfl, hg⟩
    rw [HZ0.out]
    have G1_w := Lib.hid (hG.trans hg)
    have Ba0 := Lib.hid (((Box.alloc _ _ _).grow ((Grow.alloc _ _).trans hg)))
    have Ba2 := Lib.hid (((Box.alloc _ _ _).grow hg).at_ (b' := w.heap.size + 1) (by simp only [World.alloc, Array.size_push]))
    clear hG hg 
    have q0a2 := Ba2.out.one
    have la2 := Ba2.out.1
    go_wp2_with fail
    refine at_call (w := w1) ?G (fun hG => (sz_H _ _ _ _ (H2.out.grow (G1_w.out.trans hG)) (by omega)).mono ?_)
    case G => ((repeat (first | with_reducible exact Grow.refl _ | (with_reducible refine Grow.alloc_ ?_ _) | (with_reducible refine Grow.setCell_ ?_ (by first | exact Nat.le_refl _ | (simp only [World.alloc, Array.size_push]; omega) | omega) _))))
    rintro e w2 ⟨rfl, hg⟩
    clear q0a2 la2
    rw [HZ2.out]
    have G2_w := Lib.hid (G1_w.out.trans (hG.trans hg))
    have Ba0 := Lib.hid (Ba0.out.grow (hG.trans hg))
    have Ba2 := Lib.hid (Ba2.out.grow (hG.trans hg))
    clear hG hg 
    go_wp2
    go_ret
    exact ⟨rfl, G2_w.out⟩
  have HZ2 := Lib.hid (leftOf_yes hz2)
  have sm0 : Hid (SmT d0) := Lib.hid (by unfold SmT; omega)
  have sm2 : Hid (SmH d2) := Lib.hid (by unfold SmH; omega)
  have KS := Lib.hid (fun (w : World) (v0 : Value) (h0 : RdT w v0 d0) (v2 : Value) (h2 : RdH w v2 d2) => lookupS_C w v0 d0 h0 B0.out n1 hn1 v2 d2 h2 B2.out sm0.out sm2.out)
  have KI := Lib.hid (fun (w : World) (v0 : Value) (h0 : RdT w v0 d0) (v2 : Value) (h2 : RdH w v2 d2) => lookupI_C w v0 d0 h0 B0.out n1 hn1 v2 d2 h2 B2.out sm0.out sm2.out)
  generalize lkF d0 n1 d2 = R at *
  go_enter Try.func12, Try.ntmps12
  go_wp2_with fail
  refine at_call (w := w) ?G (fun hG => (sz_T _ _ _ _ (H0.out.grow hG) (by omega)).mono ?_)
  case G => ((repeat (first | with_reducible exact Grow.refl _ | (with_reducible refine Grow.alloc_ ?_ _) | (with_reducible refine Grow.setCell_ ?_ (by first | exact Nat.le_refl _ | (simp only [World.alloc, Array.size_push]; omega) | omega) _))))
  rintro e w1 ⟨rfl, hg⟩
  rw [HZ0.out]
  have G1_w := Lib.hid (hG.trans hg)
  have Ba0 := Lib.hid (((Box.alloc _ _ _).grow ((Grow.alloc _ _).trans hg)))
  have Ba2 := Lib.hid (((Box.alloc _ _ _).grow hg).at_ (b' := w.heap.size + 1) (by simp only [World.alloc, Array.size_push]))
  clear hG hg 
  have q0a2 := Ba2.out.one
  have la2 := Ba2.out.1
  go_wp2_with fail
  refine at_call (w := w1) ?G (fun hG => (sz_H _ _ _ _ (H2.out.grow (G1_w.out.trans hG)) (by omega)).mono ?_)
  case G => ((repeat (first | with_reducible exact Grow.refl _ | (with_reducible refine Grow.alloc_ ?_ _) | (with_reducible refine Grow.setCell_ ?_ (by first | exact Nat.le_refl _ | (simp only [World.alloc, Array.size_push]; omega) | omega) _))))
  rintro e w2 ⟨rfl, hg⟩
  clear q0a2 la2
  rw [HZ2.out]
  have G2_w := Lib.hid (G1_w.out.trans (hG.trans hg))
  have Ba0 := Lib.hid (Ba0.out.grow (hG.trans hg))
  have Ba2 := Lib.hid (Ba2.out.grow (hG.trans hg))
  clear hG hg 
  go_wp2_with fail
  have hne : Nonempty (Cl (Grow w2)) := ⟨⟨w2, Grow.refl _⟩⟩
  have ⟨p0a0, p1a0⟩ := Ba0.out.two_
  have p0a2 := Ba2.out.one_
  refine wp_region_mix (Cls (Grow w2)) 7 #[false, false, false, false, false, false, false] (by kernel_rfl) (by kernel_rfl) ⟨⟨_, Grow.drewN _ 1⟩, rfl⟩ ?_
  refine anyC_seg [0, 2, 3] #[true, false, true, true, false, false, false] (fuel := 4) rfl (by kernel_rfl) ⟨⟨_, Grow.drewN _ 1⟩, rfl⟩ ?_
  simp only [pickOps, List.getD_cons_succ, List.getD_cons_zero]
  repeat (go_big_quiet_step (fail))
  refine wpQuiet_nil ?_
  refine anyC_sole 1 #[true, true, true, true, false, false, false] (fuel := 3) (by kernel_rfl) ?_
  simp only [List.getD_cons_succ, List.getD_cons_zero]
  go_wp2_with fail
  refine (to_T _ _ _ (H0.out.grow (G2_w.out.trans (Grow.drewN _ 1))) sm0.out).mono ?_
  rintro e w3 ⟨y0, fpy0, rfl, ht, ft, hg⟩
  have Ry0 := Lib.hid ht.rd; have Dw3 := Lib.hid ((Grow.drewN _ 1).trans hg); have Ew3 := Lib.hid hg; clear hg ht ft
  go_wp2
  refine ⟨⟨⟨_, Dw3.out⟩, rfl⟩, ?_⟩
  refine anyC_sole 4 #[true, true, true, true, true, false, false] (fuel := 2) (by kernel_rfl) ?_
  simp only [List.getD_cons_succ, List.getD_cons_zero]
  go_wp2_with fail
  refine (to_H _ _ _ (H2.out.grow (G2_w.out.trans Dw3.out)) sm2.out).mono ?_
  rintro e w4 ⟨y2, fpy2, rfl, ht, ft, hg⟩
  have Ry2 := Lib.hid ht.rd; have Dw4 := Lib.hid (Dw3.out.trans hg); have Ew4 := Lib.hid hg; clear hg ht ft
  go_wp2
  refine ⟨⟨⟨_, Dw4.out⟩, rfl⟩, ?_⟩
  refine anyC_sole 5 #[true, true, true, true, true, true, false] (fuel := 1) (by kernel_rfl) ?_
  simp only [List.getD_cons_succ, List.getD_cons_zero]
  go_wp2_with fail
  refine (KS.out _ _ (Ry0.out.grow Ew4.out) _ Ry2.out).mono ?_
  rintro e w5 ⟨rfl, hg⟩
  have Dw5 := Lib.hid (Dw4.out.trans hg); clear hg
  go_wp2
  refine ⟨⟨⟨_, Dw5.out⟩, rfl⟩, ?_⟩
  refine anyC_seg [6] #[true, true, true, true, true, true, true] (fuel := 0) rfl (by kernel_rfl) ⟨⟨_, Dw5.out⟩, rfl⟩ ?_
  simp only [pickOps, List.getD_cons_succ, List.getD_cons_zero]
  repeat (go_big_quiet_step (fail))
  refine wpQuiet_nil ?_
  refine anyC_done (by kernel_rfl) ?_
  clear hne p0a0 p1a0 p0a2
  have hG := Grow.refl w2; have hg := Dw5.out
  have G5_w := Lib.hid (G2_w.out.trans (hG.trans hg))
  have Ba0 := Lib.hid (Ba0.out.grow (hG.trans hg))
  have Ba2 := Lib.hid (Ba2.out.grow (hG.trans hg))
  clear hG hg
  have ⟨q0a0, q1a0⟩ := Ba0.out.two
  have la0 := Ba0.out.1
  go_wp2_with fail
  refine at_call (w := w5) ?G (fun hG => (to_T _ _ _ (H0.out.grow (G5_w.out.trans hG)) sm0.out).mono ?_)
  case G => ((repeat (first | with_reducible exact Grow.refl _ | (with_reducible refine Grow.alloc_ ?_ _) | (with_reducible refine Grow.setCell_ ?_ (by first | exact Nat.le_refl _ | (simp only [World.alloc, Array.size_push]; omega) | omega) _))))
  rintro e w6 ⟨x0, fpx0, rfl, ho, hf, hg⟩
  clear q0a0 q1a0 la0
  obtain ⟨sa0x0, sc0x0, rfl⟩ := ho.rd.shape
  have Ox0 := Lib.hid ho; have Rx0 := Lib.hid ho.rd; have Fx0 := Lib.hid (hf.older hG); have Yx0 := Lib.hid ho.here
  have G6_w := Lib.hid (G5_w.out.trans (hG.trans hg))
  have Ba0 := Lib.hid (Ba0.out.grow (hG.trans hg))
  have Ba2 := Lib.hid (Ba2.out.grow (hG.trans hg))
  clear hG hg ho hf
  have q0a2 := Ba2.out.one
  have la2 := Ba2.out.1
  go_wp2_with fail
  refine at_call (w := w6) ?G (fun hG => (to_H _ _ _ (H2.out.grow (G6_w.out.trans hG)) sm2.out).mono ?_)
  case G => ((repeat (first | with_reducible exact Grow.refl _ | (with_reducible refine Grow.alloc_ ?_ _) | (with_reducible refine Grow.setCell_ ?_ (by first | exact Nat.le_refl _ | (simp only [World.alloc, Array.size_push]; omega) | omega) _))))
  rintro e w7 ⟨x2, fpx2, rfl, ho, hf, hg⟩
  clear q0a2 la2
  obtain ⟨sa0x2, sc0x2, rfl⟩ := ho.rd.shape
  have Ox2 := Lib.hid ho; have Rx2 := Lib.hid ho.rd; have Fx2 := Lib.hid (hf.older hG); have Yx2 := Lib.hid ho.here
  have G7_w := Lib.hid (G6_w.out.trans (hG.trans hg))
  have G7_w6 := Lib.hid (hG.trans hg)
  have Ba0 := Lib.hid (Ba0.out.grow (hG.trans hg))
  have Ba2 := Lib.hid (Ba2.out.grow (hG.trans hg))
  have Bx0 := Lib.hid (((Box.alloc _ _ _).grow hg))
  clear hG hg ho hf
  have ⟨q0x0, q1x0⟩ := Bx0.out.two
  have lx0 := Bx0.out.1
  go_wp2_with fail
  refine at_call (w := w7) ?G (fun hG => (KI.out _ _ (Rx0.out.grow (G7_w6.out.trans hG)) _ (Rx2.out.grow hG)).mono ?_)
  case G => ((repeat (first | with_reducible exact Grow.refl _ | (with_reducible refine Grow.alloc_ ?_ _) | (with_reducible refine Grow.setCell_ ?_ (by first | exact Nat.le_refl _ | (simp only [World.alloc, Array.size_push]; omega) | omega) _))))
  rintro e w8 ⟨rfl, hg⟩
  clear q0x0 q1x0 lx0
  have G8_w := Lib.hid (G7_w.out.trans (hG.trans hg))
  have G8_w6 := Lib.hid (G7_w6.out.trans (hG.trans hg))
  have G8_w7 := Lib.hid (hG.trans hg)
  have Ba0 := Lib.hid (Ba0.out.grow (hG.trans hg))
  have Ba2 := Lib.hid (Ba2.out.grow (hG.trans hg))
  have Bx0 := Lib.hid (Bx0.out.grow (hG.trans hg))
  have Bx2 := Lib.hid (((Box.alloc _ _ _).grow hg))
  clear hG hg 
  go_wp2_with fail
  have hne : Nonempty (Cl (Grow w8)) := ⟨⟨w8, Grow.refl _⟩⟩
  have ⟨p0a0, p1a0⟩ := Ba0.out.two_
  have ⟨p0x0, p1x0⟩ := Bx0.out.two_
  refine wp_region_mix (Cls (Grow w8)) 5 #[false, false, false, false, false] (by kernel_rfl) (by kernel_rfl) ⟨⟨_, Grow.drewN _ 1⟩, rfl⟩ ?_
  refine anyC_seg [0, 1] #[true, true, false, false, false] (fuel := 3) rfl (by kernel_rfl) ⟨⟨_, Grow.drewN _ 1⟩, rfl⟩ ?_
  simp only [pickOps, List.getD_cons_succ, List.getD_cons_zero]
  repeat (go_big_quiet_step (fail))
  refine wpQuiet_nil ?_
  refine anyC_sole 2 #[true, true, true, false, false] (fuel := 2) (by kernel_rfl) ?_
  simp only [List.getD_cons_succ, List.getD_cons_zero]
  go_wp2_with fail
  refine (to_T _ _ _ (H0.out.grow (G8_w.out.trans (Grow.drewN _ 1))) sm0.out).mono ?_
  rintro e w9 ⟨t0, fpt0, rfl, ht, ft, hg⟩
  have Rt0 := Lib.hid ht.rd; have Dw9 := Lib.hid ((Grow.drewN _ 1).trans hg); clear hg ht ft
  go_wp2
  refine ⟨⟨⟨_, Dw9.out⟩, rfl⟩, ?_⟩
  refine anyC_sole 3 #[true, true, true, true, false] (fuel := 1) (by kernel_rfl) ?_
  simp only [List.getD_cons_succ, List.getD_cons_zero]
  go_wp2_with fail
  refine (eq_T _ _ _ _ _ (Rx0.out.grow (G8_w6.out.trans Dw9.out)) Rt0.out).mono ?_
  rintro e w10 ⟨rfl, hg⟩
  have Dw10 := Lib.hid (Dw9.out.trans hg); clear hg
  go_wp2
  refine ⟨⟨⟨_, Dw10.out⟩, rfl⟩, ?_⟩
  refine anyC_seg [4] #[true, true, true, true, true] (fuel := 0) rfl (by kernel_rfl) ⟨⟨_, Dw10.out⟩, rfl⟩ ?_
  simp only [pickOps, List.getD_cons_succ, List.getD_cons_zero]
  repeat (go_big_quiet_step (fail))
  refine wpQuiet_nil ?_
  refine anyC_done (by kernel_rfl) ?_
  clear hne p0a0 p1a0 p0x0 p1x0
  have hG := Grow.refl w8; have hg := Dw10.out
  have G10_w := Lib.hid (G8_w.out.trans (hG.trans hg))
  have G10_w6 := Lib.hid (G8_w6.out.trans (hG.trans hg))
  have G10_w7 := Lib.hid (G8_w7.out.trans (hG.trans hg))
  have Ba0 := Lib.hid (Ba0.out.grow (hG.trans hg))
  have Ba2 := Lib.hid (Ba2.out.grow (hG.trans hg))
  have Bx0 := Lib.hid (Bx0.out.grow (hG.trans hg))
  have Bx2 := Lib.hid (Bx2.out.grow (hG.trans hg))
  clear hG hg
  go_wp2_with fail
  have hne : Nonempty (Cl (Grow w10)) := ⟨⟨w10, Grow.refl _⟩⟩
  have p0a2 := Ba2.out.one_
  have p0x2 := Bx2.out.one_
  refine wp_region_mix (Cls (Grow w10)) 5 #[false, false, false, false, false] (by kernel_rfl) (by kernel_rfl) ⟨⟨_, Grow.drewN _ 1⟩, rfl⟩ ?_
  refine anyC_seg [0, 1] #[true, true, false, false, false] (fuel := 3) rfl (by kernel_rfl) ⟨⟨_, Grow.drewN _ 1⟩, rfl⟩ ?_
  simp only [pickOps, List.getD_cons_succ, List.getD_cons_zero]
  repeat (go_big_quiet_step (fail))
  refine wpQuiet_nil ?_
  refine anyC_sole 2 #[true, true, true, false, false] (fuel := 2) (by kernel_rfl) ?_
  simp only [List.getD_cons_succ, List.getD_cons_zero]
  go_wp2_with fail
  refine (to_H _ _ _ (H2.out.grow (G10_w.out.trans (Grow.drewN _ 1))) sm2.out).mono ?_
  rintro e w11 ⟨t2, fpt2, rfl, ht, ft, hg⟩
  have Rt2 := Lib.hid ht.rd; have Dw11 := Lib.hid ((Grow.drewN _ 1).trans hg); clear hg ht ft
  go_wp2
  refine ⟨⟨⟨_, Dw11.out⟩, rfl⟩, ?_⟩
  refine anyC_sole 3 #[true, true, true, true, false] (fuel := 1) (by kernel_rfl) ?_
  simp only [List.getD_cons_succ, List.getD_cons_zero]
  go_wp2_with fail
  refine (eq_H _ _ _ _ _ (Rx2.out.grow (G10_w7.out.trans Dw11.out)) Rt2.out).mono ?_
  rintro e w12 ⟨rfl, hg⟩
  have Dw12 := Lib.hid (Dw11.out.trans hg); clear hg
  go_wp2
  refine ⟨⟨⟨_, Dw12.out⟩, rfl⟩, ?_⟩
  refine anyC_seg [4] #[true, true, true, true, true] (fuel := 0) rfl (by kernel_rfl) ⟨⟨_, Dw12.out⟩, rfl⟩ ?_
  simp only [pickOps, List.getD_cons_succ, List.getD_cons_zero]
  repeat (go_big_quiet_step (fail))
  refine wpQuiet_nil ?_
  refine anyC_done (by kernel_rfl) ?_
  clear hne p0a2 p0x2
  have hG := Grow.refl w10; have hg := Dw12.out
  have G12_w := Lib.hid (G10_w.out.trans (hG.trans hg))
  have G12_w6 := Lib.hid (G10_w6.out.trans (hG.trans hg))
  have G12_w7 := Lib.hid (G10_w7.out.trans (hG.trans hg))
  have Ba0 := Lib.hid (Ba0.out.grow (hG.trans hg))
  have Ba2 := Lib.hid (Ba2.out.grow (hG.trans hg))
  have Bx0 := Lib.hid (Bx0.out.grow (hG.trans hg))
  have Bx2 := Lib.hid (Bx2.out.grow (hG.trans hg))
  clear hG hg
  go_wp2
  go_ret
  exact ⟨rfl, G12_w.out⟩
--%
end Go.Proofs.Ytgigdpdmdldhnaa
