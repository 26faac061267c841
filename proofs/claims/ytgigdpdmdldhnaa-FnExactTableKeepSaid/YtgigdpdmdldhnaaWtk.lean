/- FnExactTableKeep: the walk of the law. -/
import Derived.Test.YtgigdpdmdldhnaaTk2
import Derived.Test.YtgigdpdmdldhnaaWt1
import Derived.Test.YtgigdpdmdldhnaaTab4
import Derived.WalkKit
import Derived.ProofKit
import Derived.OpenShut
import Derived.ShutString
import Derived.ChangeOld
import Derived.Below
import Derived.SizedLaws
import Derived.WalkSpells
import Derived.Deep.QuietTactic
import Derived.BigQuiet
import Derived.Outline
namespace Go.Proofs.Ytgigdpdmdldhnaa
open Go.ChangeShapes Go.WideShapes Go.ChangeAt Go.RowKit
open Go.ChangeMaps (open_string shut_string)
set_option linter.unusedVariables false
set_option linter.unusedSimpArgs false
--%
theorem sumE_filter (q : EntryD → Bool) : ∀ es : List EntryD, sumE (es.filter q) ≤ sumE es
  | [] => Int.le_refl _
  | x :: es => by
    have ih := sumE_filter q es
    have hx := sizeE_nn x
    rw [List.filter_cons]
    split
    · simp only [sumE]; omega
    · simp only [sumE]; omega
theorem tkF_sm (d : TableD) (i : Int) (h : SmT d) : SmT (tkF d i).1 := by
  unfold tkF; split
  · have h1 := sumE_filter (fun e => decide (e.epoch = i)) d.es
    have h2 : (keepL i d.es).length ≤ d.es.length := List.length_filter_le _ _
    unfold SmT sizeT sizeES at *
    unfold keepL at *
    simp only at *
    omega
  · simp [SmT, sizeT, sizeES, sumE]
--% tableKeepSC
theorem tableKeepS_C (w : World) (v : Value) (d : DatT) (h : RdT w v d) (b : WfT d) (n : Int) (hn : -9223372036854775808 ≤ n ∧ n ≤ 9223372036854775807) (sm : SmT d) : Calls Try.prog 65 #[v, .int .i64 n] w (RetNew2 OwnT2 (tkF d n).1 (.int .i64 (tkF d n).2) w) := tableKeepS_any w v d n h b sm hn
--% tableKeepIC
theorem tableKeepI_C (w : World) (v : Value) (d : DatT) (h : RdT w v d) (b : WfT d) (n : Int) (hn : -9223372036854775808 ≤ n ∧ n ≤ 9223372036854775807) (sm : SmT d) : Calls Try.prog 66 #[v, .int .i64 n] w (RetNew2 OwnT2 (tkF d n).1 (.int .i64 (tkF d n).2) w) := tableKeepI_any w v d n h b sm hn
--% walk TableKeep
theorem walk_FnExactTableKeep (w : World) (v0 : Value) (d0 : DatT) (h0 : RdT w v0 d0) (b0 : WfT d0) (n1 : Int) (hn1 : -9223372036854775808 ≤ n1 ∧ n1 ≤ 9223372036854775807) :
    Calls Try.prog 15 #[v0, .int .i64 n1] w (RetV (.bool true) w) := by
  obtain ⟨sa0v0, sc0v0, rfl⟩ := h0.shape
  have H0 := Lib.hid h0
  have B0 := Lib.hid b0
  clear h0 b0
  have hp0 : 0 ≤ sizeT d0 := by have := sumE_nn d0.es; unfold sizeT sizeES; omega
  by_cases hz0 : 1048576 < sizeT d0
  · skip
    have HZ0 := Lib.hid (leftOf_no hz0)
    go_enter Try.func15, Try.ntmps15
    go_wp2_with fail
    refine at_call (w := w) ?G (fun hG => (sz_T _ _ _ _ (H0.out.grow hG) (by omega)).mono ?_)
    case G => ((repeat (first | with_reducible exact Grow.refl _ | (with_reducible refine Grow.alloc_ ?_ _) | (with_reducible refine Grow.setCell_ ?_ (by first | exact Nat.le_refl _ | (simp only [World.alloc, Array.size_push]; omega) | omega) _))))
    rintro e w1 ⟨rfl, hg⟩
    rw [HZ0.out]
    have G1_w := Lib.hid (hG.trans hg)
    have Ba0 := Lib.hid (((Box.alloc _ _ _).grow hg))
    clear hG hg 
    go_wp2
    go_ret
    exact ⟨rfl, G1_w.out⟩
  have HZ0 := Lib.hid (leftOf_yes hz0)
  have sm0 : Hid (SmT d0) := Lib.hid (by unfold SmT; omega)
  have KS := Lib.hid (fun (w : World) (v0 : Value) (h0 : RdT w v0 d0) => tableKeepS_C w v0 d0 h0 B0.out n1 hn1 sm0.out)
  have KI := Lib.hid (fun (w : World) (v0 : Value) (h0 : RdT w v0 d0) => tableKeepI_C w v0 d0 h0 B0.out n1 hn1 sm0.out)
  have SG := Lib.hid (tkF_sm d0 n1 sm0.out)
  generalize (tkF d0 n1).1 = D at *
  generalize (tkF d0 n1).2 = R at *
  go_enter Try.func15, Try.ntmps15
  go_wp2_with fail
  refine at_call (w := w) ?G (fun hG => (sz_T _ _ _ _ (H0.out.grow hG) (by omega)).mono ?_)
  case G => ((repeat (first | with_reducible exact Grow.refl _ | (with_reducible refine Grow.alloc_ ?_ _) | (with_reducible refine Grow.setCell_ ?_ (by first | exact Nat.le_refl _ | (simp only [World.alloc, Array.size_push]; omega) | omega) _))))
  rintro e w1 ⟨rfl, hg⟩
  rw [HZ0.out]
  have G1_w := Lib.hid (hG.trans hg)
  have Ba0 := Lib.hid (((Box.alloc _ _ _).grow hg))
  clear hG hg 
  have ⟨q0a0, q1a0⟩ := Ba0.out.two
  have la0 := Ba0.out.1
  go_wp2_with fail
  refine at_call (w := w1) ?G (fun hG => (to_T2 _ _ _ (H0.out.grow (G1_w.out.trans hG)) sm0.out).mono ?_)
  case G => ((repeat (first | with_reducible exact Grow.refl _ | (with_reducible refine Grow.alloc_ ?_ _) | (with_reducible refine Grow.setCell_ ?_ (by first | exact Nat.le_refl _ | (simp only [World.alloc, Array.size_push]; omega) | omega) _))))
  rintro e w2 ⟨y0, fpy0, rfl, ho, hf, hg⟩
  clear q0a0 q1a0 la0
  obtain ⟨sa0y0, sc0y0, rfl⟩ := ho.rd.shape
  have Oy0 := Lib.hid ho; have Ry0 := Lib.hid ho.rd; have Fy0 := Lib.hid (hf.older hG); have Yy0 := Lib.hid ho.here
  have G2_w := Lib.hid (G1_w.out.trans (hG.trans hg))
  have Ba0 := Lib.hid (Ba0.out.grow (hG.trans hg))
  clear hG hg ho hf
  go_wp2_with fail
  refine at_call (w := w2) ?G (fun hG => (KS.out _ _ (Ry0.out.grow hG)).mono ?_)
  case G => ((repeat (first | with_reducible exact Grow.refl _ | (with_reducible refine Grow.alloc_ ?_ _) | (with_reducible refine Grow.setCell_ ?_ (by first | exact Nat.le_refl _ | (simp only [World.alloc, Array.size_push]; omega) | omega) _))))
  rintro e w3 ⟨z, fpz, rfl, ho, hf, hg⟩
  obtain ⟨sa0z, sc0z, rfl⟩ := ho.rd.shape
  have Oz := Lib.hid ho; have Rz := Lib.hid ho.rd; have Fz := Lib.hid (hf.older hG); have Yz := Lib.hid ho.here
  have G3_w := Lib.hid (G2_w.out.trans (hG.trans hg))
  have G3_w2 := Lib.hid (hG.trans hg)
  have Ba0 := Lib.hid (Ba0.out.grow (hG.trans hg))
  clear hG hg ho hf
  have ⟨q0a0, q1a0⟩ := Ba0.out.two
  have la0 := Ba0.out.1
  go_wp2_with fail
  refine at_call (w := w3) ?G (fun hG => (to_T2 _ _ _ (H0.out.grow (G3_w.out.trans hG)) sm0.out).mono ?_)
  case G => ((repeat (first | with_reducible exact Grow.refl _ | (with_reducible refine Grow.alloc_ ?_ _) | (with_reducible refine Grow.setCell_ ?_ (by first | exact Nat.le_refl _ | (simp only [World.alloc, Array.size_push]; omega) | omega) _))))
  rintro e w4 ⟨x0, fpx0, rfl, ho, hf, hg⟩
  clear q0a0 q1a0 la0
  obtain ⟨sa0x0, sc0x0, rfl⟩ := ho.rd.shape
  have Ox0 := Lib.hid ho; have Rx0 := Lib.hid ho.rd; have Fx0 := Lib.hid (hf.older hG); have Yx0 := Lib.hid ho.here
  have Na0_x0 : Hid (w.heap.size ∉ fpx0) := Lib.hid (fun hm => by have h1 := Fx0.out _ hm; have h2 := Ba0.out.1; omega)
  have Nz_x0 : Hid (w3.heap.size ∉ fpx0) := Lib.hid (fun hm => by have h1 := hf _ hm; have h2 := hG.size; simp only [World.alloc, Array.size_push] at h1; omega)
  have G4_w := Lib.hid (G3_w.out.trans (hG.trans hg))
  have G4_w3 := Lib.hid (hG.trans hg)
  have Ba0 := Lib.hid (Ba0.out.grow (hG.trans hg))
  have Bz := Lib.hid (((Box.alloc _ _ _).grow hg))
  clear hG hg ho hf
  go_wp2_with fail
  refine at_call (w := w4) ?G (fun hG => (KI.out _ _ (Rx0.out.grow hG)).mono ?_)
  case G => ((repeat (first | with_reducible exact Grow.refl _ | (with_reducible refine Grow.alloc_ ?_ _) | (with_reducible refine Grow.setCell_ ?_ (by first | exact Nat.le_refl _ | (simp only [World.alloc, Array.size_push]; omega) | omega) _))))
  rintro e w5 ⟨g, fpg, rfl, ho, hf, hg⟩
  obtain ⟨sa0g, sc0g, rfl⟩ := ho.rd.shape
  have Og := Lib.hid ho; have Rg := Lib.hid ho.rd; have Fg := Lib.hid (hf.older hG); have Yg := Lib.hid ho.here
  have Na0_g : Hid (w.heap.size ∉ fpg) := Lib.hid (fun hm => by have h1 := Fg.out _ hm; have h2 := Ba0.out.1; omega)
  have Nz_g : Hid (w3.heap.size ∉ fpg) := Lib.hid (fun hm => by have h1 := Fg.out _ hm; have h2 := Bz.out.1; omega)
  have Nx0_g : Hid (w4.heap.size ∉ fpg) := Lib.hid (fun hm => by have h1 := hf _ hm; have h2 := hG.size; simp only [World.alloc, Array.size_push] at h1; omega)
  have G5_w := Lib.hid (G4_w.out.trans (hG.trans hg))
  have G5_w3 := Lib.hid (G4_w3.out.trans (hG.trans hg))
  have G5_w4 := Lib.hid (hG.trans hg)
  have Ba0 := Lib.hid (Ba0.out.grow (hG.trans hg))
  have Bz := Lib.hid (Bz.out.grow (hG.trans hg))
  have Bx0 := Lib.hid (((Box.alloc _ _ _).grow hg))
  have Nx0_x0 : Hid (w4.heap.size ∉ fpx0) := Lib.hid (fun hm => by have h1 := Yx0.out _ hm; have h2 := Nat.le_refl 0; omega)
  clear hG hg ho hf
  have ⟨q0z, q1z⟩ := Bz.out.two
  have lz := Bz.out.1
  go_wp2_with fail
  refine at_call (w := w5) ?G (fun hG => (eq_T _ _ _ _ _ (Rg.out.grow hG) (Rz.out.grow (G5_w3.out.trans hG))).mono ?_)
  case G => ((repeat (first | with_reducible exact Grow.refl _ | (with_reducible refine Grow.alloc_ ?_ _) | (with_reducible refine Grow.setCell_ ?_ (by first | exact Nat.le_refl _ | (simp only [World.alloc, Array.size_push]; omega) | omega) _))))
  rintro e w6 ⟨rfl, hg⟩
  clear q0z q1z lz
  have G6_w := Lib.hid (G5_w.out.trans (hG.trans hg))
  have G6_w3 := Lib.hid (G5_w3.out.trans (hG.trans hg))
  have G6_w4 := Lib.hid (G5_w4.out.trans (hG.trans hg))
  have G6_w5 := Lib.hid (hG.trans hg)
  have Ba0 := Lib.hid (Ba0.out.grow (hG.trans hg))
  have Bz := Lib.hid (Bz.out.grow (hG.trans hg))
  have Bx0 := Lib.hid (Bx0.out.grow (hG.trans hg))
  have Bg := Lib.hid (((Box.alloc _ _ _).grow hg))
  have Ng_x0 : Hid (w5.heap.size ∉ fpx0) := Lib.hid (fun hm => by have h1 := Yx0.out _ hm; have h2 := G5_w4.out.size; omega)
  have Ng_g : Hid (w5.heap.size ∉ fpg) := Lib.hid (fun hm => by have h1 := Yg.out _ hm; have h2 := Nat.le_refl 0; omega)
  clear hG hg 
  go_wp2_with fail
  have hne : Nonempty (Cl (Grow w6)) := ⟨⟨w6, Grow.refl _⟩⟩
  have ⟨p0a0, p1a0⟩ := Ba0.out.two_
  have ⟨p0x0, p1x0⟩ := Bx0.out.two_
  refine wp_region_mix (Cls (Grow w6)) 5 #[false, false, false, false, false] (by kernel_rfl) (by kernel_rfl) ⟨⟨_, Grow.drewN _ 1⟩, rfl⟩ ?_
  refine anyC_seg [0, 1] #[true, true, false, false, false] (fuel := 3) rfl (by kernel_rfl) ⟨⟨_, Grow.drewN _ 1⟩, rfl⟩ ?_
  simp only [pickOps, List.getD_cons_succ, List.getD_cons_zero]
  repeat (go_big_quiet_step (fail))
  refine wpQuiet_nil ?_
  refine anyC_sole 2 #[true, true, true, false, false] (fuel := 2) (by kernel_rfl) ?_
  simp only [List.getD_cons_succ, List.getD_cons_zero]
  go_wp2_with fail
  refine (to_T2 _ _ _ (H0.out.grow (G6_w.out.trans (Grow.drewN _ 1))) sm0.out).mono ?_
  rintro e w7 ⟨t0, fpt0, rfl, ht, ft, hg⟩
  have Rt0 := Lib.hid ht.rd; have Dw7 := Lib.hid ((Grow.drewN _ 1).trans hg); clear hg ht ft
  go_wp2
  refine ⟨⟨⟨_, Dw7.out⟩, rfl⟩, ?_⟩
  refine anyC_sole 3 #[true, true, true, true, false] (fuel := 1) (by kernel_rfl) ?_
  simp only [List.getD_cons_succ, List.getD_cons_zero]
  go_wp2_with fail
  refine (eq_T _ _ _ _ _ (Rx0.out.grow (G6_w4.out.trans Dw7.out)) Rt0.out).mono ?_
  rintro e w8 ⟨rfl, hg⟩
  have Dw8 := Lib.hid (Dw7.out.trans hg); clear hg
  go_wp2
  refine ⟨⟨⟨_, Dw8.out⟩, rfl⟩, ?_⟩
  refine anyC_seg [4] #[true, true, true, true, true] (fuel := 0) rfl (by kernel_rfl) ⟨⟨_, Dw8.out⟩, rfl⟩ ?_
  simp only [pickOps, List.getD_cons_succ, List.getD_cons_zero]
  repeat (go_big_quiet_step (fail))
  refine wpQuiet_nil ?_
  refine anyC_done (by kernel_rfl) ?_
  clear hne p0a0 p1a0 p0x0 p1x0
  have hG := Grow.refl w6; have hg := Dw8.out
  have G8_w := Lib.hid (G6_w.out.trans (hG.trans hg))
  have G8_w3 := Lib.hid (G6_w3.out.trans (hG.trans hg))
  have G8_w4 := Lib.hid (G6_w4.out.trans (hG.trans hg))
  have G8_w5 := Lib.hid (G6_w5.out.trans (hG.trans hg))
  have Ba0 := Lib.hid (Ba0.out.grow (hG.trans hg))
  have Bz := Lib.hid (Bz.out.grow (hG.trans hg))
  have Bx0 := Lib.hid (Bx0.out.grow (hG.trans hg))
  have Bg := Lib.hid (Bg.out.grow (hG.trans hg))
  clear hG hg
  have P0 := Lib.hid (Ox0.out.grow G8_w4.out)
  have PG := Lib.hid (Og.out.grow G8_w5.out)
  have AG0 : Hid (∀ x ∈ fpg, x ∉ fpx0) := Lib.hid (fun x hx hm => by have h1 := Yx0.out x hm; have h2 := Fg.out x hx; have h3 := Nat.le_refl 0; omega)
  have kb0 := cntT_bd d0 sm0.out
  have ⟨q0x0, q1x0⟩ := Bx0.out.two
  have lx0 := Bx0.out.1
  go_wp2_with fail
  refine at_call (w := w8) ?G (fun hG => (mark_T _ _ _ _ _ (P0.out.grow hG) sm0.out (by omega)).mono ?_)
  case G => ((repeat (first | with_reducible exact Grow.refl _ | (with_reducible refine Grow.alloc_ ?_ _) | (with_reducible refine Grow.setCell_ ?_ (by first | exact Nat.le_refl _ | (simp only [World.alloc, Array.size_push]; omega) | omega) _))))
  rintro e w9 ⟨rfl, ho, hu⟩
  clear q0x0 q1x0 lx0
  have HU := Lib.hid (hG.upd_then hu); clear hG hu
  clear ho
  have PG := Lib.hid (PG.out.upd HU.out AG0.out)
  have G9_w := Lib.hid (G8_w.out.then_upd HU.out (Fx0.out.older G3_w.out))
  have G9_w3 := Lib.hid (G8_w3.out.then_upd HU.out (Fx0.out.older (Grow.refl _)))
  have Ba0 := Lib.hid (Ba0.out.upd HU.out Na0_x0.out)
  have Bz := Lib.hid (Bz.out.upd HU.out Nz_x0.out)
  have Bx0 := Lib.hid (Bx0.out.upd HU.out Nx0_x0.out)
  have Bg := Lib.hid (Bg.out.upd HU.out Ng_x0.out)
  have ⟨q0g, q1g⟩ := Bg.out.two
  have lg := Bg.out.1
  have ⟨q0z, q1z⟩ := Bz.out.two
  have lz := Bz.out.1
  go_wp2_with fail
  refine at_call (w := w9) ?G (fun hG => (eq_T _ _ _ _ _ (PG.out.grow hG).rd (Rz.out.grow (G9_w3.out.trans hG))).mono ?_)
  case G => ((repeat (first | with_reducible exact Grow.refl _ | (with_reducible refine Grow.alloc_ ?_ _) | (with_reducible refine Grow.setCell_ ?_ (by first | exact Nat.le_refl _ | (simp only [World.alloc, Array.size_push]; omega) | omega) _))))
  rintro e w10 ⟨rfl, hg⟩
  clear q0g q1g lg q0z q1z lz
  have PG := Lib.hid (PG.out.grow (hG.trans hg))
  have G10_w := Lib.hid (G9_w.out.trans (hG.trans hg))
  have G10_w3 := Lib.hid (G9_w3.out.trans (hG.trans hg))
  have Ba0 := Lib.hid (Ba0.out.grow (hG.trans hg))
  have Bz := Lib.hid (Bz.out.grow (hG.trans hg))
  have Bx0 := Lib.hid (Bx0.out.grow (hG.trans hg))
  have Bg := Lib.hid (Bg.out.grow (hG.trans hg))
  clear hG hg 
  have kbg := cntT_bd _ SG.out
  have ⟨q0g, q1g⟩ := Bg.out.two
  have lg := Bg.out.1
  go_wp2_with fail
  refine at_call (w := w10) ?G (fun hG => (mark_T _ _ _ _ _ (PG.out.grow hG) SG.out (by omega)).mono ?_)
  case G => ((repeat (first | with_reducible exact Grow.refl _ | (with_reducible refine Grow.alloc_ ?_ _) | (with_reducible refine Grow.setCell_ ?_ (by first | exact Nat.le_refl _ | (simp only [World.alloc, Array.size_push]; omega) | omega) _))))
  rintro e w11 ⟨rfl, ho, hu⟩
  clear q0g q1g lg
  have HU := Lib.hid (hG.upd_then hu); clear hG hu
  have QG := Lib.hid ho.rd; clear ho
  have G11_w := Lib.hid (G10_w.out.then_upd HU.out (Fg.out.older G4_w.out))
  have G11_w3 := Lib.hid (G10_w3.out.then_upd HU.out (Fg.out.older G4_w3.out))
  have Ba0 := Lib.hid (Ba0.out.upd HU.out Na0_g.out)
  have Bz := Lib.hid (Bz.out.upd HU.out Nz_g.out)
  have Bx0 := Lib.hid (Bx0.out.upd HU.out Nx0_g.out)
  have Bg := Lib.hid (Bg.out.upd HU.out Ng_g.out)
  have ⟨q0g, q1g⟩ := Bg.out.two
  have lg := Bg.out.1
  go_wp2_with fail
  refine at_call (w := w11) ?G (fun hG => (held_T _ _ _ _ (QG.out.grow hG) SG.out (by omega)).mono ?_)
  case G => ((repeat (first | with_reducible exact Grow.refl _ | (with_reducible refine Grow.alloc_ ?_ _) | (with_reducible refine Grow.setCell_ ?_ (by first | exact Nat.le_refl _ | (simp only [World.alloc, Array.size_push]; omega) | omega) _))))
  rintro e w12 ⟨rfl, hg⟩
  clear q0g q1g lg
  have G12_w := Lib.hid (G11_w.out.trans (hG.trans hg))
  have G12_w3 := Lib.hid (G11_w3.out.trans (hG.trans hg))
  have G12_w11 := Lib.hid (hG.trans hg)
  have Ba0 := Lib.hid (Ba0.out.grow (hG.trans hg))
  have Bz := Lib.hid (Bz.out.grow (hG.trans hg))
  have Bx0 := Lib.hid (Bx0.out.grow (hG.trans hg))
  have Bg := Lib.hid (Bg.out.grow (hG.trans hg))
  clear hG hg 
  have ⟨q0a0, q1a0⟩ := Ba0.out.two
  have la0 := Ba0.out.1
  go_wp2_with fail
  refine at_call (w := w12) ?G (fun hG => (to_T2 _ _ _ (H0.out.grow (G12_w.out.trans hG)) sm0.out).mono ?_)
  case G => ((repeat (first | with_reducible exact Grow.refl _ | (with_reducible refine Grow.alloc_ ?_ _) | (with_reducible refine Grow.setCell_ ?_ (by first | exact Nat.le_refl _ | (simp only [World.alloc, Array.size_push]; omega) | omega) _))))
  rintro e w13 ⟨u0, fpu0, rfl, ho, hf, hg⟩
  clear q0a0 q1a0 la0
  obtain ⟨sa0u0, sc0u0, rfl⟩ := ho.rd.shape
  have Ou0 := Lib.hid ho; have Ru0 := Lib.hid ho.rd; have Fu0 := Lib.hid (hf.older hG); have Yu0 := Lib.hid ho.here
  have G13_w := Lib.hid (G12_w.out.trans (hG.trans hg))
  have G13_w3 := Lib.hid (G12_w3.out.trans (hG.trans hg))
  have G13_w11 := Lib.hid (G12_w11.out.trans (hG.trans hg))
  have Ba0 := Lib.hid (Ba0.out.grow (hG.trans hg))
  have Bz := Lib.hid (Bz.out.grow (hG.trans hg))
  have Bx0 := Lib.hid (Bx0.out.grow (hG.trans hg))
  have Bg := Lib.hid (Bg.out.grow (hG.trans hg))
  clear hG hg ho hf
  go_wp2_with fail
  refine at_call (w := w13) ?G (fun hG => (KI.out _ _ (Ru0.out.grow hG)).mono ?_)
  case G => ((repeat (first | with_reducible exact Grow.refl _ | (with_reducible refine Grow.alloc_ ?_ _) | (with_reducible refine Grow.setCell_ ?_ (by first | exact Nat.le_refl _ | (simp only [World.alloc, Array.size_push]; omega) | omega) _))))
  rintro e w14 ⟨k, fpk, rfl, ho, hf, hg⟩
  obtain ⟨sa0k, sc0k, rfl⟩ := ho.rd.shape
  have Ok := Lib.hid ho; have Rk := Lib.hid ho.rd; have Fk := Lib.hid (hf.older hG); have Yk := Lib.hid ho.here
  have G14_w := Lib.hid (G13_w.out.trans (hG.trans hg))
  have G14_w3 := Lib.hid (G13_w3.out.trans (hG.trans hg))
  have G14_w11 := Lib.hid (G13_w11.out.trans (hG.trans hg))
  have G14_w13 := Lib.hid (hG.trans hg)
  have Ba0 := Lib.hid (Ba0.out.grow (hG.trans hg))
  have Bz := Lib.hid (Bz.out.grow (hG.trans hg))
  have Bx0 := Lib.hid (Bx0.out.grow (hG.trans hg))
  have Bg := Lib.hid (Bg.out.grow (hG.trans hg))
  clear hG hg ho hf
  have ⟨q0z, q1z⟩ := Bz.out.two
  have lz := Bz.out.1
  go_wp2_with fail
  refine at_call (w := w14) ?G (fun hG => (eq_T _ _ _ _ _ (Rk.out.grow hG) (Rz.out.grow (G14_w3.out.trans hG))).mono ?_)
  case G => ((repeat (first | with_reducible exact Grow.refl _ | (with_reducible refine Grow.alloc_ ?_ _) | (with_reducible refine Grow.setCell_ ?_ (by first | exact Nat.le_refl _ | (simp only [World.alloc, Array.size_push]; omega) | omega) _))))
  rintro e w15 ⟨rfl, hg⟩
  clear q0z q1z lz
  have G15_w := Lib.hid (G14_w.out.trans (hG.trans hg))
  have G15_w3 := Lib.hid (G14_w3.out.trans (hG.trans hg))
  have G15_w11 := Lib.hid (G14_w11.out.trans (hG.trans hg))
  have G15_w13 := Lib.hid (G14_w13.out.trans (hG.trans hg))
  have G15_w14 := Lib.hid (hG.trans hg)
  have Ba0 := Lib.hid (Ba0.out.grow (hG.trans hg))
  have Bz := Lib.hid (Bz.out.grow (hG.trans hg))
  have Bx0 := Lib.hid (Bx0.out.grow (hG.trans hg))
  have Bg := Lib.hid (Bg.out.grow (hG.trans hg))
  have Bk := Lib.hid (((Box.alloc _ _ _).grow hg))
  clear hG hg 
  have ⟨q0g, q1g⟩ := Bg.out.two
  have lg := Bg.out.1
  go_wp2_with fail
  refine at_call (w := w15) ?G (fun hG => (held_T _ _ _ _ (QG.out.grow (G15_w11.out.trans hG)) SG.out (by omega)).mono ?_)
  case G => ((repeat (first | with_reducible exact Grow.refl _ | (with_reducible refine Grow.alloc_ ?_ _) | (with_reducible refine Grow.setCell_ ?_ (by first | exact Nat.le_refl _ | (simp only [World.alloc, Array.size_push]; omega) | omega) _))))
  rintro e w16 ⟨rfl, hg⟩
  clear q0g q1g lg
  have G16_w := Lib.hid (G15_w.out.trans (hG.trans hg))
  have G16_w3 := Lib.hid (G15_w3.out.trans (hG.trans hg))
  have G16_w11 := Lib.hid (G15_w11.out.trans (hG.trans hg))
  have G16_w13 := Lib.hid (G15_w13.out.trans (hG.trans hg))
  have G16_w14 := Lib.hid (G15_w14.out.trans (hG.trans hg))
  have Ba0 := Lib.hid (Ba0.out.grow (hG.trans hg))
  have Bz := Lib.hid (Bz.out.grow (hG.trans hg))
  have Bx0 := Lib.hid (Bx0.out.grow (hG.trans hg))
  have Bg := Lib.hid (Bg.out.grow (hG.trans hg))
  have Bk := Lib.hid (Bk.out.grow (hG.trans hg))
  clear hG hg 
  go_wp2
  go_ret
  exact ⟨rfl, G16_w.out⟩
--%
end Go.Proofs.Ytgigdpdmdldhnaa
