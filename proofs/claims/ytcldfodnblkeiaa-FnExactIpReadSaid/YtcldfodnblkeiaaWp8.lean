/- IpRead: walk of the exact law. -/
import Derived.Test.YtcldfodnblkeiaaOpn
import Derived.Test.YtcldfodnblkeiaaIrs
import Derived.WalkKit
import Derived.ProofKit
import Derived.OpenShut
import Derived.ShutString
import Derived.ChangeOld
import Derived.Below
import Derived.SizedLaws
import Derived.WalkSpells
import Derived.Deep.QuietTactic
import Derived.BigQuiet
import Derived.Outline
namespace Go.Proofs.Ytcldfodnblkeiaa
open Go.ChangeShapes Go.WideShapes Go.ChangeAt Go.RowKit
open Go.ChangeMaps (open_string shut_string)
set_option linter.unusedVariables false
set_option linter.unusedSimpArgs false
--%
theorem irF_sm {d : DatB} (h : SmB d) : SmIp (irF d).1 := by
  have hz : SmIp zeroI := by simp [SmIp, sizeIp, zeroI]
  have hd : SmIp (irD d) := by unfold SmIp sizeIp irD; unfold SmB at h; simp; omega
  unfold irF; split
  · exact hz
  · split
    · exact hz
    · split
      · exact hz
      · split
        · exact hz
        · split
          · exact hd
          · exact hz
--% ipReadS
theorem ipReadS_C (w : World) (v : Value) (d : DatB) (h : RdB w v d) (b : WfB d) (sm : SmB d) : Calls Try.prog 45 #[v] w (RetNew2 OwnIp (irF d).1 (.int .i64 (irF d).2) w) := ipReadS_any w v d h b sm
--% ipReadI
theorem ipReadI_C (w : World) (v : Value) (d : DatB) (h : RdB w v d) (b : WfB d) (sm : SmB d) : Calls Try.prog 46 #[v] w (RetNew2 OwnIp (irF d).1 (.int .i64 (irF d).2) w) := ipReadI_any w v d h b sm
--% walk IpRead
theorem walk_FnExactIpRead (w : World) (v0 : Value) (d0 : DatB) (h0 : RdB w v0 d0) (b0 : WfB d0) :
    Calls Try.prog 9 #[v0] w (RetV (.bool true) w) := by
  have H0 := Lib.hid h0
  have B0 := Lib.hid b0
  obtain ⟨a0, c0, rfl, hlc0, hm0, hn0', hc0'⟩ := Rd.ints h0
  clear hn0' hc0'
  unfold maxLen at hm0
  clear h0 b0
  by_cases hl0 : 1048576 < d0.length
  · skip
    go_enter Try.func9, Try.ntmps9
    go_wp2
    go_ret
    exact ⟨rfl, Grow.refl _⟩
  have sm0 : Hid (SmB d0) := Lib.hid (by unfold SmB; omega)
  have KS := Lib.hid (fun (w : World) (v0 : Value) (h0 : RdB w v0 d0) => ipReadS_C w v0 d0 h0 B0.out sm0.out)
  have KI := Lib.hid (fun (w : World) (v0 : Value) (h0 : RdB w v0 d0) => ipReadI_C w v0 d0 h0 B0.out sm0.out)
  have SG := Lib.hid (irF_sm sm0.out)
  generalize (irF d0).1 = D at *
  generalize (irF d0).2 = R at *
  go_enter Try.func9, Try.ntmps9
  go_wp2_with fail
  refine at_call (w := w) ?G (fun hG => (to_B _ _ _ (H0.out.grow hG) sm0.out).mono ?_)
  case G => ((repeat (first | with_reducible exact Grow.refl _ | (with_reducible refine Grow.alloc_ ?_ _) | (with_reducible refine Grow.setCell_ ?_ (by first | exact Nat.le_refl _ | (simp only [World.alloc, Array.size_push]; omega) | omega) _))))
  rintro e w1 ⟨y0, fpy0, rfl, ho, hf, hg⟩
  have Oy0 := Lib.hid ho; have Ry0 := Lib.hid ho.rd; have Fy0 := Lib.hid (hf.older hG); have Yy0 := Lib.hid ho.here
  have G1_w := Lib.hid (hG.trans hg)
  clear hG hg ho hf
  go_wp2_with fail
  refine at_call (w := w1) ?G (fun hG => (KS.out _ _ (Ry0.out.grow hG)).mono ?_)
  case G => ((repeat (first | with_reducible exact Grow.refl _ | (with_reducible refine Grow.alloc_ ?_ _) | (with_reducible refine Grow.setCell_ ?_ (by first | exact Nat.le_refl _ | (simp only [World.alloc, Array.size_push]; omega) | omega) _))))
  rintro e w2 ⟨z, fpz, rfl, ho, hf, hg⟩
  obtain ⟨sa0z, sc0z, rfl⟩ := ho.rd.shape
  have Oz := Lib.hid ho; have Rz := Lib.hid ho.rd; have Fz := Lib.hid (hf.older hG); have Yz := Lib.hid ho.here
  have G2_w := Lib.hid (G1_w.out.trans (hG.trans hg))
  have G2_w1 := Lib.hid (hG.trans hg)
  clear hG hg ho hf
  go_wp2_with fail
  refine at_call (w := w2) ?G (fun hG => (to_B _ _ _ (H0.out.grow (G2_w.out.trans hG)) sm0.out).mono ?_)
  case G => ((repeat (first | with_reducible exact Grow.refl _ | (with_reducible refine Grow.alloc_ ?_ _) | (with_reducible refine Grow.setCell_ ?_ (by first | exact Nat.le_refl _ | (simp only [World.alloc, Array.size_push]; omega) | omega) _))))
  rintro e w3 ⟨x0, fpx0, rfl, ho, hf, hg⟩
  have Ox0 := Lib.hid ho; have Rx0 := Lib.hid ho.rd; have Fx0 := Lib.hid (hf.older hG); have Yx0 := Lib.hid ho.here
  have Nz_x0 : Hid (w2.heap.size ∉ fpx0) := Lib.hid (fun hm => by have h1 := hf _ hm; have h2 := hG.size; simp only [World.alloc, Array.size_push] at h1; omega)
  have G3_w := Lib.hid (G2_w.out.trans (hG.trans hg))
  have G3_w2 := Lib.hid (hG.trans hg)
  have Bz := Lib.hid (((Box.alloc _ _ _).grow hg))
  clear hG hg ho hf
  go_wp2_with fail
  refine at_call (w := w3) ?G (fun hG => (KI.out _ _ (Rx0.out.grow hG)).mono ?_)
  case G => ((repeat (first | with_reducible exact Grow.refl _ | (with_reducible refine Grow.alloc_ ?_ _) | (with_reducible refine Grow.setCell_ ?_ (by first | exact Nat.le_refl _ | (simp only [World.alloc, Array.size_push]; omega) | omega) _))))
  rintro e w4 ⟨g, fpg, rfl, ho, hf, hg⟩
  obtain ⟨sa0g, sc0g, rfl⟩ := ho.rd.shape
  have Og := Lib.hid ho; have Rg := Lib.hid ho.rd; have Fg := Lib.hid (hf.older hG); have Yg := Lib.hid ho.here
  have Nz_g : Hid (w2.heap.size ∉ fpg) := Lib.hid (fun hm => by have h1 := Fg.out _ hm; have h2 := Bz.out.1; omega)
  have G4_w := Lib.hid (G3_w.out.trans (hG.trans hg))
  have G4_w2 := Lib.hid (G3_w2.out.trans (hG.trans hg))
  have G4_w3 := Lib.hid (hG.trans hg)
  have Bz := Lib.hid (Bz.out.grow (hG.trans hg))
  clear hG hg ho hf
  have ⟨q0z, q1z, q2z, q3z, q4z⟩ := Bz.out.five
  have lz := Bz.out.1
  go_wp2_with fail
  refine at_call (w := w4) ?G (fun hG => (eq_Ip _ _ _ _ _ (Rg.out.grow hG) (Rz.out.grow (G4_w2.out.trans hG))).mono ?_)
  case G => ((repeat (first | with_reducible exact Grow.refl _ | (with_reducible refine Grow.alloc_ ?_ _) | (with_reducible refine Grow.setCell_ ?_ (by first | exact Nat.le_refl _ | (simp only [World.alloc, Array.size_push]; omega) | omega) _))))
  rintro e w5 ⟨rfl, hg⟩
  clear q0z q1z q2z q3z q4z lz
  have G5_w := Lib.hid (G4_w.out.trans (hG.trans hg))
  have G5_w2 := Lib.hid (G4_w2.out.trans (hG.trans hg))
  have G5_w3 := Lib.hid (G4_w3.out.trans (hG.trans hg))
  have G5_w4 := Lib.hid (hG.trans hg)
  have Bz := Lib.hid (Bz.out.grow (hG.trans hg))
  have Bg := Lib.hid (((Box.alloc _ _ _).grow hg))
  have Ng_x0 : Hid (w4.heap.size ∉ fpx0) := Lib.hid (fun hm => by have h1 := Yx0.out _ hm; have h2 := G4_w3.out.size; omega)
  have Ng_g : Hid (w4.heap.size ∉ fpg) := Lib.hid (fun hm => by have h1 := Yg.out _ hm; have h2 := Nat.le_refl 0; omega)
  clear hG hg 
  go_wp2_with fail
  refine at_call (w := w5) ?G (fun hG => (to_B _ _ _ (H0.out.grow (G5_w.out.trans hG)) sm0.out).mono ?_)
  case G => ((repeat (first | with_reducible exact Grow.refl _ | (with_reducible refine Grow.alloc_ ?_ _) | (with_reducible refine Grow.setCell_ ?_ (by first | exact Nat.le_refl _ | (simp only [World.alloc, Array.size_push]; omega) | omega) _))))
  rintro e w6 ⟨t0, fpt0, rfl, ho, hf, hg⟩
  have Ot0 := Lib.hid ho; have Rt0 := Lib.hid ho.rd; have Ft0 := Lib.hid (hf.older hG); have Yt0 := Lib.hid ho.here
  have G6_w := Lib.hid (G5_w.out.trans (hG.trans hg))
  have G6_w2 := Lib.hid (G5_w2.out.trans (hG.trans hg))
  have G6_w3 := Lib.hid (G5_w3.out.trans (hG.trans hg))
  have G6_w4 := Lib.hid (G5_w4.out.trans (hG.trans hg))
  have Bz := Lib.hid (Bz.out.grow (hG.trans hg))
  have Bg := Lib.hid (Bg.out.grow (hG.trans hg))
  clear hG hg ho hf
  go_wp2_with fail
  refine at_call (w := w6) ?G (fun hG => (eq_B _ _ _ _ _ (Rx0.out.grow (G6_w3.out.trans hG)) (Rt0.out.grow hG)).mono ?_)
  case G => ((repeat (first | with_reducible exact Grow.refl _ | (with_reducible refine Grow.alloc_ ?_ _) | (with_reducible refine Grow.setCell_ ?_ (by first | exact Nat.le_refl _ | (simp only [World.alloc, Array.size_push]; omega) | omega) _))))
  rintro e w7 ⟨rfl, hg⟩
  have G7_w := Lib.hid (G6_w.out.trans (hG.trans hg))
  have G7_w2 := Lib.hid (G6_w2.out.trans (hG.trans hg))
  have G7_w3 := Lib.hid (G6_w3.out.trans (hG.trans hg))
  have G7_w4 := Lib.hid (G6_w4.out.trans (hG.trans hg))
  have G7_w6 := Lib.hid (hG.trans hg)
  have Bz := Lib.hid (Bz.out.grow (hG.trans hg))
  have Bg := Lib.hid (Bg.out.grow (hG.trans hg))
  clear hG hg 
  have P0 := Lib.hid (Ox0.out.grow G7_w3.out)
  have PG := Lib.hid (Og.out.grow G7_w4.out)
  have AG0 : Hid (∀ x ∈ fpg, x ∉ fpx0) := Lib.hid (fun x hx hm => by have h1 := Yx0.out x hm; have h2 := Fg.out x hx; have h3 := Nat.le_refl 0; omega)
  have kb0 := cntB_bd d0 sm0.out
  go_wp2_with fail
  refine at_call (w := w7) ?G (fun hG => (mark_B _ _ _ _ _ (P0.out.grow hG) sm0.out (by omega)).mono ?_)
  case G => ((repeat (first | with_reducible exact Grow.refl _ | (with_reducible refine Grow.alloc_ ?_ _) | (with_reducible refine Grow.setCell_ ?_ (by first | exact Nat.le_refl _ | (simp only [World.alloc, Array.size_push]; omega) | omega) _))))
  rintro e w8 ⟨rfl, ho, hu⟩
  have HU := Lib.hid (hG.upd_then hu); clear hG hu
  clear ho
  have PG := Lib.hid (PG.out.upd HU.out AG0.out)
  have G8_w := Lib.hid (G7_w.out.then_upd HU.out (Fx0.out.older G2_w.out))
  have G8_w2 := Lib.hid (G7_w2.out.then_upd HU.out (Fx0.out.older (Grow.refl _)))
  have Bz := Lib.hid (Bz.out.upd HU.out Nz_x0.out)
  have Bg := Lib.hid (Bg.out.upd HU.out Ng_x0.out)
  have ⟨q0g, q1g, q2g, q3g, q4g⟩ := Bg.out.five
  have lg := Bg.out.1
  have ⟨q0z, q1z, q2z, q3z, q4z⟩ := Bz.out.five
  have lz := Bz.out.1
  go_wp2_with fail
  refine at_call (w := w8) ?G (fun hG => (eq_Ip _ _ _ _ _ (PG.out.grow hG).rd (Rz.out.grow (G8_w2.out.trans hG))).mono ?_)
  case G => ((repeat (first | with_reducible exact Grow.refl _ | (with_reducible refine Grow.alloc_ ?_ _) | (with_reducible refine Grow.setCell_ ?_ (by first | exact Nat.le_refl _ | (simp only [World.alloc, Array.size_push]; omega) | omega) _))))
  rintro e w9 ⟨rfl, hg⟩
  clear q0g q1g q2g q3g q4g lg q0z q1z q2z q3z q4z lz
  have PG := Lib.hid (PG.out.grow (hG.trans hg))
  have G9_w := Lib.hid (G8_w.out.trans (hG.trans hg))
  have G9_w2 := Lib.hid (G8_w2.out.trans (hG.trans hg))
  have Bz := Lib.hid (Bz.out.grow (hG.trans hg))
  have Bg := Lib.hid (Bg.out.grow (hG.trans hg))
  clear hG hg 
  have kbg := cntIp_bd _ SG.out
  have ⟨q0g, q1g, q2g, q3g, q4g⟩ := Bg.out.five
  have lg := Bg.out.1
  go_wp2_with fail
  refine at_call (w := w9) ?G (fun hG => (mark_Ip _ _ _ _ _ (PG.out.grow hG) SG.out (by omega)).mono ?_)
  case G => ((repeat (first | with_reducible exact Grow.refl _ | (with_reducible refine Grow.alloc_ ?_ _) | (with_reducible refine Grow.setCell_ ?_ (by first | exact Nat.le_refl _ | (simp only [World.alloc, Array.size_push]; omega) | omega) _))))
  rintro e w10 ⟨rfl, ho, hu⟩
  clear q0g q1g q2g q3g q4g lg
  have HU := Lib.hid (hG.upd_then hu); clear hG hu
  have QG := Lib.hid ho.rd; clear ho
  have G10_w := Lib.hid (G9_w.out.then_upd HU.out (Fg.out.older G3_w.out))
  have G10_w2 := Lib.hid (G9_w2.out.then_upd HU.out (Fg.out.older G3_w2.out))
  have Bz := Lib.hid (Bz.out.upd HU.out Nz_g.out)
  have Bg := Lib.hid (Bg.out.upd HU.out Ng_g.out)
  have ⟨q0g, q1g, q2g, q3g, q4g⟩ := Bg.out.five
  have lg := Bg.out.1
  go_wp2_with fail
  refine at_call (w := w10) ?G (fun hG => (held_Ip _ _ _ _ (QG.out.grow hG) SG.out (by omega)).mono ?_)
  case G => ((repeat (first | with_reducible exact Grow.refl _ | (with_reducible refine Grow.alloc_ ?_ _) | (with_reducible refine Grow.setCell_ ?_ (by first | exact Nat.le_refl _ | (simp only [World.alloc, Array.size_push]; omega) | omega) _))))
  rintro e w11 ⟨rfl, hg⟩
  clear q0g q1g q2g q3g q4g lg
  have G11_w := Lib.hid (G10_w.out.trans (hG.trans hg))
  have G11_w2 := Lib.hid (G10_w2.out.trans (hG.trans hg))
  have G11_w10 := Lib.hid (hG.trans hg)
  have Bz := Lib.hid (Bz.out.grow (hG.trans hg))
  have Bg := Lib.hid (Bg.out.grow (hG.trans hg))
  clear hG hg 
  go_wp2_with fail
  refine at_call (w := w11) ?G (fun hG => (to_B _ _ _ (H0.out.grow (G11_w.out.trans hG)) sm0.out).mono ?_)
  case G => ((repeat (first | with_reducible exact Grow.refl _ | (with_reducible refine Grow.alloc_ ?_ _) | (with_reducible refine Grow.setCell_ ?_ (by first | exact Nat.le_refl _ | (simp only [World.alloc, Array.size_push]; omega) | omega) _))))
  rintro e w12 ⟨u0, fpu0, rfl, ho, hf, hg⟩
  have Ou0 := Lib.hid ho; have Ru0 := Lib.hid ho.rd; have Fu0 := Lib.hid (hf.older hG); have Yu0 := Lib.hid ho.here
  have G12_w := Lib.hid (G11_w.out.trans (hG.trans hg))
  have G12_w2 := Lib.hid (G11_w2.out.trans (hG.trans hg))
  have G12_w10 := Lib.hid (G11_w10.out.trans (hG.trans hg))
  have Bz := Lib.hid (Bz.out.grow (hG.trans hg))
  have Bg := Lib.hid (Bg.out.grow (hG.trans hg))
  clear hG hg ho hf
  go_wp2_with fail
  refine at_call (w := w12) ?G (fun hG => (KI.out _ _ (Ru0.out.grow hG)).mono ?_)
  case G => ((repeat (first | with_reducible exact Grow.refl _ | (with_reducible refine Grow.alloc_ ?_ _) | (with_reducible refine Grow.setCell_ ?_ (by first | exact Nat.le_refl _ | (simp only [World.alloc, Array.size_push]; omega) | omega) _))))
  rintro e w13 ⟨k, fpk, rfl, ho, hf, hg⟩
  obtain ⟨sa0k, sc0k, rfl⟩ := ho.rd.shape
  have Ok := Lib.hid ho; have Rk := Lib.hid ho.rd; have Fk := Lib.hid (hf.older hG); have Yk := Lib.hid ho.here
  have G13_w := Lib.hid (G12_w.out.trans (hG.trans hg))
  have G13_w2 := Lib.hid (G12_w2.out.trans (hG.trans hg))
  have G13_w10 := Lib.hid (G12_w10.out.trans (hG.trans hg))
  have G13_w12 := Lib.hid (hG.trans hg)
  have Bz := Lib.hid (Bz.out.grow (hG.trans hg))
  have Bg := Lib.hid (Bg.out.grow (hG.trans hg))
  clear hG hg ho hf
  have ⟨q0z, q1z, q2z, q3z, q4z⟩ := Bz.out.five
  have lz := Bz.out.1
  go_wp2_with fail
  refine at_call (w := w13) ?G (fun hG => (eq_Ip _ _ _ _ _ (Rk.out.grow hG) (Rz.out.grow (G13_w2.out.trans hG))).mono ?_)
  case G => ((repeat (first | with_reducible exact Grow.refl _ | (with_reducible refine Grow.alloc_ ?_ _) | (with_reducible refine Grow.setCell_ ?_ (by first | exact Nat.le_refl _ | (simp only [World.alloc, Array.size_push]; omega) | omega) _))))
  rintro e w14 ⟨rfl, hg⟩
  clear q0z q1z q2z q3z q4z lz
  have G14_w := Lib.hid (G13_w.out.trans (hG.trans hg))
  have G14_w2 := Lib.hid (G13_w2.out.trans (hG.trans hg))
  have G14_w10 := Lib.hid (G13_w10.out.trans (hG.trans hg))
  have G14_w12 := Lib.hid (G13_w12.out.trans (hG.trans hg))
  have G14_w13 := Lib.hid (hG.trans hg)
  have Bz := Lib.hid (Bz.out.grow (hG.trans hg))
  have Bg := Lib.hid (Bg.out.grow (hG.trans hg))
  have Bk := Lib.hid (((Box.alloc _ _ _).grow hg))
  clear hG hg 
  have ⟨q0g, q1g, q2g, q3g, q4g⟩ := Bg.out.five
  have lg := Bg.out.1
  go_wp2_with fail
  refine at_call (w := w14) ?G (fun hG => (held_Ip _ _ _ _ (QG.out.grow (G14_w10.out.trans hG)) SG.out (by omega)).mono ?_)
  case G => ((repeat (first | with_reducible exact Grow.refl _ | (with_reducible refine Grow.alloc_ ?_ _) | (with_reducible refine Grow.setCell_ ?_ (by first | exact Nat.le_refl _ | (simp only [World.alloc, Array.size_push]; omega) | omega) _))))
  rintro e w15 ⟨rfl, hg⟩
  clear q0g q1g q2g q3g q4g lg
  have G15_w := Lib.hid (G14_w.out.trans (hG.trans hg))
  have G15_w2 := Lib.hid (G14_w2.out.trans (hG.trans hg))
  have G15_w10 := Lib.hid (G14_w10.out.trans (hG.trans hg))
  have G15_w12 := Lib.hid (G14_w12.out.trans (hG.trans hg))
  have G15_w13 := Lib.hid (G14_w13.out.trans (hG.trans hg))
  have Bz := Lib.hid (Bz.out.grow (hG.trans hg))
  have Bg := Lib.hid (Bg.out.grow (hG.trans hg))
  have Bk := Lib.hid (Bk.out.grow (hG.trans hg))
  clear hG hg 
  go_wp2
  go_ret
  exact ⟨rfl, G15_w.out⟩
--%
end Go.Proofs.Ytcldfodnblkeiaa
