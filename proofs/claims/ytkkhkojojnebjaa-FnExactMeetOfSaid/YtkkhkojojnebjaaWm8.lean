/- walk of the law on meets -/
import Derived.Test.YtkkhkojojnebjaaOpn
import Derived.Test.YtkkhkojojnebjaaFk
import Derived.Test.YtkkhkojojnebjaaMe
import Derived.Test.YtkkhkojojnebjaaMoi
import Derived.WalkKit
import Derived.ProofKit
import Derived.OpenShut
import Derived.ShutString
import Derived.ChangeOld
import Derived.Below
import Derived.SizedLaws
import Derived.WalkSpells
import Derived.Deep.QuietTactic
import Derived.BigQuiet
import Derived.Outline
namespace Go.Proofs.Ytkkhkojojnebjaa
open Go.ChangeShapes Go.WideShapes Go.ChangeAt Go.RowKit
open Go.ChangeMaps (open_string shut_string)
set_option linter.unusedVariables false
set_option linter.unusedSimpArgs false
--% meetOfS
theorem meetOfS_C (w : World) (v : Value) (a : DatM) (h : RdM w v a) (wa : WfM a) (u : Value) (b : DatM) (h2 : RdM w u b) (wb : WfM b) (sa : SmM a) (sb : SmM b) : Calls Try.prog 48 #[v, u] w (RetNew2 OwnM (meetF a b).1 (.bool (meetF a b).2) w) := meetOfS_any w v u a b h h2 wa wb
--% meetOfI
theorem meetOfI_C (w : World) (v : Value) (a : DatM) (h : RdM w v a) (wa : WfM a) (u : Value) (b : DatM) (h2 : RdM w u b) (wb : WfM b) (sa : SmM a) (sb : SmM b) : Calls Try.prog 49 #[v, u] w (RetNew2 OwnM (meetF a b).1 (.bool (meetF a b).2) w) := meetOfI_any w v u a b h h2 wa wb
--% walk MeetOf
set_option maxHeartbeats 4000000 in
theorem walk_FnExactMeetOf (w : World) (v0 : Value) (d0 : DatM) (h0 : RdM w v0 d0) (b0 : WfM d0) (v1 : Value) (d1 : DatM) (h1 : RdM w v1 d1) (b1 : WfM d1) :
    Calls Try.prog 13 #[v0, v1] w (RetV (.bool true) w) := by
  obtain ⟨sa0v0, sc0v0, sa1v0, sc1v0, rfl⟩ := h0.shape
  have H0 := Lib.hid h0
  have B0 := Lib.hid b0
  clear h0 b0
  obtain ⟨sa0v1, sc0v1, sa1v1, sc1v1, rfl⟩ := h1.shape
  have H1 := Lib.hid h1
  have B1 := Lib.hid b1
  clear h1 b1
  have hp0 : 0 ≤ sizeM d0 := by unfold sizeM; omega
  have hp1 : 0 ≤ sizeM d1 := by unfold sizeM; omega
  by_cases hz0 : 1048576 < sizeM d0
  · skip
    have HZ0 := Lib.hid (leftOf_no hz0)
    go_enter Try.func13, Try.ntmps13
    go_wp2_with fail
    refine at_call (w := w) ?G (fun hG => (sz_M _ _ _ _ (H0.out.grow hG) (by omega)).mono ?_)
    case G => ((repeat (first | with_reducible exact Grow.refl _ | (with_reducible refine Grow.alloc_ ?_ _) | (with_reducible refine Grow.setCell_ ?_ (by first | exact Nat.le_refl _ | (simp only [World.alloc, Array.size_push]; omega) | omega) _))))
    rintro e w1 ⟨rfl, hg⟩
    rw [HZ0.out]
    have G1_w := Lib.hid (hG.trans hg)
    have Ba0 := Lib.hid (((Box.alloc _ _ _).grow ((Grow.alloc _ _).trans hg)))
    have Ba1 := Lib.hid (((Box.alloc _ _ _).grow hg).at_ (b' := w.heap.size + 1) (by simp only [World.alloc, Array.size_push]))
    clear hG hg 
    go_wp2
    go_ret
    exact ⟨rfl, G1_w.out⟩
  have HZ0 := Lib.hid (leftOf_yes hz0)
  by_cases hz1 : 1048576 - sizeM d0 < sizeM d1
  · skip
    have HZ1 := Lib.hid (leftOf_no hz1)
    go_enter Try.func13, Try.ntmps13
    go_wp2_with fail
    refine at_call (w := w) ?G (fun hG => (sz_M _ _ _ _ (H0.out.grow hG) (by omega)).mono ?_)
    case G => ((repeat (first | with_reducible exact Grow.refl _ | (with_reducible refine Grow.alloc_ ?_ _) | (with_reducible refine Grow.setCell_ ?_ (by first | exact Nat.le_refl _ | (simp only [World.alloc, Array.size_push]; omega) | omega) _))))
    rintro e w1 ⟨rfl, hg⟩
    rw [HZ0.out]
    have G1_w := Lib.hid (hG.trans hg)
    have Ba0 := Lib.hid (((Box.alloc _ _ _).grow ((Grow.alloc _ _).trans hg)))
    have Ba1 := Lib.hid (((Box.alloc _ _ _).grow hg).at_ (b' := w.heap.size + 1) (by simp only [World.alloc, Array.size_push]))
    clear hG hg 
    have ⟨q0a1, q1a1⟩ := Ba1.out.two
    have la1 := Ba1.out.1
    go_wp2_with fail
    refine at_call (w := w1) ?G (fun hG => (sz_M _ _ _ _ (H1.out.grow (G1_w.out.trans hG)) (by omega)).mono ?_)
    case G => ((repeat (first | with_reducible exact Grow.refl _ | (with_reducible refine Grow.alloc_ ?_ _) | (with_reducible refine Grow.setCell_ ?_ (by first | exact Nat.le_refl _ | (simp only [World.alloc, Array.size_push]; omega) | omega) _))))
    rintro e w2 ⟨rfl, hg⟩
    clear q0a1 q1a1 la1
    rw [HZ1.out]
    have G2_w := Lib.hid (G1_w.out.trans (hG.trans hg))
    have Ba0 := Lib.hid (Ba0.out.grow (hG.trans hg))
    have Ba1 := Lib.hid (Ba1.out.grow (hG.trans hg))
    clear hG hg 
    go_wp2
    go_ret
    exact ⟨rfl, G2_w.out⟩
  have HZ1 := Lib.hid (leftOf_yes hz1)
  have sm0 : Hid (SmM d0) := Lib.hid (by unfold SmM; omega)
  have sm1 : Hid (SmM d1) := Lib.hid (by unfold SmM; omega)
  have KS := Lib.hid (fun (w : World) (v0 : Value) (h0 : RdM w v0 d0) (v1 : Value) (h1 : RdM w v1 d1) => meetOfS_C w v0 d0 h0 B0.out v1 d1 h1 B1.out sm0.out sm1.out)
  have KI := Lib.hid (fun (w : World) (v0 : Value) (h0 : RdM w v0 d0) (v1 : Value) (h1 : RdM w v1 d1) => meetOfI_C w v0 d0 h0 B0.out v1 d1 h1 B1.out sm0.out sm1.out)
  have SG := Lib.hid (meetF_sm d0 d1)
  generalize (meetF d0 d1).1 = D at *
  generalize (meetF d0 d1).2 = R at *
  go_enter Try.func13, Try.ntmps13
  go_wp2_with fail
  refine at_call (w := w) ?G (fun hG => (sz_M _ _ _ _ (H0.out.grow hG) (by omega)).mono ?_)
  case G => ((repeat (first | with_reducible exact Grow.refl _ | (with_reducible refine Grow.alloc_ ?_ _) | (with_reducible refine Grow.setCell_ ?_ (by first | exact Nat.le_refl _ | (simp only [World.alloc, Array.size_push]; omega) | omega) _))))
  rintro e w1 ⟨rfl, hg⟩
  rw [HZ0.out]
  have G1_w := Lib.hid (hG.trans hg)
  have Ba0 := Lib.hid (((Box.alloc _ _ _).grow ((Grow.alloc _ _).trans hg)))
  have Ba1 := Lib.hid (((Box.alloc _ _ _).grow hg).at_ (b' := w.heap.size + 1) (by simp only [World.alloc, Array.size_push]))
  clear hG hg 
  have ⟨q0a1, q1a1⟩ := Ba1.out.two
  have la1 := Ba1.out.1
  go_wp2_with fail
  refine at_call (w := w1) ?G (fun hG => (sz_M _ _ _ _ (H1.out.grow (G1_w.out.trans hG)) (by omega)).mono ?_)
  case G => ((repeat (first | with_reducible exact Grow.refl _ | (with_reducible refine Grow.alloc_ ?_ _) | (with_reducible refine Grow.setCell_ ?_ (by first | exact Nat.le_refl _ | (simp only [World.alloc, Array.size_push]; omega) | omega) _))))
  rintro e w2 ⟨rfl, hg⟩
  clear q0a1 q1a1 la1
  rw [HZ1.out]
  have G2_w := Lib.hid (G1_w.out.trans (hG.trans hg))
  have Ba0 := Lib.hid (Ba0.out.grow (hG.trans hg))
  have Ba1 := Lib.hid (Ba1.out.grow (hG.trans hg))
  clear hG hg 
  go_wp2_with fail
  have hne : Nonempty (Cl (Grow w2)) := ⟨⟨w2, Grow.refl _⟩⟩
  have ⟨p0a0, p1a0⟩ := Ba0.out.two_
  have ⟨p0a1, p1a1⟩ := Ba1.out.two_
  refine wp_region_mix (Cls (Grow w2)) 11 #[false, false, false, false, false, false, false, false, false, false, false] (by kernel_rfl) (by kernel_rfl) ⟨⟨_, Grow.drewN _ 1⟩, rfl⟩ ?_
  refine anyC_seg [0, 2] #[true, false, true, false, false, false, false, false, false, false, false] (fuel := 9) rfl (by kernel_rfl) ⟨⟨_, Grow.drewN _ 1⟩, rfl⟩ ?_
  simp only [pickOps, List.getD_cons_succ, List.getD_cons_zero]
  repeat (go_big_quiet_step (fail))
  refine wpQuiet_nil ?_
  apply viaM (fun v1 v2 s0 c0 s1 c1 b W => Grow w2 W ∧ w2.heap.size ≤ b ∧ Box W b [.slice none 0 0, .slice none 0 0] ∧ ∃ fp, OwnM W (.agg #[.slice s0 D.vs.length c0, .slice s1 D.ms.length c1]) D fp ∧ b ∉ fp)
  · intro J
    refine anyC_two_ 1 8 #[true, true, true, false, false, false, false, false, false, false, false] #[true, false, true, false, false, false, false, false, true, false, false] (fuel := 8) (by kernel_rfl) ?_ ?_
    · simp only [List.getD_cons_succ, List.getD_cons_zero]
      go_wp2
      have Zw2 := Lib.hid ((Grow.drewN w2 1)).size
      refine ⟨⟨⟨_, (Grow.drewN w2 1).alloc_ _⟩, rfl⟩, ?_⟩
      refine anyC_sole 1 #[true, true, true, false, false, false, false, false, true, false, false] (fuel := 7) (by kernel_rfl) ?_
      simp only [List.getD_cons_succ, List.getD_cons_zero]
      go_wp2_with fail
      refine (to_M _ _ _ (H0.out.grow (G2_w.out.trans ((Grow.drewN w2 1).alloc_ _))) sm0.out).mono ?_
      rintro e x1z ⟨y0, fpy0, rfl, ht, ft, hg⟩
      have Ry0 := Lib.hid ht.rd; have Dx1z := Lib.hid (((Grow.drewN w2 1).alloc_ _).trans hg); have Ex1z := Lib.hid hg
      have BBx1z := Lib.hid ((Box.alloc _ [.slice none 0 0, .slice none 0 0] _).grow hg)
      clear hg ht ft
      go_wp2
      refine ⟨⟨⟨_, Dx1z.out⟩, rfl⟩, ?_⟩
      refine anyC_sole 3 #[true, true, true, true, false, false, false, false, true, false, false] (fuel := 6) (by kernel_rfl) ?_
      simp only [List.getD_cons_succ, List.getD_cons_zero]
      go_wp2_with fail
      refine (to_M _ _ _ (H1.out.grow (G2_w.out.trans Dx1z.out)) sm1.out).mono ?_
      rintro e x2z ⟨y1, fpy1, rfl, ht, ft, hg⟩
      have Ry1 := Lib.hid ht.rd; have Dx2z := Lib.hid (Dx1z.out.trans hg); have Ex2z := Lib.hid hg
      have BBx2z := Lib.hid (BBx1z.out.grow hg)
      clear hg ht ft
      go_wp2
      refine ⟨⟨⟨_, Dx2z.out⟩, rfl⟩, ?_⟩
      refine anyC_sole 4 #[true, true, true, true, true, false, false, false, true, false, false] (fuel := 5) (by kernel_rfl) ?_
      simp only [List.getD_cons_succ, List.getD_cons_zero]
      go_wp2_with fail
      refine (KS.out _ _ (Ry0.out.grow Ex2z.out) _ Ry1.out).mono ?_
      rintro e x3z ⟨z, fpz, rfl, ho, hf, hg⟩
      obtain ⟨t0, u0, t1, u1, rfl⟩ := ho.rd.shape
      have Dx3z := Lib.hid (Dx2z.out.trans hg); have Ex3z := Lib.hid hg; have OO := Lib.hid ho
      have NF : Hid (_ ∉ fpz) := Lib.hid (fun hm => absurd (hf _ hm) (Nat.not_le.2 BBx2z.out.1))
      have BBx3z := Lib.hid (BBx2z.out.grow hg)
      clear hg ho hf
      go_wp2
      refine ⟨⟨⟨_, Dx3z.out⟩, rfl⟩, ?_⟩
      refine anyC_seg [5, 6, 7] #[true, true, true, true, true, true, true, true, true, false, false] (fuel := 2) rfl (by kernel_rfl) ⟨⟨_, Dx3z.out⟩, rfl⟩ ?_
      simp only [pickOps, List.getD_cons_succ, List.getD_cons_zero]
      repeat (go_big_quiet_step (fail))
      refine wpQuiet_nil ?_
      have BL : Hid (Box _ w2.heap.size _) := BBx3z
      have NL : Hid (w2.heap.size ∉ fpz) := NF
      generalize hbz : w2.heap.size = bz
      rw [hbz] at BL NL
      exact J y0 y1 t0 u0 t1 u1 bz x3z ⟨Dx3z.out, Nat.le_of_eq hbz, BL.out, fpz, OO.out, NL.out⟩
    · simp only [List.getD_cons_succ, List.getD_cons_zero]
      go_wp2_with fail
      refine (to_M _ _ _ (H0.out.grow (G2_w.out.trans (Grow.drewN w2 1))) sm0.out).mono ?_
      rintro e x4z ⟨y0, fpy0, rfl, ht, ft, hg⟩
      have Ry0 := Lib.hid ht.rd; have Dx4z := Lib.hid ((Grow.drewN w2 1).trans hg); have Ex4z := Lib.hid hg
      clear hg ht ft
      go_wp2
      refine ⟨⟨⟨_, Dx4z.out⟩, rfl⟩, ?_⟩
      refine anyC_two_ 3 8 #[true, true, true, true, false, false, false, false, false, false, false] #[true, true, true, false, false, false, false, false, true, false, false] (fuel := 7) (by kernel_rfl) ?_ ?_
      · simp only [List.getD_cons_succ, List.getD_cons_zero]
        go_wp2
        have Zw2 := Lib.hid (Dx4z.out).size
        refine ⟨⟨⟨_, Dx4z.out.alloc_ _⟩, rfl⟩, ?_⟩
        refine anyC_sole 3 #[true, true, true, true, false, false, false, false, true, false, false] (fuel := 6) (by kernel_rfl) ?_
        simp only [List.getD_cons_succ, List.getD_cons_zero]
        go_wp2_with fail
        refine (to_M _ _ _ (H1.out.grow (G2_w.out.trans (Dx4z.out.alloc_ _))) sm1.out).mono ?_
        rintro e x5z ⟨y1, fpy1, rfl, ht, ft, hg⟩
        have Ry1 := Lib.hid ht.rd; have Dx5z := Lib.hid ((Dx4z.out.alloc_ _).trans hg); have Ex5z := Lib.hid hg
        have BBx5z := Lib.hid ((Box.alloc _ [.slice none 0 0, .slice none 0 0] _).grow hg)
        clear hg ht ft
        go_wp2
        refine ⟨⟨⟨_, Dx5z.out⟩, rfl⟩, ?_⟩
        refine anyC_sole 4 #[true, true, true, true, true, false, false, false, true, false, false] (fuel := 5) (by kernel_rfl) ?_
        simp only [List.getD_cons_succ, List.getD_cons_zero]
        go_wp2_with fail
        refine (KS.out _ _ (Ry0.out.grow ((Grow.alloc _ _).trans Ex5z.out)) _ Ry1.out).mono ?_
        rintro e x6z ⟨z, fpz, rfl, ho, hf, hg⟩
        obtain ⟨t0, u0, t1, u1, rfl⟩ := ho.rd.shape
        have Dx6z := Lib.hid (Dx5z.out.trans hg); have Ex6z := Lib.hid hg; have OO := Lib.hid ho
        have NF : Hid (_ ∉ fpz) := Lib.hid (fun hm => absurd (hf _ hm) (Nat.not_le.2 BBx5z.out.1))
        have BBx6z := Lib.hid (BBx5z.out.grow hg)
        clear hg ho hf
        go_wp2
        refine ⟨⟨⟨_, Dx6z.out⟩, rfl⟩, ?_⟩
        refine anyC_seg [5, 6, 7] #[true, true, true, true, true, true, true, true, true, false, false] (fuel := 2) rfl (by kernel_rfl) ⟨⟨_, Dx6z.out⟩, rfl⟩ ?_
        simp only [pickOps, List.getD_cons_succ, List.getD_cons_zero]
        repeat (go_big_quiet_step (fail))
        refine wpQuiet_nil ?_
        exact J _ _ _ _ _ _ _ _ ⟨Dx6z.out, Zw2.out, BBx6z.out, fpz, OO.out, NF.out⟩
      · simp only [List.getD_cons_succ, List.getD_cons_zero]
        go_wp2_with fail
        refine (to_M _ _ _ (H1.out.grow (G2_w.out.trans Dx4z.out)) sm1.out).mono ?_
        rintro e x7z ⟨y1, fpy1, rfl, ht, ft, hg⟩
        have Ry1 := Lib.hid ht.rd; have Dx7z := Lib.hid (Dx4z.out.trans hg); have Ex7z := Lib.hid hg
        clear hg ht ft
        go_wp2
        refine ⟨⟨⟨_, Dx7z.out⟩, rfl⟩, ?_⟩
        refine anyC_two_ 4 8 #[true, true, true, true, true, false, false, false, false, false, false] #[true, true, true, true, false, false, false, false, true, false, false] (fuel := 6) (by kernel_rfl) ?_ ?_
        · simp only [List.getD_cons_succ, List.getD_cons_zero]
          go_wp2
          have Zw2 := Lib.hid (Dx7z.out).size
          refine ⟨⟨⟨_, Dx7z.out.alloc_ _⟩, rfl⟩, ?_⟩
          refine anyC_sole 4 #[true, true, true, true, true, false, false, false, true, false, false] (fuel := 5) (by kernel_rfl) ?_
          simp only [List.getD_cons_succ, List.getD_cons_zero]
          go_wp2_with fail
          refine (KS.out _ _ (Ry0.out.grow (Ex7z.out.trans (Grow.alloc _ _))) _ (Ry1.out.grow (Grow.alloc _ _))).mono ?_
          rintro e x8z ⟨z, fpz, rfl, ho, hf, hg⟩
          obtain ⟨t0, u0, t1, u1, rfl⟩ := ho.rd.shape
          have Dx8z := Lib.hid ((Dx7z.out.alloc_ _).trans hg); have Ex8z := Lib.hid hg; have OO := Lib.hid ho
          have NF : Hid (_ ∉ fpz) := Lib.hid (fun hm => absurd (hf _ hm) (by simp only [World.alloc, Array.size_push]; exact Nat.not_succ_le_self _))
          have BBx8z := Lib.hid ((Box.alloc _ [.slice none 0 0, .slice none 0 0] _).grow hg)
          clear hg ho hf
          go_wp2
          refine ⟨⟨⟨_, Dx8z.out⟩, rfl⟩, ?_⟩
          refine anyC_seg [5, 6, 7] #[true, true, true, true, true, true, true, true, true, false, false] (fuel := 2) rfl (by kernel_rfl) ⟨⟨_, Dx8z.out⟩, rfl⟩ ?_
          simp only [pickOps, List.getD_cons_succ, List.getD_cons_zero]
          repeat (go_big_quiet_step (fail))
          refine wpQuiet_nil ?_
          exact J _ _ _ _ _ _ _ _ ⟨Dx8z.out, Zw2.out, BBx8z.out, fpz, OO.out, NF.out⟩
        · simp only [List.getD_cons_succ, List.getD_cons_zero]
          go_wp2_with fail
          refine (KS.out _ _ (Ry0.out.grow Ex7z.out) _ Ry1.out).mono ?_
          rintro e x9z ⟨z, fpz, rfl, ho, hf, hg⟩
          obtain ⟨t0, u0, t1, u1, rfl⟩ := ho.rd.shape
          have Dx9z := Lib.hid (Dx7z.out.trans hg); have Ex9z := Lib.hid hg; have OO := Lib.hid ho
          clear hg ho hf
          go_wp2
          refine ⟨⟨⟨_, Dx9z.out⟩, rfl⟩, ?_⟩
          refine anyC_seg [5, 6, 7] #[true, true, true, true, true, true, true, true, false, false, false] (fuel := 3) rfl (by kernel_rfl) ⟨⟨_, Dx9z.out⟩, rfl⟩ ?_
          simp only [pickOps, List.getD_cons_succ, List.getD_cons_zero]
          repeat (go_big_quiet_step (fail))
          refine wpQuiet_nil ?_
          refine anyC_sole 8 #[true, true, true, true, true, true, true, true, true, false, false] (fuel := 2) (by kernel_rfl) ?_
          simp only [List.getD_cons_succ, List.getD_cons_zero]
          go_wp2
          refine ⟨⟨⟨_, Dx9z.out.alloc_ _⟩, rfl⟩, ?_⟩
          exact J _ _ _ _ _ _ _ _ ⟨Dx9z.out.alloc_ _, Dx9z.out.size, Box.alloc _ _ _, fpz, OO.out.grow (Grow.alloc _ _), fun hm => absurd (OO.out.here _ hm) (Nat.lt_irrefl _)⟩
  intro v1 v2 sa0z sc0z sa1z sc1z bz w3 ⟨hw, hb, hB, fpz, ho, hn⟩
  have ⟨q0, q1⟩ := hB.two; have hl := hB.1; have hf := hB.2.2
  refine anyC_sole 9 #[true, true, true, true, true, true, true, true, true, true, false] (fuel := 1) (by kernel_rfl) ?_
  simp only [List.getD_cons_succ, List.getD_cons_zero]
  go_wp2
  refine ⟨⟨⟨_, (hw.setCell_ hb _).setCell_ hb _⟩, rfl⟩, ?_⟩
  refine anyC_seg [10] #[true, true, true, true, true, true, true, true, true, true, true] (fuel := 0) rfl (by kernel_rfl) ⟨⟨_, (hw.setCell_ hb _).setCell_ hb _⟩, rfl⟩ ?_
  simp only [pickOps, List.getD_cons_succ, List.getD_cons_zero]
  repeat (go_big_quiet_step (fail))
  refine wpQuiet_nil ?_
  refine anyC_done (by kernel_rfl) ?_
  have Bz := Lib.hid ((hB.set 0 (.slice sa0z D.vs.length sc0z) (by simp)).set 1 (.slice sa1z D.ms.length sc1z) (by simp))
  have HW := Lib.hid (Grow.setCell_ (p := ⟨bz, 1, none⟩) (Grow.setCell_ (p := ⟨bz, 0, none⟩) hw hb (.slice sa0z D.vs.length sc0z)) hb (.slice sa1z D.ms.length sc1z))
  have Rz := Lib.hid (ho.upd (Upd.setCell (p := ⟨bz, 1, none⟩) (Upd.setCell (p := ⟨bz, 0, none⟩) (Upd.refl [bz] w3) (by simp) (.slice sa0z D.vs.length sc0z)) (by simp) (.slice sa1z D.ms.length sc1z)) (fun x hx hm => hn (by simp at hm; exact hm ▸ hx))).rd
  clear q0 q1 hl hf hB ho hn hw hb hne p0a0 p1a0 p0a1 p1a1
  generalize (World.setCell (World.setCell w3 ⟨bz, 0, none⟩ (.slice sa0z D.vs.length sc0z)) ⟨bz, 1, none⟩ (.slice sa1z D.ms.length sc1z)) = w4 at *
  have hG := Grow.refl w2; have hg := HW.out
  have G4_w := Lib.hid (G2_w.out.trans (hG.trans hg))
  have Ba0 := Lib.hid (Ba0.out.grow (hG.trans hg))
  have Ba1 := Lib.hid (Ba1.out.grow (hG.trans hg))
  clear hG hg
  have ⟨q0a0, q1a0⟩ := Ba0.out.two
  have la0 := Ba0.out.1
  go_wp2_with fail
  refine at_call (w := w4) ?G (fun hG => (to_M _ _ _ (H0.out.grow (G4_w.out.trans hG)) sm0.out).mono ?_)
  case G => ((repeat (first | with_reducible exact Grow.refl _ | (with_reducible refine Grow.alloc_ ?_ _) | (with_reducible refine Grow.setCell_ ?_ (by first | exact Nat.le_refl _ | (simp only [World.alloc, Array.size_push]; omega) | omega) _))))
  rintro e w5 ⟨x0, fpx0, rfl, ho, hf, hg⟩
  clear q0a0 q1a0 la0
  obtain ⟨sa0x0, sc0x0, sa1x0, sc1x0, rfl⟩ := ho.rd.shape
  have Ox0 := Lib.hid ho; have Rx0 := Lib.hid ho.rd; have Fx0 := Lib.hid (hf.older hG); have Yx0 := Lib.hid ho.here
  have Na0_x0 : Hid (w.heap.size ∉ fpx0) := Lib.hid (fun hm => by have h1 := Fx0.out _ hm; have h2 := Ba0.out.1; omega)
  have Na1_x0 : Hid (w.heap.size + 1 ∉ fpx0) := Lib.hid (fun hm => by have h1 := Fx0.out _ hm; have h2 := Ba1.out.1; omega)
  have Nz_x0 : Hid (bz ∉ fpx0) := Lib.hid (fun hm => by have h1 := Fx0.out _ hm; have h2 := Bz.out.1; omega)
  have G5_w := Lib.hid (G4_w.out.trans (hG.trans hg))
  have G5_w4 := Lib.hid (hG.trans hg)
  have Ba0 := Lib.hid (Ba0.out.grow (hG.trans hg))
  have Ba1 := Lib.hid (Ba1.out.grow (hG.trans hg))
  have Bz := Lib.hid (Bz.out.grow (hG.trans hg))
  clear hG hg ho hf
  have ⟨q0a1, q1a1⟩ := Ba1.out.two
  have la1 := Ba1.out.1
  go_wp2_with fail
  refine at_call (w := w5) ?G (fun hG => (to_M _ _ _ (H1.out.grow (G5_w.out.trans hG)) sm1.out).mono ?_)
  case G => ((repeat (first | with_reducible exact Grow.refl _ | (with_reducible refine Grow.alloc_ ?_ _) | (with_reducible refine Grow.setCell_ ?_ (by first | exact Nat.le_refl _ | (simp only [World.alloc, Array.size_push]; omega) | omega) _))))
  rintro e w6 ⟨x1, fpx1, rfl, ho, hf, hg⟩
  clear q0a1 q1a1 la1
  obtain ⟨sa0x1, sc0x1, sa1x1, sc1x1, rfl⟩ := ho.rd.shape
  have Ox1 := Lib.hid ho; have Rx1 := Lib.hid ho.rd; have Fx1 := Lib.hid (hf.older hG); have Yx1 := Lib.hid ho.here
  have Na0_x1 : Hid (w.heap.size ∉ fpx1) := Lib.hid (fun hm => by have h1 := Fx1.out _ hm; have h2 := Ba0.out.1; omega)
  have Na1_x1 : Hid (w.heap.size + 1 ∉ fpx1) := Lib.hid (fun hm => by have h1 := Fx1.out _ hm; have h2 := Ba1.out.1; omega)
  have Nz_x1 : Hid (bz ∉ fpx1) := Lib.hid (fun hm => by have h1 := Fx1.out _ hm; have h2 := Bz.out.1; omega)
  have Nx0_x1 : Hid (w5.heap.size ∉ fpx1) := Lib.hid (fun hm => by have h1 := hf _ hm; have h2 := hG.size; simp only [World.alloc, Array.size_push] at h1; omega)
  have G6_w := Lib.hid (G5_w.out.trans (hG.trans hg))
  have G6_w4 := Lib.hid (G5_w4.out.trans (hG.trans hg))
  have G6_w5 := Lib.hid (hG.trans hg)
  have Ba0 := Lib.hid (Ba0.out.grow (hG.trans hg))
  have Ba1 := Lib.hid (Ba1.out.grow (hG.trans hg))
  have Bz := Lib.hid (Bz.out.grow (hG.trans hg))
  have Bx0 := Lib.hid (((Box.alloc _ _ _).grow hg))
  have Nx0_x0 : Hid (w5.heap.size ∉ fpx0) := Lib.hid (fun hm => by have h1 := Yx0.out _ hm; have h2 := Nat.le_refl 0; omega)
  clear hG hg ho hf
  have ⟨q0x0, q1x0⟩ := Bx0.out.two
  have lx0 := Bx0.out.1
  go_wp2_with fail
  refine at_call (w := w6) ?G (fun hG => (KI.out _ _ (Rx0.out.grow (G6_w5.out.trans hG)) _ (Rx1.out.grow hG)).mono ?_)
  case G => ((repeat (first | with_reducible exact Grow.refl _ | (with_reducible refine Grow.alloc_ ?_ _) | (with_reducible refine Grow.setCell_ ?_ (by first | exact Nat.le_refl _ | (simp only [World.alloc, Array.size_push]; omega) | omega) _))))
  rintro e w7 ⟨g, fpg, rfl, ho, hf, hg⟩
  clear q0x0 q1x0 lx0
  obtain ⟨sa0g, sc0g, sa1g, sc1g, rfl⟩ := ho.rd.shape
  have Og := Lib.hid ho; have Rg := Lib.hid ho.rd; have Fg := Lib.hid (hf.older hG); have Yg := Lib.hid ho.here
  have Na0_g : Hid (w.heap.size ∉ fpg) := Lib.hid (fun hm => by have h1 := Fg.out _ hm; have h2 := Ba0.out.1; omega)
  have Na1_g : Hid (w.heap.size + 1 ∉ fpg) := Lib.hid (fun hm => by have h1 := Fg.out _ hm; have h2 := Ba1.out.1; omega)
  have Nz_g : Hid (bz ∉ fpg) := Lib.hid (fun hm => by have h1 := Fg.out _ hm; have h2 := Bz.out.1; omega)
  have Nx0_g : Hid (w5.heap.size ∉ fpg) := Lib.hid (fun hm => by have h1 := Fg.out _ hm; have h2 := Bx0.out.1; omega)
  have Nx1_g : Hid (w6.heap.size ∉ fpg) := Lib.hid (fun hm => by have h1 := hf _ hm; have h2 := hG.size; simp only [World.alloc, Array.size_push] at h1; omega)
  have G7_w := Lib.hid (G6_w.out.trans (hG.trans hg))
  have G7_w4 := Lib.hid (G6_w4.out.trans (hG.trans hg))
  have G7_w5 := Lib.hid (G6_w5.out.trans (hG.trans hg))
  have G7_w6 := Lib.hid (hG.trans hg)
  have Ba0 := Lib.hid (Ba0.out.grow (hG.trans hg))
  have Ba1 := Lib.hid (Ba1.out.grow (hG.trans hg))
  have Bz := Lib.hid (Bz.out.grow (hG.trans hg))
  have Bx0 := Lib.hid (Bx0.out.grow (hG.trans hg))
  have Bx1 := Lib.hid (((Box.alloc _ _ _).grow hg))
  have Nx1_x0 : Hid (w6.heap.size ∉ fpx0) := Lib.hid (fun hm => by have h1 := Yx0.out _ hm; have h2 := G6_w5.out.size; omega)
  have Nx1_x1 : Hid (w6.heap.size ∉ fpx1) := Lib.hid (fun hm => by have h1 := Yx1.out _ hm; have h2 := Nat.le_refl 0; omega)
  clear hG hg ho hf
  have ⟨q0z, q1z⟩ := Bz.out.two
  have lz := Bz.out.1
  go_wp2_with fail
  refine at_call (w := w7) ?G (fun hG => (eq_M _ _ _ _ _ (Rg.out.grow hG) (Rz.out.grow (G7_w4.out.trans hG))).mono ?_)
  case G => ((repeat (first | with_reducible exact Grow.refl _ | (with_reducible refine Grow.alloc_ ?_ _) | (with_reducible refine Grow.setCell_ ?_ (by first | exact Nat.le_refl _ | (simp only [World.alloc, Array.size_push]; omega) | omega) _))))
  rintro e w8 ⟨rfl, hg⟩
  clear q0z q1z lz
  have G8_w := Lib.hid (G7_w.out.trans (hG.trans hg))
  have G8_w4 := Lib.hid (G7_w4.out.trans (hG.trans hg))
  have G8_w5 := Lib.hid (G7_w5.out.trans (hG.trans hg))
  have G8_w6 := Lib.hid (G7_w6.out.trans (hG.trans hg))
  have G8_w7 := Lib.hid (hG.trans hg)
  have Ba0 := Lib.hid (Ba0.out.grow (hG.trans hg))
  have Ba1 := Lib.hid (Ba1.out.grow (hG.trans hg))
  have Bz := Lib.hid (Bz.out.grow (hG.trans hg))
  have Bx0 := Lib.hid (Bx0.out.grow (hG.trans hg))
  have Bx1 := Lib.hid (Bx1.out.grow (hG.trans hg))
  have Bg := Lib.hid (((Box.alloc _ _ _).grow hg))
  have Ng_x0 : Hid (w7.heap.size ∉ fpx0) := Lib.hid (fun hm => by have h1 := Yx0.out _ hm; have h2 := G7_w5.out.size; omega)
  have Ng_x1 : Hid (w7.heap.size ∉ fpx1) := Lib.hid (fun hm => by have h1 := Yx1.out _ hm; have h2 := G7_w6.out.size; omega)
  have Ng_g : Hid (w7.heap.size ∉ fpg) := Lib.hid (fun hm => by have h1 := Yg.out _ hm; have h2 := Nat.le_refl 0; omega)
  clear hG hg 
  go_wp2_with fail
  have hne : Nonempty (Cl (Grow w8)) := ⟨⟨w8, Grow.refl _⟩⟩
  have ⟨p0a0, p1a0⟩ := Ba0.out.two_
  have ⟨p0x0, p1x0⟩ := Bx0.out.two_
  refine wp_region_mix (Cls (Grow w8)) 5 #[false, false, false, false, false] (by kernel_rfl) (by kernel_rfl) ⟨⟨_, Grow.drewN _ 1⟩, rfl⟩ ?_
  refine anyC_seg [0, 1] #[true, true, false, false, false] (fuel := 3) rfl (by kernel_rfl) ⟨⟨_, Grow.drewN _ 1⟩, rfl⟩ ?_
  simp only [pickOps, List.getD_cons_succ, List.getD_cons_zero]
  repeat (go_big_quiet_step (fail))
  refine wpQuiet_nil ?_
  refine anyC_sole 2 #[true, true, true, false, false] (fuel := 2) (by kernel_rfl) ?_
  simp only [List.getD_cons_succ, List.getD_cons_zero]
  go_wp2_with fail
  refine (to_M _ _ _ (H0.out.grow (G8_w.out.trans (Grow.drewN _ 1))) sm0.out).mono ?_
  rintro e w9 ⟨t0, fpt0, rfl, ht, ft, hg⟩
  have Rt0 := Lib.hid ht.rd; have Dw9 := Lib.hid ((Grow.drewN _ 1).trans hg); clear hg ht ft
  go_wp2
  refine ⟨⟨⟨_, Dw9.out⟩, rfl⟩, ?_⟩
  refine anyC_sole 3 #[true, true, true, true, false] (fuel := 1) (by kernel_rfl) ?_
  simp only [List.getD_cons_succ, List.getD_cons_zero]
  go_wp2_with fail
  refine (eq_M _ _ _ _ _ (Rx0.out.grow (G8_w5.out.trans Dw9.out)) Rt0.out).mono ?_
  rintro e w10 ⟨rfl, hg⟩
  have Dw10 := Lib.hid (Dw9.out.trans hg); clear hg
  go_wp2
  refine ⟨⟨⟨_, Dw10.out⟩, rfl⟩, ?_⟩
  refine anyC_seg [4] #[true, true, true, true, true] (fuel := 0) rfl (by kernel_rfl) ⟨⟨_, Dw10.out⟩, rfl⟩ ?_
  simp only [pickOps, List.getD_cons_succ, List.getD_cons_zero]
  repeat (go_big_quiet_step (fail))
  refine wpQuiet_nil ?_
  refine anyC_done (by kernel_rfl) ?_
  clear hne p0a0 p1a0 p0x0 p1x0
  have hG := Grow.refl w8; have hg := Dw10.out
  have G10_w := Lib.hid (G8_w.out.trans (hG.trans hg))
  have G10_w4 := Lib.hid (G8_w4.out.trans (hG.trans hg))
  have G10_w5 := Lib.hid (G8_w5.out.trans (hG.trans hg))
  have G10_w6 := Lib.hid (G8_w6.out.trans (hG.trans hg))
  have G10_w7 := Lib.hid (G8_w7.out.trans (hG.trans hg))
  have Ba0 := Lib.hid (Ba0.out.grow (hG.trans hg))
  have Ba1 := Lib.hid (Ba1.out.grow (hG.trans hg))
  have Bz := Lib.hid (Bz.out.grow (hG.trans hg))
  have Bx0 := Lib.hid (Bx0.out.grow (hG.trans hg))
  have Bx1 := Lib.hid (Bx1.out.grow (hG.trans hg))
  have Bg := Lib.hid (Bg.out.grow (hG.trans hg))
  clear hG hg
  go_wp2_with fail
  have hne : Nonempty (Cl (Grow w10)) := ⟨⟨w10, Grow.refl _⟩⟩
  have ⟨p0a1, p1a1⟩ := Ba1.out.two_
  have ⟨p0x1, p1x1⟩ := Bx1.out.two_
  refine wp_region_mix (Cls (Grow w10)) 5 #[false, false, false, false, false] (by kernel_rfl) (by kernel_rfl) ⟨⟨_, Grow.drewN _ 1⟩, rfl⟩ ?_
  refine anyC_seg [0, 1] #[true, true, false, false, false] (fuel := 3) rfl (by kernel_rfl) ⟨⟨_, Grow.drewN _ 1⟩, rfl⟩ ?_
  simp only [pickOps, List.getD_cons_succ, List.getD_cons_zero]
  repeat (go_big_quiet_step (fail))
  refine wpQuiet_nil ?_
  refine anyC_sole 2 #[true, true, true, false, false] (fuel := 2) (by kernel_rfl) ?_
  simp only [List.getD_cons_succ, List.getD_cons_zero]
  go_wp2_with fail
  refine (to_M _ _ _ (H1.out.grow (G10_w.out.trans (Grow.drewN _ 1))) sm1.out).mono ?_
  rintro e w11 ⟨t1, fpt1, rfl, ht, ft, hg⟩
  have Rt1 := Lib.hid ht.rd; have Dw11 := Lib.hid ((Grow.drewN _ 1).trans hg); clear hg ht ft
  go_wp2
  refine ⟨⟨⟨_, Dw11.out⟩, rfl⟩, ?_⟩
  refine anyC_sole 3 #[true, true, true, true, false] (fuel := 1) (by kernel_rfl) ?_
  simp only [List.getD_cons_succ, List.getD_cons_zero]
  go_wp2_with fail
  refine (eq_M _ _ _ _ _ (Rx1.out.grow (G10_w6.out.trans Dw11.out)) Rt1.out).mono ?_
  rintro e w12 ⟨rfl, hg⟩
  have Dw12 := Lib.hid (Dw11.out.trans hg); clear hg
  go_wp2
  refine ⟨⟨⟨_, Dw12.out⟩, rfl⟩, ?_⟩
  refine anyC_seg [4] #[true, true, true, true, true] (fuel := 0) rfl (by kernel_rfl) ⟨⟨_, Dw12.out⟩, rfl⟩ ?_
  simp only [pickOps, List.getD_cons_succ, List.getD_cons_zero]
  repeat (go_big_quiet_step (fail))
  refine wpQuiet_nil ?_
  refine anyC_done (by kernel_rfl) ?_
  clear hne p0a1 p1a1 p0x1 p1x1
  have hG := Grow.refl w10; have hg := Dw12.out
  have G12_w := Lib.hid (G10_w.out.trans (hG.trans hg))
  have G12_w4 := Lib.hid (G10_w4.out.trans (hG.trans hg))
  have G12_w5 := Lib.hid (G10_w5.out.trans (hG.trans hg))
  have G12_w6 := Lib.hid (G10_w6.out.trans (hG.trans hg))
  have G12_w7 := Lib.hid (G10_w7.out.trans (hG.trans hg))
  have Ba0 := Lib.hid (Ba0.out.grow (hG.trans hg))
  have Ba1 := Lib.hid (Ba1.out.grow (hG.trans hg))
  have Bz := Lib.hid (Bz.out.grow (hG.trans hg))
  have Bx0 := Lib.hid (Bx0.out.grow (hG.trans hg))
  have Bx1 := Lib.hid (Bx1.out.grow (hG.trans hg))
  have Bg := Lib.hid (Bg.out.grow (hG.trans hg))
  clear hG hg
  have P0 := Lib.hid (Ox0.out.grow G12_w5.out)
  have P1 := Lib.hid (Ox1.out.grow G12_w6.out)
  have PG := Lib.hid (Og.out.grow G12_w7.out)
  have AG0 : Hid (∀ x ∈ fpg, x ∉ fpx0) := Lib.hid (fun x hx hm => by have h1 := Yx0.out x hm; have h2 := Fg.out x hx; have h3 := G6_w5.out.size; omega)
  have AG1 : Hid (∀ x ∈ fpg, x ∉ fpx1) := Lib.hid (fun x hx hm => by have h1 := Yx1.out x hm; have h2 := Fg.out x hx; have h3 := Nat.le_refl 0; omega)
  have AA0_1 : Hid (∀ x ∈ fpx1, x ∉ fpx0) := Lib.hid (fun x hx hm => by have h1 := Yx0.out x hm; have h2 := Fx1.out x hx; have h3 := Nat.le_refl 0; omega)
  have kb0 := cntM_bd d0 sm0.out
  have ⟨q0x0, q1x0⟩ := Bx0.out.two
  have lx0 := Bx0.out.1
  go_wp2_with fail
  refine at_call (w := w12) ?G (fun hG => (mark_M _ _ _ _ _ (P0.out.grow hG) sm0.out (by omega)).mono ?_)
  case G => ((repeat (first | with_reducible exact Grow.refl _ | (with_reducible refine Grow.alloc_ ?_ _) | (with_reducible refine Grow.setCell_ ?_ (by first | exact Nat.le_refl _ | (simp only [World.alloc, Array.size_push]; omega) | omega) _))))
  rintro e w13 ⟨rfl, ho, hu⟩
  clear q0x0 q1x0 lx0
  have HU := Lib.hid (hG.upd_then hu); clear hG hu
  clear ho
  have P1 := Lib.hid (P1.out.upd HU.out AA0_1.out)
  have PG := Lib.hid (PG.out.upd HU.out AG0.out)
  have G13_w := Lib.hid (G12_w.out.then_upd HU.out (Fx0.out.older G4_w.out))
  have G13_w4 := Lib.hid (G12_w4.out.then_upd HU.out (Fx0.out.older (Grow.refl _)))
  have Ba0 := Lib.hid (Ba0.out.upd HU.out Na0_x0.out)
  have Ba1 := Lib.hid (Ba1.out.upd HU.out Na1_x0.out)
  have Bz := Lib.hid (Bz.out.upd HU.out Nz_x0.out)
  have Bx0 := Lib.hid (Bx0.out.upd HU.out Nx0_x0.out)
  have Bx1 := Lib.hid (Bx1.out.upd HU.out Nx1_x0.out)
  have Bg := Lib.hid (Bg.out.upd HU.out Ng_x0.out)
  have kb1 := cntM_bd d1 sm1.out
  have ⟨q0x1, q1x1⟩ := Bx1.out.two
  have lx1 := Bx1.out.1
  go_wp2_with fail
  refine at_call (w := w13) ?G (fun hG => (mark_M _ _ _ _ _ (P1.out.grow hG) sm1.out (by omega)).mono ?_)
  case G => ((repeat (first | with_reducible exact Grow.refl _ | (with_reducible refine Grow.alloc_ ?_ _) | (with_reducible refine Grow.setCell_ ?_ (by first | exact Nat.le_refl _ | (simp only [World.alloc, Array.size_push]; omega) | omega) _))))
  rintro e w14 ⟨rfl, ho, hu⟩
  clear q0x1 q1x1 lx1
  have HU := Lib.hid (hG.upd_then hu); clear hG hu
  clear ho
  have PG := Lib.hid (PG.out.upd HU.out AG1.out)
  have G14_w := Lib.hid (G13_w.out.then_upd HU.out (Fx1.out.older G5_w.out))
  have G14_w4 := Lib.hid (G13_w4.out.then_upd HU.out (Fx1.out.older G5_w4.out))
  have Ba0 := Lib.hid (Ba0.out.upd HU.out Na0_x1.out)
  have Ba1 := Lib.hid (Ba1.out.upd HU.out Na1_x1.out)
  have Bz := Lib.hid (Bz.out.upd HU.out Nz_x1.out)
  have Bx0 := Lib.hid (Bx0.out.upd HU.out Nx0_x1.out)
  have Bx1 := Lib.hid (Bx1.out.upd HU.out Nx1_x1.out)
  have Bg := Lib.hid (Bg.out.upd HU.out Ng_x1.out)
  have ⟨q0g, q1g⟩ := Bg.out.two
  have lg := Bg.out.1
  have ⟨q0z, q1z⟩ := Bz.out.two
  have lz := Bz.out.1
  go_wp2_with fail
  refine at_call (w := w14) ?G (fun hG => (eq_M _ _ _ _ _ (PG.out.grow hG).rd (Rz.out.grow (G14_w4.out.trans hG))).mono ?_)
  case G => ((repeat (first | with_reducible exact Grow.refl _ | (with_reducible refine Grow.alloc_ ?_ _) | (with_reducible refine Grow.setCell_ ?_ (by first | exact Nat.le_refl _ | (simp only [World.alloc, Array.size_push]; omega) | omega) _))))
  rintro e w15 ⟨rfl, hg⟩
  clear q0g q1g lg q0z q1z lz
  have PG := Lib.hid (PG.out.grow (hG.trans hg))
  have G15_w := Lib.hid (G14_w.out.trans (hG.trans hg))
  have G15_w4 := Lib.hid (G14_w4.out.trans (hG.trans hg))
  have Ba0 := Lib.hid (Ba0.out.grow (hG.trans hg))
  have Ba1 := Lib.hid (Ba1.out.grow (hG.trans hg))
  have Bz := Lib.hid (Bz.out.grow (hG.trans hg))
  have Bx0 := Lib.hid (Bx0.out.grow (hG.trans hg))
  have Bx1 := Lib.hid (Bx1.out.grow (hG.trans hg))
  have Bg := Lib.hid (Bg.out.grow (hG.trans hg))
  clear hG hg 
  have kbg := cntM_bd _ SG.out
  have ⟨q0g, q1g⟩ := Bg.out.two
  have lg := Bg.out.1
  go_wp2_with fail
  refine at_call (w := w15) ?G (fun hG => (mark_M _ _ _ _ _ (PG.out.grow hG) SG.out (by omega)).mono ?_)
  case G => ((repeat (first | with_reducible exact Grow.refl _ | (with_reducible refine Grow.alloc_ ?_ _) | (with_reducible refine Grow.setCell_ ?_ (by first | exact Nat.le_refl _ | (simp only [World.alloc, Array.size_push]; omega) | omega) _))))
  rintro e w16 ⟨rfl, ho, hu⟩
  clear q0g q1g lg
  have HU := Lib.hid (hG.upd_then hu); clear hG hu
  have QG := Lib.hid ho.rd; clear ho
  have G16_w := Lib.hid (G15_w.out.then_upd HU.out (Fg.out.older G6_w.out))
  have G16_w4 := Lib.hid (G15_w4.out.then_upd HU.out (Fg.out.older G6_w4.out))
  have Ba0 := Lib.hid (Ba0.out.upd HU.out Na0_g.out)
  have Ba1 := Lib.hid (Ba1.out.upd HU.out Na1_g.out)
  have Bz := Lib.hid (Bz.out.upd HU.out Nz_g.out)
  have Bx0 := Lib.hid (Bx0.out.upd HU.out Nx0_g.out)
  have Bx1 := Lib.hid (Bx1.out.upd HU.out Nx1_g.out)
  have Bg := Lib.hid (Bg.out.upd HU.out Ng_g.out)
  have ⟨q0g, q1g⟩ := Bg.out.two
  have lg := Bg.out.1
  go_wp2_with fail
  refine at_call (w := w16) ?G (fun hG => (held_M _ _ _ _ (QG.out.grow hG) SG.out (by omega)).mono ?_)
  case G => ((repeat (first | with_reducible exact Grow.refl _ | (with_reducible refine Grow.alloc_ ?_ _) | (with_reducible refine Grow.setCell_ ?_ (by first | exact Nat.le_refl _ | (simp only [World.alloc, Array.size_push]; omega) | omega) _))))
  rintro e w17 ⟨rfl, hg⟩
  clear q0g q1g lg
  have G17_w := Lib.hid (G16_w.out.trans (hG.trans hg))
  have G17_w4 := Lib.hid (G16_w4.out.trans (hG.trans hg))
  have G17_w16 := Lib.hid (hG.trans hg)
  have Ba0 := Lib.hid (Ba0.out.grow (hG.trans hg))
  have Ba1 := Lib.hid (Ba1.out.grow (hG.trans hg))
  have Bz := Lib.hid (Bz.out.grow (hG.trans hg))
  have Bx0 := Lib.hid (Bx0.out.grow (hG.trans hg))
  have Bx1 := Lib.hid (Bx1.out.grow (hG.trans hg))
  have Bg := Lib.hid (Bg.out.grow (hG.trans hg))
  clear hG hg 
  go_wp2_with fail
  have hne : Nonempty (Cl (Grow w17)) := ⟨⟨w17, Grow.refl _⟩⟩
  have ⟨p0a0, p1a0⟩ := Ba0.out.two_
  have ⟨p0a1, p1a1⟩ := Ba1.out.two_
  refine wp_region_mix (Cls (Grow w17)) 11 #[false, false, false, false, false, false, false, false, false, false, false] (by kernel_rfl) (by kernel_rfl) ⟨⟨_, Grow.drewN _ 1⟩, rfl⟩ ?_
  refine anyC_seg [0, 2] #[true, false, true, false, false, false, false, false, false, false, false] (fuel := 9) rfl (by kernel_rfl) ⟨⟨_, Grow.drewN _ 1⟩, rfl⟩ ?_
  simp only [pickOps, List.getD_cons_succ, List.getD_cons_zero]
  repeat (go_big_quiet_step (fail))
  refine wpQuiet_nil ?_
  apply viaM (fun v1 v2 s0 c0 s1 c1 b W => Grow w17 W ∧ w17.heap.size ≤ b ∧ Box W b [.slice none 0 0, .slice none 0 0] ∧ ∃ fp, OwnM W (.agg #[.slice s0 D.vs.length c0, .slice s1 D.ms.length c1]) D fp ∧ b ∉ fp)
  · intro J
    refine anyC_two_ 1 8 #[true, true, true, false, false, false, false, false, false, false, false] #[true, false, true, false, false, false, false, false, true, false, false] (fuel := 8) (by kernel_rfl) ?_ ?_
    · simp only [List.getD_cons_succ, List.getD_cons_zero]
      go_wp2
      have Zw17 := Lib.hid ((Grow.drewN w17 1)).size
      refine ⟨⟨⟨_, (Grow.drewN w17 1).alloc_ _⟩, rfl⟩, ?_⟩
      refine anyC_sole 1 #[true, true, true, false, false, false, false, false, true, false, false] (fuel := 7) (by kernel_rfl) ?_
      simp only [List.getD_cons_succ, List.getD_cons_zero]
      go_wp2_with fail
      refine (to_M _ _ _ (H0.out.grow (G17_w.out.trans ((Grow.drewN w17 1).alloc_ _))) sm0.out).mono ?_
      rintro e x1k ⟨y0, fpy0, rfl, ht, ft, hg⟩
      have Ry0 := Lib.hid ht.rd; have Dx1k := Lib.hid (((Grow.drewN w17 1).alloc_ _).trans hg); have Ex1k := Lib.hid hg
      have BBx1k := Lib.hid ((Box.alloc _ [.slice none 0 0, .slice none 0 0] _).grow hg)
      clear hg ht ft
      go_wp2
      refine ⟨⟨⟨_, Dx1k.out⟩, rfl⟩, ?_⟩
      refine anyC_sole 3 #[true, true, true, true, false, false, false, false, true, false, false] (fuel := 6) (by kernel_rfl) ?_
      simp only [List.getD_cons_succ, List.getD_cons_zero]
      go_wp2_with fail
      refine (to_M _ _ _ (H1.out.grow (G17_w.out.trans Dx1k.out)) sm1.out).mono ?_
      rintro e x2k ⟨y1, fpy1, rfl, ht, ft, hg⟩
      have Ry1 := Lib.hid ht.rd; have Dx2k := Lib.hid (Dx1k.out.trans hg); have Ex2k := Lib.hid hg
      have BBx2k := Lib.hid (BBx1k.out.grow hg)
      clear hg ht ft
      go_wp2
      refine ⟨⟨⟨_, Dx2k.out⟩, rfl⟩, ?_⟩
      refine anyC_sole 4 #[true, true, true, true, true, false, false, false, true, false, false] (fuel := 5) (by kernel_rfl) ?_
      simp only [List.getD_cons_succ, List.getD_cons_zero]
      go_wp2_with fail
      refine (KI.out _ _ (Ry0.out.grow Ex2k.out) _ Ry1.out).mono ?_
      rintro e x3k ⟨z, fpk, rfl, ho, hf, hg⟩
      obtain ⟨t0, u0, t1, u1, rfl⟩ := ho.rd.shape
      have Dx3k := Lib.hid (Dx2k.out.trans hg); have Ex3k := Lib.hid hg; have OO := Lib.hid ho
      have NF : Hid (_ ∉ fpk) := Lib.hid (fun hm => absurd (hf _ hm) (Nat.not_le.2 BBx2k.out.1))
      have BBx3k := Lib.hid (BBx2k.out.grow hg)
      clear hg ho hf
      go_wp2
      refine ⟨⟨⟨_, Dx3k.out⟩, rfl⟩, ?_⟩
      refine anyC_seg [5, 6, 7] #[true, true, true, true, true, true, true, true, true, false, false] (fuel := 2) rfl (by kernel_rfl) ⟨⟨_, Dx3k.out⟩, rfl⟩ ?_
      simp only [pickOps, List.getD_cons_succ, List.getD_cons_zero]
      repeat (go_big_quiet_step (fail))
      refine wpQuiet_nil ?_
      have BL : Hid (Box _ w17.heap.size _) := BBx3k
      have NL : Hid (w17.heap.size ∉ fpk) := NF
      generalize hbz : w17.heap.size = bz
      rw [hbz] at BL NL
      exact J y0 y1 t0 u0 t1 u1 bz x3k ⟨Dx3k.out, Nat.le_of_eq hbz, BL.out, fpk, OO.out, NL.out⟩
    · simp only [List.getD_cons_succ, List.getD_cons_zero]
      go_wp2_with fail
      refine (to_M _ _ _ (H0.out.grow (G17_w.out.trans (Grow.drewN w17 1))) sm0.out).mono ?_
      rintro e x4k ⟨y0, fpy0, rfl, ht, ft, hg⟩
      have Ry0 := Lib.hid ht.rd; have Dx4k := Lib.hid ((Grow.drewN w17 1).trans hg); have Ex4k := Lib.hid hg
      clear hg ht ft
      go_wp2
      refine ⟨⟨⟨_, Dx4k.out⟩, rfl⟩, ?_⟩
      refine anyC_two_ 3 8 #[true, true, true, true, false, false, false, false, false, false, false] #[true, true, true, false, false, false, false, false, true, false, false] (fuel := 7) (by kernel_rfl) ?_ ?_
      · simp only [List.getD_cons_succ, List.getD_cons_zero]
        go_wp2
        have Zw17 := Lib.hid (Dx4k.out).size
        refine ⟨⟨⟨_, Dx4k.out.alloc_ _⟩, rfl⟩, ?_⟩
        refine anyC_sole 3 #[true, true, true, true, false, false, false, false, true, false, false] (fuel := 6) (by kernel_rfl) ?_
        simp only [List.getD_cons_succ, List.getD_cons_zero]
        go_wp2_with fail
        refine (to_M _ _ _ (H1.out.grow (G17_w.out.trans (Dx4k.out.alloc_ _))) sm1.out).mono ?_
        rintro e x5k ⟨y1, fpy1, rfl, ht, ft, hg⟩
        have Ry1 := Lib.hid ht.rd; have Dx5k := Lib.hid ((Dx4k.out.alloc_ _).trans hg); have Ex5k := Lib.hid hg
        have BBx5k := Lib.hid ((Box.alloc _ [.slice none 0 0, .slice none 0 0] _).grow hg)
        clear hg ht ft
        go_wp2
        refine ⟨⟨⟨_, Dx5k.out⟩, rfl⟩, ?_⟩
        refine anyC_sole 4 #[true, true, true, true, true, false, false, false, true, false, false] (fuel := 5) (by kernel_rfl) ?_
        simp only [List.getD_cons_succ, List.getD_cons_zero]
        go_wp2_with fail
        refine (KI.out _ _ (Ry0.out.grow ((Grow.alloc _ _).trans Ex5k.out)) _ Ry1.out).mono ?_
        rintro e x6k ⟨z, fpk, rfl, ho, hf, hg⟩
        obtain ⟨t0, u0, t1, u1, rfl⟩ := ho.rd.shape
        have Dx6k := Lib.hid (Dx5k.out.trans hg); have Ex6k := Lib.hid hg; have OO := Lib.hid ho
        have NF : Hid (_ ∉ fpk) := Lib.hid (fun hm => absurd (hf _ hm) (Nat.not_le.2 BBx5k.out.1))
        have BBx6k := Lib.hid (BBx5k.out.grow hg)
        clear hg ho hf
        go_wp2
        refine ⟨⟨⟨_, Dx6k.out⟩, rfl⟩, ?_⟩
        refine anyC_seg [5, 6, 7] #[true, true, true, true, true, true, true, true, true, false, false] (fuel := 2) rfl (by kernel_rfl) ⟨⟨_, Dx6k.out⟩, rfl⟩ ?_
        simp only [pickOps, List.getD_cons_succ, List.getD_cons_zero]
        repeat (go_big_quiet_step (fail))
        refine wpQuiet_nil ?_
        exact J _ _ _ _ _ _ _ _ ⟨Dx6k.out, Zw17.out, BBx6k.out, fpk, OO.out, NF.out⟩
      · simp only [List.getD_cons_succ, List.getD_cons_zero]
        go_wp2_with fail
        refine (to_M _ _ _ (H1.out.grow (G17_w.out.trans Dx4k.out)) sm1.out).mono ?_
        rintro e x7k ⟨y1, fpy1, rfl, ht, ft, hg⟩
        have Ry1 := Lib.hid ht.rd; have Dx7k := Lib.hid (Dx4k.out.trans hg); have Ex7k := Lib.hid hg
        clear hg ht ft
        go_wp2
        refine ⟨⟨⟨_, Dx7k.out⟩, rfl⟩, ?_⟩
        refine anyC_two_ 4 8 #[true, true, true, true, true, false, false, false, false, false, false] #[true, true, true, true, false, false, false, false, true, false, false] (fuel := 6) (by kernel_rfl) ?_ ?_
        · simp only [List.getD_cons_succ, List.getD_cons_zero]
          go_wp2
          have Zw17 := Lib.hid (Dx7k.out).size
          refine ⟨⟨⟨_, Dx7k.out.alloc_ _⟩, rfl⟩, ?_⟩
          refine anyC_sole 4 #[true, true, true, true, true, false, false, false, true, false, false] (fuel := 5) (by kernel_rfl) ?_
          simp only [List.getD_cons_succ, List.getD_cons_zero]
          go_wp2_with fail
          refine (KI.out _ _ (Ry0.out.grow (Ex7k.out.trans (Grow.alloc _ _))) _ (Ry1.out.grow (Grow.alloc _ _))).mono ?_
          rintro e x8k ⟨z, fpk, rfl, ho, hf, hg⟩
          obtain ⟨t0, u0, t1, u1, rfl⟩ := ho.rd.shape
          have Dx8k := Lib.hid ((Dx7k.out.alloc_ _).trans hg); have Ex8k := Lib.hid hg; have OO := Lib.hid ho
          have NF : Hid (_ ∉ fpk) := Lib.hid (fun hm => absurd (hf _ hm) (by simp only [World.alloc, Array.size_push]; exact Nat.not_succ_le_self _))
          have BBx8k := Lib.hid ((Box.alloc _ [.slice none 0 0, .slice none 0 0] _).grow hg)
          clear hg ho hf
          go_wp2
          refine ⟨⟨⟨_, Dx8k.out⟩, rfl⟩, ?_⟩
          refine anyC_seg [5, 6, 7] #[true, true, true, true, true, true, true, true, true, false, false] (fuel := 2) rfl (by kernel_rfl) ⟨⟨_, Dx8k.out⟩, rfl⟩ ?_
          simp only [pickOps, List.getD_cons_succ, List.getD_cons_zero]
          repeat (go_big_quiet_step (fail))
          refine wpQuiet_nil ?_
          exact J _ _ _ _ _ _ _ _ ⟨Dx8k.out, Zw17.out, BBx8k.out, fpk, OO.out, NF.out⟩
        · simp only [List.getD_cons_succ, List.getD_cons_zero]
          go_wp2_with fail
          refine (KI.out _ _ (Ry0.out.grow Ex7k.out) _ Ry1.out).mono ?_
          rintro e x9k ⟨z, fpk, rfl, ho, hf, hg⟩
          obtain ⟨t0, u0, t1, u1, rfl⟩ := ho.rd.shape
          have Dx9k := Lib.hid (Dx7k.out.trans hg); have Ex9k := Lib.hid hg; have OO := Lib.hid ho
          clear hg ho hf
          go_wp2
          refine ⟨⟨⟨_, Dx9k.out⟩, rfl⟩, ?_⟩
          refine anyC_seg [5, 6, 7] #[true, true, true, true, true, true, true, true, false, false, false] (fuel := 3) rfl (by kernel_rfl) ⟨⟨_, Dx9k.out⟩, rfl⟩ ?_
          simp only [pickOps, List.getD_cons_succ, List.getD_cons_zero]
          repeat (go_big_quiet_step (fail))
          refine wpQuiet_nil ?_
          refine anyC_sole 8 #[true, true, true, true, true, true, true, true, true, false, false] (fuel := 2) (by kernel_rfl) ?_
          simp only [List.getD_cons_succ, List.getD_cons_zero]
          go_wp2
          refine ⟨⟨⟨_, Dx9k.out.alloc_ _⟩, rfl⟩, ?_⟩
          exact J _ _ _ _ _ _ _ _ ⟨Dx9k.out.alloc_ _, Dx9k.out.size, Box.alloc _ _ _, fpk, OO.out.grow (Grow.alloc _ _), fun hm => absurd (OO.out.here _ hm) (Nat.lt_irrefl _)⟩
  intro v1 v2 sa0k sc0k sa1k sc1k bk w18 ⟨hw, hb, hB, fpk, ho, hn⟩
  have ⟨q0, q1⟩ := hB.two; have hl := hB.1; have hf := hB.2.2
  refine anyC_sole 9 #[true, true, true, true, true, true, true, true, true, true, false] (fuel := 1) (by kernel_rfl) ?_
  simp only [List.getD_cons_succ, List.getD_cons_zero]
  go_wp2
  refine ⟨⟨⟨_, (hw.setCell_ hb _).setCell_ hb _⟩, rfl⟩, ?_⟩
  refine anyC_seg [10] #[true, true, true, true, true, true, true, true, true, true, true] (fuel := 0) rfl (by kernel_rfl) ⟨⟨_, (hw.setCell_ hb _).setCell_ hb _⟩, rfl⟩ ?_
  simp only [pickOps, List.getD_cons_succ, List.getD_cons_zero]
  repeat (go_big_quiet_step (fail))
  refine wpQuiet_nil ?_
  refine anyC_done (by kernel_rfl) ?_
  have Bk := Lib.hid ((hB.set 0 (.slice sa0k D.vs.length sc0k) (by simp)).set 1 (.slice sa1k D.ms.length sc1k) (by simp))
  have HW := Lib.hid (Grow.setCell_ (p := ⟨bk, 1, none⟩) (Grow.setCell_ (p := ⟨bk, 0, none⟩) hw hb (.slice sa0k D.vs.length sc0k)) hb (.slice sa1k D.ms.length sc1k))
  have Rk := Lib.hid (ho.upd (Upd.setCell (p := ⟨bk, 1, none⟩) (Upd.setCell (p := ⟨bk, 0, none⟩) (Upd.refl [bk] w18) (by simp) (.slice sa0k D.vs.length sc0k)) (by simp) (.slice sa1k D.ms.length sc1k)) (fun x hx hm => hn (by simp at hm; exact hm ▸ hx))).rd
  clear q0 q1 hl hf hB ho hn hw hb hne p0a0 p1a0 p0a1 p1a1
  generalize (World.setCell (World.setCell w18 ⟨bk, 0, none⟩ (.slice sa0k D.vs.length sc0k)) ⟨bk, 1, none⟩ (.slice sa1k D.ms.length sc1k)) = w19 at *
  have hG := Grow.refl w17; have hg := HW.out
  have G19_w := Lib.hid (G17_w.out.trans (hG.trans hg))
  have G19_w4 := Lib.hid (G17_w4.out.trans (hG.trans hg))
  have G19_w16 := Lib.hid (G17_w16.out.trans (hG.trans hg))
  have Ba0 := Lib.hid (Ba0.out.grow (hG.trans hg))
  have Ba1 := Lib.hid (Ba1.out.grow (hG.trans hg))
  have Bz := Lib.hid (Bz.out.grow (hG.trans hg))
  have Bx0 := Lib.hid (Bx0.out.grow (hG.trans hg))
  have Bx1 := Lib.hid (Bx1.out.grow (hG.trans hg))
  have Bg := Lib.hid (Bg.out.grow (hG.trans hg))
  clear hG hg
  have ⟨q0k, q1k⟩ := Bk.out.two
  have lk := Bk.out.1
  have ⟨q0z, q1z⟩ := Bz.out.two
  have lz := Bz.out.1
  go_wp2_with fail
  refine at_call (w := w19) ?G (fun hG => (eq_M _ _ _ _ _ (Rk.out.grow hG) (Rz.out.grow (G19_w4.out.trans hG))).mono ?_)
  case G => ((repeat (first | with_reducible exact Grow.refl _ | (with_reducible refine Grow.alloc_ ?_ _) | (with_reducible refine Grow.setCell_ ?_ (by first | exact Nat.le_refl _ | (simp only [World.alloc, Array.size_push]; omega) | omega) _))))
  rintro e w20 ⟨rfl, hg⟩
  clear q0k q1k lk q0z q1z lz
  have G20_w := Lib.hid (G19_w.out.trans (hG.trans hg))
  have G20_w4 := Lib.hid (G19_w4.out.trans (hG.trans hg))
  have G20_w16 := Lib.hid (G19_w16.out.trans (hG.trans hg))
  have G20_w19 := Lib.hid (hG.trans hg)
  have Ba0 := Lib.hid (Ba0.out.grow (hG.trans hg))
  have Ba1 := Lib.hid (Ba1.out.grow (hG.trans hg))
  have Bz := Lib.hid (Bz.out.grow (hG.trans hg))
  have Bx0 := Lib.hid (Bx0.out.grow (hG.trans hg))
  have Bx1 := Lib.hid (Bx1.out.grow (hG.trans hg))
  have Bg := Lib.hid (Bg.out.grow (hG.trans hg))
  have Bk := Lib.hid (Bk.out.grow (hG.trans hg))
  clear hG hg 
  have ⟨q0g, q1g⟩ := Bg.out.two
  have lg := Bg.out.1
  go_wp2_with fail
  refine at_call (w := w20) ?G (fun hG => (held_M _ _ _ _ (QG.out.grow (G20_w16.out.trans hG)) SG.out (by omega)).mono ?_)
  case G => ((repeat (first | with_reducible exact Grow.refl _ | (with_reducible refine Grow.alloc_ ?_ _) | (with_reducible refine Grow.setCell_ ?_ (by first | exact Nat.le_refl _ | (simp only [World.alloc, Array.size_push]; omega) | omega) _))))
  rintro e w21 ⟨rfl, hg⟩
  clear q0g q1g lg
  have G21_w := Lib.hid (G20_w.out.trans (hG.trans hg))
  have G21_w4 := Lib.hid (G20_w4.out.trans (hG.trans hg))
  have G21_w16 := Lib.hid (G20_w16.out.trans (hG.trans hg))
  have G21_w19 := Lib.hid (G20_w19.out.trans (hG.trans hg))
  have Ba0 := Lib.hid (Ba0.out.grow (hG.trans hg))
  have Ba1 := Lib.hid (Ba1.out.grow (hG.trans hg))
  have Bz := Lib.hid (Bz.out.grow (hG.trans hg))
  have Bx0 := Lib.hid (Bx0.out.grow (hG.trans hg))
  have Bx1 := Lib.hid (Bx1.out.grow (hG.trans hg))
  have Bg := Lib.hid (Bg.out.grow (hG.trans hg))
  have Bk := Lib.hid (Bk.out.grow (hG.trans hg))
  clear hG hg 
  go_wp2
  go_ret
  exact ⟨rfl, G21_w.out⟩
--%
end Go.Proofs.Ytkkhkojojnebjaa
