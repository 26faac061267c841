/- FnCovers: the walk of the law. -/
import Derived.Test.YtkkhkojojnebjaaWcv
import Derived.Test.YtkkhkojojnebjaaPlc
import Derived.Test.YtkkhkojojnebjaaMi
import Derived.Test.YtkkhkojojnebjaaMoi
import Derived.Test.YtkkhkojojnebjaaOpn
import Derived.WalkKit
import Derived.ProofKit
import Derived.OpenShut
import Derived.ShutString
import Derived.ChangeOld
import Derived.Below
import Derived.SizedLaws
import Derived.WalkSpells
import Derived.Deep.QuietTactic
import Derived.BigQuiet
import Derived.Outline
namespace Go.Proofs.Ytkkhkojojnebjaa
open Go.ChangeShapes Go.WideShapes Go.ChangeAt Go.RowKit
open Go.ChangeMaps (open_string shut_string)
set_option linter.unusedVariables false
set_option linter.unusedSimpArgs false
--% walk FnCovers 17
set_option maxRecDepth 20000 in
set_option maxHeartbeats 16000000 in
theorem walk_FnCovers (w : World) (v0 : Value) (d0 : DatB) (h0 : RdB w v0 d0) (b0 : WfB d0) : Calls Try.prog 17 #[v0] w (RetV (.bool true) w) := by
  have H0 := Lib.hid h0; have B0 : Hid (Bytes d0) := Lib.hid b0
  obtain ⟨x0, c0, rfl, hlc0, hm0, hn0', hc0'⟩ := Rd.ints h0
  clear hn0' hc0' h0 b0
  unfold maxLen at hm0
  by_cases hl0 : 1048576 < d0.length
  · go_enter Try.func17, Try.ntmps17
    go_wp2
    go_ret
    exact ⟨rfl, Grow.refl _⟩
  go_enter Try.func17, Try.ntmps17
  go_wp2_with fail
  refine (makeThree_any _ _ d0 H0.out B0.out (by omega)).mono ?_
  rintro e w1 ⟨z0, z1, z2, z3, z4, av, am, bv, bw, hs, rfl, ⟨r0, r1, r2, r3, r4⟩, ⟨v0, v1, v2, v3, v4⟩, hg⟩
  obtain ⟨a0, ca0, rfl, -⟩ := Rd.ints r0
  obtain ⟨a1, ca1, rfl, -⟩ := Rd.ints r1
  obtain ⟨b0, cb0, rfl, -⟩ := Rd.ints r2
  obtain ⟨b1, cb1, rfl, -⟩ := Rd.ints r3
  obtain ⟨ah, ch, rfl, -⟩ := Rd.ints r4
  have WAV := Lib.hid v0; have WAM := Lib.hid v1; have WBV := Lib.hid v2; have WBM := Lib.hid v3; have WH : Hid (WfH ⟨hs⟩) := Lib.hid v4
  have g1 := Grow.alloc w1 (.cells #[.slice a0 av.length ca0, .slice a1 am.length ca1] 41)
  have g2 := Grow.alloc (w1.alloc (.cells #[.slice a0 av.length ca0, .slice a1 am.length ca1] 41)) (.cells #[.slice b0 bv.length cb0, .slice b1 bw.length cb1] 41)
  have g3 := Grow.alloc ((w1.alloc (.cells #[.slice a0 av.length ca0, .slice a1 am.length ca1] 41)).alloc (.cells #[.slice b0 bv.length cb0, .slice b1 bw.length cb1] 41)) (.cells #[.slice ah hs.length ch] 27)
  have ga := (g1.trans g2).trans g3
  have RA : Hid (RdM (((w1.alloc (.cells #[.slice a0 av.length ca0, .slice a1 am.length ca1] 41)).alloc (.cells #[.slice b0 bv.length cb0, .slice b1 bw.length cb1] 41)).alloc (.cells #[.slice ah hs.length ch] 27)) (.agg #[.slice a0 av.length ca0, .slice a1 am.length ca1]) ⟨av, am⟩) := Lib.hid ⟨_, _, rfl, RdN.grow r0 ga, RdN.grow r1 ga⟩
  have RB : Hid (RdM (((w1.alloc (.cells #[.slice a0 av.length ca0, .slice a1 am.length ca1] 41)).alloc (.cells #[.slice b0 bv.length cb0, .slice b1 bw.length cb1] 41)).alloc (.cells #[.slice ah hs.length ch] 27)) (.agg #[.slice b0 bv.length cb0, .slice b1 bw.length cb1]) ⟨bv, bw⟩) := Lib.hid ⟨_, _, rfl, RdN.grow r2 ga, RdN.grow r3 ga⟩
  have RH : Hid (RdH (((w1.alloc (.cells #[.slice a0 av.length ca0, .slice a1 am.length ca1] 41)).alloc (.cells #[.slice b0 bv.length cb0, .slice b1 bw.length cb1] 41)).alloc (.cells #[.slice ah hs.length ch] 27)) (.agg #[.slice ah hs.length ch]) ⟨hs⟩) := Lib.hid ⟨_, rfl, RdN.grow r4 ga⟩
  have BA : Hid (Box (((w1.alloc (.cells #[.slice a0 av.length ca0, .slice a1 am.length ca1] 41)).alloc (.cells #[.slice b0 bv.length cb0, .slice b1 bw.length cb1] 41)).alloc (.cells #[.slice ah hs.length ch] 27)) w1.heap.size [.slice a0 av.length ca0, .slice a1 am.length ca1]) := Lib.hid ((Box.alloc w1 [.slice a0 av.length ca0, .slice a1 am.length ca1] 41).grow (g2.trans g3))
  have BB : Hid (Box (((w1.alloc (.cells #[.slice a0 av.length ca0, .slice a1 am.length ca1] 41)).alloc (.cells #[.slice b0 bv.length cb0, .slice b1 bw.length cb1] 41)).alloc (.cells #[.slice ah hs.length ch] 27)) (w1.heap.size + 1) [.slice b0 bv.length cb0, .slice b1 bw.length cb1]) := Lib.hid (((Box.alloc (w1.alloc (.cells #[.slice a0 av.length ca0, .slice a1 am.length ca1] 41)) [.slice b0 bv.length cb0, .slice b1 bw.length cb1] 41).at_ (by simp only [World.alloc, Array.size_push])).grow g3)
  have BH : Hid (Box (((w1.alloc (.cells #[.slice a0 av.length ca0, .slice a1 am.length ca1] 41)).alloc (.cells #[.slice b0 bv.length cb0, .slice b1 bw.length cb1] 41)).alloc (.cells #[.slice ah hs.length ch] 27)) (w1.heap.size + 1 + 1) [.slice ah hs.length ch]) := Lib.hid ((Box.alloc ((w1.alloc (.cells #[.slice a0 av.length ca0, .slice a1 am.length ca1] 41)).alloc (.cells #[.slice b0 bv.length cb0, .slice b1 bw.length cb1] 41)) [.slice ah hs.length ch] 27).at_ (by simp only [World.alloc, Array.size_push]))
  have G1 := Lib.hid (hg.trans ga)
  clear r0 r1 r2 r3 r4 v0 v1 v2 v3 v4 g1 g2 g3 ga hg
  go_wp2_with fail
  generalize (((w1.alloc (.cells #[.slice a0 av.length ca0, .slice a1 am.length ca1] 41)).alloc (.cells #[.slice b0 bv.length cb0, .slice b1 bw.length cb1] 41)).alloc (.cells #[.slice ah hs.length ch] 27)) = wz at *
  have CH : Hid (cvOk ⟨av, am⟩ ⟨bv, bw⟩ = true → hitOk ⟨bv, bw⟩ hs = true → hitOk ⟨av, am⟩ hs = true) := Lib.hid cover_hit
  have HMT : Hid (hitOk ⟨av, am⟩ hs = true → hitOk ⟨bv, bw⟩ hs = true → meOk ⟨av, am⟩ ⟨bv, bw⟩ = true) := Lib.hid hits_meet
  have FM : Hid (meOk ⟨av, am⟩ ⟨bv, bw⟩ = true → mtOk (orM ⟨av, am⟩ ⟨bv, bw⟩) = true ∧ hitOk (orM ⟨av, am⟩ ⟨bv, bw⟩) hs = (hitOk ⟨av, am⟩ hs && hitOk ⟨bv, bw⟩ hs) ∧ cvOk ⟨av, am⟩ (orM ⟨av, am⟩ ⟨bv, bw⟩) = true ∧ cvOk ⟨bv, bw⟩ (orM ⟨av, am⟩ ⟨bv, bw⟩) = true ∧ askF ⟨av, am⟩ ≤ askF (orM ⟨av, am⟩ ⟨bv, bw⟩)) := Lib.hid (fun h => ⟨orM_ok h, hit_or h, (cover_or h).1, (cover_or h).2, ask_or h⟩)
  rcases hcv : cvOk ⟨av, am⟩ ⟨bv, bw⟩ with _ | _ <;> rcases hha : hitOk ⟨av, am⟩ hs with _ | _ <;> rcases hhb : hitOk ⟨bv, bw⟩ hs with _ | _ <;> rcases hme : meOk ⟨av, am⟩ ⟨bv, bw⟩ with _ | _
  · have CV := Lib.hid hcv; have HA := Lib.hid hha; have HB := Lib.hid hhb; have ME := Lib.hid hme
    clear hcv hha hhb hme CH HMT FM
    go_wp2_with fail
    have ⟨pa0, pa1⟩ := BA.out.two_; have ⟨pb0, pb1⟩ := BB.out.two_; have ph0 := BH.out.one_
    have hne : Nonempty (Cl (Grow wz)) := ⟨⟨wz, Grow.refl _⟩⟩
    refine wp_region_mix (Cls (Grow wz)) 23 #[false, false, false, false, false, false, false, false, false, false, false, false, false, false, false, false, false, false, false, false, false, false, false] (by kernel_rfl) (by kernel_rfl) ⟨⟨_, Grow.drewN _ 1⟩, rfl⟩ ?_
    refine anyC_seg [0, 1, 3, 4] #[true, true, false, true, true, false, false, false, false, false, false, false, false, false, false, false, false, false, false, false, false, false, false] (fuel := 19) rfl (by kernel_rfl) ⟨⟨_, Grow.drewN _ 1⟩, rfl⟩ ?_
    simp only [pickOps, List.getD_cons_succ, List.getD_cons_zero]
    repeat (go_big_quiet_step (fail))
    refine wpQuiet_nil ?_
    refine anyC_sole 2 #[true, true, true, true, true, false, false, false, false, false, false, false, false, false, false, false, false, false, false, false, false, false, false] (fuel := 18) (by kernel_rfl) ?_
    simp only [List.getD_cons_succ, List.getD_cons_zero]
    go_wp2_with fail
    refine (coversI_any _ _ _ ⟨av, am⟩ ⟨bv, bw⟩ (RA.out.grow (Grow.drewN wz 1)) (RB.out.grow (Grow.drewN wz 1)) ⟨WAV.out, WAM.out⟩ ⟨WBV.out, WBM.out⟩).mono ?_
    rintro _ u1 ⟨rfl, hg⟩
    rw [CV.out]
    have E1 := Lib.hid ((Grow.drewN wz 1).trans hg); clear hg
    go_wp2
    refine ⟨⟨⟨_, E1.out⟩, rfl⟩, ?_⟩
    refine anyC_sole 5 #[true, true, true, true, true, true, false, false, false, false, false, false, false, false, false, false, false, false, false, false, false, false, false] (fuel := 17) (by kernel_rfl) ?_
    simp only [List.getD_cons_succ, List.getD_cons_zero]
    go_wp2_with fail
    refine (coversS_any _ _ _ ⟨av, am⟩ ⟨bv, bw⟩ (RA.out.grow E1.out) (RB.out.grow E1.out) ⟨WAV.out, WAM.out⟩ ⟨WBV.out, WBM.out⟩).mono ?_
    rintro _ u2 ⟨rfl, hg⟩
    rw [CV.out]
    have E2 := Lib.hid (E1.out.trans hg); clear hg
    go_wp2
    refine ⟨⟨⟨_, E2.out⟩, rfl⟩, ?_⟩
    refine anyC_seg [6, 7, 8, 9] #[true, true, true, true, true, true, true, true, true, true, false, false, false, false, false, false, false, false, false, false, false, false, false] (fuel := 13) rfl (by kernel_rfl) ⟨⟨_, E2.out⟩, rfl⟩ ?_
    simp only [pickOps, List.getD_cons_succ, List.getD_cons_zero]
    repeat (go_big_quiet_step (fail))
    refine wpQuiet_nil ?_
    refine anyC_sole 10 #[true, true, true, true, true, true, true, true, true, true, true, false, false, false, false, false, false, false, false, false, false, false, false] (fuel := 12) (by kernel_rfl) ?_
    simp only [List.getD_cons_succ, List.getD_cons_zero]
    go_wp2_with fail
    refine (coversI_any _ _ _ ⟨av, am⟩ ⟨bv, bw⟩ (RA.out.grow E2.out) (RB.out.grow E2.out) ⟨WAV.out, WAM.out⟩ ⟨WBV.out, WBM.out⟩).mono ?_
    rintro _ u3 ⟨rfl, hg⟩
    rw [CV.out]
    have E3 := Lib.hid (E2.out.trans hg); clear hg
    go_wp2
    refine ⟨⟨⟨_, E3.out⟩, rfl⟩, ?_⟩
    refine anyC_seg [11, 12, 13] #[true, true, true, true, true, true, true, true, true, true, true, true, true, true, false, false, false, false, false, false, false, false, false] (fuel := 9) rfl (by kernel_rfl) ⟨⟨_, E3.out⟩, rfl⟩ ?_
    simp only [pickOps, List.getD_cons_succ, List.getD_cons_zero]
    repeat (go_big_quiet_step (fail))
    refine wpQuiet_nil ?_
    refine anyC_sole 14 #[true, true, true, true, true, true, true, true, true, true, true, true, true, true, true, false, false, false, false, false, false, false, false] (fuel := 8) (by kernel_rfl) ?_
    simp only [List.getD_cons_succ, List.getD_cons_zero]
    go_wp2
    refine ⟨⟨⟨_, E3.out⟩, rfl⟩, ?_⟩
    refine anyC_seg [15, 16, 17, 18] #[true, true, true, true, true, true, true, true, true, true, true, true, true, true, true, true, true, true, true, false, false, false, false] (fuel := 4) rfl (by kernel_rfl) ⟨⟨_, E3.out⟩, rfl⟩ ?_
    simp only [pickOps, List.getD_cons_succ, List.getD_cons_zero]
    repeat (go_big_quiet_step (fail))
    refine wpQuiet_nil ?_
    refine anyC_sole 19 #[true, true, true, true, true, true, true, true, true, true, true, true, true, true, true, true, true, true, true, true, false, false, false] (fuel := 3) (by kernel_rfl) ?_
    simp only [List.getD_cons_succ, List.getD_cons_zero]
    go_wp2
    refine ⟨⟨⟨_, E3.out⟩, rfl⟩, ?_⟩
    refine anyC_seg [20, 21, 22] #[true, true, true, true, true, true, true, true, true, true, true, true, true, true, true, true, true, true, true, true, true, true, true] (fuel := 0) rfl (by kernel_rfl) ⟨⟨_, E3.out⟩, rfl⟩ ?_
    simp only [pickOps, List.getD_cons_succ, List.getD_cons_zero]
    repeat (go_big_quiet_step (fail))
    refine wpQuiet_nil ?_
    refine anyC_done (by kernel_rfl) ?_
    clear pa0 pa1 pb0 pb1 ph0 hne
    have G2 := Lib.hid E3.out
    have ⟨q0, q1⟩ := (BA.out.grow G2.out).two; have ql := (BA.out.grow G2.out).1
    have ⟨t0, t1⟩ := (BB.out.grow G2.out).two; have tl := (BB.out.grow G2.out).1
    go_wp2_with fail
    refine (meetOfI_any _ _ _ ⟨av, am⟩ ⟨bv, bw⟩ (RA.out.grow G2.out) (RB.out.grow G2.out) ⟨WAV.out, WAM.out⟩ ⟨WBV.out, WBM.out⟩).mono ?_
    rw [meetF_no ME.out]
    rintro _ wm ⟨V, fp, rfl, ho, -, hg⟩
    have RM0 := ho.rd
    obtain ⟨z0, z1, f0, f1, rfl, -, -, o0, o1⟩ := ho
    obtain ⟨m0, cm0, rfl⟩ := own_shape o0.1
    obtain ⟨m1, cm1, rfl⟩ := own_shape o1.1
    clear q0 q1 ql t0 t1 tl
    generalize zeroM = md at *
    have GM := Lib.hid (Grow.alloc wm (.cells #[.slice m0 md.vs.length cm0, .slice m1 md.ms.length cm1] 41))
    have BM := Lib.hid (Box.alloc wm [.slice m0 md.vs.length cm0, .slice m1 md.ms.length cm1] 41)
    have RM := Lib.hid (RM0.grow GM.out)
    have G3 := Lib.hid (G2.out.trans (hg.trans GM.out))
    clear RM0 o0 o1 hg GM G2
    have ⟨q0, q1⟩ := (BA.out.grow G3.out).two; have ql := (BA.out.grow G3.out).1
    have ⟨t0, t1⟩ := (BB.out.grow G3.out).two; have tl := (BB.out.grow G3.out).1
    go_wp2_with fail
    clear q0 q1 ql t0 t1 tl
    generalize wm.alloc (.cells #[.slice m0 md.vs.length cm0, .slice m1 md.ms.length cm1] 41) = wn at *
    generalize wm.heap.size = bm at *
    refine (meetsS_any _ _ _ ⟨av, am⟩ ⟨bv, bw⟩ (RA.out.grow G3.out) (RB.out.grow G3.out) ⟨WAV.out, WAM.out⟩ ⟨WBV.out, WBM.out⟩).mono ?_
    rintro _ wt ⟨rfl, hg⟩
    rw [ME.out]
    replace BA := Lib.hid (BA.out.grow (G3.out.trans hg)); replace BB := Lib.hid (BB.out.grow (G3.out.trans hg)); replace BH := Lib.hid (BH.out.grow (G3.out.trans hg)); replace BM := Lib.hid (BM.out.grow hg)
    replace RA := Lib.hid (RA.out.grow (G3.out.trans hg)); replace RB := Lib.hid (RB.out.grow (G3.out.trans hg)); replace RH := Lib.hid (RH.out.grow (G3.out.trans hg)); replace RM := Lib.hid (RM.out.grow hg)
    have G4 := Lib.hid (G1.out.trans (G3.out.trans hg))
    clear hg G3
    have ⟨q0, q1⟩ := BA.out.two; have ql := BA.out.1
    have h0 := BH.out.one; have hl := BH.out.1
    go_wp2_with fail
    clear q0 q1 ql h0 hl
    refine (hitsI_any _ _ _ ⟨av, am⟩ ⟨hs⟩ RA.out RH.out ⟨WAV.out, WAM.out⟩ WH.out).mono ?_
    rintro _ wx ⟨rfl, hg⟩
    simp only [HA.out]
    have G5 := Lib.hid (G4.out.trans hg)
    clear hg
    go_wp2
    go_ret
    exact ⟨rfl, G5.out⟩
  · have CV := Lib.hid hcv; have HA := Lib.hid hha; have HB := Lib.hid hhb; have ME := Lib.hid hme
    obtain ⟨f1, f2, f3, f4, f5⟩ := FM.out hme
    rw [hha, hhb] at f2
    have MO := Lib.hid f1; have HM : Hid (hitOk (orM ⟨av, am⟩ ⟨bv, bw⟩) hs = false) := Lib.hid f2; have CA := Lib.hid f3; have CB := Lib.hid f4
    obtain ⟨k1, hk1⟩ : ∃ k, askF (orM ⟨av, am⟩ ⟨bv, bw⟩) = k := ⟨_, rfl⟩
    obtain ⟨k2, hk2⟩ : ∃ k, askF ⟨av, am⟩ = k := ⟨_, rfl⟩
    have KL : Hid (k2 ≤ k1) := Lib.hid (by omega)
    have K1 := Lib.hid hk1; have K2 := Lib.hid hk2
    clear f1 f2 f3 f4 f5 hk1 hk2
    clear hcv hha hhb hme CH HMT FM
    go_wp2_with fail
    have ⟨pa0, pa1⟩ := BA.out.two_; have ⟨pb0, pb1⟩ := BB.out.two_; have ph0 := BH.out.one_
    have hne : Nonempty (Cl (Grow wz)) := ⟨⟨wz, Grow.refl _⟩⟩
    refine wp_region_mix (Cls (Grow wz)) 23 #[false, false, false, false, false, false, false, false, false, false, false, false, false, false, false, false, false, false, false, false, false, false, false] (by kernel_rfl) (by kernel_rfl) ⟨⟨_, Grow.drewN _ 1⟩, rfl⟩ ?_
    refine anyC_seg [0, 1, 3, 4] #[true, true, false, true, true, false, false, false, false, false, false, false, false, false, false, false, false, false, false, false, false, false, false] (fuel := 19) rfl (by kernel_rfl) ⟨⟨_, Grow.drewN _ 1⟩, rfl⟩ ?_
    simp only [pickOps, List.getD_cons_succ, List.getD_cons_zero]
    repeat (go_big_quiet_step (fail))
    refine wpQuiet_nil ?_
    refine anyC_sole 2 #[true, true, true, true, true, false, false, false, false, false, false, false, false, false, false, false, false, false, false, false, false, false, false] (fuel := 18) (by kernel_rfl) ?_
    simp only [List.getD_cons_succ, List.getD_cons_zero]
    go_wp2_with fail
    refine (coversI_any _ _ _ ⟨av, am⟩ ⟨bv, bw⟩ (RA.out.grow (Grow.drewN wz 1)) (RB.out.grow (Grow.drewN wz 1)) ⟨WAV.out, WAM.out⟩ ⟨WBV.out, WBM.out⟩).mono ?_
    rintro _ u1 ⟨rfl, hg⟩
    rw [CV.out]
    have E1 := Lib.hid ((Grow.drewN wz 1).trans hg); clear hg
    go_wp2
    refine ⟨⟨⟨_, E1.out⟩, rfl⟩, ?_⟩
    refine anyC_sole 5 #[true, true, true, true, true, true, false, false, false, false, false, false, false, false, false, false, false, false, false, false, false, false, false] (fuel := 17) (by kernel_rfl) ?_
    simp only [List.getD_cons_succ, List.getD_cons_zero]
    go_wp2_with fail
    refine (coversS_any _ _ _ ⟨av, am⟩ ⟨bv, bw⟩ (RA.out.grow E1.out) (RB.out.grow E1.out) ⟨WAV.out, WAM.out⟩ ⟨WBV.out, WBM.out⟩).mono ?_
    rintro _ u2 ⟨rfl, hg⟩
    rw [CV.out]
    have E2 := Lib.hid (E1.out.trans hg); clear hg
    go_wp2
    refine ⟨⟨⟨_, E2.out⟩, rfl⟩, ?_⟩
    refine anyC_seg [6, 7, 8, 9] #[true, true, true, true, true, true, true, true, true, true, false, false, false, false, false, false, false, false, false, false, false, false, false] (fuel := 13) rfl (by kernel_rfl) ⟨⟨_, E2.out⟩, rfl⟩ ?_
    simp only [pickOps, List.getD_cons_succ, List.getD_cons_zero]
    repeat (go_big_quiet_step (fail))
    refine wpQuiet_nil ?_
    refine anyC_sole 10 #[true, true, true, true, true, true, true, true, true, true, true, false, false, false, false, false, false, false, false, false, false, false, false] (fuel := 12) (by kernel_rfl) ?_
    simp only [List.getD_cons_succ, List.getD_cons_zero]
    go_wp2_with fail
    refine (coversI_any _ _ _ ⟨av, am⟩ ⟨bv, bw⟩ (RA.out.grow E2.out) (RB.out.grow E2.out) ⟨WAV.out, WAM.out⟩ ⟨WBV.out, WBM.out⟩).mono ?_
    rintro _ u3 ⟨rfl, hg⟩
    rw [CV.out]
    have E3 := Lib.hid (E2.out.trans hg); clear hg
    go_wp2
    refine ⟨⟨⟨_, E3.out⟩, rfl⟩, ?_⟩
    refine anyC_seg [11, 12, 13] #[true, true, true, true, true, true, true, true, true, true, true, true, true, true, false, false, false, false, false, false, false, false, false] (fuel := 9) rfl (by kernel_rfl) ⟨⟨_, E3.out⟩, rfl⟩ ?_
    simp only [pickOps, List.getD_cons_succ, List.getD_cons_zero]
    repeat (go_big_quiet_step (fail))
    refine wpQuiet_nil ?_
    refine anyC_sole 14 #[true, true, true, true, true, true, true, true, true, true, true, true, true, true, true, false, false, false, false, false, false, false, false] (fuel := 8) (by kernel_rfl) ?_
    simp only [List.getD_cons_succ, List.getD_cons_zero]
    go_wp2
    refine ⟨⟨⟨_, E3.out⟩, rfl⟩, ?_⟩
    refine anyC_seg [15, 16, 17, 18] #[true, true, true, true, true, true, true, true, true, true, true, true, true, true, true, true, true, true, true, false, false, false, false] (fuel := 4) rfl (by kernel_rfl) ⟨⟨_, E3.out⟩, rfl⟩ ?_
    simp only [pickOps, List.getD_cons_succ, List.getD_cons_zero]
    repeat (go_big_quiet_step (fail))
    refine wpQuiet_nil ?_
    refine anyC_sole 19 #[true, true, true, true, true, true, true, true, true, true, true, true, true, true, true, true, true, true, true, true, false, false, false] (fuel := 3) (by kernel_rfl) ?_
    simp only [List.getD_cons_succ, List.getD_cons_zero]
    go_wp2
    refine ⟨⟨⟨_, E3.out⟩, rfl⟩, ?_⟩
    refine anyC_seg [20, 21, 22] #[true, true, true, true, true, true, true, true, true, true, true, true, true, true, true, true, true, true, true, true, true, true, true] (fuel := 0) rfl (by kernel_rfl) ⟨⟨_, E3.out⟩, rfl⟩ ?_
    simp only [pickOps, List.getD_cons_succ, List.getD_cons_zero]
    repeat (go_big_quiet_step (fail))
    refine wpQuiet_nil ?_
    refine anyC_done (by kernel_rfl) ?_
    clear pa0 pa1 pb0 pb1 ph0 hne
    have G2 := Lib.hid E3.out
    have ⟨q0, q1⟩ := (BA.out.grow G2.out).two; have ql := (BA.out.grow G2.out).1
    have ⟨t0, t1⟩ := (BB.out.grow G2.out).two; have tl := (BB.out.grow G2.out).1
    go_wp2_with fail
    refine (meetOfI_any _ _ _ ⟨av, am⟩ ⟨bv, bw⟩ (RA.out.grow G2.out) (RB.out.grow G2.out) ⟨WAV.out, WAM.out⟩ ⟨WBV.out, WBM.out⟩).mono ?_
    rw [meetF_yes ME.out]
    rintro _ wm ⟨V, fp, rfl, ho, -, hg⟩
    have RM0 := ho.rd
    obtain ⟨z0, z1, f0, f1, rfl, -, -, o0, o1⟩ := ho
    obtain ⟨m0, cm0, rfl⟩ := own_shape o0.1
    obtain ⟨m1, cm1, rfl⟩ := own_shape o1.1
    clear q0 q1 ql t0 t1 tl
    generalize (orM ⟨av, am⟩ ⟨bv, bw⟩) = md at *
    have GM := Lib.hid (Grow.alloc wm (.cells #[.slice m0 md.vs.length cm0, .slice m1 md.ms.length cm1] 41))
    have BM := Lib.hid (Box.alloc wm [.slice m0 md.vs.length cm0, .slice m1 md.ms.length cm1] 41)
    have RM := Lib.hid (RM0.grow GM.out)
    have G3 := Lib.hid (G2.out.trans (hg.trans GM.out))
    clear RM0 o0 o1 hg GM G2
    have ⟨q0, q1⟩ := (BA.out.grow G3.out).two; have ql := (BA.out.grow G3.out).1
    have ⟨t0, t1⟩ := (BB.out.grow G3.out).two; have tl := (BB.out.grow G3.out).1
    go_wp2_with fail
    clear q0 q1 ql t0 t1 tl
    generalize wm.alloc (.cells #[.slice m0 md.vs.length cm0, .slice m1 md.ms.length cm1] 41) = wn at *
    generalize wm.heap.size = bm at *
    refine (meetsS_any _ _ _ ⟨av, am⟩ ⟨bv, bw⟩ (RA.out.grow G3.out) (RB.out.grow G3.out) ⟨WAV.out, WAM.out⟩ ⟨WBV.out, WBM.out⟩).mono ?_
    rintro _ wt ⟨rfl, hg⟩
    rw [ME.out]
    replace BA := Lib.hid (BA.out.grow (G3.out.trans hg)); replace BB := Lib.hid (BB.out.grow (G3.out.trans hg)); replace BH := Lib.hid (BH.out.grow (G3.out.trans hg)); replace BM := Lib.hid (BM.out.grow hg)
    replace RA := Lib.hid (RA.out.grow (G3.out.trans hg)); replace RB := Lib.hid (RB.out.grow (G3.out.trans hg)); replace RH := Lib.hid (RH.out.grow (G3.out.trans hg)); replace RM := Lib.hid (RM.out.grow hg)
    have G4 := Lib.hid (G1.out.trans (G3.out.trans hg))
    clear hg G3
    have ⟨pa0, pa1⟩ := BA.out.two_; have ⟨pb0, pb1⟩ := BB.out.two_; have ph0 := BH.out.one_; have ⟨pm0, pm1⟩ := BM.out.two_
    have hne : Nonempty (Cl (Grow wt)) := ⟨⟨wt, Grow.refl _⟩⟩
    have hkl := KL.out
    go_wp2_with fail
    refine wp_region_mix (Cls (Grow wt)) 30 #[false, false, false, false, false, false, false, false, false, false, false, false, false, false, false, false, false, false, false, false, false, false, false, false, false, false, false, false, false, false] (by kernel_rfl) (by kernel_rfl) ⟨⟨_, Grow.drewN _ 1⟩, rfl⟩ ?_
    refine anyC_seg [0, 1, 3, 4] #[true, true, false, true, true, false, false, false, false, false, false, false, false, false, false, false, false, false, false, false, false, false, false, false, false, false, false, false, false, false] (fuel := 26) rfl (by kernel_rfl) ⟨⟨_, Grow.drewN _ 1⟩, rfl⟩ ?_
    simp only [pickOps, List.getD_cons_succ, List.getD_cons_zero]
    repeat (go_big_quiet_step (fail))
    refine wpQuiet_nil ?_
    refine anyC_sole 2 #[true, true, true, true, true, false, false, false, false, false, false, false, false, false, false, false, false, false, false, false, false, false, false, false, false, false, false, false, false, false] (fuel := 25) (by kernel_rfl) ?_
    simp only [List.getD_cons_succ, List.getD_cons_zero]
    go_wp2_with fail
    refine (hitsI_any _ _ _ md ⟨hs⟩ (RM.out.grow (Grow.drewN wt 1)) (RH.out.grow (Grow.drewN wt 1)) (wf_mt MO.out) WH.out).mono ?_
    rintro _ u20 ⟨rfl, hg⟩
    simp only [HM.out]
    have E20 := Lib.hid ((Grow.drewN wt 1).trans hg); clear hg
    go_wp2
    refine ⟨⟨⟨_, E20.out⟩, rfl⟩, ?_⟩
    refine anyC_sole 5 #[true, true, true, true, true, true, false, false, false, false, false, false, false, false, false, false, false, false, false, false, false, false, false, false, false, false, false, false, false, false] (fuel := 24) (by kernel_rfl) ?_
    simp only [List.getD_cons_succ, List.getD_cons_zero]
    go_wp2_with fail
    refine (hitsI_any _ _ _ ⟨av, am⟩ ⟨hs⟩ (RA.out.grow E20.out) (RH.out.grow E20.out) ⟨WAV.out, WAM.out⟩ WH.out).mono ?_
    rintro _ u21 ⟨rfl, hg⟩
    simp only [HA.out]
    have E21 := Lib.hid (E20.out.trans hg); clear hg
    go_wp2
    refine ⟨⟨⟨_, E21.out⟩, rfl⟩, ?_⟩
    refine anyC_seg [6, 7, 8] #[true, true, true, true, true, true, true, true, true, false, false, false, false, false, false, false, false, false, false, false, false, false, false, false, false, false, false, false, false, false] (fuel := 21) rfl (by kernel_rfl) ⟨⟨_, E21.out⟩, rfl⟩ ?_
    simp only [pickOps, List.getD_cons_succ, List.getD_cons_zero]
    repeat (go_big_quiet_step (fail))
    refine wpQuiet_nil ?_
    refine anyC_sole 9 #[true, true, true, true, true, true, true, true, true, true, false, false, false, false, false, false, false, false, false, false, false, false, false, false, false, false, false, false, false, false] (fuel := 20) (by kernel_rfl) ?_
    simp only [List.getD_cons_succ, List.getD_cons_zero]
    go_wp2
    refine ⟨⟨⟨_, E21.out⟩, rfl⟩, ?_⟩
    refine anyC_seg [10, 11, 12, 13, 14] #[true, true, true, true, true, true, true, true, true, true, true, true, true, true, true, false, false, false, false, false, false, false, false, false, false, false, false, false, false, false] (fuel := 15) rfl (by kernel_rfl) ⟨⟨_, E21.out⟩, rfl⟩ ?_
    simp only [pickOps, List.getD_cons_succ, List.getD_cons_zero]
    repeat (go_big_quiet_step (fail))
    refine wpQuiet_nil ?_
    refine anyC_sole 15 #[true, true, true, true, true, true, true, true, true, true, true, true, true, true, true, true, false, false, false, false, false, false, false, false, false, false, false, false, false, false] (fuel := 14) (by kernel_rfl) ?_
    simp only [List.getD_cons_succ, List.getD_cons_zero]
    go_wp2_with fail
    refine (coversI_any _ _ _ ⟨av, am⟩ md (RA.out.grow E21.out) (RM.out.grow E21.out) ⟨WAV.out, WAM.out⟩ (wf_mt MO.out)).mono ?_
    rintro _ u22 ⟨rfl, hg⟩
    rw [CA.out]
    have E22 := Lib.hid (E21.out.trans hg); clear hg
    go_wp2
    refine ⟨⟨⟨_, E22.out⟩, rfl⟩, ?_⟩
    refine anyC_seg [16, 17, 18, 19] #[true, true, true, true, true, true, true, true, true, true, true, true, true, true, true, true, true, true, true, true, false, false, false, false, false, false, false, false, false, false] (fuel := 10) rfl (by kernel_rfl) ⟨⟨_, E22.out⟩, rfl⟩ ?_
    simp only [pickOps, List.getD_cons_succ, List.getD_cons_zero]
    repeat (go_big_quiet_step (fail))
    refine wpQuiet_nil ?_
    refine anyC_sole 20 #[true, true, true, true, true, true, true, true, true, true, true, true, true, true, true, true, true, true, true, true, true, false, false, false, false, false, false, false, false, false] (fuel := 9) (by kernel_rfl) ?_
    simp only [List.getD_cons_succ, List.getD_cons_zero]
    go_wp2_with fail
    refine (coversI_any _ _ _ ⟨bv, bw⟩ md (RB.out.grow E22.out) (RM.out.grow E22.out) ⟨WBV.out, WBM.out⟩ (wf_mt MO.out)).mono ?_
    rintro _ u23 ⟨rfl, hg⟩
    rw [CB.out]
    have E23 := Lib.hid (E22.out.trans hg); clear hg
    go_wp2
    refine ⟨⟨⟨_, E23.out⟩, rfl⟩, ?_⟩
    refine anyC_seg [21, 22, 23, 25] #[true, true, true, true, true, true, true, true, true, true, true, true, true, true, true, true, true, true, true, true, true, true, true, true, false, true, false, false, false, false] (fuel := 5) rfl (by kernel_rfl) ⟨⟨_, E23.out⟩, rfl⟩ ?_
    simp only [pickOps, List.getD_cons_succ, List.getD_cons_zero]
    repeat (go_big_quiet_step (fail))
    refine wpQuiet_nil ?_
    refine anyC_sole 24 #[true, true, true, true, true, true, true, true, true, true, true, true, true, true, true, true, true, true, true, true, true, true, true, true, true, true, false, false, false, false] (fuel := 4) (by kernel_rfl) ?_
    simp only [List.getD_cons_succ, List.getD_cons_zero]
    go_wp2_with fail
    refine (askedI_any _ _ md (RM.out.grow E23.out) (wf_mt MO.out)).mono ?_
    rintro _ u24 ⟨rfl, hg⟩
    rw [K1.out]
    have E24 := Lib.hid (E23.out.trans hg); clear hg
    go_wp2
    refine ⟨⟨⟨_, E24.out⟩, rfl⟩, ?_⟩
    refine anyC_sole 26 #[true, true, true, true, true, true, true, true, true, true, true, true, true, true, true, true, true, true, true, true, true, true, true, true, true, true, true, false, false, false] (fuel := 3) (by kernel_rfl) ?_
    simp only [List.getD_cons_succ, List.getD_cons_zero]
    go_wp2_with fail
    refine (askedI_any _ _ ⟨av, am⟩ (RA.out.grow E24.out) ⟨WAV.out, WAM.out⟩).mono ?_
    rintro _ u25 ⟨rfl, hg⟩
    rw [K2.out]
    have E25 := Lib.hid (E24.out.trans hg); clear hg
    go_wp2
    refine ⟨⟨⟨_, E25.out⟩, rfl⟩, ?_⟩
    refine anyC_seg [27, 28, 29] #[true, true, true, true, true, true, true, true, true, true, true, true, true, true, true, true, true, true, true, true, true, true, true, true, true, true, true, true, true, true] (fuel := 0) rfl (by kernel_rfl) ⟨⟨_, E25.out⟩, rfl⟩ ?_
    simp only [pickOps, List.getD_cons_succ, List.getD_cons_zero]
    repeat (go_big_quiet_step (fail))
    refine wpQuiet_nil ?_
    refine anyC_done (by kernel_rfl) ?_
    clear pa0 pa1 pb0 pb1 ph0 pm0 pm1 hne
    go_wp2
    go_ret
    exact ⟨ret_bool (by simp [hkl]), G4.out.trans E25.out⟩
  · have CV := Lib.hid hcv; have HA := Lib.hid hha; have HB := Lib.hid hhb; have ME := Lib.hid hme
    clear hcv hha hhb hme CH HMT FM
    go_wp2_with fail
    have ⟨pa0, pa1⟩ := BA.out.two_; have ⟨pb0, pb1⟩ := BB.out.two_; have ph0 := BH.out.one_
    have hne : Nonempty (Cl (Grow wz)) := ⟨⟨wz, Grow.refl _⟩⟩
    refine wp_region_mix (Cls (Grow wz)) 23 #[false, false, false, false, false, false, false, false, false, false, false, false, false, false, false, false, false, false, false, false, false, false, false] (by kernel_rfl) (by kernel_rfl) ⟨⟨_, Grow.drewN _ 1⟩, rfl⟩ ?_
    refine anyC_seg [0, 1, 3, 4] #[true, true, false, true, true, false, false, false, false, false, false, false, false, false, false, false, false, false, false, false, false, false, false] (fuel := 19) rfl (by kernel_rfl) ⟨⟨_, Grow.drewN _ 1⟩, rfl⟩ ?_
    simp only [pickOps, List.getD_cons_succ, List.getD_cons_zero]
    repeat (go_big_quiet_step (fail))
    refine wpQuiet_nil ?_
    refine anyC_sole 2 #[true, true, true, true, true, false, false, false, false, false, false, false, false, false, false, false, false, false, false, false, false, false, false] (fuel := 18) (by kernel_rfl) ?_
    simp only [List.getD_cons_succ, List.getD_cons_zero]
    go_wp2_with fail
    refine (coversI_any _ _ _ ⟨av, am⟩ ⟨bv, bw⟩ (RA.out.grow (Grow.drewN wz 1)) (RB.out.grow (Grow.drewN wz 1)) ⟨WAV.out, WAM.out⟩ ⟨WBV.out, WBM.out⟩).mono ?_
    rintro _ u1 ⟨rfl, hg⟩
    rw [CV.out]
    have E1 := Lib.hid ((Grow.drewN wz 1).trans hg); clear hg
    go_wp2
    refine ⟨⟨⟨_, E1.out⟩, rfl⟩, ?_⟩
    refine anyC_sole 5 #[true, true, true, true, true, true, false, false, false, false, false, false, false, false, false, false, false, false, false, false, false, false, false] (fuel := 17) (by kernel_rfl) ?_
    simp only [List.getD_cons_succ, List.getD_cons_zero]
    go_wp2_with fail
    refine (coversS_any _ _ _ ⟨av, am⟩ ⟨bv, bw⟩ (RA.out.grow E1.out) (RB.out.grow E1.out) ⟨WAV.out, WAM.out⟩ ⟨WBV.out, WBM.out⟩).mono ?_
    rintro _ u2 ⟨rfl, hg⟩
    rw [CV.out]
    have E2 := Lib.hid (E1.out.trans hg); clear hg
    go_wp2
    refine ⟨⟨⟨_, E2.out⟩, rfl⟩, ?_⟩
    refine anyC_seg [6, 7, 8, 9] #[true, true, true, true, true, true, true, true, true, true, false, false, false, false, false, false, false, false, false, false, false, false, false] (fuel := 13) rfl (by kernel_rfl) ⟨⟨_, E2.out⟩, rfl⟩ ?_
    simp only [pickOps, List.getD_cons_succ, List.getD_cons_zero]
    repeat (go_big_quiet_step (fail))
    refine wpQuiet_nil ?_
    refine anyC_sole 10 #[true, true, true, true, true, true, true, true, true, true, true, false, false, false, false, false, false, false, false, false, false, false, false] (fuel := 12) (by kernel_rfl) ?_
    simp only [List.getD_cons_succ, List.getD_cons_zero]
    go_wp2_with fail
    refine (coversI_any _ _ _ ⟨av, am⟩ ⟨bv, bw⟩ (RA.out.grow E2.out) (RB.out.grow E2.out) ⟨WAV.out, WAM.out⟩ ⟨WBV.out, WBM.out⟩).mono ?_
    rintro _ u3 ⟨rfl, hg⟩
    rw [CV.out]
    have E3 := Lib.hid (E2.out.trans hg); clear hg
    go_wp2
    refine ⟨⟨⟨_, E3.out⟩, rfl⟩, ?_⟩
    refine anyC_seg [11, 12, 13] #[true, true, true, true, true, true, true, true, true, true, true, true, true, true, false, false, false, false, false, false, false, false, false] (fuel := 9) rfl (by kernel_rfl) ⟨⟨_, E3.out⟩, rfl⟩ ?_
    simp only [pickOps, List.getD_cons_succ, List.getD_cons_zero]
    repeat (go_big_quiet_step (fail))
    refine wpQuiet_nil ?_
    refine anyC_sole 14 #[true, true, true, true, true, true, true, true, true, true, true, true, true, true, true, false, false, false, false, false, false, false, false] (fuel := 8) (by kernel_rfl) ?_
    simp only [List.getD_cons_succ, List.getD_cons_zero]
    go_wp2
    refine ⟨⟨⟨_, E3.out⟩, rfl⟩, ?_⟩
    refine anyC_seg [15, 16, 17, 18] #[true, true, true, true, true, true, true, true, true, true, true, true, true, true, true, true, true, true, true, false, false, false, false] (fuel := 4) rfl (by kernel_rfl) ⟨⟨_, E3.out⟩, rfl⟩ ?_
    simp only [pickOps, List.getD_cons_succ, List.getD_cons_zero]
    repeat (go_big_quiet_step (fail))
    refine wpQuiet_nil ?_
    refine anyC_sole 19 #[true, true, true, true, true, true, true, true, true, true, true, true, true, true, true, true, true, true, true, true, false, false, false] (fuel := 3) (by kernel_rfl) ?_
    simp only [List.getD_cons_succ, List.getD_cons_zero]
    go_wp2
    refine ⟨⟨⟨_, E3.out⟩, rfl⟩, ?_⟩
    refine anyC_seg [20, 21, 22] #[true, true, true, true, true, true, true, true, true, true, true, true, true, true, true, true, true, true, true, true, true, true, true] (fuel := 0) rfl (by kernel_rfl) ⟨⟨_, E3.out⟩, rfl⟩ ?_
    simp only [pickOps, List.getD_cons_succ, List.getD_cons_zero]
    repeat (go_big_quiet_step (fail))
    refine wpQuiet_nil ?_
    refine anyC_done (by kernel_rfl) ?_
    clear pa0 pa1 pb0 pb1 ph0 hne
    have G2 := Lib.hid E3.out
    have ⟨q0, q1⟩ := (BA.out.grow G2.out).two; have ql := (BA.out.grow G2.out).1
    have ⟨t0, t1⟩ := (BB.out.grow G2.out).two; have tl := (BB.out.grow G2.out).1
    go_wp2_with fail
    refine (meetOfI_any _ _ _ ⟨av, am⟩ ⟨bv, bw⟩ (RA.out.grow G2.out) (RB.out.grow G2.out) ⟨WAV.out, WAM.out⟩ ⟨WBV.out, WBM.out⟩).mono ?_
    rw [meetF_no ME.out]
    rintro _ wm ⟨V, fp, rfl, ho, -, hg⟩
    have RM0 := ho.rd
    obtain ⟨z0, z1, f0, f1, rfl, -, -, o0, o1⟩ := ho
    obtain ⟨m0, cm0, rfl⟩ := own_shape o0.1
    obtain ⟨m1, cm1, rfl⟩ := own_shape o1.1
    clear q0 q1 ql t0 t1 tl
    generalize zeroM = md at *
    have GM := Lib.hid (Grow.alloc wm (.cells #[.slice m0 md.vs.length cm0, .slice m1 md.ms.length cm1] 41))
    have BM := Lib.hid (Box.alloc wm [.slice m0 md.vs.length cm0, .slice m1 md.ms.length cm1] 41)
    have RM := Lib.hid (RM0.grow GM.out)
    have G3 := Lib.hid (G2.out.trans (hg.trans GM.out))
    clear RM0 o0 o1 hg GM G2
    have ⟨q0, q1⟩ := (BA.out.grow G3.out).two; have ql := (BA.out.grow G3.out).1
    have ⟨t0, t1⟩ := (BB.out.grow G3.out).two; have tl := (BB.out.grow G3.out).1
    go_wp2_with fail
    clear q0 q1 ql t0 t1 tl
    generalize wm.alloc (.cells #[.slice m0 md.vs.length cm0, .slice m1 md.ms.length cm1] 41) = wn at *
    generalize wm.heap.size = bm at *
    refine (meetsS_any _ _ _ ⟨av, am⟩ ⟨bv, bw⟩ (RA.out.grow G3.out) (RB.out.grow G3.out) ⟨WAV.out, WAM.out⟩ ⟨WBV.out, WBM.out⟩).mono ?_
    rintro _ wt ⟨rfl, hg⟩
    rw [ME.out]
    replace BA := Lib.hid (BA.out.grow (G3.out.trans hg)); replace BB := Lib.hid (BB.out.grow (G3.out.trans hg)); replace BH := Lib.hid (BH.out.grow (G3.out.trans hg)); replace BM := Lib.hid (BM.out.grow hg)
    replace RA := Lib.hid (RA.out.grow (G3.out.trans hg)); replace RB := Lib.hid (RB.out.grow (G3.out.trans hg)); replace RH := Lib.hid (RH.out.grow (G3.out.trans hg)); replace RM := Lib.hid (RM.out.grow hg)
    have G4 := Lib.hid (G1.out.trans (G3.out.trans hg))
    clear hg G3
    have ⟨q0, q1⟩ := BA.out.two; have ql := BA.out.1
    have h0 := BH.out.one; have hl := BH.out.1
    go_wp2_with fail
    clear q0 q1 ql h0 hl
    refine (hitsI_any _ _ _ ⟨av, am⟩ ⟨hs⟩ RA.out RH.out ⟨WAV.out, WAM.out⟩ WH.out).mono ?_
    rintro _ wx ⟨rfl, hg⟩
    simp only [HA.out]
    have G5 := Lib.hid (G4.out.trans hg)
    clear hg
    go_wp2
    go_ret
    exact ⟨rfl, G5.out⟩
  · have CV := Lib.hid hcv; have HA := Lib.hid hha; have HB := Lib.hid hhb; have ME := Lib.hid hme
    obtain ⟨f1, f2, f3, f4, f5⟩ := FM.out hme
    rw [hha, hhb] at f2
    have MO := Lib.hid f1; have HM : Hid (hitOk (orM ⟨av, am⟩ ⟨bv, bw⟩) hs = false) := Lib.hid f2; have CA := Lib.hid f3; have CB := Lib.hid f4
    obtain ⟨k1, hk1⟩ : ∃ k, askF (orM ⟨av, am⟩ ⟨bv, bw⟩) = k := ⟨_, rfl⟩
    obtain ⟨k2, hk2⟩ : ∃ k, askF ⟨av, am⟩ = k := ⟨_, rfl⟩
    have KL : Hid (k2 ≤ k1) := Lib.hid (by omega)
    have K1 := Lib.hid hk1; have K2 := Lib.hid hk2
    clear f1 f2 f3 f4 f5 hk1 hk2
    clear hcv hha hhb hme CH HMT FM
    go_wp2_with fail
    have ⟨pa0, pa1⟩ := BA.out.two_; have ⟨pb0, pb1⟩ := BB.out.two_; have ph0 := BH.out.one_
    have hne : Nonempty (Cl (Grow wz)) := ⟨⟨wz, Grow.refl _⟩⟩
    refine wp_region_mix (Cls (Grow wz)) 23 #[false, false, false, false, false, false, false, false, false, false, false, false, false, false, false, false, false, false, false, false, false, false, false] (by kernel_rfl) (by kernel_rfl) ⟨⟨_, Grow.drewN _ 1⟩, rfl⟩ ?_
    refine anyC_seg [0, 1, 3, 4] #[true, true, false, true, true, false, false, false, false, false, false, false, false, false, false, false, false, false, false, false, false, false, false] (fuel := 19) rfl (by kernel_rfl) ⟨⟨_, Grow.drewN _ 1⟩, rfl⟩ ?_
    simp only [pickOps, List.getD_cons_succ, List.getD_cons_zero]
    repeat (go_big_quiet_step (fail))
    refine wpQuiet_nil ?_
    refine anyC_sole 2 #[true, true, true, true, true, false, false, false, false, false, false, false, false, false, false, false, false, false, false, false, false, false, false] (fuel := 18) (by kernel_rfl) ?_
    simp only [List.getD_cons_succ, List.getD_cons_zero]
    go_wp2_with fail
    refine (coversI_any _ _ _ ⟨av, am⟩ ⟨bv, bw⟩ (RA.out.grow (Grow.drewN wz 1)) (RB.out.grow (Grow.drewN wz 1)) ⟨WAV.out, WAM.out⟩ ⟨WBV.out, WBM.out⟩).mono ?_
    rintro _ u1 ⟨rfl, hg⟩
    rw [CV.out]
    have E1 := Lib.hid ((Grow.drewN wz 1).trans hg); clear hg
    go_wp2
    refine ⟨⟨⟨_, E1.out⟩, rfl⟩, ?_⟩
    refine anyC_sole 5 #[true, true, true, true, true, true, false, false, false, false, false, false, false, false, false, false, false, false, false, false, false, false, false] (fuel := 17) (by kernel_rfl) ?_
    simp only [List.getD_cons_succ, List.getD_cons_zero]
    go_wp2_with fail
    refine (coversS_any _ _ _ ⟨av, am⟩ ⟨bv, bw⟩ (RA.out.grow E1.out) (RB.out.grow E1.out) ⟨WAV.out, WAM.out⟩ ⟨WBV.out, WBM.out⟩).mono ?_
    rintro _ u2 ⟨rfl, hg⟩
    rw [CV.out]
    have E2 := Lib.hid (E1.out.trans hg); clear hg
    go_wp2
    refine ⟨⟨⟨_, E2.out⟩, rfl⟩, ?_⟩
    refine anyC_seg [6, 7, 8, 9] #[true, true, true, true, true, true, true, true, true, true, false, false, false, false, false, false, false, false, false, false, false, false, false] (fuel := 13) rfl (by kernel_rfl) ⟨⟨_, E2.out⟩, rfl⟩ ?_
    simp only [pickOps, List.getD_cons_succ, List.getD_cons_zero]
    repeat (go_big_quiet_step (fail))
    refine wpQuiet_nil ?_
    refine anyC_sole 10 #[true, true, true, true, true, true, true, true, true, true, true, false, false, false, false, false, false, false, false, false, false, false, false] (fuel := 12) (by kernel_rfl) ?_
    simp only [List.getD_cons_succ, List.getD_cons_zero]
    go_wp2_with fail
    refine (coversI_any _ _ _ ⟨av, am⟩ ⟨bv, bw⟩ (RA.out.grow E2.out) (RB.out.grow E2.out) ⟨WAV.out, WAM.out⟩ ⟨WBV.out, WBM.out⟩).mono ?_
    rintro _ u3 ⟨rfl, hg⟩
    rw [CV.out]
    have E3 := Lib.hid (E2.out.trans hg); clear hg
    go_wp2
    refine ⟨⟨⟨_, E3.out⟩, rfl⟩, ?_⟩
    refine anyC_seg [11, 12, 13] #[true, true, true, true, true, true, true, true, true, true, true, true, true, true, false, false, false, false, false, false, false, false, false] (fuel := 9) rfl (by kernel_rfl) ⟨⟨_, E3.out⟩, rfl⟩ ?_
    simp only [pickOps, List.getD_cons_succ, List.getD_cons_zero]
    repeat (go_big_quiet_step (fail))
    refine wpQuiet_nil ?_
    refine anyC_sole 14 #[true, true, true, true, true, true, true, true, true, true, true, true, true, true, true, false, false, false, false, false, false, false, false] (fuel := 8) (by kernel_rfl) ?_
    simp only [List.getD_cons_succ, List.getD_cons_zero]
    go_wp2
    refine ⟨⟨⟨_, E3.out⟩, rfl⟩, ?_⟩
    refine anyC_seg [15, 16, 17, 18] #[true, true, true, true, true, true, true, true, true, true, true, true, true, true, true, true, true, true, true, false, false, false, false] (fuel := 4) rfl (by kernel_rfl) ⟨⟨_, E3.out⟩, rfl⟩ ?_
    simp only [pickOps, List.getD_cons_succ, List.getD_cons_zero]
    repeat (go_big_quiet_step (fail))
    refine wpQuiet_nil ?_
    refine anyC_sole 19 #[true, true, true, true, true, true, true, true, true, true, true, true, true, true, true, true, true, true, true, true, false, false, false] (fuel := 3) (by kernel_rfl) ?_
    simp only [List.getD_cons_succ, List.getD_cons_zero]
    go_wp2
    refine ⟨⟨⟨_, E3.out⟩, rfl⟩, ?_⟩
    refine anyC_seg [20, 21, 22] #[true, true, true, true, true, true, true, true, true, true, true, true, true, true, true, true, true, true, true, true, true, true, true] (fuel := 0) rfl (by kernel_rfl) ⟨⟨_, E3.out⟩, rfl⟩ ?_
    simp only [pickOps, List.getD_cons_succ, List.getD_cons_zero]
    repeat (go_big_quiet_step (fail))
    refine wpQuiet_nil ?_
    refine anyC_done (by kernel_rfl) ?_
    clear pa0 pa1 pb0 pb1 ph0 hne
    have G2 := Lib.hid E3.out
    have ⟨q0, q1⟩ := (BA.out.grow G2.out).two; have ql := (BA.out.grow G2.out).1
    have ⟨t0, t1⟩ := (BB.out.grow G2.out).two; have tl := (BB.out.grow G2.out).1
    go_wp2_with fail
    refine (meetOfI_any _ _ _ ⟨av, am⟩ ⟨bv, bw⟩ (RA.out.grow G2.out) (RB.out.grow G2.out) ⟨WAV.out, WAM.out⟩ ⟨WBV.out, WBM.out⟩).mono ?_
    rw [meetF_yes ME.out]
    rintro _ wm ⟨V, fp, rfl, ho, -, hg⟩
    have RM0 := ho.rd
    obtain ⟨z0, z1, f0, f1, rfl, -, -, o0, o1⟩ := ho
    obtain ⟨m0, cm0, rfl⟩ := own_shape o0.1
    obtain ⟨m1, cm1, rfl⟩ := own_shape o1.1
    clear q0 q1 ql t0 t1 tl
    generalize (orM ⟨av, am⟩ ⟨bv, bw⟩) = md at *
    have GM := Lib.hid (Grow.alloc wm (.cells #[.slice m0 md.vs.length cm0, .slice m1 md.ms.length cm1] 41))
    have BM := Lib.hid (Box.alloc wm [.slice m0 md.vs.length cm0, .slice m1 md.ms.length cm1] 41)
    have RM := Lib.hid (RM0.grow GM.out)
    have G3 := Lib.hid (G2.out.trans (hg.trans GM.out))
    clear RM0 o0 o1 hg GM G2
    have ⟨q0, q1⟩ := (BA.out.grow G3.out).two; have ql := (BA.out.grow G3.out).1
    have ⟨t0, t1⟩ := (BB.out.grow G3.out).two; have tl := (BB.out.grow G3.out).1
    go_wp2_with fail
    clear q0 q1 ql t0 t1 tl
    generalize wm.alloc (.cells #[.slice m0 md.vs.length cm0, .slice m1 md.ms.length cm1] 41) = wn at *
    generalize wm.heap.size = bm at *
    refine (meetsS_any _ _ _ ⟨av, am⟩ ⟨bv, bw⟩ (RA.out.grow G3.out) (RB.out.grow G3.out) ⟨WAV.out, WAM.out⟩ ⟨WBV.out, WBM.out⟩).mono ?_
    rintro _ wt ⟨rfl, hg⟩
    rw [ME.out]
    replace BA := Lib.hid (BA.out.grow (G3.out.trans hg)); replace BB := Lib.hid (BB.out.grow (G3.out.trans hg)); replace BH := Lib.hid (BH.out.grow (G3.out.trans hg)); replace BM := Lib.hid (BM.out.grow hg)
    replace RA := Lib.hid (RA.out.grow (G3.out.trans hg)); replace RB := Lib.hid (RB.out.grow (G3.out.trans hg)); replace RH := Lib.hid (RH.out.grow (G3.out.trans hg)); replace RM := Lib.hid (RM.out.grow hg)
    have G4 := Lib.hid (G1.out.trans (G3.out.trans hg))
    clear hg G3
    have ⟨pa0, pa1⟩ := BA.out.two_; have ⟨pb0, pb1⟩ := BB.out.two_; have ph0 := BH.out.one_; have ⟨pm0, pm1⟩ := BM.out.two_
    have hne : Nonempty (Cl (Grow wt)) := ⟨⟨wt, Grow.refl _⟩⟩
    have hkl := KL.out
    go_wp2_with fail
    refine wp_region_mix (Cls (Grow wt)) 30 #[false, false, false, false, false, false, false, false, false, false, false, false, false, false, false, false, false, false, false, false, false, false, false, false, false, false, false, false, false, false] (by kernel_rfl) (by kernel_rfl) ⟨⟨_, Grow.drewN _ 1⟩, rfl⟩ ?_
    refine anyC_seg [0, 1, 3, 4] #[true, true, false, true, true, false, false, false, false, false, false, false, false, false, false, false, false, false, false, false, false, false, false, false, false, false, false, false, false, false] (fuel := 26) rfl (by kernel_rfl) ⟨⟨_, Grow.drewN _ 1⟩, rfl⟩ ?_
    simp only [pickOps, List.getD_cons_succ, List.getD_cons_zero]
    repeat (go_big_quiet_step (fail))
    refine wpQuiet_nil ?_
    refine anyC_sole 2 #[true, true, true, true, true, false, false, false, false, false, false, false, false, false, false, false, false, false, false, false, false, false, false, false, false, false, false, false, false, false] (fuel := 25) (by kernel_rfl) ?_
    simp only [List.getD_cons_succ, List.getD_cons_zero]
    go_wp2_with fail
    refine (hitsI_any _ _ _ md ⟨hs⟩ (RM.out.grow (Grow.drewN wt 1)) (RH.out.grow (Grow.drewN wt 1)) (wf_mt MO.out) WH.out).mono ?_
    rintro _ u20 ⟨rfl, hg⟩
    simp only [HM.out]
    have E20 := Lib.hid ((Grow.drewN wt 1).trans hg); clear hg
    go_wp2
    refine ⟨⟨⟨_, E20.out⟩, rfl⟩, ?_⟩
    refine anyC_sole 5 #[true, true, true, true, true, true, false, false, false, false, false, false, false, false, false, false, false, false, false, false, false, false, false, false, false, false, false, false, false, false] (fuel := 24) (by kernel_rfl) ?_
    simp only [List.getD_cons_succ, List.getD_cons_zero]
    go_wp2_with fail
    refine (hitsI_any _ _ _ ⟨av, am⟩ ⟨hs⟩ (RA.out.grow E20.out) (RH.out.grow E20.out) ⟨WAV.out, WAM.out⟩ WH.out).mono ?_
    rintro _ u21 ⟨rfl, hg⟩
    simp only [HA.out]
    have E21 := Lib.hid (E20.out.trans hg); clear hg
    go_wp2
    refine ⟨⟨⟨_, E21.out⟩, rfl⟩, ?_⟩
    refine anyC_seg [6, 7, 8] #[true, true, true, true, true, true, true, true, true, false, false, false, false, false, false, false, false, false, false, false, false, false, false, false, false, false, false, false, false, false] (fuel := 21) rfl (by kernel_rfl) ⟨⟨_, E21.out⟩, rfl⟩ ?_
    simp only [pickOps, List.getD_cons_succ, List.getD_cons_zero]
    repeat (go_big_quiet_step (fail))
    refine wpQuiet_nil ?_
    refine anyC_sole 9 #[true, true, true, true, true, true, true, true, true, true, false, false, false, false, false, false, false, false, false, false, false, false, false, false, false, false, false, false, false, false] (fuel := 20) (by kernel_rfl) ?_
    simp only [List.getD_cons_succ, List.getD_cons_zero]
    go_wp2
    refine ⟨⟨⟨_, E21.out⟩, rfl⟩, ?_⟩
    refine anyC_seg [10, 11, 12, 13, 14] #[true, true, true, true, true, true, true, true, true, true, true, true, true, true, true, false, false, false, false, false, false, false, false, false, false, false, false, false, false, false] (fuel := 15) rfl (by kernel_rfl) ⟨⟨_, E21.out⟩, rfl⟩ ?_
    simp only [pickOps, List.getD_cons_succ, List.getD_cons_zero]
    repeat (go_big_quiet_step (fail))
    refine wpQuiet_nil ?_
    refine anyC_sole 15 #[true, true, true, true, true, true, true, true, true, true, true, true, true, true, true, true, false, false, false, false, false, false, false, false, false, false, false, false, false, false] (fuel := 14) (by kernel_rfl) ?_
    simp only [List.getD_cons_succ, List.getD_cons_zero]
    go_wp2_with fail
    refine (coversI_any _ _ _ ⟨av, am⟩ md (RA.out.grow E21.out) (RM.out.grow E21.out) ⟨WAV.out, WAM.out⟩ (wf_mt MO.out)).mono ?_
    rintro _ u22 ⟨rfl, hg⟩
    rw [CA.out]
    have E22 := Lib.hid (E21.out.trans hg); clear hg
    go_wp2
    refine ⟨⟨⟨_, E22.out⟩, rfl⟩, ?_⟩
    refine anyC_seg [16, 17, 18, 19] #[true, true, true, true, true, true, true, true, true, true, true, true, true, true, true, true, true, true, true, true, false, false, false, false, false, false, false, false, false, false] (fuel := 10) rfl (by kernel_rfl) ⟨⟨_, E22.out⟩, rfl⟩ ?_
    simp only [pickOps, List.getD_cons_succ, List.getD_cons_zero]
    repeat (go_big_quiet_step (fail))
    refine wpQuiet_nil ?_
    refine anyC_sole 20 #[true, true, true, true, true, true, true, true, true, true, true, true, true, true, true, true, true, true, true, true, true, false, false, false, false, false, false, false, false, false] (fuel := 9) (by kernel_rfl) ?_
    simp only [List.getD_cons_succ, List.getD_cons_zero]
    go_wp2_with fail
    refine (coversI_any _ _ _ ⟨bv, bw⟩ md (RB.out.grow E22.out) (RM.out.grow E22.out) ⟨WBV.out, WBM.out⟩ (wf_mt MO.out)).mono ?_
    rintro _ u23 ⟨rfl, hg⟩
    rw [CB.out]
    have E23 := Lib.hid (E22.out.trans hg); clear hg
    go_wp2
    refine ⟨⟨⟨_, E23.out⟩, rfl⟩, ?_⟩
    refine anyC_seg [21, 22, 23, 25] #[true, true, true, true, true, true, true, true, true, true, true, true, true, true, true, true, true, true, true, true, true, true, true, true, false, true, false, false, false, false] (fuel := 5) rfl (by kernel_rfl) ⟨⟨_, E23.out⟩, rfl⟩ ?_
    simp only [pickOps, List.getD_cons_succ, List.getD_cons_zero]
    repeat (go_big_quiet_step (fail))
    refine wpQuiet_nil ?_
    refine anyC_sole 24 #[true, true, true, true, true, true, true, true, true, true, true, true, true, true, true, true, true, true, true, true, true, true, true, true, true, true, false, false, false, false] (fuel := 4) (by kernel_rfl) ?_
    simp only [List.getD_cons_succ, List.getD_cons_zero]
    go_wp2_with fail
    refine (askedI_any _ _ md (RM.out.grow E23.out) (wf_mt MO.out)).mono ?_
    rintro _ u24 ⟨rfl, hg⟩
    rw [K1.out]
    have E24 := Lib.hid (E23.out.trans hg); clear hg
    go_wp2
    refine ⟨⟨⟨_, E24.out⟩, rfl⟩, ?_⟩
    refine anyC_sole 26 #[true, true, true, true, true, true, true, true, true, true, true, true, true, true, true, true, true, true, true, true, true, true, true, true, true, true, true, false, false, false] (fuel := 3) (by kernel_rfl) ?_
    simp only [List.getD_cons_succ, List.getD_cons_zero]
    go_wp2_with fail
    refine (askedI_any _ _ ⟨av, am⟩ (RA.out.grow E24.out) ⟨WAV.out, WAM.out⟩).mono ?_
    rintro _ u25 ⟨rfl, hg⟩
    rw [K2.out]
    have E25 := Lib.hid (E24.out.trans hg); clear hg
    go_wp2
    refine ⟨⟨⟨_, E25.out⟩, rfl⟩, ?_⟩
    refine anyC_seg [27, 28, 29] #[true, true, true, true, true, true, true, true, true, true, true, true, true, true, true, true, true, true, true, true, true, true, true, true, true, true, true, true, true, true] (fuel := 0) rfl (by kernel_rfl) ⟨⟨_, E25.out⟩, rfl⟩ ?_
    simp only [pickOps, List.getD_cons_succ, List.getD_cons_zero]
    repeat (go_big_quiet_step (fail))
    refine wpQuiet_nil ?_
    refine anyC_done (by kernel_rfl) ?_
    clear pa0 pa1 pb0 pb1 ph0 pm0 pm1 hne
    go_wp2
    go_ret
    exact ⟨ret_bool (by simp [hkl]), G4.out.trans E25.out⟩
  · have CV := Lib.hid hcv; have HA := Lib.hid hha; have HB := Lib.hid hhb; have ME := Lib.hid hme
    clear hcv hha hhb hme CH HMT FM
    go_wp2_with fail
    have ⟨pa0, pa1⟩ := BA.out.two_; have ⟨pb0, pb1⟩ := BB.out.two_; have ph0 := BH.out.one_
    have hne : Nonempty (Cl (Grow wz)) := ⟨⟨wz, Grow.refl _⟩⟩
    refine wp_region_mix (Cls (Grow wz)) 23 #[false, false, false, false, false, false, false, false, false, false, false, false, false, false, false, false, false, false, false, false, false, false, false] (by kernel_rfl) (by kernel_rfl) ⟨⟨_, Grow.drewN _ 1⟩, rfl⟩ ?_
    refine anyC_seg [0, 1, 3, 4] #[true, true, false, true, true, false, false, false, false, false, false, false, false, false, false, false, false, false, false, false, false, false, false] (fuel := 19) rfl (by kernel_rfl) ⟨⟨_, Grow.drewN _ 1⟩, rfl⟩ ?_
    simp only [pickOps, List.getD_cons_succ, List.getD_cons_zero]
    repeat (go_big_quiet_step (fail))
    refine wpQuiet_nil ?_
    refine anyC_sole 2 #[true, true, true, true, true, false, false, false, false, false, false, false, false, false, false, false, false, false, false, false, false, false, false] (fuel := 18) (by kernel_rfl) ?_
    simp only [List.getD_cons_succ, List.getD_cons_zero]
    go_wp2_with fail
    refine (coversI_any _ _ _ ⟨av, am⟩ ⟨bv, bw⟩ (RA.out.grow (Grow.drewN wz 1)) (RB.out.grow (Grow.drewN wz 1)) ⟨WAV.out, WAM.out⟩ ⟨WBV.out, WBM.out⟩).mono ?_
    rintro _ u1 ⟨rfl, hg⟩
    rw [CV.out]
    have E1 := Lib.hid ((Grow.drewN wz 1).trans hg); clear hg
    go_wp2
    refine ⟨⟨⟨_, E1.out⟩, rfl⟩, ?_⟩
    refine anyC_sole 5 #[true, true, true, true, true, true, false, false, false, false, false, false, false, false, false, false, false, false, false, false, false, false, false] (fuel := 17) (by kernel_rfl) ?_
    simp only [List.getD_cons_succ, List.getD_cons_zero]
    go_wp2_with fail
    refine (coversS_any _ _ _ ⟨av, am⟩ ⟨bv, bw⟩ (RA.out.grow E1.out) (RB.out.grow E1.out) ⟨WAV.out, WAM.out⟩ ⟨WBV.out, WBM.out⟩).mono ?_
    rintro _ u2 ⟨rfl, hg⟩
    rw [CV.out]
    have E2 := Lib.hid (E1.out.trans hg); clear hg
    go_wp2
    refine ⟨⟨⟨_, E2.out⟩, rfl⟩, ?_⟩
    refine anyC_seg [6, 7, 8, 9] #[true, true, true, true, true, true, true, true, true, true, false, false, false, false, false, false, false, false, false, false, false, false, false] (fuel := 13) rfl (by kernel_rfl) ⟨⟨_, E2.out⟩, rfl⟩ ?_
    simp only [pickOps, List.getD_cons_succ, List.getD_cons_zero]
    repeat (go_big_quiet_step (fail))
    refine wpQuiet_nil ?_
    refine anyC_sole 10 #[true, true, true, true, true, true, true, true, true, true, true, false, false, false, false, false, false, false, false, false, false, false, false] (fuel := 12) (by kernel_rfl) ?_
    simp only [List.getD_cons_succ, List.getD_cons_zero]
    go_wp2_with fail
    refine (coversI_any _ _ _ ⟨av, am⟩ ⟨bv, bw⟩ (RA.out.grow E2.out) (RB.out.grow E2.out) ⟨WAV.out, WAM.out⟩ ⟨WBV.out, WBM.out⟩).mono ?_
    rintro _ u3 ⟨rfl, hg⟩
    rw [CV.out]
    have E3 := Lib.hid (E2.out.trans hg); clear hg
    go_wp2
    refine ⟨⟨⟨_, E3.out⟩, rfl⟩, ?_⟩
    refine anyC_seg [11, 12, 13] #[true, true, true, true, true, true, true, true, true, true, true, true, true, true, false, false, false, false, false, false, false, false, false] (fuel := 9) rfl (by kernel_rfl) ⟨⟨_, E3.out⟩, rfl⟩ ?_
    simp only [pickOps, List.getD_cons_succ, List.getD_cons_zero]
    repeat (go_big_quiet_step (fail))
    refine wpQuiet_nil ?_
    refine anyC_sole 14 #[true, true, true, true, true, true, true, true, true, true, true, true, true, true, true, false, false, false, false, false, false, false, false] (fuel := 8) (by kernel_rfl) ?_
    simp only [List.getD_cons_succ, List.getD_cons_zero]
    go_wp2
    refine ⟨⟨⟨_, E3.out⟩, rfl⟩, ?_⟩
    refine anyC_seg [15, 16, 17, 18] #[true, true, true, true, true, true, true, true, true, true, true, true, true, true, true, true, true, true, true, false, false, false, false] (fuel := 4) rfl (by kernel_rfl) ⟨⟨_, E3.out⟩, rfl⟩ ?_
    simp only [pickOps, List.getD_cons_succ, List.getD_cons_zero]
    repeat (go_big_quiet_step (fail))
    refine wpQuiet_nil ?_
    refine anyC_sole 19 #[true, true, true, true, true, true, true, true, true, true, true, true, true, true, true, true, true, true, true, true, false, false, false] (fuel := 3) (by kernel_rfl) ?_
    simp only [List.getD_cons_succ, List.getD_cons_zero]
    go_wp2
    refine ⟨⟨⟨_, E3.out⟩, rfl⟩, ?_⟩
    refine anyC_seg [20, 21, 22] #[true, true, true, true, true, true, true, true, true, true, true, true, true, true, true, true, true, true, true, true, true, true, true] (fuel := 0) rfl (by kernel_rfl) ⟨⟨_, E3.out⟩, rfl⟩ ?_
    simp only [pickOps, List.getD_cons_succ, List.getD_cons_zero]
    repeat (go_big_quiet_step (fail))
    refine wpQuiet_nil ?_
    refine anyC_done (by kernel_rfl) ?_
    clear pa0 pa1 pb0 pb1 ph0 hne
    have G2 := Lib.hid E3.out
    have ⟨q0, q1⟩ := (BA.out.grow G2.out).two; have ql := (BA.out.grow G2.out).1
    have ⟨t0, t1⟩ := (BB.out.grow G2.out).two; have tl := (BB.out.grow G2.out).1
    go_wp2_with fail
    refine (meetOfI_any _ _ _ ⟨av, am⟩ ⟨bv, bw⟩ (RA.out.grow G2.out) (RB.out.grow G2.out) ⟨WAV.out, WAM.out⟩ ⟨WBV.out, WBM.out⟩).mono ?_
    rw [meetF_no ME.out]
    rintro _ wm ⟨V, fp, rfl, ho, -, hg⟩
    have RM0 := ho.rd
    obtain ⟨z0, z1, f0, f1, rfl, -, -, o0, o1⟩ := ho
    obtain ⟨m0, cm0, rfl⟩ := own_shape o0.1
    obtain ⟨m1, cm1, rfl⟩ := own_shape o1.1
    clear q0 q1 ql t0 t1 tl
    generalize zeroM = md at *
    have GM := Lib.hid (Grow.alloc wm (.cells #[.slice m0 md.vs.length cm0, .slice m1 md.ms.length cm1] 41))
    have BM := Lib.hid (Box.alloc wm [.slice m0 md.vs.length cm0, .slice m1 md.ms.length cm1] 41)
    have RM := Lib.hid (RM0.grow GM.out)
    have G3 := Lib.hid (G2.out.trans (hg.trans GM.out))
    clear RM0 o0 o1 hg GM G2
    have ⟨q0, q1⟩ := (BA.out.grow G3.out).two; have ql := (BA.out.grow G3.out).1
    have ⟨t0, t1⟩ := (BB.out.grow G3.out).two; have tl := (BB.out.grow G3.out).1
    go_wp2_with fail
    clear q0 q1 ql t0 t1 tl
    generalize wm.alloc (.cells #[.slice m0 md.vs.length cm0, .slice m1 md.ms.length cm1] 41) = wn at *
    generalize wm.heap.size = bm at *
    refine (meetsS_any _ _ _ ⟨av, am⟩ ⟨bv, bw⟩ (RA.out.grow G3.out) (RB.out.grow G3.out) ⟨WAV.out, WAM.out⟩ ⟨WBV.out, WBM.out⟩).mono ?_
    rintro _ wt ⟨rfl, hg⟩
    rw [ME.out]
    replace BA := Lib.hid (BA.out.grow (G3.out.trans hg)); replace BB := Lib.hid (BB.out.grow (G3.out.trans hg)); replace BH := Lib.hid (BH.out.grow (G3.out.trans hg)); replace BM := Lib.hid (BM.out.grow hg)
    replace RA := Lib.hid (RA.out.grow (G3.out.trans hg)); replace RB := Lib.hid (RB.out.grow (G3.out.trans hg)); replace RH := Lib.hid (RH.out.grow (G3.out.trans hg)); replace RM := Lib.hid (RM.out.grow hg)
    have G4 := Lib.hid (G1.out.trans (G3.out.trans hg))
    clear hg G3
    have ⟨q0, q1⟩ := BA.out.two; have ql := BA.out.1
    have h0 := BH.out.one; have hl := BH.out.1
    go_wp2_with fail
    clear q0 q1 ql h0 hl
    refine (hitsI_any _ _ _ ⟨av, am⟩ ⟨hs⟩ RA.out RH.out ⟨WAV.out, WAM.out⟩ WH.out).mono ?_
    rintro _ wx ⟨rfl, hg⟩
    simp only [HA.out]
    have G5 := Lib.hid (G4.out.trans hg)
    replace BB := Lib.hid (BB.out.grow hg); replace BH := Lib.hid (BH.out.grow hg); replace RB := Lib.hid (RB.out.grow hg); replace RH := Lib.hid (RH.out.grow hg)
    clear hg
    have ⟨q0, q1⟩ := BB.out.two; have ql := BB.out.1
    have h0 := BH.out.one; have hl := BH.out.1
    go_wp2_with fail
    clear q0 q1 ql h0 hl
    refine (hitsI_any _ _ _ ⟨bv, bw⟩ ⟨hs⟩ RB.out RH.out ⟨WBV.out, WBM.out⟩ WH.out).mono ?_
    rintro _ wy ⟨rfl, hg⟩
    simp only [HB.out]
    have G6 := Lib.hid (G5.out.trans hg)
    clear hg
    go_wp2
    go_ret
    exact ⟨rfl, G6.out⟩
  · have CV := Lib.hid hcv; have HA := Lib.hid hha; have HB := Lib.hid hhb; have ME := Lib.hid hme
    obtain ⟨f1, f2, f3, f4, f5⟩ := FM.out hme
    rw [hha, hhb] at f2
    have MO := Lib.hid f1; have HM : Hid (hitOk (orM ⟨av, am⟩ ⟨bv, bw⟩) hs = false) := Lib.hid f2; have CA := Lib.hid f3; have CB := Lib.hid f4
    obtain ⟨k1, hk1⟩ : ∃ k, askF (orM ⟨av, am⟩ ⟨bv, bw⟩) = k := ⟨_, rfl⟩
    obtain ⟨k2, hk2⟩ : ∃ k, askF ⟨av, am⟩ = k := ⟨_, rfl⟩
    have KL : Hid (k2 ≤ k1) := Lib.hid (by omega)
    have K1 := Lib.hid hk1; have K2 := Lib.hid hk2
    clear f1 f2 f3 f4 f5 hk1 hk2
    clear hcv hha hhb hme CH HMT FM
    go_wp2_with fail
    have ⟨pa0, pa1⟩ := BA.out.two_; have ⟨pb0, pb1⟩ := BB.out.two_; have ph0 := BH.out.one_
    have hne : Nonempty (Cl (Grow wz)) := ⟨⟨wz, Grow.refl _⟩⟩
    refine wp_region_mix (Cls (Grow wz)) 23 #[false, false, false, false, false, false, false, false, false, false, false, false, false, false, false, false, false, false, false, false, false, false, false] (by kernel_rfl) (by kernel_rfl) ⟨⟨_, Grow.drewN _ 1⟩, rfl⟩ ?_
    refine anyC_seg [0, 1, 3, 4] #[true, true, false, true, true, false, false, false, false, false, false, false, false, false, false, false, false, false, false, false, false, false, false] (fuel := 19) rfl (by kernel_rfl) ⟨⟨_, Grow.drewN _ 1⟩, rfl⟩ ?_
    simp only [pickOps, List.getD_cons_succ, List.getD_cons_zero]
    repeat (go_big_quiet_step (fail))
    refine wpQuiet_nil ?_
    refine anyC_sole 2 #[true, true, true, true, true, false, false, false, false, false, false, false, false, false, false, false, false, false, false, false, false, false, false] (fuel := 18) (by kernel_rfl) ?_
    simp only [List.getD_cons_succ, List.getD_cons_zero]
    go_wp2_with fail
    refine (coversI_any _ _ _ ⟨av, am⟩ ⟨bv, bw⟩ (RA.out.grow (Grow.drewN wz 1)) (RB.out.grow (Grow.drewN wz 1)) ⟨WAV.out, WAM.out⟩ ⟨WBV.out, WBM.out⟩).mono ?_
    rintro _ u1 ⟨rfl, hg⟩
    rw [CV.out]
    have E1 := Lib.hid ((Grow.drewN wz 1).trans hg); clear hg
    go_wp2
    refine ⟨⟨⟨_, E1.out⟩, rfl⟩, ?_⟩
    refine anyC_sole 5 #[true, true, true, true, true, true, false, false, false, false, false, false, false, false, false, false, false, false, false, false, false, false, false] (fuel := 17) (by kernel_rfl) ?_
    simp only [List.getD_cons_succ, List.getD_cons_zero]
    go_wp2_with fail
    refine (coversS_any _ _ _ ⟨av, am⟩ ⟨bv, bw⟩ (RA.out.grow E1.out) (RB.out.grow E1.out) ⟨WAV.out, WAM.out⟩ ⟨WBV.out, WBM.out⟩).mono ?_
    rintro _ u2 ⟨rfl, hg⟩
    rw [CV.out]
    have E2 := Lib.hid (E1.out.trans hg); clear hg
    go_wp2
    refine ⟨⟨⟨_, E2.out⟩, rfl⟩, ?_⟩
    refine anyC_seg [6, 7, 8, 9] #[true, true, true, true, true, true, true, true, true, true, false, false, false, false, false, false, false, false, false, false, false, false, false] (fuel := 13) rfl (by kernel_rfl) ⟨⟨_, E2.out⟩, rfl⟩ ?_
    simp only [pickOps, List.getD_cons_succ, List.getD_cons_zero]
    repeat (go_big_quiet_step (fail))
    refine wpQuiet_nil ?_
    refine anyC_sole 10 #[true, true, true, true, true, true, true, true, true, true, true, false, false, false, false, false, false, false, false, false, false, false, false] (fuel := 12) (by kernel_rfl) ?_
    simp only [List.getD_cons_succ, List.getD_cons_zero]
    go_wp2_with fail
    refine (coversI_any _ _ _ ⟨av, am⟩ ⟨bv, bw⟩ (RA.out.grow E2.out) (RB.out.grow E2.out) ⟨WAV.out, WAM.out⟩ ⟨WBV.out, WBM.out⟩).mono ?_
    rintro _ u3 ⟨rfl, hg⟩
    rw [CV.out]
    have E3 := Lib.hid (E2.out.trans hg); clear hg
    go_wp2
    refine ⟨⟨⟨_, E3.out⟩, rfl⟩, ?_⟩
    refine anyC_seg [11, 12, 13] #[true, true, true, true, true, true, true, true, true, true, true, true, true, true, false, false, false, false, false, false, false, false, false] (fuel := 9) rfl (by kernel_rfl) ⟨⟨_, E3.out⟩, rfl⟩ ?_
    simp only [pickOps, List.getD_cons_succ, List.getD_cons_zero]
    repeat (go_big_quiet_step (fail))
    refine wpQuiet_nil ?_
    refine anyC_sole 14 #[true, true, true, true, true, true, true, true, true, true, true, true, true, true, true, false, false, false, false, false, false, false, false] (fuel := 8) (by kernel_rfl) ?_
    simp only [List.getD_cons_succ, List.getD_cons_zero]
    go_wp2
    refine ⟨⟨⟨_, E3.out⟩, rfl⟩, ?_⟩
    refine anyC_seg [15, 16, 17, 18] #[true, true, true, true, true, true, true, true, true, true, true, true, true, true, true, true, true, true, true, false, false, false, false] (fuel := 4) rfl (by kernel_rfl) ⟨⟨_, E3.out⟩, rfl⟩ ?_
    simp only [pickOps, List.getD_cons_succ, List.getD_cons_zero]
    repeat (go_big_quiet_step (fail))
    refine wpQuiet_nil ?_
    refine anyC_sole 19 #[true, true, true, true, true, true, true, true, true, true, true, true, true, true, true, true, true, true, true, true, false, false, false] (fuel := 3) (by kernel_rfl) ?_
    simp only [List.getD_cons_succ, List.getD_cons_zero]
    go_wp2
    refine ⟨⟨⟨_, E3.out⟩, rfl⟩, ?_⟩
    refine anyC_seg [20, 21, 22] #[true, true, true, true, true, true, true, true, true, true, true, true, true, true, true, true, true, true, true, true, true, true, true] (fuel := 0) rfl (by kernel_rfl) ⟨⟨_, E3.out⟩, rfl⟩ ?_
    simp only [pickOps, List.getD_cons_succ, List.getD_cons_zero]
    repeat (go_big_quiet_step (fail))
    refine wpQuiet_nil ?_
    refine anyC_done (by kernel_rfl) ?_
    clear pa0 pa1 pb0 pb1 ph0 hne
    have G2 := Lib.hid E3.out
    have ⟨q0, q1⟩ := (BA.out.grow G2.out).two; have ql := (BA.out.grow G2.out).1
    have ⟨t0, t1⟩ := (BB.out.grow G2.out).two; have tl := (BB.out.grow G2.out).1
    go_wp2_with fail
    refine (meetOfI_any _ _ _ ⟨av, am⟩ ⟨bv, bw⟩ (RA.out.grow G2.out) (RB.out.grow G2.out) ⟨WAV.out, WAM.out⟩ ⟨WBV.out, WBM.out⟩).mono ?_
    rw [meetF_yes ME.out]
    rintro _ wm ⟨V, fp, rfl, ho, -, hg⟩
    have RM0 := ho.rd
    obtain ⟨z0, z1, f0, f1, rfl, -, -, o0, o1⟩ := ho
    obtain ⟨m0, cm0, rfl⟩ := own_shape o0.1
    obtain ⟨m1, cm1, rfl⟩ := own_shape o1.1
    clear q0 q1 ql t0 t1 tl
    generalize (orM ⟨av, am⟩ ⟨bv, bw⟩) = md at *
    have GM := Lib.hid (Grow.alloc wm (.cells #[.slice m0 md.vs.length cm0, .slice m1 md.ms.length cm1] 41))
    have BM := Lib.hid (Box.alloc wm [.slice m0 md.vs.length cm0, .slice m1 md.ms.length cm1] 41)
    have RM := Lib.hid (RM0.grow GM.out)
    have G3 := Lib.hid (G2.out.trans (hg.trans GM.out))
    clear RM0 o0 o1 hg GM G2
    have ⟨q0, q1⟩ := (BA.out.grow G3.out).two; have ql := (BA.out.grow G3.out).1
    have ⟨t0, t1⟩ := (BB.out.grow G3.out).two; have tl := (BB.out.grow G3.out).1
    go_wp2_with fail
    clear q0 q1 ql t0 t1 tl
    generalize wm.alloc (.cells #[.slice m0 md.vs.length cm0, .slice m1 md.ms.length cm1] 41) = wn at *
    generalize wm.heap.size = bm at *
    refine (meetsS_any _ _ _ ⟨av, am⟩ ⟨bv, bw⟩ (RA.out.grow G3.out) (RB.out.grow G3.out) ⟨WAV.out, WAM.out⟩ ⟨WBV.out, WBM.out⟩).mono ?_
    rintro _ wt ⟨rfl, hg⟩
    rw [ME.out]
    replace BA := Lib.hid (BA.out.grow (G3.out.trans hg)); replace BB := Lib.hid (BB.out.grow (G3.out.trans hg)); replace BH := Lib.hid (BH.out.grow (G3.out.trans hg)); replace BM := Lib.hid (BM.out.grow hg)
    replace RA := Lib.hid (RA.out.grow (G3.out.trans hg)); replace RB := Lib.hid (RB.out.grow (G3.out.trans hg)); replace RH := Lib.hid (RH.out.grow (G3.out.trans hg)); replace RM := Lib.hid (RM.out.grow hg)
    have G4 := Lib.hid (G1.out.trans (G3.out.trans hg))
    clear hg G3
    have ⟨pa0, pa1⟩ := BA.out.two_; have ⟨pb0, pb1⟩ := BB.out.two_; have ph0 := BH.out.one_; have ⟨pm0, pm1⟩ := BM.out.two_
    have hne : Nonempty (Cl (Grow wt)) := ⟨⟨wt, Grow.refl _⟩⟩
    have hkl := KL.out
    go_wp2_with fail
    refine wp_region_mix (Cls (Grow wt)) 30 #[false, false, false, false, false, false, false, false, false, false, false, false, false, false, false, false, false, false, false, false, false, false, false, false, false, false, false, false, false, false] (by kernel_rfl) (by kernel_rfl) ⟨⟨_, Grow.drewN _ 1⟩, rfl⟩ ?_
    refine anyC_seg [0, 1, 3, 4] #[true, true, false, true, true, false, false, false, false, false, false, false, false, false, false, false, false, false, false, false, false, false, false, false, false, false, false, false, false, false] (fuel := 26) rfl (by kernel_rfl) ⟨⟨_, Grow.drewN _ 1⟩, rfl⟩ ?_
    simp only [pickOps, List.getD_cons_succ, List.getD_cons_zero]
    repeat (go_big_quiet_step (fail))
    refine wpQuiet_nil ?_
    refine anyC_sole 2 #[true, true, true, true, true, false, false, false, false, false, false, false, false, false, false, false, false, false, false, false, false, false, false, false, false, false, false, false, false, false] (fuel := 25) (by kernel_rfl) ?_
    simp only [List.getD_cons_succ, List.getD_cons_zero]
    go_wp2_with fail
    refine (hitsI_any _ _ _ md ⟨hs⟩ (RM.out.grow (Grow.drewN wt 1)) (RH.out.grow (Grow.drewN wt 1)) (wf_mt MO.out) WH.out).mono ?_
    rintro _ u20 ⟨rfl, hg⟩
    simp only [HM.out]
    have E20 := Lib.hid ((Grow.drewN wt 1).trans hg); clear hg
    go_wp2
    refine ⟨⟨⟨_, E20.out⟩, rfl⟩, ?_⟩
    refine anyC_sole 5 #[true, true, true, true, true, true, false, false, false, false, false, false, false, false, false, false, false, false, false, false, false, false, false, false, false, false, false, false, false, false] (fuel := 24) (by kernel_rfl) ?_
    simp only [List.getD_cons_succ, List.getD_cons_zero]
    go_wp2_with fail
    refine (hitsI_any _ _ _ ⟨av, am⟩ ⟨hs⟩ (RA.out.grow E20.out) (RH.out.grow E20.out) ⟨WAV.out, WAM.out⟩ WH.out).mono ?_
    rintro _ u21 ⟨rfl, hg⟩
    simp only [HA.out]
    have E21 := Lib.hid (E20.out.trans hg); clear hg
    go_wp2
    refine ⟨⟨⟨_, E21.out⟩, rfl⟩, ?_⟩
    refine anyC_seg [6, 7, 8] #[true, true, true, true, true, true, true, true, true, false, false, false, false, false, false, false, false, false, false, false, false, false, false, false, false, false, false, false, false, false] (fuel := 21) rfl (by kernel_rfl) ⟨⟨_, E21.out⟩, rfl⟩ ?_
    simp only [pickOps, List.getD_cons_succ, List.getD_cons_zero]
    repeat (go_big_quiet_step (fail))
    refine wpQuiet_nil ?_
    refine anyC_sole 9 #[true, true, true, true, true, true, true, true, true, true, false, false, false, false, false, false, false, false, false, false, false, false, false, false, false, false, false, false, false, false] (fuel := 20) (by kernel_rfl) ?_
    simp only [List.getD_cons_succ, List.getD_cons_zero]
    go_wp2_with fail
    refine (hitsI_any _ _ _ ⟨bv, bw⟩ ⟨hs⟩ (RB.out.grow E21.out) (RH.out.grow E21.out) ⟨WBV.out, WBM.out⟩ WH.out).mono ?_
    rintro _ u22 ⟨rfl, hg⟩
    simp only [HB.out]
    have E22 := Lib.hid (E21.out.trans hg); clear hg
    go_wp2
    refine ⟨⟨⟨_, E22.out⟩, rfl⟩, ?_⟩
    refine anyC_seg [10, 11, 12, 13, 14] #[true, true, true, true, true, true, true, true, true, true, true, true, true, true, true, false, false, false, false, false, false, false, false, false, false, false, false, false, false, false] (fuel := 15) rfl (by kernel_rfl) ⟨⟨_, E22.out⟩, rfl⟩ ?_
    simp only [pickOps, List.getD_cons_succ, List.getD_cons_zero]
    repeat (go_big_quiet_step (fail))
    refine wpQuiet_nil ?_
    refine anyC_sole 15 #[true, true, true, true, true, true, true, true, true, true, true, true, true, true, true, true, false, false, false, false, false, false, false, false, false, false, false, false, false, false] (fuel := 14) (by kernel_rfl) ?_
    simp only [List.getD_cons_succ, List.getD_cons_zero]
    go_wp2_with fail
    refine (coversI_any _ _ _ ⟨av, am⟩ md (RA.out.grow E22.out) (RM.out.grow E22.out) ⟨WAV.out, WAM.out⟩ (wf_mt MO.out)).mono ?_
    rintro _ u23 ⟨rfl, hg⟩
    rw [CA.out]
    have E23 := Lib.hid (E22.out.trans hg); clear hg
    go_wp2
    refine ⟨⟨⟨_, E23.out⟩, rfl⟩, ?_⟩
    refine anyC_seg [16, 17, 18, 19] #[true, true, true, true, true, true, true, true, true, true, true, true, true, true, true, true, true, true, true, true, false, false, false, false, false, false, false, false, false, false] (fuel := 10) rfl (by kernel_rfl) ⟨⟨_, E23.out⟩, rfl⟩ ?_
    simp only [pickOps, List.getD_cons_succ, List.getD_cons_zero]
    repeat (go_big_quiet_step (fail))
    refine wpQuiet_nil ?_
    refine anyC_sole 20 #[true, true, true, true, true, true, true, true, true, true, true, true, true, true, true, true, true, true, true, true, true, false, false, false, false, false, false, false, false, false] (fuel := 9) (by kernel_rfl) ?_
    simp only [List.getD_cons_succ, List.getD_cons_zero]
    go_wp2_with fail
    refine (coversI_any _ _ _ ⟨bv, bw⟩ md (RB.out.grow E23.out) (RM.out.grow E23.out) ⟨WBV.out, WBM.out⟩ (wf_mt MO.out)).mono ?_
    rintro _ u24 ⟨rfl, hg⟩
    rw [CB.out]
    have E24 := Lib.hid (E23.out.trans hg); clear hg
    go_wp2
    refine ⟨⟨⟨_, E24.out⟩, rfl⟩, ?_⟩
    refine anyC_seg [21, 22, 23, 25] #[true, true, true, true, true, true, true, true, true, true, true, true, true, true, true, true, true, true, true, true, true, true, true, true, false, true, false, false, false, false] (fuel := 5) rfl (by kernel_rfl) ⟨⟨_, E24.out⟩, rfl⟩ ?_
    simp only [pickOps, List.getD_cons_succ, List.getD_cons_zero]
    repeat (go_big_quiet_step (fail))
    refine wpQuiet_nil ?_
    refine anyC_sole 24 #[true, true, true, true, true, true, true, true, true, true, true, true, true, true, true, true, true, true, true, true, true, true, true, true, true, true, false, false, false, false] (fuel := 4) (by kernel_rfl) ?_
    simp only [List.getD_cons_succ, List.getD_cons_zero]
    go_wp2_with fail
    refine (askedI_any _ _ md (RM.out.grow E24.out) (wf_mt MO.out)).mono ?_
    rintro _ u25 ⟨rfl, hg⟩
    rw [K1.out]
    have E25 := Lib.hid (E24.out.trans hg); clear hg
    go_wp2
    refine ⟨⟨⟨_, E25.out⟩, rfl⟩, ?_⟩
    refine anyC_sole 26 #[true, true, true, true, true, true, true, true, true, true, true, true, true, true, true, true, true, true, true, true, true, true, true, true, true, true, true, false, false, false] (fuel := 3) (by kernel_rfl) ?_
    simp only [List.getD_cons_succ, List.getD_cons_zero]
    go_wp2_with fail
    refine (askedI_any _ _ ⟨av, am⟩ (RA.out.grow E25.out) ⟨WAV.out, WAM.out⟩).mono ?_
    rintro _ u26 ⟨rfl, hg⟩
    rw [K2.out]
    have E26 := Lib.hid (E25.out.trans hg); clear hg
    go_wp2
    refine ⟨⟨⟨_, E26.out⟩, rfl⟩, ?_⟩
    refine anyC_seg [27, 28, 29] #[true, true, true, true, true, true, true, true, true, true, true, true, true, true, true, true, true, true, true, true, true, true, true, true, true, true, true, true, true, true] (fuel := 0) rfl (by kernel_rfl) ⟨⟨_, E26.out⟩, rfl⟩ ?_
    simp only [pickOps, List.getD_cons_succ, List.getD_cons_zero]
    repeat (go_big_quiet_step (fail))
    refine wpQuiet_nil ?_
    refine anyC_done (by kernel_rfl) ?_
    clear pa0 pa1 pb0 pb1 ph0 pm0 pm1 hne
    go_wp2
    go_ret
    exact ⟨ret_bool (by simp [hkl]), G4.out.trans E26.out⟩
  · have := HMT.out hha hhb; rw [hme] at this; cases this
  · have CV := Lib.hid hcv; have HA := Lib.hid hha; have HB := Lib.hid hhb; have ME := Lib.hid hme
    obtain ⟨f1, f2, f3, f4, f5⟩ := FM.out hme
    rw [hha, hhb] at f2
    have MO := Lib.hid f1; have HM : Hid (hitOk (orM ⟨av, am⟩ ⟨bv, bw⟩) hs = true) := Lib.hid f2; have CA := Lib.hid f3; have CB := Lib.hid f4
    obtain ⟨k1, hk1⟩ : ∃ k, askF (orM ⟨av, am⟩ ⟨bv, bw⟩) = k := ⟨_, rfl⟩
    obtain ⟨k2, hk2⟩ : ∃ k, askF ⟨av, am⟩ = k := ⟨_, rfl⟩
    have KL : Hid (k2 ≤ k1) := Lib.hid (by omega)
    have K1 := Lib.hid hk1; have K2 := Lib.hid hk2
    clear f1 f2 f3 f4 f5 hk1 hk2
    clear hcv hha hhb hme CH HMT FM
    go_wp2_with fail
    have ⟨pa0, pa1⟩ := BA.out.two_; have ⟨pb0, pb1⟩ := BB.out.two_; have ph0 := BH.out.one_
    have hne : Nonempty (Cl (Grow wz)) := ⟨⟨wz, Grow.refl _⟩⟩
    refine wp_region_mix (Cls (Grow wz)) 23 #[false, false, false, false, false, false, false, false, false, false, false, false, false, false, false, false, false, false, false, false, false, false, false] (by kernel_rfl) (by kernel_rfl) ⟨⟨_, Grow.drewN _ 1⟩, rfl⟩ ?_
    refine anyC_seg [0, 1, 3, 4] #[true, true, false, true, true, false, false, false, false, false, false, false, false, false, false, false, false, false, false, false, false, false, false] (fuel := 19) rfl (by kernel_rfl) ⟨⟨_, Grow.drewN _ 1⟩, rfl⟩ ?_
    simp only [pickOps, List.getD_cons_succ, List.getD_cons_zero]
    repeat (go_big_quiet_step (fail))
    refine wpQuiet_nil ?_
    refine anyC_sole 2 #[true, true, true, true, true, false, false, false, false, false, false, false, false, false, false, false, false, false, false, false, false, false, false] (fuel := 18) (by kernel_rfl) ?_
    simp only [List.getD_cons_succ, List.getD_cons_zero]
    go_wp2_with fail
    refine (coversI_any _ _ _ ⟨av, am⟩ ⟨bv, bw⟩ (RA.out.grow (Grow.drewN wz 1)) (RB.out.grow (Grow.drewN wz 1)) ⟨WAV.out, WAM.out⟩ ⟨WBV.out, WBM.out⟩).mono ?_
    rintro _ u1 ⟨rfl, hg⟩
    rw [CV.out]
    have E1 := Lib.hid ((Grow.drewN wz 1).trans hg); clear hg
    go_wp2
    refine ⟨⟨⟨_, E1.out⟩, rfl⟩, ?_⟩
    refine anyC_sole 5 #[true, true, true, true, true, true, false, false, false, false, false, false, false, false, false, false, false, false, false, false, false, false, false] (fuel := 17) (by kernel_rfl) ?_
    simp only [List.getD_cons_succ, List.getD_cons_zero]
    go_wp2_with fail
    refine (coversS_any _ _ _ ⟨av, am⟩ ⟨bv, bw⟩ (RA.out.grow E1.out) (RB.out.grow E1.out) ⟨WAV.out, WAM.out⟩ ⟨WBV.out, WBM.out⟩).mono ?_
    rintro _ u2 ⟨rfl, hg⟩
    rw [CV.out]
    have E2 := Lib.hid (E1.out.trans hg); clear hg
    go_wp2
    refine ⟨⟨⟨_, E2.out⟩, rfl⟩, ?_⟩
    refine anyC_seg [6, 7, 8, 9] #[true, true, true, true, true, true, true, true, true, true, false, false, false, false, false, false, false, false, false, false, false, false, false] (fuel := 13) rfl (by kernel_rfl) ⟨⟨_, E2.out⟩, rfl⟩ ?_
    simp only [pickOps, List.getD_cons_succ, List.getD_cons_zero]
    repeat (go_big_quiet_step (fail))
    refine wpQuiet_nil ?_
    refine anyC_sole 10 #[true, true, true, true, true, true, true, true, true, true, true, false, false, false, false, false, false, false, false, false, false, false, false] (fuel := 12) (by kernel_rfl) ?_
    simp only [List.getD_cons_succ, List.getD_cons_zero]
    go_wp2_with fail
    refine (coversI_any _ _ _ ⟨av, am⟩ ⟨bv, bw⟩ (RA.out.grow E2.out) (RB.out.grow E2.out) ⟨WAV.out, WAM.out⟩ ⟨WBV.out, WBM.out⟩).mono ?_
    rintro _ u3 ⟨rfl, hg⟩
    rw [CV.out]
    have E3 := Lib.hid (E2.out.trans hg); clear hg
    go_wp2
    refine ⟨⟨⟨_, E3.out⟩, rfl⟩, ?_⟩
    refine anyC_seg [11, 12, 13] #[true, true, true, true, true, true, true, true, true, true, true, true, true, true, false, false, false, false, false, false, false, false, false] (fuel := 9) rfl (by kernel_rfl) ⟨⟨_, E3.out⟩, rfl⟩ ?_
    simp only [pickOps, List.getD_cons_succ, List.getD_cons_zero]
    repeat (go_big_quiet_step (fail))
    refine wpQuiet_nil ?_
    refine anyC_sole 14 #[true, true, true, true, true, true, true, true, true, true, true, true, true, true, true, false, false, false, false, false, false, false, false] (fuel := 8) (by kernel_rfl) ?_
    simp only [List.getD_cons_succ, List.getD_cons_zero]
    go_wp2
    refine ⟨⟨⟨_, E3.out⟩, rfl⟩, ?_⟩
    refine anyC_seg [15, 16, 17, 18] #[true, true, true, true, true, true, true, true, true, true, true, true, true, true, true, true, true, true, true, false, false, false, false] (fuel := 4) rfl (by kernel_rfl) ⟨⟨_, E3.out⟩, rfl⟩ ?_
    simp only [pickOps, List.getD_cons_succ, List.getD_cons_zero]
    repeat (go_big_quiet_step (fail))
    refine wpQuiet_nil ?_
    refine anyC_sole 19 #[true, true, true, true, true, true, true, true, true, true, true, true, true, true, true, true, true, true, true, true, false, false, false] (fuel := 3) (by kernel_rfl) ?_
    simp only [List.getD_cons_succ, List.getD_cons_zero]
    go_wp2
    refine ⟨⟨⟨_, E3.out⟩, rfl⟩, ?_⟩
    refine anyC_seg [20, 21, 22] #[true, true, true, true, true, true, true, true, true, true, true, true, true, true, true, true, true, true, true, true, true, true, true] (fuel := 0) rfl (by kernel_rfl) ⟨⟨_, E3.out⟩, rfl⟩ ?_
    simp only [pickOps, List.getD_cons_succ, List.getD_cons_zero]
    repeat (go_big_quiet_step (fail))
    refine wpQuiet_nil ?_
    refine anyC_done (by kernel_rfl) ?_
    clear pa0 pa1 pb0 pb1 ph0 hne
    have G2 := Lib.hid E3.out
    have ⟨q0, q1⟩ := (BA.out.grow G2.out).two; have ql := (BA.out.grow G2.out).1
    have ⟨t0, t1⟩ := (BB.out.grow G2.out).two; have tl := (BB.out.grow G2.out).1
    go_wp2_with fail
    refine (meetOfI_any _ _ _ ⟨av, am⟩ ⟨bv, bw⟩ (RA.out.grow G2.out) (RB.out.grow G2.out) ⟨WAV.out, WAM.out⟩ ⟨WBV.out, WBM.out⟩).mono ?_
    rw [meetF_yes ME.out]
    rintro _ wm ⟨V, fp, rfl, ho, -, hg⟩
    have RM0 := ho.rd
    obtain ⟨z0, z1, f0, f1, rfl, -, -, o0, o1⟩ := ho
    obtain ⟨m0, cm0, rfl⟩ := own_shape o0.1
    obtain ⟨m1, cm1, rfl⟩ := own_shape o1.1
    clear q0 q1 ql t0 t1 tl
    generalize (orM ⟨av, am⟩ ⟨bv, bw⟩) = md at *
    have GM := Lib.hid (Grow.alloc wm (.cells #[.slice m0 md.vs.length cm0, .slice m1 md.ms.length cm1] 41))
    have BM := Lib.hid (Box.alloc wm [.slice m0 md.vs.length cm0, .slice m1 md.ms.length cm1] 41)
    have RM := Lib.hid (RM0.grow GM.out)
    have G3 := Lib.hid (G2.out.trans (hg.trans GM.out))
    clear RM0 o0 o1 hg GM G2
    have ⟨q0, q1⟩ := (BA.out.grow G3.out).two; have ql := (BA.out.grow G3.out).1
    have ⟨t0, t1⟩ := (BB.out.grow G3.out).two; have tl := (BB.out.grow G3.out).1
    go_wp2_with fail
    clear q0 q1 ql t0 t1 tl
    generalize wm.alloc (.cells #[.slice m0 md.vs.length cm0, .slice m1 md.ms.length cm1] 41) = wn at *
    generalize wm.heap.size = bm at *
    refine (meetsS_any _ _ _ ⟨av, am⟩ ⟨bv, bw⟩ (RA.out.grow G3.out) (RB.out.grow G3.out) ⟨WAV.out, WAM.out⟩ ⟨WBV.out, WBM.out⟩).mono ?_
    rintro _ wt ⟨rfl, hg⟩
    rw [ME.out]
    replace BA := Lib.hid (BA.out.grow (G3.out.trans hg)); replace BB := Lib.hid (BB.out.grow (G3.out.trans hg)); replace BH := Lib.hid (BH.out.grow (G3.out.trans hg)); replace BM := Lib.hid (BM.out.grow hg)
    replace RA := Lib.hid (RA.out.grow (G3.out.trans hg)); replace RB := Lib.hid (RB.out.grow (G3.out.trans hg)); replace RH := Lib.hid (RH.out.grow (G3.out.trans hg)); replace RM := Lib.hid (RM.out.grow hg)
    have G4 := Lib.hid (G1.out.trans (G3.out.trans hg))
    clear hg G3
    have ⟨pa0, pa1⟩ := BA.out.two_; have ⟨pb0, pb1⟩ := BB.out.two_; have ph0 := BH.out.one_; have ⟨pm0, pm1⟩ := BM.out.two_
    have hne : Nonempty (Cl (Grow wt)) := ⟨⟨wt, Grow.refl _⟩⟩
    have hkl := KL.out
    go_wp2_with fail
    refine wp_region_mix (Cls (Grow wt)) 30 #[false, false, false, false, false, false, false, false, false, false, false, false, false, false, false, false, false, false, false, false, false, false, false, false, false, false, false, false, false, false] (by kernel_rfl) (by kernel_rfl) ⟨⟨_, Grow.drewN _ 1⟩, rfl⟩ ?_
    refine anyC_seg [0, 1, 3, 4] #[true, true, false, true, true, false, false, false, false, false, false, false, false, false, false, false, false, false, false, false, false, false, false, false, false, false, false, false, false, false] (fuel := 26) rfl (by kernel_rfl) ⟨⟨_, Grow.drewN _ 1⟩, rfl⟩ ?_
    simp only [pickOps, List.getD_cons_succ, List.getD_cons_zero]
    repeat (go_big_quiet_step (fail))
    refine wpQuiet_nil ?_
    refine anyC_sole 2 #[true, true, true, true, true, false, false, false, false, false, false, false, false, false, false, false, false, false, false, false, false, false, false, false, false, false, false, false, false, false] (fuel := 25) (by kernel_rfl) ?_
    simp only [List.getD_cons_succ, List.getD_cons_zero]
    go_wp2_with fail
    refine (hitsI_any _ _ _ md ⟨hs⟩ (RM.out.grow (Grow.drewN wt 1)) (RH.out.grow (Grow.drewN wt 1)) (wf_mt MO.out) WH.out).mono ?_
    rintro _ u20 ⟨rfl, hg⟩
    simp only [HM.out]
    have E20 := Lib.hid ((Grow.drewN wt 1).trans hg); clear hg
    go_wp2
    refine ⟨⟨⟨_, E20.out⟩, rfl⟩, ?_⟩
    refine anyC_sole 5 #[true, true, true, true, true, true, false, false, false, false, false, false, false, false, false, false, false, false, false, false, false, false, false, false, false, false, false, false, false, false] (fuel := 24) (by kernel_rfl) ?_
    simp only [List.getD_cons_succ, List.getD_cons_zero]
    go_wp2_with fail
    refine (hitsI_any _ _ _ ⟨av, am⟩ ⟨hs⟩ (RA.out.grow E20.out) (RH.out.grow E20.out) ⟨WAV.out, WAM.out⟩ WH.out).mono ?_
    rintro _ u21 ⟨rfl, hg⟩
    simp only [HA.out]
    have E21 := Lib.hid (E20.out.trans hg); clear hg
    go_wp2
    refine ⟨⟨⟨_, E21.out⟩, rfl⟩, ?_⟩
    refine anyC_seg [6, 7, 8] #[true, true, true, true, true, true, true, true, true, false, false, false, false, false, false, false, false, false, false, false, false, false, false, false, false, false, false, false, false, false] (fuel := 21) rfl (by kernel_rfl) ⟨⟨_, E21.out⟩, rfl⟩ ?_
    simp only [pickOps, List.getD_cons_succ, List.getD_cons_zero]
    repeat (go_big_quiet_step (fail))
    refine wpQuiet_nil ?_
    refine anyC_sole 9 #[true, true, true, true, true, true, true, true, true, true, false, false, false, false, false, false, false, false, false, false, false, false, false, false, false, false, false, false, false, false] (fuel := 20) (by kernel_rfl) ?_
    simp only [List.getD_cons_succ, List.getD_cons_zero]
    go_wp2_with fail
    refine (hitsI_any _ _ _ ⟨bv, bw⟩ ⟨hs⟩ (RB.out.grow E21.out) (RH.out.grow E21.out) ⟨WBV.out, WBM.out⟩ WH.out).mono ?_
    rintro _ u22 ⟨rfl, hg⟩
    simp only [HB.out]
    have E22 := Lib.hid (E21.out.trans hg); clear hg
    go_wp2
    refine ⟨⟨⟨_, E22.out⟩, rfl⟩, ?_⟩
    refine anyC_seg [10, 11, 12, 13, 14] #[true, true, true, true, true, true, true, true, true, true, true, true, true, true, true, false, false, false, false, false, false, false, false, false, false, false, false, false, false, false] (fuel := 15) rfl (by kernel_rfl) ⟨⟨_, E22.out⟩, rfl⟩ ?_
    simp only [pickOps, List.getD_cons_succ, List.getD_cons_zero]
    repeat (go_big_quiet_step (fail))
    refine wpQuiet_nil ?_
    refine anyC_sole 15 #[true, true, true, true, true, true, true, true, true, true, true, true, true, true, true, true, false, false, false, false, false, false, false, false, false, false, false, false, false, false] (fuel := 14) (by kernel_rfl) ?_
    simp only [List.getD_cons_succ, List.getD_cons_zero]
    go_wp2_with fail
    refine (coversI_any _ _ _ ⟨av, am⟩ md (RA.out.grow E22.out) (RM.out.grow E22.out) ⟨WAV.out, WAM.out⟩ (wf_mt MO.out)).mono ?_
    rintro _ u23 ⟨rfl, hg⟩
    rw [CA.out]
    have E23 := Lib.hid (E22.out.trans hg); clear hg
    go_wp2
    refine ⟨⟨⟨_, E23.out⟩, rfl⟩, ?_⟩
    refine anyC_seg [16, 17, 18, 19] #[true, true, true, true, true, true, true, true, true, true, true, true, true, true, true, true, true, true, true, true, false, false, false, false, false, false, false, false, false, false] (fuel := 10) rfl (by kernel_rfl) ⟨⟨_, E23.out⟩, rfl⟩ ?_
    simp only [pickOps, List.getD_cons_succ, List.getD_cons_zero]
    repeat (go_big_quiet_step (fail))
    refine wpQuiet_nil ?_
    refine anyC_sole 20 #[true, true, true, true, true, true, true, true, true, true, true, true, true, true, true, true, true, true, true, true, true, false, false, false, false, false, false, false, false, false] (fuel := 9) (by kernel_rfl) ?_
    simp only [List.getD_cons_succ, List.getD_cons_zero]
    go_wp2_with fail
    refine (coversI_any _ _ _ ⟨bv, bw⟩ md (RB.out.grow E23.out) (RM.out.grow E23.out) ⟨WBV.out, WBM.out⟩ (wf_mt MO.out)).mono ?_
    rintro _ u24 ⟨rfl, hg⟩
    rw [CB.out]
    have E24 := Lib.hid (E23.out.trans hg); clear hg
    go_wp2
    refine ⟨⟨⟨_, E24.out⟩, rfl⟩, ?_⟩
    refine anyC_seg [21, 22, 23, 25] #[true, true, true, true, true, true, true, true, true, true, true, true, true, true, true, true, true, true, true, true, true, true, true, true, false, true, false, false, false, false] (fuel := 5) rfl (by kernel_rfl) ⟨⟨_, E24.out⟩, rfl⟩ ?_
    simp only [pickOps, List.getD_cons_succ, List.getD_cons_zero]
    repeat (go_big_quiet_step (fail))
    refine wpQuiet_nil ?_
    refine anyC_sole 24 #[true, true, true, true, true, true, true, true, true, true, true, true, true, true, true, true, true, true, true, true, true, true, true, true, true, true, false, false, false, false] (fuel := 4) (by kernel_rfl) ?_
    simp only [List.getD_cons_succ, List.getD_cons_zero]
    go_wp2_with fail
    refine (askedI_any _ _ md (RM.out.grow E24.out) (wf_mt MO.out)).mono ?_
    rintro _ u25 ⟨rfl, hg⟩
    rw [K1.out]
    have E25 := Lib.hid (E24.out.trans hg); clear hg
    go_wp2
    refine ⟨⟨⟨_, E25.out⟩, rfl⟩, ?_⟩
    refine anyC_sole 26 #[true, true, true, true, true, true, true, true, true, true, true, true, true, true, true, true, true, true, true, true, true, true, true, true, true, true, true, false, false, false] (fuel := 3) (by kernel_rfl) ?_
    simp only [List.getD_cons_succ, List.getD_cons_zero]
    go_wp2_with fail
    refine (askedI_any _ _ ⟨av, am⟩ (RA.out.grow E25.out) ⟨WAV.out, WAM.out⟩).mono ?_
    rintro _ u26 ⟨rfl, hg⟩
    rw [K2.out]
    have E26 := Lib.hid (E25.out.trans hg); clear hg
    go_wp2
    refine ⟨⟨⟨_, E26.out⟩, rfl⟩, ?_⟩
    refine anyC_seg [27, 28, 29] #[true, true, true, true, true, true, true, true, true, true, true, true, true, true, true, true, true, true, true, true, true, true, true, true, true, true, true, true, true, true] (fuel := 0) rfl (by kernel_rfl) ⟨⟨_, E26.out⟩, rfl⟩ ?_
    simp only [pickOps, List.getD_cons_succ, List.getD_cons_zero]
    repeat (go_big_quiet_step (fail))
    refine wpQuiet_nil ?_
    refine anyC_done (by kernel_rfl) ?_
    clear pa0 pa1 pb0 pb1 ph0 pm0 pm1 hne
    go_wp2
    go_ret
    exact ⟨ret_bool (by simp [hkl]), G4.out.trans E26.out⟩
  · have CV := Lib.hid hcv; have HA := Lib.hid hha; have HB := Lib.hid hhb; have ME := Lib.hid hme
    clear hcv hha hhb hme CH HMT FM
    go_wp2_with fail
    have ⟨pa0, pa1⟩ := BA.out.two_; have ⟨pb0, pb1⟩ := BB.out.two_; have ph0 := BH.out.one_
    have hne : Nonempty (Cl (Grow wz)) := ⟨⟨wz, Grow.refl _⟩⟩
    refine wp_region_mix (Cls (Grow wz)) 23 #[false, false, false, false, false, false, false, false, false, false, false, false, false, false, false, false, false, false, false, false, false, false, false] (by kernel_rfl) (by kernel_rfl) ⟨⟨_, Grow.drewN _ 1⟩, rfl⟩ ?_
    refine anyC_seg [0, 1, 3, 4] #[true, true, false, true, true, false, false, false, false, false, false, false, false, false, false, false, false, false, false, false, false, false, false] (fuel := 19) rfl (by kernel_rfl) ⟨⟨_, Grow.drewN _ 1⟩, rfl⟩ ?_
    simp only [pickOps, List.getD_cons_succ, List.getD_cons_zero]
    repeat (go_big_quiet_step (fail))
    refine wpQuiet_nil ?_
    refine anyC_sole 2 #[true, true, true, true, true, false, false, false, false, false, false, false, false, false, false, false, false, false, false, false, false, false, false] (fuel := 18) (by kernel_rfl) ?_
    simp only [List.getD_cons_succ, List.getD_cons_zero]
    go_wp2_with fail
    refine (coversI_any _ _ _ ⟨av, am⟩ ⟨bv, bw⟩ (RA.out.grow (Grow.drewN wz 1)) (RB.out.grow (Grow.drewN wz 1)) ⟨WAV.out, WAM.out⟩ ⟨WBV.out, WBM.out⟩).mono ?_
    rintro _ u1 ⟨rfl, hg⟩
    rw [CV.out]
    have E1 := Lib.hid ((Grow.drewN wz 1).trans hg); clear hg
    go_wp2
    refine ⟨⟨⟨_, E1.out⟩, rfl⟩, ?_⟩
    refine anyC_sole 5 #[true, true, true, true, true, true, false, false, false, false, false, false, false, false, false, false, false, false, false, false, false, false, false] (fuel := 17) (by kernel_rfl) ?_
    simp only [List.getD_cons_succ, List.getD_cons_zero]
    go_wp2_with fail
    refine (coversS_any _ _ _ ⟨av, am⟩ ⟨bv, bw⟩ (RA.out.grow E1.out) (RB.out.grow E1.out) ⟨WAV.out, WAM.out⟩ ⟨WBV.out, WBM.out⟩).mono ?_
    rintro _ u2 ⟨rfl, hg⟩
    rw [CV.out]
    have E2 := Lib.hid (E1.out.trans hg); clear hg
    go_wp2
    refine ⟨⟨⟨_, E2.out⟩, rfl⟩, ?_⟩
    refine anyC_seg [6, 7, 8, 9] #[true, true, true, true, true, true, true, true, true, true, false, false, false, false, false, false, false, false, false, false, false, false, false] (fuel := 13) rfl (by kernel_rfl) ⟨⟨_, E2.out⟩, rfl⟩ ?_
    simp only [pickOps, List.getD_cons_succ, List.getD_cons_zero]
    repeat (go_big_quiet_step (fail))
    refine wpQuiet_nil ?_
    refine anyC_sole 10 #[true, true, true, true, true, true, true, true, true, true, true, false, false, false, false, false, false, false, false, false, false, false, false] (fuel := 12) (by kernel_rfl) ?_
    simp only [List.getD_cons_succ, List.getD_cons_zero]
    go_wp2_with fail
    refine (coversI_any _ _ _ ⟨av, am⟩ ⟨bv, bw⟩ (RA.out.grow E2.out) (RB.out.grow E2.out) ⟨WAV.out, WAM.out⟩ ⟨WBV.out, WBM.out⟩).mono ?_
    rintro _ u3 ⟨rfl, hg⟩
    rw [CV.out]
    have E3 := Lib.hid (E2.out.trans hg); clear hg
    go_wp2
    refine ⟨⟨⟨_, E3.out⟩, rfl⟩, ?_⟩
    refine anyC_seg [11, 12, 13] #[true, true, true, true, true, true, true, true, true, true, true, true, true, true, false, false, false, false, false, false, false, false, false] (fuel := 9) rfl (by kernel_rfl) ⟨⟨_, E3.out⟩, rfl⟩ ?_
    simp only [pickOps, List.getD_cons_succ, List.getD_cons_zero]
    repeat (go_big_quiet_step (fail))
    refine wpQuiet_nil ?_
    refine anyC_sole 14 #[true, true, true, true, true, true, true, true, true, true, true, true, true, true, true, false, false, false, false, false, false, false, false] (fuel := 8) (by kernel_rfl) ?_
    simp only [List.getD_cons_succ, List.getD_cons_zero]
    go_wp2_with fail
    refine (hitsI_any _ _ _ ⟨bv, bw⟩ ⟨hs⟩ (RB.out.grow E3.out) (RH.out.grow E3.out) ⟨WBV.out, WBM.out⟩ WH.out).mono ?_
    rintro _ u4 ⟨rfl, hg⟩
    simp only [HB.out]
    have E4 := Lib.hid (E3.out.trans hg); clear hg
    go_wp2
    refine ⟨⟨⟨_, E4.out⟩, rfl⟩, ?_⟩
    refine anyC_seg [15, 16, 17, 18] #[true, true, true, true, true, true, true, true, true, true, true, true, true, true, true, true, true, true, true, false, false, false, false] (fuel := 4) rfl (by kernel_rfl) ⟨⟨_, E4.out⟩, rfl⟩ ?_
    simp only [pickOps, List.getD_cons_succ, List.getD_cons_zero]
    repeat (go_big_quiet_step (fail))
    refine wpQuiet_nil ?_
    refine anyC_sole 19 #[true, true, true, true, true, true, true, true, true, true, true, true, true, true, true, true, true, true, true, true, false, false, false] (fuel := 3) (by kernel_rfl) ?_
    simp only [List.getD_cons_succ, List.getD_cons_zero]
    go_wp2
    refine ⟨⟨⟨_, E4.out⟩, rfl⟩, ?_⟩
    refine anyC_seg [20, 21, 22] #[true, true, true, true, true, true, true, true, true, true, true, true, true, true, true, true, true, true, true, true, true, true, true] (fuel := 0) rfl (by kernel_rfl) ⟨⟨_, E4.out⟩, rfl⟩ ?_
    simp only [pickOps, List.getD_cons_succ, List.getD_cons_zero]
    repeat (go_big_quiet_step (fail))
    refine wpQuiet_nil ?_
    refine anyC_done (by kernel_rfl) ?_
    clear pa0 pa1 pb0 pb1 ph0 hne
    have G2 := Lib.hid E4.out
    have ⟨q0, q1⟩ := (BA.out.grow G2.out).two; have ql := (BA.out.grow G2.out).1
    have ⟨t0, t1⟩ := (BB.out.grow G2.out).two; have tl := (BB.out.grow G2.out).1
    go_wp2_with fail
    refine (meetOfI_any _ _ _ ⟨av, am⟩ ⟨bv, bw⟩ (RA.out.grow G2.out) (RB.out.grow G2.out) ⟨WAV.out, WAM.out⟩ ⟨WBV.out, WBM.out⟩).mono ?_
    rw [meetF_no ME.out]
    rintro _ wm ⟨V, fp, rfl, ho, -, hg⟩
    have RM0 := ho.rd
    obtain ⟨z0, z1, f0, f1, rfl, -, -, o0, o1⟩ := ho
    obtain ⟨m0, cm0, rfl⟩ := own_shape o0.1
    obtain ⟨m1, cm1, rfl⟩ := own_shape o1.1
    clear q0 q1 ql t0 t1 tl
    generalize zeroM = md at *
    have GM := Lib.hid (Grow.alloc wm (.cells #[.slice m0 md.vs.length cm0, .slice m1 md.ms.length cm1] 41))
    have BM := Lib.hid (Box.alloc wm [.slice m0 md.vs.length cm0, .slice m1 md.ms.length cm1] 41)
    have RM := Lib.hid (RM0.grow GM.out)
    have G3 := Lib.hid (G2.out.trans (hg.trans GM.out))
    clear RM0 o0 o1 hg GM G2
    have ⟨q0, q1⟩ := (BA.out.grow G3.out).two; have ql := (BA.out.grow G3.out).1
    have ⟨t0, t1⟩ := (BB.out.grow G3.out).two; have tl := (BB.out.grow G3.out).1
    go_wp2_with fail
    clear q0 q1 ql t0 t1 tl
    generalize wm.alloc (.cells #[.slice m0 md.vs.length cm0, .slice m1 md.ms.length cm1] 41) = wn at *
    generalize wm.heap.size = bm at *
    refine (meetsS_any _ _ _ ⟨av, am⟩ ⟨bv, bw⟩ (RA.out.grow G3.out) (RB.out.grow G3.out) ⟨WAV.out, WAM.out⟩ ⟨WBV.out, WBM.out⟩).mono ?_
    rintro _ wt ⟨rfl, hg⟩
    rw [ME.out]
    replace BA := Lib.hid (BA.out.grow (G3.out.trans hg)); replace BB := Lib.hid (BB.out.grow (G3.out.trans hg)); replace BH := Lib.hid (BH.out.grow (G3.out.trans hg)); replace BM := Lib.hid (BM.out.grow hg)
    replace RA := Lib.hid (RA.out.grow (G3.out.trans hg)); replace RB := Lib.hid (RB.out.grow (G3.out.trans hg)); replace RH := Lib.hid (RH.out.grow (G3.out.trans hg)); replace RM := Lib.hid (RM.out.grow hg)
    have G4 := Lib.hid (G1.out.trans (G3.out.trans hg))
    clear hg G3
    have ⟨q0, q1⟩ := BA.out.two; have ql := BA.out.1
    have h0 := BH.out.one; have hl := BH.out.1
    go_wp2_with fail
    clear q0 q1 ql h0 hl
    refine (hitsI_any _ _ _ ⟨av, am⟩ ⟨hs⟩ RA.out RH.out ⟨WAV.out, WAM.out⟩ WH.out).mono ?_
    rintro _ wx ⟨rfl, hg⟩
    simp only [HA.out]
    have G5 := Lib.hid (G4.out.trans hg)
    clear hg
    go_wp2
    go_ret
    exact ⟨rfl, G5.out⟩
  · have CV := Lib.hid hcv; have HA := Lib.hid hha; have HB := Lib.hid hhb; have ME := Lib.hid hme
    obtain ⟨f1, f2, f3, f4, f5⟩ := FM.out hme
    rw [hha, hhb] at f2
    have MO := Lib.hid f1; have HM : Hid (hitOk (orM ⟨av, am⟩ ⟨bv, bw⟩) hs = false) := Lib.hid f2; have CA := Lib.hid f3; have CB := Lib.hid f4
    obtain ⟨k1, hk1⟩ : ∃ k, askF (orM ⟨av, am⟩ ⟨bv, bw⟩) = k := ⟨_, rfl⟩
    obtain ⟨k2, hk2⟩ : ∃ k, askF ⟨av, am⟩ = k := ⟨_, rfl⟩
    have KL : Hid (k2 ≤ k1) := Lib.hid (by omega)
    have K1 := Lib.hid hk1; have K2 := Lib.hid hk2
    clear f1 f2 f3 f4 f5 hk1 hk2
    clear hcv hha hhb hme CH HMT FM
    go_wp2_with fail
    have ⟨pa0, pa1⟩ := BA.out.two_; have ⟨pb0, pb1⟩ := BB.out.two_; have ph0 := BH.out.one_
    have hne : Nonempty (Cl (Grow wz)) := ⟨⟨wz, Grow.refl _⟩⟩
    refine wp_region_mix (Cls (Grow wz)) 23 #[false, false, false, false, false, false, false, false, false, false, false, false, false, false, false, false, false, false, false, false, false, false, false] (by kernel_rfl) (by kernel_rfl) ⟨⟨_, Grow.drewN _ 1⟩, rfl⟩ ?_
    refine anyC_seg [0, 1, 3, 4] #[true, true, false, true, true, false, false, false, false, false, false, false, false, false, false, false, false, false, false, false, false, false, false] (fuel := 19) rfl (by kernel_rfl) ⟨⟨_, Grow.drewN _ 1⟩, rfl⟩ ?_
    simp only [pickOps, List.getD_cons_succ, List.getD_cons_zero]
    repeat (go_big_quiet_step (fail))
    refine wpQuiet_nil ?_
    refine anyC_sole 2 #[true, true, true, true, true, false, false, false, false, false, false, false, false, false, false, false, false, false, false, false, false, false, false] (fuel := 18) (by kernel_rfl) ?_
    simp only [List.getD_cons_succ, List.getD_cons_zero]
    go_wp2_with fail
    refine (coversI_any _ _ _ ⟨av, am⟩ ⟨bv, bw⟩ (RA.out.grow (Grow.drewN wz 1)) (RB.out.grow (Grow.drewN wz 1)) ⟨WAV.out, WAM.out⟩ ⟨WBV.out, WBM.out⟩).mono ?_
    rintro _ u1 ⟨rfl, hg⟩
    rw [CV.out]
    have E1 := Lib.hid ((Grow.drewN wz 1).trans hg); clear hg
    go_wp2
    refine ⟨⟨⟨_, E1.out⟩, rfl⟩, ?_⟩
    refine anyC_sole 5 #[true, true, true, true, true, true, false, false, false, false, false, false, false, false, false, false, false, false, false, false, false, false, false] (fuel := 17) (by kernel_rfl) ?_
    simp only [List.getD_cons_succ, List.getD_cons_zero]
    go_wp2_with fail
    refine (coversS_any _ _ _ ⟨av, am⟩ ⟨bv, bw⟩ (RA.out.grow E1.out) (RB.out.grow E1.out) ⟨WAV.out, WAM.out⟩ ⟨WBV.out, WBM.out⟩).mono ?_
    rintro _ u2 ⟨rfl, hg⟩
    rw [CV.out]
    have E2 := Lib.hid (E1.out.trans hg); clear hg
    go_wp2
    refine ⟨⟨⟨_, E2.out⟩, rfl⟩, ?_⟩
    refine anyC_seg [6, 7, 8, 9] #[true, true, true, true, true, true, true, true, true, true, false, false, false, false, false, false, false, false, false, false, false, false, false] (fuel := 13) rfl (by kernel_rfl) ⟨⟨_, E2.out⟩, rfl⟩ ?_
    simp only [pickOps, List.getD_cons_succ, List.getD_cons_zero]
    repeat (go_big_quiet_step (fail))
    refine wpQuiet_nil ?_
    refine anyC_sole 10 #[true, true, true, true, true, true, true, true, true, true, true, false, false, false, false, false, false, false, false, false, false, false, false] (fuel := 12) (by kernel_rfl) ?_
    simp only [List.getD_cons_succ, List.getD_cons_zero]
    go_wp2_with fail
    refine (coversI_any _ _ _ ⟨av, am⟩ ⟨bv, bw⟩ (RA.out.grow E2.out) (RB.out.grow E2.out) ⟨WAV.out, WAM.out⟩ ⟨WBV.out, WBM.out⟩).mono ?_
    rintro _ u3 ⟨rfl, hg⟩
    rw [CV.out]
    have E3 := Lib.hid (E2.out.trans hg); clear hg
    go_wp2
    refine ⟨⟨⟨_, E3.out⟩, rfl⟩, ?_⟩
    refine anyC_seg [11, 12, 13] #[true, true, true, true, true, true, true, true, true, true, true, true, true, true, false, false, false, false, false, false, false, false, false] (fuel := 9) rfl (by kernel_rfl) ⟨⟨_, E3.out⟩, rfl⟩ ?_
    simp only [pickOps, List.getD_cons_succ, List.getD_cons_zero]
    repeat (go_big_quiet_step (fail))
    refine wpQuiet_nil ?_
    refine anyC_sole 14 #[true, true, true, true, true, true, true, true, true, true, true, true, true, true, true, false, false, false, false, false, false, false, false] (fuel := 8) (by kernel_rfl) ?_
    simp only [List.getD_cons_succ, List.getD_cons_zero]
    go_wp2_with fail
    refine (hitsI_any _ _ _ ⟨bv, bw⟩ ⟨hs⟩ (RB.out.grow E3.out) (RH.out.grow E3.out) ⟨WBV.out, WBM.out⟩ WH.out).mono ?_
    rintro _ u4 ⟨rfl, hg⟩
    simp only [HB.out]
    have E4 := Lib.hid (E3.out.trans hg); clear hg
    go_wp2
    refine ⟨⟨⟨_, E4.out⟩, rfl⟩, ?_⟩
    refine anyC_seg [15, 16, 17, 18] #[true, true, true, true, true, true, true, true, true, true, true, true, true, true, true, true, true, true, true, false, false, false, false] (fuel := 4) rfl (by kernel_rfl) ⟨⟨_, E4.out⟩, rfl⟩ ?_
    simp only [pickOps, List.getD_cons_succ, List.getD_cons_zero]
    repeat (go_big_quiet_step (fail))
    refine wpQuiet_nil ?_
    refine anyC_sole 19 #[true, true, true, true, true, true, true, true, true, true, true, true, true, true, true, true, true, true, true, true, false, false, false] (fuel := 3) (by kernel_rfl) ?_
    simp only [List.getD_cons_succ, List.getD_cons_zero]
    go_wp2
    refine ⟨⟨⟨_, E4.out⟩, rfl⟩, ?_⟩
    refine anyC_seg [20, 21, 22] #[true, true, true, true, true, true, true, true, true, true, true, true, true, true, true, true, true, true, true, true, true, true, true] (fuel := 0) rfl (by kernel_rfl) ⟨⟨_, E4.out⟩, rfl⟩ ?_
    simp only [pickOps, List.getD_cons_succ, List.getD_cons_zero]
    repeat (go_big_quiet_step (fail))
    refine wpQuiet_nil ?_
    refine anyC_done (by kernel_rfl) ?_
    clear pa0 pa1 pb0 pb1 ph0 hne
    have G2 := Lib.hid E4.out
    have ⟨q0, q1⟩ := (BA.out.grow G2.out).two; have ql := (BA.out.grow G2.out).1
    have ⟨t0, t1⟩ := (BB.out.grow G2.out).two; have tl := (BB.out.grow G2.out).1
    go_wp2_with fail
    refine (meetOfI_any _ _ _ ⟨av, am⟩ ⟨bv, bw⟩ (RA.out.grow G2.out) (RB.out.grow G2.out) ⟨WAV.out, WAM.out⟩ ⟨WBV.out, WBM.out⟩).mono ?_
    rw [meetF_yes ME.out]
    rintro _ wm ⟨V, fp, rfl, ho, -, hg⟩
    have RM0 := ho.rd
    obtain ⟨z0, z1, f0, f1, rfl, -, -, o0, o1⟩ := ho
    obtain ⟨m0, cm0, rfl⟩ := own_shape o0.1
    obtain ⟨m1, cm1, rfl⟩ := own_shape o1.1
    clear q0 q1 ql t0 t1 tl
    generalize (orM ⟨av, am⟩ ⟨bv, bw⟩) = md at *
    have GM := Lib.hid (Grow.alloc wm (.cells #[.slice m0 md.vs.length cm0, .slice m1 md.ms.length cm1] 41))
    have BM := Lib.hid (Box.alloc wm [.slice m0 md.vs.length cm0, .slice m1 md.ms.length cm1] 41)
    have RM := Lib.hid (RM0.grow GM.out)
    have G3 := Lib.hid (G2.out.trans (hg.trans GM.out))
    clear RM0 o0 o1 hg GM G2
    have ⟨q0, q1⟩ := (BA.out.grow G3.out).two; have ql := (BA.out.grow G3.out).1
    have ⟨t0, t1⟩ := (BB.out.grow G3.out).two; have tl := (BB.out.grow G3.out).1
    go_wp2_with fail
    clear q0 q1 ql t0 t1 tl
    generalize wm.alloc (.cells #[.slice m0 md.vs.length cm0, .slice m1 md.ms.length cm1] 41) = wn at *
    generalize wm.heap.size = bm at *
    refine (meetsS_any _ _ _ ⟨av, am⟩ ⟨bv, bw⟩ (RA.out.grow G3.out) (RB.out.grow G3.out) ⟨WAV.out, WAM.out⟩ ⟨WBV.out, WBM.out⟩).mono ?_
    rintro _ wt ⟨rfl, hg⟩
    rw [ME.out]
    replace BA := Lib.hid (BA.out.grow (G3.out.trans hg)); replace BB := Lib.hid (BB.out.grow (G3.out.trans hg)); replace BH := Lib.hid (BH.out.grow (G3.out.trans hg)); replace BM := Lib.hid (BM.out.grow hg)
    replace RA := Lib.hid (RA.out.grow (G3.out.trans hg)); replace RB := Lib.hid (RB.out.grow (G3.out.trans hg)); replace RH := Lib.hid (RH.out.grow (G3.out.trans hg)); replace RM := Lib.hid (RM.out.grow hg)
    have G4 := Lib.hid (G1.out.trans (G3.out.trans hg))
    clear hg G3
    have ⟨pa0, pa1⟩ := BA.out.two_; have ⟨pb0, pb1⟩ := BB.out.two_; have ph0 := BH.out.one_; have ⟨pm0, pm1⟩ := BM.out.two_
    have hne : Nonempty (Cl (Grow wt)) := ⟨⟨wt, Grow.refl _⟩⟩
    have hkl := KL.out
    go_wp2_with fail
    refine wp_region_mix (Cls (Grow wt)) 30 #[false, false, false, false, false, false, false, false, false, false, false, false, false, false, false, false, false, false, false, false, false, false, false, false, false, false, false, false, false, false] (by kernel_rfl) (by kernel_rfl) ⟨⟨_, Grow.drewN _ 1⟩, rfl⟩ ?_
    refine anyC_seg [0, 1, 3, 4] #[true, true, false, true, true, false, false, false, false, false, false, false, false, false, false, false, false, false, false, false, false, false, false, false, false, false, false, false, false, false] (fuel := 26) rfl (by kernel_rfl) ⟨⟨_, Grow.drewN _ 1⟩, rfl⟩ ?_
    simp only [pickOps, List.getD_cons_succ, List.getD_cons_zero]
    repeat (go_big_quiet_step (fail))
    refine wpQuiet_nil ?_
    refine anyC_sole 2 #[true, true, true, true, true, false, false, false, false, false, false, false, false, false, false, false, false, false, false, false, false, false, false, false, false, false, false, false, false, false] (fuel := 25) (by kernel_rfl) ?_
    simp only [List.getD_cons_succ, List.getD_cons_zero]
    go_wp2_with fail
    refine (hitsI_any _ _ _ md ⟨hs⟩ (RM.out.grow (Grow.drewN wt 1)) (RH.out.grow (Grow.drewN wt 1)) (wf_mt MO.out) WH.out).mono ?_
    rintro _ u20 ⟨rfl, hg⟩
    simp only [HM.out]
    have E20 := Lib.hid ((Grow.drewN wt 1).trans hg); clear hg
    go_wp2
    refine ⟨⟨⟨_, E20.out⟩, rfl⟩, ?_⟩
    refine anyC_sole 5 #[true, true, true, true, true, true, false, false, false, false, false, false, false, false, false, false, false, false, false, false, false, false, false, false, false, false, false, false, false, false] (fuel := 24) (by kernel_rfl) ?_
    simp only [List.getD_cons_succ, List.getD_cons_zero]
    go_wp2_with fail
    refine (hitsI_any _ _ _ ⟨av, am⟩ ⟨hs⟩ (RA.out.grow E20.out) (RH.out.grow E20.out) ⟨WAV.out, WAM.out⟩ WH.out).mono ?_
    rintro _ u21 ⟨rfl, hg⟩
    simp only [HA.out]
    have E21 := Lib.hid (E20.out.trans hg); clear hg
    go_wp2
    refine ⟨⟨⟨_, E21.out⟩, rfl⟩, ?_⟩
    refine anyC_seg [6, 7, 8] #[true, true, true, true, true, true, true, true, true, false, false, false, false, false, false, false, false, false, false, false, false, false, false, false, false, false, false, false, false, false] (fuel := 21) rfl (by kernel_rfl) ⟨⟨_, E21.out⟩, rfl⟩ ?_
    simp only [pickOps, List.getD_cons_succ, List.getD_cons_zero]
    repeat (go_big_quiet_step (fail))
    refine wpQuiet_nil ?_
    refine anyC_sole 9 #[true, true, true, true, true, true, true, true, true, true, false, false, false, false, false, false, false, false, false, false, false, false, false, false, false, false, false, false, false, false] (fuel := 20) (by kernel_rfl) ?_
    simp only [List.getD_cons_succ, List.getD_cons_zero]
    go_wp2
    refine ⟨⟨⟨_, E21.out⟩, rfl⟩, ?_⟩
    refine anyC_seg [10, 11, 12, 13, 14] #[true, true, true, true, true, true, true, true, true, true, true, true, true, true, true, false, false, false, false, false, false, false, false, false, false, false, false, false, false, false] (fuel := 15) rfl (by kernel_rfl) ⟨⟨_, E21.out⟩, rfl⟩ ?_
    simp only [pickOps, List.getD_cons_succ, List.getD_cons_zero]
    repeat (go_big_quiet_step (fail))
    refine wpQuiet_nil ?_
    refine anyC_sole 15 #[true, true, true, true, true, true, true, true, true, true, true, true, true, true, true, true, false, false, false, false, false, false, false, false, false, false, false, false, false, false] (fuel := 14) (by kernel_rfl) ?_
    simp only [List.getD_cons_succ, List.getD_cons_zero]
    go_wp2_with fail
    refine (coversI_any _ _ _ ⟨av, am⟩ md (RA.out.grow E21.out) (RM.out.grow E21.out) ⟨WAV.out, WAM.out⟩ (wf_mt MO.out)).mono ?_
    rintro _ u22 ⟨rfl, hg⟩
    rw [CA.out]
    have E22 := Lib.hid (E21.out.trans hg); clear hg
    go_wp2
    refine ⟨⟨⟨_, E22.out⟩, rfl⟩, ?_⟩
    refine anyC_seg [16, 17, 18, 19] #[true, true, true, true, true, true, true, true, true, true, true, true, true, true, true, true, true, true, true, true, false, false, false, false, false, false, false, false, false, false] (fuel := 10) rfl (by kernel_rfl) ⟨⟨_, E22.out⟩, rfl⟩ ?_
    simp only [pickOps, List.getD_cons_succ, List.getD_cons_zero]
    repeat (go_big_quiet_step (fail))
    refine wpQuiet_nil ?_
    refine anyC_sole 20 #[true, true, true, true, true, true, true, true, true, true, true, true, true, true, true, true, true, true, true, true, true, false, false, false, false, false, false, false, false, false] (fuel := 9) (by kernel_rfl) ?_
    simp only [List.getD_cons_succ, List.getD_cons_zero]
    go_wp2_with fail
    refine (coversI_any _ _ _ ⟨bv, bw⟩ md (RB.out.grow E22.out) (RM.out.grow E22.out) ⟨WBV.out, WBM.out⟩ (wf_mt MO.out)).mono ?_
    rintro _ u23 ⟨rfl, hg⟩
    rw [CB.out]
    have E23 := Lib.hid (E22.out.trans hg); clear hg
    go_wp2
    refine ⟨⟨⟨_, E23.out⟩, rfl⟩, ?_⟩
    refine anyC_seg [21, 22, 23, 25] #[true, true, true, true, true, true, true, true, true, true, true, true, true, true, true, true, true, true, true, true, true, true, true, true, false, true, false, false, false, false] (fuel := 5) rfl (by kernel_rfl) ⟨⟨_, E23.out⟩, rfl⟩ ?_
    simp only [pickOps, List.getD_cons_succ, List.getD_cons_zero]
    repeat (go_big_quiet_step (fail))
    refine wpQuiet_nil ?_
    refine anyC_sole 24 #[true, true, true, true, true, true, true, true, true, true, true, true, true, true, true, true, true, true, true, true, true, true, true, true, true, true, false, false, false, false] (fuel := 4) (by kernel_rfl) ?_
    simp only [List.getD_cons_succ, List.getD_cons_zero]
    go_wp2_with fail
    refine (askedI_any _ _ md (RM.out.grow E23.out) (wf_mt MO.out)).mono ?_
    rintro _ u24 ⟨rfl, hg⟩
    rw [K1.out]
    have E24 := Lib.hid (E23.out.trans hg); clear hg
    go_wp2
    refine ⟨⟨⟨_, E24.out⟩, rfl⟩, ?_⟩
    refine anyC_sole 26 #[true, true, true, true, true, true, true, true, true, true, true, true, true, true, true, true, true, true, true, true, true, true, true, true, true, true, true, false, false, false] (fuel := 3) (by kernel_rfl) ?_
    simp only [List.getD_cons_succ, List.getD_cons_zero]
    go_wp2_with fail
    refine (askedI_any _ _ ⟨av, am⟩ (RA.out.grow E24.out) ⟨WAV.out, WAM.out⟩).mono ?_
    rintro _ u25 ⟨rfl, hg⟩
    rw [K2.out]
    have E25 := Lib.hid (E24.out.trans hg); clear hg
    go_wp2
    refine ⟨⟨⟨_, E25.out⟩, rfl⟩, ?_⟩
    refine anyC_seg [27, 28, 29] #[true, true, true, true, true, true, true, true, true, true, true, true, true, true, true, true, true, true, true, true, true, true, true, true, true, true, true, true, true, true] (fuel := 0) rfl (by kernel_rfl) ⟨⟨_, E25.out⟩, rfl⟩ ?_
    simp only [pickOps, List.getD_cons_succ, List.getD_cons_zero]
    repeat (go_big_quiet_step (fail))
    refine wpQuiet_nil ?_
    refine anyC_done (by kernel_rfl) ?_
    clear pa0 pa1 pb0 pb1 ph0 pm0 pm1 hne
    go_wp2
    go_ret
    exact ⟨ret_bool (by simp [hkl]), G4.out.trans E25.out⟩
  · have := CH.out hcv hhb; rw [hha] at this; cases this
  · have := CH.out hcv hhb; rw [hha] at this; cases this
  · have CV := Lib.hid hcv; have HA := Lib.hid hha; have HB := Lib.hid hhb; have ME := Lib.hid hme
    clear hcv hha hhb hme CH HMT FM
    go_wp2_with fail
    have ⟨pa0, pa1⟩ := BA.out.two_; have ⟨pb0, pb1⟩ := BB.out.two_; have ph0 := BH.out.one_
    have hne : Nonempty (Cl (Grow wz)) := ⟨⟨wz, Grow.refl _⟩⟩
    refine wp_region_mix (Cls (Grow wz)) 23 #[false, false, false, false, false, false, false, false, false, false, false, false, false, false, false, false, false, false, false, false, false, false, false] (by kernel_rfl) (by kernel_rfl) ⟨⟨_, Grow.drewN _ 1⟩, rfl⟩ ?_
    refine anyC_seg [0, 1, 3, 4] #[true, true, false, true, true, false, false, false, false, false, false, false, false, false, false, false, false, false, false, false, false, false, false] (fuel := 19) rfl (by kernel_rfl) ⟨⟨_, Grow.drewN _ 1⟩, rfl⟩ ?_
    simp only [pickOps, List.getD_cons_succ, List.getD_cons_zero]
    repeat (go_big_quiet_step (fail))
    refine wpQuiet_nil ?_
    refine anyC_sole 2 #[true, true, true, true, true, false, false, false, false, false, false, false, false, false, false, false, false, false, false, false, false, false, false] (fuel := 18) (by kernel_rfl) ?_
    simp only [List.getD_cons_succ, List.getD_cons_zero]
    go_wp2_with fail
    refine (coversI_any _ _ _ ⟨av, am⟩ ⟨bv, bw⟩ (RA.out.grow (Grow.drewN wz 1)) (RB.out.grow (Grow.drewN wz 1)) ⟨WAV.out, WAM.out⟩ ⟨WBV.out, WBM.out⟩).mono ?_
    rintro _ u1 ⟨rfl, hg⟩
    rw [CV.out]
    have E1 := Lib.hid ((Grow.drewN wz 1).trans hg); clear hg
    go_wp2
    refine ⟨⟨⟨_, E1.out⟩, rfl⟩, ?_⟩
    refine anyC_sole 5 #[true, true, true, true, true, true, false, false, false, false, false, false, false, false, false, false, false, false, false, false, false, false, false] (fuel := 17) (by kernel_rfl) ?_
    simp only [List.getD_cons_succ, List.getD_cons_zero]
    go_wp2_with fail
    refine (coversS_any _ _ _ ⟨av, am⟩ ⟨bv, bw⟩ (RA.out.grow E1.out) (RB.out.grow E1.out) ⟨WAV.out, WAM.out⟩ ⟨WBV.out, WBM.out⟩).mono ?_
    rintro _ u2 ⟨rfl, hg⟩
    rw [CV.out]
    have E2 := Lib.hid (E1.out.trans hg); clear hg
    go_wp2
    refine ⟨⟨⟨_, E2.out⟩, rfl⟩, ?_⟩
    refine anyC_seg [6, 7, 8, 9] #[true, true, true, true, true, true, true, true, true, true, false, false, false, false, false, false, false, false, false, false, false, false, false] (fuel := 13) rfl (by kernel_rfl) ⟨⟨_, E2.out⟩, rfl⟩ ?_
    simp only [pickOps, List.getD_cons_succ, List.getD_cons_zero]
    repeat (go_big_quiet_step (fail))
    refine wpQuiet_nil ?_
    refine anyC_sole 10 #[true, true, true, true, true, true, true, true, true, true, true, false, false, false, false, false, false, false, false, false, false, false, false] (fuel := 12) (by kernel_rfl) ?_
    simp only [List.getD_cons_succ, List.getD_cons_zero]
    go_wp2_with fail
    refine (coversI_any _ _ _ ⟨av, am⟩ ⟨bv, bw⟩ (RA.out.grow E2.out) (RB.out.grow E2.out) ⟨WAV.out, WAM.out⟩ ⟨WBV.out, WBM.out⟩).mono ?_
    rintro _ u3 ⟨rfl, hg⟩
    rw [CV.out]
    have E3 := Lib.hid (E2.out.trans hg); clear hg
    go_wp2
    refine ⟨⟨⟨_, E3.out⟩, rfl⟩, ?_⟩
    refine anyC_seg [11, 12, 13] #[true, true, true, true, true, true, true, true, true, true, true, true, true, true, false, false, false, false, false, false, false, false, false] (fuel := 9) rfl (by kernel_rfl) ⟨⟨_, E3.out⟩, rfl⟩ ?_
    simp only [pickOps, List.getD_cons_succ, List.getD_cons_zero]
    repeat (go_big_quiet_step (fail))
    refine wpQuiet_nil ?_
    refine anyC_sole 14 #[true, true, true, true, true, true, true, true, true, true, true, true, true, true, true, false, false, false, false, false, false, false, false] (fuel := 8) (by kernel_rfl) ?_
    simp only [List.getD_cons_succ, List.getD_cons_zero]
    go_wp2_with fail
    refine (hitsI_any _ _ _ ⟨bv, bw⟩ ⟨hs⟩ (RB.out.grow E3.out) (RH.out.grow E3.out) ⟨WBV.out, WBM.out⟩ WH.out).mono ?_
    rintro _ u4 ⟨rfl, hg⟩
    simp only [HB.out]
    have E4 := Lib.hid (E3.out.trans hg); clear hg
    go_wp2
    refine ⟨⟨⟨_, E4.out⟩, rfl⟩, ?_⟩
    refine anyC_seg [15, 16, 17, 18] #[true, true, true, true, true, true, true, true, true, true, true, true, true, true, true, true, true, true, true, false, false, false, false] (fuel := 4) rfl (by kernel_rfl) ⟨⟨_, E4.out⟩, rfl⟩ ?_
    simp only [pickOps, List.getD_cons_succ, List.getD_cons_zero]
    repeat (go_big_quiet_step (fail))
    refine wpQuiet_nil ?_
    refine anyC_sole 19 #[true, true, true, true, true, true, true, true, true, true, true, true, true, true, true, true, true, true, true, true, false, false, false] (fuel := 3) (by kernel_rfl) ?_
    simp only [List.getD_cons_succ, List.getD_cons_zero]
    go_wp2
    refine ⟨⟨⟨_, E4.out⟩, rfl⟩, ?_⟩
    refine anyC_seg [20, 21, 22] #[true, true, true, true, true, true, true, true, true, true, true, true, true, true, true, true, true, true, true, true, true, true, true] (fuel := 0) rfl (by kernel_rfl) ⟨⟨_, E4.out⟩, rfl⟩ ?_
    simp only [pickOps, List.getD_cons_succ, List.getD_cons_zero]
    repeat (go_big_quiet_step (fail))
    refine wpQuiet_nil ?_
    refine anyC_done (by kernel_rfl) ?_
    clear pa0 pa1 pb0 pb1 ph0 hne
    have G2 := Lib.hid E4.out
    have ⟨q0, q1⟩ := (BA.out.grow G2.out).two; have ql := (BA.out.grow G2.out).1
    have ⟨t0, t1⟩ := (BB.out.grow G2.out).two; have tl := (BB.out.grow G2.out).1
    go_wp2_with fail
    refine (meetOfI_any _ _ _ ⟨av, am⟩ ⟨bv, bw⟩ (RA.out.grow G2.out) (RB.out.grow G2.out) ⟨WAV.out, WAM.out⟩ ⟨WBV.out, WBM.out⟩).mono ?_
    rw [meetF_no ME.out]
    rintro _ wm ⟨V, fp, rfl, ho, -, hg⟩
    have RM0 := ho.rd
    obtain ⟨z0, z1, f0, f1, rfl, -, -, o0, o1⟩ := ho
    obtain ⟨m0, cm0, rfl⟩ := own_shape o0.1
    obtain ⟨m1, cm1, rfl⟩ := own_shape o1.1
    clear q0 q1 ql t0 t1 tl
    generalize zeroM = md at *
    have GM := Lib.hid (Grow.alloc wm (.cells #[.slice m0 md.vs.length cm0, .slice m1 md.ms.length cm1] 41))
    have BM := Lib.hid (Box.alloc wm [.slice m0 md.vs.length cm0, .slice m1 md.ms.length cm1] 41)
    have RM := Lib.hid (RM0.grow GM.out)
    have G3 := Lib.hid (G2.out.trans (hg.trans GM.out))
    clear RM0 o0 o1 hg GM G2
    have ⟨q0, q1⟩ := (BA.out.grow G3.out).two; have ql := (BA.out.grow G3.out).1
    have ⟨t0, t1⟩ := (BB.out.grow G3.out).two; have tl := (BB.out.grow G3.out).1
    go_wp2_with fail
    clear q0 q1 ql t0 t1 tl
    generalize wm.alloc (.cells #[.slice m0 md.vs.length cm0, .slice m1 md.ms.length cm1] 41) = wn at *
    generalize wm.heap.size = bm at *
    refine (meetsS_any _ _ _ ⟨av, am⟩ ⟨bv, bw⟩ (RA.out.grow G3.out) (RB.out.grow G3.out) ⟨WAV.out, WAM.out⟩ ⟨WBV.out, WBM.out⟩).mono ?_
    rintro _ wt ⟨rfl, hg⟩
    rw [ME.out]
    replace BA := Lib.hid (BA.out.grow (G3.out.trans hg)); replace BB := Lib.hid (BB.out.grow (G3.out.trans hg)); replace BH := Lib.hid (BH.out.grow (G3.out.trans hg)); replace BM := Lib.hid (BM.out.grow hg)
    replace RA := Lib.hid (RA.out.grow (G3.out.trans hg)); replace RB := Lib.hid (RB.out.grow (G3.out.trans hg)); replace RH := Lib.hid (RH.out.grow (G3.out.trans hg)); replace RM := Lib.hid (RM.out.grow hg)
    have G4 := Lib.hid (G1.out.trans (G3.out.trans hg))
    clear hg G3
    have ⟨q0, q1⟩ := BA.out.two; have ql := BA.out.1
    have h0 := BH.out.one; have hl := BH.out.1
    go_wp2_with fail
    clear q0 q1 ql h0 hl
    refine (hitsI_any _ _ _ ⟨av, am⟩ ⟨hs⟩ RA.out RH.out ⟨WAV.out, WAM.out⟩ WH.out).mono ?_
    rintro _ wx ⟨rfl, hg⟩
    simp only [HA.out]
    have G5 := Lib.hid (G4.out.trans hg)
    replace BB := Lib.hid (BB.out.grow hg); replace BH := Lib.hid (BH.out.grow hg); replace RB := Lib.hid (RB.out.grow hg); replace RH := Lib.hid (RH.out.grow hg)
    clear hg
    have ⟨q0, q1⟩ := BB.out.two; have ql := BB.out.1
    have h0 := BH.out.one; have hl := BH.out.1
    go_wp2_with fail
    clear q0 q1 ql h0 hl
    refine (hitsI_any _ _ _ ⟨bv, bw⟩ ⟨hs⟩ RB.out RH.out ⟨WBV.out, WBM.out⟩ WH.out).mono ?_
    rintro _ wy ⟨rfl, hg⟩
    simp only [HB.out]
    have G6 := Lib.hid (G5.out.trans hg)
    clear hg
    go_wp2
    go_ret
    exact ⟨rfl, G6.out⟩
  · have CV := Lib.hid hcv; have HA := Lib.hid hha; have HB := Lib.hid hhb; have ME := Lib.hid hme
    obtain ⟨f1, f2, f3, f4, f5⟩ := FM.out hme
    rw [hha, hhb] at f2
    have MO := Lib.hid f1; have HM : Hid (hitOk (orM ⟨av, am⟩ ⟨bv, bw⟩) hs = false) := Lib.hid f2; have CA := Lib.hid f3; have CB := Lib.hid f4
    obtain ⟨k1, hk1⟩ : ∃ k, askF (orM ⟨av, am⟩ ⟨bv, bw⟩) = k := ⟨_, rfl⟩
    obtain ⟨k2, hk2⟩ : ∃ k, askF ⟨av, am⟩ = k := ⟨_, rfl⟩
    have KL : Hid (k2 ≤ k1) := Lib.hid (by omega)
    have K1 := Lib.hid hk1; have K2 := Lib.hid hk2
    clear f1 f2 f3 f4 f5 hk1 hk2
    clear hcv hha hhb hme CH HMT FM
    go_wp2_with fail
    have ⟨pa0, pa1⟩ := BA.out.two_; have ⟨pb0, pb1⟩ := BB.out.two_; have ph0 := BH.out.one_
    have hne : Nonempty (Cl (Grow wz)) := ⟨⟨wz, Grow.refl _⟩⟩
    refine wp_region_mix (Cls (Grow wz)) 23 #[false, false, false, false, false, false, false, false, false, false, false, false, false, false, false, false, false, false, false, false, false, false, false] (by kernel_rfl) (by kernel_rfl) ⟨⟨_, Grow.drewN _ 1⟩, rfl⟩ ?_
    refine anyC_seg [0, 1, 3, 4] #[true, true, false, true, true, false, false, false, false, false, false, false, false, false, false, false, false, false, false, false, false, false, false] (fuel := 19) rfl (by kernel_rfl) ⟨⟨_, Grow.drewN _ 1⟩, rfl⟩ ?_
    simp only [pickOps, List.getD_cons_succ, List.getD_cons_zero]
    repeat (go_big_quiet_step (fail))
    refine wpQuiet_nil ?_
    refine anyC_sole 2 #[true, true, true, true, true, false, false, false, false, false, false, false, false, false, false, false, false, false, false, false, false, false, false] (fuel := 18) (by kernel_rfl) ?_
    simp only [List.getD_cons_succ, List.getD_cons_zero]
    go_wp2_with fail
    refine (coversI_any _ _ _ ⟨av, am⟩ ⟨bv, bw⟩ (RA.out.grow (Grow.drewN wz 1)) (RB.out.grow (Grow.drewN wz 1)) ⟨WAV.out, WAM.out⟩ ⟨WBV.out, WBM.out⟩).mono ?_
    rintro _ u1 ⟨rfl, hg⟩
    rw [CV.out]
    have E1 := Lib.hid ((Grow.drewN wz 1).trans hg); clear hg
    go_wp2
    refine ⟨⟨⟨_, E1.out⟩, rfl⟩, ?_⟩
    refine anyC_sole 5 #[true, true, true, true, true, true, false, false, false, false, false, false, false, false, false, false, false, false, false, false, false, false, false] (fuel := 17) (by kernel_rfl) ?_
    simp only [List.getD_cons_succ, List.getD_cons_zero]
    go_wp2_with fail
    refine (coversS_any _ _ _ ⟨av, am⟩ ⟨bv, bw⟩ (RA.out.grow E1.out) (RB.out.grow E1.out) ⟨WAV.out, WAM.out⟩ ⟨WBV.out, WBM.out⟩).mono ?_
    rintro _ u2 ⟨rfl, hg⟩
    rw [CV.out]
    have E2 := Lib.hid (E1.out.trans hg); clear hg
    go_wp2
    refine ⟨⟨⟨_, E2.out⟩, rfl⟩, ?_⟩
    refine anyC_seg [6, 7, 8, 9] #[true, true, true, true, true, true, true, true, true, true, false, false, false, false, false, false, false, false, false, false, false, false, false] (fuel := 13) rfl (by kernel_rfl) ⟨⟨_, E2.out⟩, rfl⟩ ?_
    simp only [pickOps, List.getD_cons_succ, List.getD_cons_zero]
    repeat (go_big_quiet_step (fail))
    refine wpQuiet_nil ?_
    refine anyC_sole 10 #[true, true, true, true, true, true, true, true, true, true, true, false, false, false, false, false, false, false, false, false, false, false, false] (fuel := 12) (by kernel_rfl) ?_
    simp only [List.getD_cons_succ, List.getD_cons_zero]
    go_wp2_with fail
    refine (coversI_any _ _ _ ⟨av, am⟩ ⟨bv, bw⟩ (RA.out.grow E2.out) (RB.out.grow E2.out) ⟨WAV.out, WAM.out⟩ ⟨WBV.out, WBM.out⟩).mono ?_
    rintro _ u3 ⟨rfl, hg⟩
    rw [CV.out]
    have E3 := Lib.hid (E2.out.trans hg); clear hg
    go_wp2
    refine ⟨⟨⟨_, E3.out⟩, rfl⟩, ?_⟩
    refine anyC_seg [11, 12, 13] #[true, true, true, true, true, true, true, true, true, true, true, true, true, true, false, false, false, false, false, false, false, false, false] (fuel := 9) rfl (by kernel_rfl) ⟨⟨_, E3.out⟩, rfl⟩ ?_
    simp only [pickOps, List.getD_cons_succ, List.getD_cons_zero]
    repeat (go_big_quiet_step (fail))
    refine wpQuiet_nil ?_
    refine anyC_sole 14 #[true, true, true, true, true, true, true, true, true, true, true, true, true, true, true, false, false, false, false, false, false, false, false] (fuel := 8) (by kernel_rfl) ?_
    simp only [List.getD_cons_succ, List.getD_cons_zero]
    go_wp2_with fail
    refine (hitsI_any _ _ _ ⟨bv, bw⟩ ⟨hs⟩ (RB.out.grow E3.out) (RH.out.grow E3.out) ⟨WBV.out, WBM.out⟩ WH.out).mono ?_
    rintro _ u4 ⟨rfl, hg⟩
    simp only [HB.out]
    have E4 := Lib.hid (E3.out.trans hg); clear hg
    go_wp2
    refine ⟨⟨⟨_, E4.out⟩, rfl⟩, ?_⟩
    refine anyC_seg [15, 16, 17, 18] #[true, true, true, true, true, true, true, true, true, true, true, true, true, true, true, true, true, true, true, false, false, false, false] (fuel := 4) rfl (by kernel_rfl) ⟨⟨_, E4.out⟩, rfl⟩ ?_
    simp only [pickOps, List.getD_cons_succ, List.getD_cons_zero]
    repeat (go_big_quiet_step (fail))
    refine wpQuiet_nil ?_
    refine anyC_sole 19 #[true, true, true, true, true, true, true, true, true, true, true, true, true, true, true, true, true, true, true, true, false, false, false] (fuel := 3) (by kernel_rfl) ?_
    simp only [List.getD_cons_succ, List.getD_cons_zero]
    go_wp2
    refine ⟨⟨⟨_, E4.out⟩, rfl⟩, ?_⟩
    refine anyC_seg [20, 21, 22] #[true, true, true, true, true, true, true, true, true, true, true, true, true, true, true, true, true, true, true, true, true, true, true] (fuel := 0) rfl (by kernel_rfl) ⟨⟨_, E4.out⟩, rfl⟩ ?_
    simp only [pickOps, List.getD_cons_succ, List.getD_cons_zero]
    repeat (go_big_quiet_step (fail))
    refine wpQuiet_nil ?_
    refine anyC_done (by kernel_rfl) ?_
    clear pa0 pa1 pb0 pb1 ph0 hne
    have G2 := Lib.hid E4.out
    have ⟨q0, q1⟩ := (BA.out.grow G2.out).two; have ql := (BA.out.grow G2.out).1
    have ⟨t0, t1⟩ := (BB.out.grow G2.out).two; have tl := (BB.out.grow G2.out).1
    go_wp2_with fail
    refine (meetOfI_any _ _ _ ⟨av, am⟩ ⟨bv, bw⟩ (RA.out.grow G2.out) (RB.out.grow G2.out) ⟨WAV.out, WAM.out⟩ ⟨WBV.out, WBM.out⟩).mono ?_
    rw [meetF_yes ME.out]
    rintro _ wm ⟨V, fp, rfl, ho, -, hg⟩
    have RM0 := ho.rd
    obtain ⟨z0, z1, f0, f1, rfl, -, -, o0, o1⟩ := ho
    obtain ⟨m0, cm0, rfl⟩ := own_shape o0.1
    obtain ⟨m1, cm1, rfl⟩ := own_shape o1.1
    clear q0 q1 ql t0 t1 tl
    generalize (orM ⟨av, am⟩ ⟨bv, bw⟩) = md at *
    have GM := Lib.hid (Grow.alloc wm (.cells #[.slice m0 md.vs.length cm0, .slice m1 md.ms.length cm1] 41))
    have BM := Lib.hid (Box.alloc wm [.slice m0 md.vs.length cm0, .slice m1 md.ms.length cm1] 41)
    have RM := Lib.hid (RM0.grow GM.out)
    have G3 := Lib.hid (G2.out.trans (hg.trans GM.out))
    clear RM0 o0 o1 hg GM G2
    have ⟨q0, q1⟩ := (BA.out.grow G3.out).two; have ql := (BA.out.grow G3.out).1
    have ⟨t0, t1⟩ := (BB.out.grow G3.out).two; have tl := (BB.out.grow G3.out).1
    go_wp2_with fail
    clear q0 q1 ql t0 t1 tl
    generalize wm.alloc (.cells #[.slice m0 md.vs.length cm0, .slice m1 md.ms.length cm1] 41) = wn at *
    generalize wm.heap.size = bm at *
    refine (meetsS_any _ _ _ ⟨av, am⟩ ⟨bv, bw⟩ (RA.out.grow G3.out) (RB.out.grow G3.out) ⟨WAV.out, WAM.out⟩ ⟨WBV.out, WBM.out⟩).mono ?_
    rintro _ wt ⟨rfl, hg⟩
    rw [ME.out]
    replace BA := Lib.hid (BA.out.grow (G3.out.trans hg)); replace BB := Lib.hid (BB.out.grow (G3.out.trans hg)); replace BH := Lib.hid (BH.out.grow (G3.out.trans hg)); replace BM := Lib.hid (BM.out.grow hg)
    replace RA := Lib.hid (RA.out.grow (G3.out.trans hg)); replace RB := Lib.hid (RB.out.grow (G3.out.trans hg)); replace RH := Lib.hid (RH.out.grow (G3.out.trans hg)); replace RM := Lib.hid (RM.out.grow hg)
    have G4 := Lib.hid (G1.out.trans (G3.out.trans hg))
    clear hg G3
    have ⟨pa0, pa1⟩ := BA.out.two_; have ⟨pb0, pb1⟩ := BB.out.two_; have ph0 := BH.out.one_; have ⟨pm0, pm1⟩ := BM.out.two_
    have hne : Nonempty (Cl (Grow wt)) := ⟨⟨wt, Grow.refl _⟩⟩
    have hkl := KL.out
    go_wp2_with fail
    refine wp_region_mix (Cls (Grow wt)) 30 #[false, false, false, false, false, false, false, false, false, false, false, false, false, false, false, false, false, false, false, false, false, false, false, false, false, false, false, false, false, false] (by kernel_rfl) (by kernel_rfl) ⟨⟨_, Grow.drewN _ 1⟩, rfl⟩ ?_
    refine anyC_seg [0, 1, 3, 4] #[true, true, false, true, true, false, false, false, false, false, false, false, false, false, false, false, false, false, false, false, false, false, false, false, false, false, false, false, false, false] (fuel := 26) rfl (by kernel_rfl) ⟨⟨_, Grow.drewN _ 1⟩, rfl⟩ ?_
    simp only [pickOps, List.getD_cons_succ, List.getD_cons_zero]
    repeat (go_big_quiet_step (fail))
    refine wpQuiet_nil ?_
    refine anyC_sole 2 #[true, true, true, true, true, false, false, false, false, false, false, false, false, false, false, false, false, false, false, false, false, false, false, false, false, false, false, false, false, false] (fuel := 25) (by kernel_rfl) ?_
    simp only [List.getD_cons_succ, List.getD_cons_zero]
    go_wp2_with fail
    refine (hitsI_any _ _ _ md ⟨hs⟩ (RM.out.grow (Grow.drewN wt 1)) (RH.out.grow (Grow.drewN wt 1)) (wf_mt MO.out) WH.out).mono ?_
    rintro _ u20 ⟨rfl, hg⟩
    simp only [HM.out]
    have E20 := Lib.hid ((Grow.drewN wt 1).trans hg); clear hg
    go_wp2
    refine ⟨⟨⟨_, E20.out⟩, rfl⟩, ?_⟩
    refine anyC_sole 5 #[true, true, true, true, true, true, false, false, false, false, false, false, false, false, false, false, false, false, false, false, false, false, false, false, false, false, false, false, false, false] (fuel := 24) (by kernel_rfl) ?_
    simp only [List.getD_cons_succ, List.getD_cons_zero]
    go_wp2_with fail
    refine (hitsI_any _ _ _ ⟨av, am⟩ ⟨hs⟩ (RA.out.grow E20.out) (RH.out.grow E20.out) ⟨WAV.out, WAM.out⟩ WH.out).mono ?_
    rintro _ u21 ⟨rfl, hg⟩
    simp only [HA.out]
    have E21 := Lib.hid (E20.out.trans hg); clear hg
    go_wp2
    refine ⟨⟨⟨_, E21.out⟩, rfl⟩, ?_⟩
    refine anyC_seg [6, 7, 8] #[true, true, true, true, true, true, true, true, true, false, false, false, false, false, false, false, false, false, false, false, false, false, false, false, false, false, false, false, false, false] (fuel := 21) rfl (by kernel_rfl) ⟨⟨_, E21.out⟩, rfl⟩ ?_
    simp only [pickOps, List.getD_cons_succ, List.getD_cons_zero]
    repeat (go_big_quiet_step (fail))
    refine wpQuiet_nil ?_
    refine anyC_sole 9 #[true, true, true, true, true, true, true, true, true, true, false, false, false, false, false, false, false, false, false, false, false, false, false, false, false, false, false, false, false, false] (fuel := 20) (by kernel_rfl) ?_
    simp only [List.getD_cons_succ, List.getD_cons_zero]
    go_wp2_with fail
    refine (hitsI_any _ _ _ ⟨bv, bw⟩ ⟨hs⟩ (RB.out.grow E21.out) (RH.out.grow E21.out) ⟨WBV.out, WBM.out⟩ WH.out).mono ?_
    rintro _ u22 ⟨rfl, hg⟩
    simp only [HB.out]
    have E22 := Lib.hid (E21.out.trans hg); clear hg
    go_wp2
    refine ⟨⟨⟨_, E22.out⟩, rfl⟩, ?_⟩
    refine anyC_seg [10, 11, 12, 13, 14] #[true, true, true, true, true, true, true, true, true, true, true, true, true, true, true, false, false, false, false, false, false, false, false, false, false, false, false, false, false, false] (fuel := 15) rfl (by kernel_rfl) ⟨⟨_, E22.out⟩, rfl⟩ ?_
    simp only [pickOps, List.getD_cons_succ, List.getD_cons_zero]
    repeat (go_big_quiet_step (fail))
    refine wpQuiet_nil ?_
    refine anyC_sole 15 #[true, true, true, true, true, true, true, true, true, true, true, true, true, true, true, true, false, false, false, false, false, false, false, false, false, false, false, false, false, false] (fuel := 14) (by kernel_rfl) ?_
    simp only [List.getD_cons_succ, List.getD_cons_zero]
    go_wp2_with fail
    refine (coversI_any _ _ _ ⟨av, am⟩ md (RA.out.grow E22.out) (RM.out.grow E22.out) ⟨WAV.out, WAM.out⟩ (wf_mt MO.out)).mono ?_
    rintro _ u23 ⟨rfl, hg⟩
    rw [CA.out]
    have E23 := Lib.hid (E22.out.trans hg); clear hg
    go_wp2
    refine ⟨⟨⟨_, E23.out⟩, rfl⟩, ?_⟩
    refine anyC_seg [16, 17, 18, 19] #[true, true, true, true, true, true, true, true, true, true, true, true, true, true, true, true, true, true, true, true, false, false, false, false, false, false, false, false, false, false] (fuel := 10) rfl (by kernel_rfl) ⟨⟨_, E23.out⟩, rfl⟩ ?_
    simp only [pickOps, List.getD_cons_succ, List.getD_cons_zero]
    repeat (go_big_quiet_step (fail))
    refine wpQuiet_nil ?_
    refine anyC_sole 20 #[true, true, true, true, true, true, true, true, true, true, true, true, true, true, true, true, true, true, true, true, true, false, false, false, false, false, false, false, false, false] (fuel := 9) (by kernel_rfl) ?_
    simp only [List.getD_cons_succ, List.getD_cons_zero]
    go_wp2_with fail
    refine (coversI_any _ _ _ ⟨bv, bw⟩ md (RB.out.grow E23.out) (RM.out.grow E23.out) ⟨WBV.out, WBM.out⟩ (wf_mt MO.out)).mono ?_
    rintro _ u24 ⟨rfl, hg⟩
    rw [CB.out]
    have E24 := Lib.hid (E23.out.trans hg); clear hg
    go_wp2
    refine ⟨⟨⟨_, E24.out⟩, rfl⟩, ?_⟩
    refine anyC_seg [21, 22, 23, 25] #[true, true, true, true, true, true, true, true, true, true, true, true, true, true, true, true, true, true, true, true, true, true, true, true, false, true, false, false, false, false] (fuel := 5) rfl (by kernel_rfl) ⟨⟨_, E24.out⟩, rfl⟩ ?_
    simp only [pickOps, List.getD_cons_succ, List.getD_cons_zero]
    repeat (go_big_quiet_step (fail))
    refine wpQuiet_nil ?_
    refine anyC_sole 24 #[true, true, true, true, true, true, true, true, true, true, true, true, true, true, true, true, true, true, true, true, true, true, true, true, true, true, false, false, false, false] (fuel := 4) (by kernel_rfl) ?_
    simp only [List.getD_cons_succ, List.getD_cons_zero]
    go_wp2_with fail
    refine (askedI_any _ _ md (RM.out.grow E24.out) (wf_mt MO.out)).mono ?_
    rintro _ u25 ⟨rfl, hg⟩
    rw [K1.out]
    have E25 := Lib.hid (E24.out.trans hg); clear hg
    go_wp2
    refine ⟨⟨⟨_, E25.out⟩, rfl⟩, ?_⟩
    refine anyC_sole 26 #[true, true, true, true, true, true, true, true, true, true, true, true, true, true, true, true, true, true, true, true, true, true, true, true, true, true, true, false, false, false] (fuel := 3) (by kernel_rfl) ?_
    simp only [List.getD_cons_succ, List.getD_cons_zero]
    go_wp2_with fail
    refine (askedI_any _ _ ⟨av, am⟩ (RA.out.grow E25.out) ⟨WAV.out, WAM.out⟩).mono ?_
    rintro _ u26 ⟨rfl, hg⟩
    rw [K2.out]
    have E26 := Lib.hid (E25.out.trans hg); clear hg
    go_wp2
    refine ⟨⟨⟨_, E26.out⟩, rfl⟩, ?_⟩
    refine anyC_seg [27, 28, 29] #[true, true, true, true, true, true, true, true, true, true, true, true, true, true, true, true, true, true, true, true, true, true, true, true, true, true, true, true, true, true] (fuel := 0) rfl (by kernel_rfl) ⟨⟨_, E26.out⟩, rfl⟩ ?_
    simp only [pickOps, List.getD_cons_succ, List.getD_cons_zero]
    repeat (go_big_quiet_step (fail))
    refine wpQuiet_nil ?_
    refine anyC_done (by kernel_rfl) ?_
    clear pa0 pa1 pb0 pb1 ph0 pm0 pm1 hne
    go_wp2
    go_ret
    exact ⟨ret_bool (by simp [hkl]), G4.out.trans E26.out⟩
  · have := HMT.out hha hhb; rw [hme] at this; cases this
  · have CV := Lib.hid hcv; have HA := Lib.hid hha; have HB := Lib.hid hhb; have ME := Lib.hid hme
    obtain ⟨f1, f2, f3, f4, f5⟩ := FM.out hme
    rw [hha, hhb] at f2
    have MO := Lib.hid f1; have HM : Hid (hitOk (orM ⟨av, am⟩ ⟨bv, bw⟩) hs = true) := Lib.hid f2; have CA := Lib.hid f3; have CB := Lib.hid f4
    obtain ⟨k1, hk1⟩ : ∃ k, askF (orM ⟨av, am⟩ ⟨bv, bw⟩) = k := ⟨_, rfl⟩
    obtain ⟨k2, hk2⟩ : ∃ k, askF ⟨av, am⟩ = k := ⟨_, rfl⟩
    have KL : Hid (k2 ≤ k1) := Lib.hid (by omega)
    have K1 := Lib.hid hk1; have K2 := Lib.hid hk2
    clear f1 f2 f3 f4 f5 hk1 hk2
    clear hcv hha hhb hme CH HMT FM
    go_wp2_with fail
    have ⟨pa0, pa1⟩ := BA.out.two_; have ⟨pb0, pb1⟩ := BB.out.two_; have ph0 := BH.out.one_
    have hne : Nonempty (Cl (Grow wz)) := ⟨⟨wz, Grow.refl _⟩⟩
    refine wp_region_mix (Cls (Grow wz)) 23 #[false, false, false, false, false, false, false, false, false, false, false, false, false, false, false, false, false, false, false, false, false, false, false] (by kernel_rfl) (by kernel_rfl) ⟨⟨_, Grow.drewN _ 1⟩, rfl⟩ ?_
    refine anyC_seg [0, 1, 3, 4] #[true, true, false, true, true, false, false, false, false, false, false, false, false, false, false, false, false, false, false, false, false, false, false] (fuel := 19) rfl (by kernel_rfl) ⟨⟨_, Grow.drewN _ 1⟩, rfl⟩ ?_
    simp only [pickOps, List.getD_cons_succ, List.getD_cons_zero]
    repeat (go_big_quiet_step (fail))
    refine wpQuiet_nil ?_
    refine anyC_sole 2 #[true, true, true, true, true, false, false, false, false, false, false, false, false, false, false, false, false, false, false, false, false, false, false] (fuel := 18) (by kernel_rfl) ?_
    simp only [List.getD_cons_succ, List.getD_cons_zero]
    go_wp2_with fail
    refine (coversI_any _ _ _ ⟨av, am⟩ ⟨bv, bw⟩ (RA.out.grow (Grow.drewN wz 1)) (RB.out.grow (Grow.drewN wz 1)) ⟨WAV.out, WAM.out⟩ ⟨WBV.out, WBM.out⟩).mono ?_
    rintro _ u1 ⟨rfl, hg⟩
    rw [CV.out]
    have E1 := Lib.hid ((Grow.drewN wz 1).trans hg); clear hg
    go_wp2
    refine ⟨⟨⟨_, E1.out⟩, rfl⟩, ?_⟩
    refine anyC_sole 5 #[true, true, true, true, true, true, false, false, false, false, false, false, false, false, false, false, false, false, false, false, false, false, false] (fuel := 17) (by kernel_rfl) ?_
    simp only [List.getD_cons_succ, List.getD_cons_zero]
    go_wp2_with fail
    refine (coversS_any _ _ _ ⟨av, am⟩ ⟨bv, bw⟩ (RA.out.grow E1.out) (RB.out.grow E1.out) ⟨WAV.out, WAM.out⟩ ⟨WBV.out, WBM.out⟩).mono ?_
    rintro _ u2 ⟨rfl, hg⟩
    rw [CV.out]
    have E2 := Lib.hid (E1.out.trans hg); clear hg
    go_wp2
    refine ⟨⟨⟨_, E2.out⟩, rfl⟩, ?_⟩
    refine anyC_seg [6, 7, 8, 9] #[true, true, true, true, true, true, true, true, true, true, false, false, false, false, false, false, false, false, false, false, false, false, false] (fuel := 13) rfl (by kernel_rfl) ⟨⟨_, E2.out⟩, rfl⟩ ?_
    simp only [pickOps, List.getD_cons_succ, List.getD_cons_zero]
    repeat (go_big_quiet_step (fail))
    refine wpQuiet_nil ?_
    refine anyC_sole 10 #[true, true, true, true, true, true, true, true, true, true, true, false, false, false, false, false, false, false, false, false, false, false, false] (fuel := 12) (by kernel_rfl) ?_
    simp only [List.getD_cons_succ, List.getD_cons_zero]
    go_wp2_with fail
    refine (coversI_any _ _ _ ⟨av, am⟩ ⟨bv, bw⟩ (RA.out.grow E2.out) (RB.out.grow E2.out) ⟨WAV.out, WAM.out⟩ ⟨WBV.out, WBM.out⟩).mono ?_
    rintro _ u3 ⟨rfl, hg⟩
    rw [CV.out]
    have E3 := Lib.hid (E2.out.trans hg); clear hg
    go_wp2
    refine ⟨⟨⟨_, E3.out⟩, rfl⟩, ?_⟩
    refine anyC_seg [11, 12, 13] #[true, true, true, true, true, true, true, true, true, true, true, true, true, true, false, false, false, false, false, false, false, false, false] (fuel := 9) rfl (by kernel_rfl) ⟨⟨_, E3.out⟩, rfl⟩ ?_
    simp only [pickOps, List.getD_cons_succ, List.getD_cons_zero]
    repeat (go_big_quiet_step (fail))
    refine wpQuiet_nil ?_
    refine anyC_sole 14 #[true, true, true, true, true, true, true, true, true, true, true, true, true, true, true, false, false, false, false, false, false, false, false] (fuel := 8) (by kernel_rfl) ?_
    simp only [List.getD_cons_succ, List.getD_cons_zero]
    go_wp2_with fail
    refine (hitsI_any _ _ _ ⟨bv, bw⟩ ⟨hs⟩ (RB.out.grow E3.out) (RH.out.grow E3.out) ⟨WBV.out, WBM.out⟩ WH.out).mono ?_
    rintro _ u4 ⟨rfl, hg⟩
    simp only [HB.out]
    have E4 := Lib.hid (E3.out.trans hg); clear hg
    go_wp2
    refine ⟨⟨⟨_, E4.out⟩, rfl⟩, ?_⟩
    refine anyC_seg [15, 16, 17, 18] #[true, true, true, true, true, true, true, true, true, true, true, true, true, true, true, true, true, true, true, false, false, false, false] (fuel := 4) rfl (by kernel_rfl) ⟨⟨_, E4.out⟩, rfl⟩ ?_
    simp only [pickOps, List.getD_cons_succ, List.getD_cons_zero]
    repeat (go_big_quiet_step (fail))
    refine wpQuiet_nil ?_
    refine anyC_sole 19 #[true, true, true, true, true, true, true, true, true, true, true, true, true, true, true, true, true, true, true, true, false, false, false] (fuel := 3) (by kernel_rfl) ?_
    simp only [List.getD_cons_succ, List.getD_cons_zero]
    go_wp2_with fail
    refine (hitsI_any _ _ _ ⟨av, am⟩ ⟨hs⟩ (RA.out.grow E4.out) (RH.out.grow E4.out) ⟨WAV.out, WAM.out⟩ WH.out).mono ?_
    rintro _ u5 ⟨rfl, hg⟩
    simp only [HA.out]
    have E5 := Lib.hid (E4.out.trans hg); clear hg
    go_wp2
    refine ⟨⟨⟨_, E5.out⟩, rfl⟩, ?_⟩
    refine anyC_seg [20, 21, 22] #[true, true, true, true, true, true, true, true, true, true, true, true, true, true, true, true, true, true, true, true, true, true, true] (fuel := 0) rfl (by kernel_rfl) ⟨⟨_, E5.out⟩, rfl⟩ ?_
    simp only [pickOps, List.getD_cons_succ, List.getD_cons_zero]
    repeat (go_big_quiet_step (fail))
    refine wpQuiet_nil ?_
    refine anyC_done (by kernel_rfl) ?_
    clear pa0 pa1 pb0 pb1 ph0 hne
    have G2 := Lib.hid E5.out
    have ⟨q0, q1⟩ := (BA.out.grow G2.out).two; have ql := (BA.out.grow G2.out).1
    have ⟨t0, t1⟩ := (BB.out.grow G2.out).two; have tl := (BB.out.grow G2.out).1
    go_wp2_with fail
    refine (meetOfI_any _ _ _ ⟨av, am⟩ ⟨bv, bw⟩ (RA.out.grow G2.out) (RB.out.grow G2.out) ⟨WAV.out, WAM.out⟩ ⟨WBV.out, WBM.out⟩).mono ?_
    rw [meetF_yes ME.out]
    rintro _ wm ⟨V, fp, rfl, ho, -, hg⟩
    have RM0 := ho.rd
    obtain ⟨z0, z1, f0, f1, rfl, -, -, o0, o1⟩ := ho
    obtain ⟨m0, cm0, rfl⟩ := own_shape o0.1
    obtain ⟨m1, cm1, rfl⟩ := own_shape o1.1
    clear q0 q1 ql t0 t1 tl
    generalize (orM ⟨av, am⟩ ⟨bv, bw⟩) = md at *
    have GM := Lib.hid (Grow.alloc wm (.cells #[.slice m0 md.vs.length cm0, .slice m1 md.ms.length cm1] 41))
    have BM := Lib.hid (Box.alloc wm [.slice m0 md.vs.length cm0, .slice m1 md.ms.length cm1] 41)
    have RM := Lib.hid (RM0.grow GM.out)
    have G3 := Lib.hid (G2.out.trans (hg.trans GM.out))
    clear RM0 o0 o1 hg GM G2
    have ⟨q0, q1⟩ := (BA.out.grow G3.out).two; have ql := (BA.out.grow G3.out).1
    have ⟨t0, t1⟩ := (BB.out.grow G3.out).two; have tl := (BB.out.grow G3.out).1
    go_wp2_with fail
    clear q0 q1 ql t0 t1 tl
    generalize wm.alloc (.cells #[.slice m0 md.vs.length cm0, .slice m1 md.ms.length cm1] 41) = wn at *
    generalize wm.heap.size = bm at *
    refine (meetsS_any _ _ _ ⟨av, am⟩ ⟨bv, bw⟩ (RA.out.grow G3.out) (RB.out.grow G3.out) ⟨WAV.out, WAM.out⟩ ⟨WBV.out, WBM.out⟩).mono ?_
    rintro _ wt ⟨rfl, hg⟩
    rw [ME.out]
    replace BA := Lib.hid (BA.out.grow (G3.out.trans hg)); replace BB := Lib.hid (BB.out.grow (G3.out.trans hg)); replace BH := Lib.hid (BH.out.grow (G3.out.trans hg)); replace BM := Lib.hid (BM.out.grow hg)
    replace RA := Lib.hid (RA.out.grow (G3.out.trans hg)); replace RB := Lib.hid (RB.out.grow (G3.out.trans hg)); replace RH := Lib.hid (RH.out.grow (G3.out.trans hg)); replace RM := Lib.hid (RM.out.grow hg)
    have G4 := Lib.hid (G1.out.trans (G3.out.trans hg))
    clear hg G3
    have ⟨pa0, pa1⟩ := BA.out.two_; have ⟨pb0, pb1⟩ := BB.out.two_; have ph0 := BH.out.one_; have ⟨pm0, pm1⟩ := BM.out.two_
    have hne : Nonempty (Cl (Grow wt)) := ⟨⟨wt, Grow.refl _⟩⟩
    have hkl := KL.out
    go_wp2_with fail
    refine wp_region_mix (Cls (Grow wt)) 30 #[false, false, false, false, false, false, false, false, false, false, false, false, false, false, false, false, false, false, false, false, false, false, false, false, false, false, false, false, false, false] (by kernel_rfl) (by kernel_rfl) ⟨⟨_, Grow.drewN _ 1⟩, rfl⟩ ?_
    refine anyC_seg [0, 1, 3, 4] #[true, true, false, true, true, false, false, false, false, false, false, false, false, false, false, false, false, false, false, false, false, false, false, false, false, false, false, false, false, false] (fuel := 26) rfl (by kernel_rfl) ⟨⟨_, Grow.drewN _ 1⟩, rfl⟩ ?_
    simp only [pickOps, List.getD_cons_succ, List.getD_cons_zero]
    repeat (go_big_quiet_step (fail))
    refine wpQuiet_nil ?_
    refine anyC_sole 2 #[true, true, true, true, true, false, false, false, false, false, false, false, false, false, false, false, false, false, false, false, false, false, false, false, false, false, false, false, false, false] (fuel := 25) (by kernel_rfl) ?_
    simp only [List.getD_cons_succ, List.getD_cons_zero]
    go_wp2_with fail
    refine (hitsI_any _ _ _ md ⟨hs⟩ (RM.out.grow (Grow.drewN wt 1)) (RH.out.grow (Grow.drewN wt 1)) (wf_mt MO.out) WH.out).mono ?_
    rintro _ u20 ⟨rfl, hg⟩
    simp only [HM.out]
    have E20 := Lib.hid ((Grow.drewN wt 1).trans hg); clear hg
    go_wp2
    refine ⟨⟨⟨_, E20.out⟩, rfl⟩, ?_⟩
    refine anyC_sole 5 #[true, true, true, true, true, true, false, false, false, false, false, false, false, false, false, false, false, false, false, false, false, false, false, false, false, false, false, false, false, false] (fuel := 24) (by kernel_rfl) ?_
    simp only [List.getD_cons_succ, List.getD_cons_zero]
    go_wp2_with fail
    refine (hitsI_any _ _ _ ⟨av, am⟩ ⟨hs⟩ (RA.out.grow E20.out) (RH.out.grow E20.out) ⟨WAV.out, WAM.out⟩ WH.out).mono ?_
    rintro _ u21 ⟨rfl, hg⟩
    simp only [HA.out]
    have E21 := Lib.hid (E20.out.trans hg); clear hg
    go_wp2
    refine ⟨⟨⟨_, E21.out⟩, rfl⟩, ?_⟩
    refine anyC_seg [6, 7, 8] #[true, true, true, true, true, true, true, true, true, false, false, false, false, false, false, false, false, false, false, false, false, false, false, false, false, false, false, false, false, false] (fuel := 21) rfl (by kernel_rfl) ⟨⟨_, E21.out⟩, rfl⟩ ?_
    simp only [pickOps, List.getD_cons_succ, List.getD_cons_zero]
    repeat (go_big_quiet_step (fail))
    refine wpQuiet_nil ?_
    refine anyC_sole 9 #[true, true, true, true, true, true, true, true, true, true, false, false, false, false, false, false, false, false, false, false, false, false, false, false, false, false, false, false, false, false] (fuel := 20) (by kernel_rfl) ?_
    simp only [List.getD_cons_succ, List.getD_cons_zero]
    go_wp2_with fail
    refine (hitsI_any _ _ _ ⟨bv, bw⟩ ⟨hs⟩ (RB.out.grow E21.out) (RH.out.grow E21.out) ⟨WBV.out, WBM.out⟩ WH.out).mono ?_
    rintro _ u22 ⟨rfl, hg⟩
    simp only [HB.out]
    have E22 := Lib.hid (E21.out.trans hg); clear hg
    go_wp2
    refine ⟨⟨⟨_, E22.out⟩, rfl⟩, ?_⟩
    refine anyC_seg [10, 11, 12, 13, 14] #[true, true, true, true, true, true, true, true, true, true, true, true, true, true, true, false, false, false, false, false, false, false, false, false, false, false, false, false, false, false] (fuel := 15) rfl (by kernel_rfl) ⟨⟨_, E22.out⟩, rfl⟩ ?_
    simp only [pickOps, List.getD_cons_succ, List.getD_cons_zero]
    repeat (go_big_quiet_step (fail))
    refine wpQuiet_nil ?_
    refine anyC_sole 15 #[true, true, true, true, true, true, true, true, true, true, true, true, true, true, true, true, false, false, false, false, false, false, false, false, false, false, false, false, false, false] (fuel := 14) (by kernel_rfl) ?_
    simp only [List.getD_cons_succ, List.getD_cons_zero]
    go_wp2_with fail
    refine (coversI_any _ _ _ ⟨av, am⟩ md (RA.out.grow E22.out) (RM.out.grow E22.out) ⟨WAV.out, WAM.out⟩ (wf_mt MO.out)).mono ?_
    rintro _ u23 ⟨rfl, hg⟩
    rw [CA.out]
    have E23 := Lib.hid (E22.out.trans hg); clear hg
    go_wp2
    refine ⟨⟨⟨_, E23.out⟩, rfl⟩, ?_⟩
    refine anyC_seg [16, 17, 18, 19] #[true, true, true, true, true, true, true, true, true, true, true, true, true, true, true, true, true, true, true, true, false, false, false, false, false, false, false, false, false, false] (fuel := 10) rfl (by kernel_rfl) ⟨⟨_, E23.out⟩, rfl⟩ ?_
    simp only [pickOps, List.getD_cons_succ, List.getD_cons_zero]
    repeat (go_big_quiet_step (fail))
    refine wpQuiet_nil ?_
    refine anyC_sole 20 #[true, true, true, true, true, true, true, true, true, true, true, true, true, true, true, true, true, true, true, true, true, false, false, false, false, false, false, false, false, false] (fuel := 9) (by kernel_rfl) ?_
    simp only [List.getD_cons_succ, List.getD_cons_zero]
    go_wp2_with fail
    refine (coversI_any _ _ _ ⟨bv, bw⟩ md (RB.out.grow E23.out) (RM.out.grow E23.out) ⟨WBV.out, WBM.out⟩ (wf_mt MO.out)).mono ?_
    rintro _ u24 ⟨rfl, hg⟩
    rw [CB.out]
    have E24 := Lib.hid (E23.out.trans hg); clear hg
    go_wp2
    refine ⟨⟨⟨_, E24.out⟩, rfl⟩, ?_⟩
    refine anyC_seg [21, 22, 23, 25] #[true, true, true, true, true, true, true, true, true, true, true, true, true, true, true, true, true, true, true, true, true, true, true, true, false, true, false, false, false, false] (fuel := 5) rfl (by kernel_rfl) ⟨⟨_, E24.out⟩, rfl⟩ ?_
    simp only [pickOps, List.getD_cons_succ, List.getD_cons_zero]
    repeat (go_big_quiet_step (fail))
    refine wpQuiet_nil ?_
    refine anyC_sole 24 #[true, true, true, true, true, true, true, true, true, true, true, true, true, true, true, true, true, true, true, true, true, true, true, true, true, true, false, false, false, false] (fuel := 4) (by kernel_rfl) ?_
    simp only [List.getD_cons_succ, List.getD_cons_zero]
    go_wp2_with fail
    refine (askedI_any _ _ md (RM.out.grow E24.out) (wf_mt MO.out)).mono ?_
    rintro _ u25 ⟨rfl, hg⟩
    rw [K1.out]
    have E25 := Lib.hid (E24.out.trans hg); clear hg
    go_wp2
    refine ⟨⟨⟨_, E25.out⟩, rfl⟩, ?_⟩
    refine anyC_sole 26 #[true, true, true, true, true, true, true, true, true, true, true, true, true, true, true, true, true, true, true, true, true, true, true, true, true, true, true, false, false, false] (fuel := 3) (by kernel_rfl) ?_
    simp only [List.getD_cons_succ, List.getD_cons_zero]
    go_wp2_with fail
    refine (askedI_any _ _ ⟨av, am⟩ (RA.out.grow E25.out) ⟨WAV.out, WAM.out⟩).mono ?_
    rintro _ u26 ⟨rfl, hg⟩
    rw [K2.out]
    have E26 := Lib.hid (E25.out.trans hg); clear hg
    go_wp2
    refine ⟨⟨⟨_, E26.out⟩, rfl⟩, ?_⟩
    refine anyC_seg [27, 28, 29] #[true, true, true, true, true, true, true, true, true, true, true, true, true, true, true, true, true, true, true, true, true, true, true, true, true, true, true, true, true, true] (fuel := 0) rfl (by kernel_rfl) ⟨⟨_, E26.out⟩, rfl⟩ ?_
    simp only [pickOps, List.getD_cons_succ, List.getD_cons_zero]
    repeat (go_big_quiet_step (fail))
    refine wpQuiet_nil ?_
    refine anyC_done (by kernel_rfl) ?_
    clear pa0 pa1 pb0 pb1 ph0 pm0 pm1 hne
    go_wp2
    go_ret
    exact ⟨ret_bool (by simp [hkl]), G4.out.trans E26.out⟩
--%
end Go.Proofs.Ytkkhkojojnebjaa
