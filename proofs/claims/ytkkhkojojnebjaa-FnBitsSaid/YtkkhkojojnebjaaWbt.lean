/- FnBits: the walk of the law. -/
import Derived.Test.YtkkhkojojnebjaaDrb
import Derived.Test.YtkkhkojojnebjaaPlb
import Derived.Test.YtkkhkojojnebjaaMbs
import Derived.Test.YtkkhkojojnebjaaSm
import Derived.Test.YtkkhkojojnebjaaMi
import Derived.Test.YtkkhkojojnebjaaMa
import Derived.Test.YtkkhkojojnebjaaOpn
import Derived.WalkKit
import Derived.ProofKit
import Derived.OpenShut
import Derived.ShutString
import Derived.ChangeOld
import Derived.Below
import Derived.SizedLaws
import Derived.WalkSpells
import Derived.Deep.QuietTactic
import Derived.BigQuiet
import Derived.Outline
namespace Go.Proofs.Ytkkhkojojnebjaa
open Go.ChangeShapes Go.WideShapes Go.ChangeAt Go.RowKit
open Go.ChangeMaps (open_string shut_string)
set_option linter.unusedVariables false
set_option linter.unusedSimpArgs false
--%
theorem fb_bd (f : Int) : 0 ≤ fieldBits f ∧ fieldBits f ≤ 48 := by rcases bits_full f with h | h | h | h | h <;> omega
/-- Three drawn numbers. -/
def RetI3 (w : World) (e : Ending) (w' : World) : Prop := ∃ f v n : Int, e = .returned (.tuple #[.int .i64 f, .int .i64 v, .int .i64 n]) ∧ Grow w w'
--% spec.DrawMatchBits 54
set_option maxRecDepth 20000 in
theorem drawMatchBits_any (w : World) (v : Value) (cs : List Int) (h : RdB w v cs) (hb : Bytes cs) (hm : cs.length ≤ 1048576) : Calls Try.prog 54 #[v] w (RetI3 w) := by
  have HV := Lib.hid h; have HB : Hid (Bytes cs) := Lib.hid hb
  clear h hb
  go_enter Try.func54, Try.ntmps54
  go_wp2_with fail
  refine (l01New_any _ _ cs HV.out HB.out hm).mono ?_
  rintro e w1 ⟨p, rfl, hC, hp, hg⟩
  have D := Lib.hid (DS.start hC)
  have FIN : Hid (∀ W, DS w1 W p → Grow w W) := Lib.hid (fun W d => hg.then_upd d.upd (by intro x hx; simp only [List.mem_cons, List.not_mem_nil, or_false] at hx; omega))
  clear hC hp hg
  go_wp2_with fail
  refine (l01Below_any _ p 8 (by omega) D.out.cur).mono ?_
  rintro e w2 ⟨x2, rfl, h2a, h2b, -, hC, hU⟩
  have h2b := h2b (by omega)
  replace D := Lib.hid (D.out.call hC hU)
  clear hC hU
  obtain ⟨k, rfl⟩ := Int.eq_ofNat_of_zero_le h2a
  go_wp2_with fail
  refine (l01Num6_any _ p D.out.cur).mono ?_
  rintro e w3 ⟨x3, rfl, h3, hC, hU⟩
  clear h3
  replace D := Lib.hid (D.out.call hC hU)
  clear hC hU
  go_wp2_with fail
  refine (l05Full_any k (by omega) _).mono ?_
  rintro e w4 ⟨rfl, hg⟩
  replace D := Lib.hid (D.out.grow hg); clear hg
  have hfb := fb_bd (k : Int)
  generalize full (k : Int) = fu at *
  go_wp2_with fail
  refine (fieldBitsS_any _ _).mono ?_
  rintro e w5 ⟨rfl, hg⟩
  replace D := Lib.hid (D.out.grow hg); clear hg
  generalize fieldBits (k : Int) = fb at *
  go_wp2_with fail
  refine (l01Below_any _ p (fb + 2) (by omega) D.out.cur).mono ?_
  rintro e w6 ⟨x6, rfl, h6a, h6b, -, hC, hU⟩
  have h6b := h6b (by omega)
  replace D := Lib.hid (D.out.call hC hU)
  clear hC hU
  go_wp2_with fail
  refine (l01Below_any _ p 9 (by omega) D.out.cur).mono ?_
  rintro e w7 ⟨x7, rfl, h7a, h7b, -, hC, hU⟩
  have h7b := h7b (by omega)
  replace D := Lib.hid (D.out.call hC hU)
  clear hC hU
  by_cases c0 : x7 = 0
  · subst c0
    go_wp2_with fail
    refine (l01Below_any _ p 12 (by omega) D.out.cur).mono ?_
    rintro e w8 ⟨x8, rfl, h8a, h8b, -, hC, hU⟩
    have h8b := h8b (by omega)
    replace D := Lib.hid (D.out.call hC hU)
    clear hC hU
    go_wp2
    refine bodyPost_ret (v := .tuple #[.int .i64 (x8 - 2), .int .i64 (bits .and .i64 x3 fu), .int .i64 (x6)]) ?_ rfl ?_
    · simp [results, Try.results54, go_sem]
    · exact ⟨_, _, _, rfl, FIN.out _ D.out⟩
  by_cases c1 : x7 = 1
  · subst c1
    go_wp2_with fail
    refine (l01Raw_any _ p D.out.cur).mono ?_
    rintro e w8 ⟨x8, rfl, h8, hC, hU⟩
    clear h8
    replace D := Lib.hid (D.out.call hC hU)
    clear hC hU
    go_wp2
    refine bodyPost_ret (v := .tuple #[.int .i64 (k), .int .i64 (x8), .int .i64 (x6)]) ?_ rfl ?_
    · simp [results, Try.results54, go_sem]
    · exact ⟨_, _, _, rfl, FIN.out _ D.out⟩
  by_cases c2 : x7 = 2
  · subst c2
    go_wp2_with fail
    refine (l01Raw_any _ p D.out.cur).mono ?_
    rintro e w8 ⟨x8, rfl, h8, hC, hU⟩
    clear h8
    replace D := Lib.hid (D.out.call hC hU)
    clear hC hU
    go_wp2
    refine bodyPost_ret (v := .tuple #[.int .i64 (k), .int .i64 (bits .and .i64 x3 fu), .int .i64 (x8)]) ?_ rfl ?_
    · simp [results, Try.results54, go_sem]
    · exact ⟨_, _, _, rfl, FIN.out _ D.out⟩
  have hk0 : (x7 == 0) = false := by simpa using c0
  have hk1 : (x7 == 1) = false := by simpa using c1
  have hk2 : (x7 == 2) = false := by simpa using c2
  go_wp2
  refine bodyPost_ret (v := .tuple #[.int .i64 (k), .int .i64 (bits .and .i64 x3 fu), .int .i64 (x6)]) ?_ rfl ?_
  · simp [results, Try.results54, go_sem]
  · exact ⟨_, _, _, rfl, FIN.out _ D.out⟩
--% walk FnBits 16
set_option maxRecDepth 20000 in
set_option maxHeartbeats 4000000 in
theorem walk_FnBits (w : World) (v0 : Value) (d0 : DatB) (h0 : RdB w v0 d0) (b0 : WfB d0) : Calls Try.prog 16 #[v0] w (RetV (.bool true) w) := by
  have H0 := Lib.hid h0; have B0 : Hid (Bytes d0) := Lib.hid b0
  obtain ⟨a0, c0, rfl, hlc0, hm0, hn0', hc0'⟩ := Rd.ints h0
  clear hn0' hc0' h0 b0
  unfold maxLen at hm0
  by_cases hl0 : 1048576 < d0.length
  · go_enter Try.func16, Try.ntmps16
    go_wp2
    go_ret
    exact ⟨rfl, Grow.refl _⟩
  go_enter Try.func16, Try.ntmps16
  go_wp2_with fail
  refine (drawMatchBits_any _ _ d0 H0.out B0.out (by omega)).mono ?_
  rintro e w1 ⟨f, v, n, rfl, hg⟩
  have G1 := Lib.hid hg
  clear hg
  go_wp2_with fail
  refine (matchBitsI_any _ f v n).mono ?_
  by_cases hc : fitB f v = true ∧ 0 ≤ n ∧ n ≤ fieldBits f
  rotate_left
  · have e0 : mbF f v n = (zeroM, false) := by unfold mbF; rw [if_neg hc]
    rw [e0]
    rintro e w2 ⟨V, fp, rfl, ho, hf, hg⟩
    obtain ⟨v0, v1, f0, f1, rfl, -, -, o0, o1⟩ := ho
    obtain ⟨am, cm, rfl⟩ := own_shape o0.1
    obtain ⟨an, cn, rfl⟩ := own_shape o1.1
    have G2 := Lib.hid (G1.out.trans hg)
    simp only [show zeroM.vs.length = 0 from rfl, show zeroM.ms.length = 0 from rfl]
    have BM := Lib.hid (Box.alloc w2 [.slice am 0 cm, .slice an 0 cn] 41)
    have GB := Lib.hid (G2.out.trans (Grow.alloc w2 (.cells #[.slice am 0 cm, .slice an 0 cn] 41)))
    clear hg hf o0 o1
    go_wp2_with fail
    generalize w2.alloc (.cells #[.slice am 0 cm, .slice an 0 cn] 41) = w3 at *
    generalize w2.heap.size = b at *
    refine (matchBitsS_any _ f v n).mono ?_
    rw [e0]
    rintro e w4 ⟨V, fp, rfl, ho, hf, hg⟩
    obtain ⟨v0, v1, f0, f1, rfl, -, -, o0, o1⟩ := ho
    obtain ⟨ao, co, rfl⟩ := own_shape o0.1
    obtain ⟨ap, cp, rfl⟩ := own_shape o1.1
    simp only [show zeroM.vs.length = 0 from rfl, show zeroM.ms.length = 0 from rfl]
    have GA := Lib.hid (hg.trans (Grow.alloc w4 (.cells #[.slice ao 0 co, .slice ap 0 cp] 41)))
    replace BM := Lib.hid (BM.out.grow GA.out)
    have G4 := Lib.hid (GB.out.trans GA.out)
    clear hg hf o0 o1 GA
    go_wp2_with fail
    generalize w4.alloc (.cells #[.slice ao 0 co, .slice ap 0 cp] 41) = w5 at *
    obtain ⟨C, hC⟩ : ∃ C : World → Prop, C = fun W => Box W b [.slice am 0 cm, .slice an 0 cn] := ⟨_, rfl⟩
    have CC : Hid (∀ W, C W → Box W b [.slice am 0 cm, .slice an 0 cn]) := Lib.hid (fun W h => by rw [hC] at h; exact h)
    have MK : Hid (∀ W, Box W b [.slice am 0 cm, .slice an 0 cn] → C W) := Lib.hid (fun W h => by rw [hC]; exact h)
    clear hC
    have c0 : Hid (C (w5.drewN 1)) := Lib.hid (MK.out _ (BM.out.grow (Grow.drewN w5 1)))
    have hne : Nonempty (Cl C) := ⟨⟨_, c0.out⟩⟩
    have p0 : ∀ x : Cl C, x.w.cell? ⟨b, 0, none⟩ = some (.slice am 0 cm) := fun x => (CC.out x.w x.ok).two.1
    have p1 : ∀ x : Cl C, x.w.cell? ⟨b, 1, none⟩ = some (.slice an 0 cn) := fun x => (CC.out x.w x.ok).two.2
    refine wp_region_mix (Cls C) 8 #[false, false, false, false, false, false, false, false] (by kernel_rfl) (by kernel_rfl) ⟨⟨_, c0.out⟩, rfl⟩ ?_
    refine anyC_seg [0, 1, 2, 3] #[true, true, true, true, false, false, false, false] (fuel := 4) rfl (by kernel_rfl) ⟨⟨_, c0.out⟩, rfl⟩ ?_
    simp only [pickOps, List.getD_cons_succ, List.getD_cons_zero]
    repeat (go_big_quiet_step (fail))
    refine wpQuiet_nil ?_
    refine anyC_sole 4 #[true, true, true, true, true, false, false, false] (fuel := 3) (by kernel_rfl) ?_
    simp only [List.getD_cons_succ, List.getD_cons_zero]
    go_wp2
    refine ⟨⟨⟨_, c0.out⟩, rfl⟩, ?_⟩
    refine anyC_sole 5 #[true, true, true, true, true, true, false, false] (fuel := 2) (by kernel_rfl) ?_
    simp only [List.getD_cons_succ, List.getD_cons_zero]
    go_wp2
    refine ⟨⟨⟨_, c0.out⟩, rfl⟩, ?_⟩
    refine anyC_seg [6, 7] #[true, true, true, true, true, true, true, true] (fuel := 0) rfl (by kernel_rfl) ⟨⟨_, c0.out⟩, rfl⟩ ?_
    simp only [pickOps, List.getD_cons_succ, List.getD_cons_zero]
    repeat (go_big_quiet_step (fail))
    refine wpQuiet_nil ?_
    refine anyC_done (by kernel_rfl) ?_
    go_wp2
    go_ret
    exact ⟨rfl, G4.out.trans (Grow.drewN _ 1)⟩
  obtain ⟨hf, hn0, hn1⟩ := hc
  rw [mbF_yes hf hn0 hn1]
  obtain ⟨k, B, X, rfl, hk, hb, h48, h1B, rfl, hX, hfu⟩ := fit_nat hf
  obtain ⟨N, rfl⟩ := Int.eq_ofNat_of_zero_le hn0
  have hNB : N ≤ B := by rw [hb] at hn1; omega
  have HFS : Hid (mbF (k : Int) (X : Int) (N : Int) = (mbD k X N, true)) := Lib.hid (mbF_yes hf hn0 hn1)
  have FL : Hid (1 ≤ N → mbF (k : Int) (X : Int) ((N : Int) - 1) = (mbD k X (N - 1 : Nat), true)) := Lib.hid (fun h1 => by
    have := mbF_yes (n := (N : Int) - 1) hf (by omega) (by omega)
    rw [this, show (N : Int) - 1 = ((N - 1 : Nat) : Int) by omega])
  have MO : Hid (mtOk (mbD k X N) = true) := Lib.hid (mbD_ok hk hb hfu hX hNB)
  have ML : Hid (mtOk (mbD k X (N - 1 : Nat)) = true) := Lib.hid (mbD_ok hk hb hfu hX (by omega))
  have CL : Hid (1 ≤ N → cvOk (mbD k X (N - 1 : Nat)) (mbD k X N) = true) := Lib.hid (fun h1 => by
    have := cv_less (N := N - 1) hk hb hfu hX (by omega)
    rwa [Nat.sub_add_cancel h1] at this)
  have CM : Hid (1 ≤ N → cvOk (mbD k X N) (mbD k X (N - 1 : Nat)) = false) := Lib.hid (fun h1 => by
    have := cv_more (N := N - 1) hk hb hX (by omega)
    rwa [Nat.sub_add_cancel h1] at this)
  have AK : Hid (askF (mbD k X N) = N) := Lib.hid (ask_mb hk hb hfu hX hNB h48)
  have ZZ : Hid (N = 0 → sameM (mbD k X N) allM = true) := Lib.hid (fun h0 => by
    rw [h0, show ((0 : Nat) : Int) = 0 from rfl, mbD_zero hb hX]; exact same_all)
  clear hf hn0 hn1 hfu hX hb
  generalize mbD (k : Int) (X : Int) ((N - 1 : Nat) : Int) = dl at *
  generalize mbD (k : Int) (X : Int) (N : Int) = d at *
  rintro e w2 ⟨V, fp, rfl, ho, hf, hg⟩
  have RD := Lib.hid ho.rd
  obtain ⟨v0, v1, f0, f1, rfl, -, -, o0, o1⟩ := ho
  obtain ⟨am, cm, rfl⟩ := own_shape o0.1
  obtain ⟨an, cn, rfl⟩ := own_shape o1.1
  have G2 := Lib.hid (G1.out.trans hg)
  have BM := Lib.hid (Box.alloc w2 [.slice am d.vs.length cm, .slice an d.ms.length cn] 41)
  have GB := Lib.hid (G2.out.trans (Grow.alloc w2 (.cells #[.slice am d.vs.length cm, .slice an d.ms.length cn] 41)))
  replace RD := Lib.hid (RD.out.grow (Grow.alloc w2 (.cells #[.slice am d.vs.length cm, .slice an d.ms.length cn] 41)))
  clear hg hf o0 o1
  go_wp2_with fail
  generalize w2.alloc (.cells #[.slice am d.vs.length cm, .slice an d.ms.length cn] 41) = w3 at *
  generalize w2.heap.size = b at *
  refine (matchBitsS_any _ (k : Int) (X : Int) (N : Int)).mono ?_
  rw [HFS.out]
  rintro e w4 ⟨V, fp, rfl, ho, hf, hg⟩
  obtain ⟨v0, v1, f0, f1, rfl, -, -, o0, o1⟩ := ho
  obtain ⟨ao, co, rfl⟩ := own_shape o0.1
  obtain ⟨ap, cp, rfl⟩ := own_shape o1.1
  have GA := Lib.hid (hg.trans (Grow.alloc w4 (.cells #[.slice ao d.vs.length co, .slice ap d.ms.length cp] 41)))
  replace BM := Lib.hid (BM.out.grow GA.out)
  replace RD := Lib.hid (RD.out.grow GA.out)
  have G4 := Lib.hid (GB.out.trans GA.out)
  clear hg hf o0 o1 GA
  by_cases hN : N = 0
  · have hz : ((N : Int) == 0) = true := by simpa using hN
    have HZ := Lib.hid (ZZ.out hN)
    clear hN
    go_wp2_with fail
    generalize w4.alloc (.cells #[.slice ao d.vs.length co, .slice ap d.ms.length cp] 41) = w5 at *
    obtain ⟨C, hC⟩ : ∃ C : World → Prop, C = fun W => Box W b [.slice am d.vs.length cm, .slice an d.ms.length cn] := ⟨_, rfl⟩
    have CC : Hid (∀ W, C W → Box W b [.slice am d.vs.length cm, .slice an d.ms.length cn]) := Lib.hid (fun W h => by rw [hC] at h; exact h)
    have MK : Hid (∀ W, Box W b [.slice am d.vs.length cm, .slice an d.ms.length cn] → C W) := Lib.hid (fun W h => by rw [hC]; exact h)
    clear hC
    have c0 : Hid (C (w5.drewN 1)) := Lib.hid (MK.out _ (BM.out.grow (Grow.drewN w5 1)))
    have hne : Nonempty (Cl C) := ⟨⟨_, c0.out⟩⟩
    have p0 : ∀ x : Cl C, x.w.cell? ⟨b, 0, none⟩ = some (.slice am d.vs.length cm) := fun x => (CC.out x.w x.ok).two.1
    have p1 : ∀ x : Cl C, x.w.cell? ⟨b, 1, none⟩ = some (.slice an d.ms.length cn) := fun x => (CC.out x.w x.ok).two.2
    refine wp_region_mix (Cls C) 8 #[false, false, false, false, false, false, false, false] (by kernel_rfl) (by kernel_rfl) ⟨⟨_, c0.out⟩, rfl⟩ ?_
    refine anyC_seg [0, 1, 2, 3] #[true, true, true, true, false, false, false, false] (fuel := 4) rfl (by kernel_rfl) ⟨⟨_, c0.out⟩, rfl⟩ ?_
    simp only [pickOps, List.getD_cons_succ, List.getD_cons_zero]
    repeat (go_big_quiet_step (fail))
    refine wpQuiet_nil ?_
    refine anyC_sole 4 #[true, true, true, true, true, false, false, false] (fuel := 3) (by kernel_rfl) ?_
    simp only [List.getD_cons_succ, List.getD_cons_zero]
    go_wp2_with fail
    refine (matchAllI_any _).mono ?_
    rintro e w6 ⟨V, fp, rfl, ho, hf, hg⟩
    have RA := Lib.hid ho.rd
    have c6 : Hid (C w6) := Lib.hid (MK.out _ ((CC.out _ c0.out).grow hg))
    have GD := Lib.hid ((Grow.drewN w5 1).trans hg)
    clear ho hf hg
    go_wp2
    refine ⟨⟨⟨_, c6.out⟩, rfl⟩, ?_⟩
    refine anyC_sole 5 #[true, true, true, true, true, true, false, false] (fuel := 2) (by kernel_rfl) ?_
    simp only [List.getD_cons_succ, List.getD_cons_zero]
    go_wp2_with fail
    refine (sameMatchI_any _ _ _ d allM (RD.out.grow GD.out) RA.out (wf_mt MO.out) (wf_mt (by decide))).mono ?_
    rintro e w7 ⟨rfl, hg⟩
    rw [HZ.out]
    have c7 : Hid (C w7) := Lib.hid (MK.out _ ((CC.out _ c6.out).grow hg))
    have GE := Lib.hid (GD.out.trans hg)
    clear hg
    go_wp2
    refine ⟨⟨⟨_, c7.out⟩, rfl⟩, ?_⟩
    refine anyC_seg [6, 7] #[true, true, true, true, true, true, true, true] (fuel := 0) rfl (by kernel_rfl) ⟨⟨_, c7.out⟩, rfl⟩ ?_
    simp only [pickOps, List.getD_cons_succ, List.getD_cons_zero]
    repeat (go_big_quiet_step (fail))
    refine wpQuiet_nil ?_
    refine anyC_done (by kernel_rfl) ?_
    go_wp2
    go_ret
    exact ⟨rfl, G4.out.trans GE.out⟩
  have hz : ((N : Int) == 0) = false := by simp; omega
  have h1N : 1 ≤ N := by omega
  replace FL := Lib.hid (FL.out h1N); replace CL := Lib.hid (CL.out h1N); replace CM := Lib.hid (CM.out h1N)
  go_wp2_with fail
  generalize w4.alloc (.cells #[.slice ao d.vs.length co, .slice ap d.ms.length cp] 41) = w5 at *
  refine (matchBitsI_any _ (k : Int) (X : Int) ((N : Int) - 1)).mono ?_
  rw [FL.out]
  rintro e w6 ⟨V, fp, rfl, ho, hf, hg⟩
  have RL := Lib.hid ho.rd
  obtain ⟨v0, v1, f0, f1, rfl, -, -, o0, o1⟩ := ho
  obtain ⟨aq, cq, rfl⟩ := own_shape o0.1
  obtain ⟨ar, cr, rfl⟩ := own_shape o1.1
  have GA := Lib.hid (Grow.alloc w6 (.cells #[.slice aq dl.vs.length cq, .slice ar dl.ms.length cr] 41))
  have BL := Lib.hid (Box.alloc w6 [.slice aq dl.vs.length cq, .slice ar dl.ms.length cr] 41)
  replace RL := Lib.hid (RL.out.grow GA.out)
  replace BM := Lib.hid (BM.out.grow (hg.trans GA.out))
  replace RD := Lib.hid (RD.out.grow (hg.trans GA.out))
  have G6 := Lib.hid (G4.out.trans (hg.trans GA.out))
  clear hg hf o0 o1 GA
  have ⟨m0, m1⟩ := BM.out.two
  have ml := BM.out.1
  have ⟨l0, l1⟩ := BL.out.two
  have ll := BL.out.1
  go_wp2_with fail
  generalize w6.alloc (.cells #[.slice aq dl.vs.length cq, .slice ar dl.ms.length cr] 41) = w7 at *
  generalize w6.heap.size = bl at *
  refine (coversI_any _ _ _ dl d RL.out RD.out (wf_mt ML.out) (wf_mt MO.out)).mono ?_
  rintro e w8 ⟨rfl, hg⟩
  rw [CL.out]
  replace RL := Lib.hid (RL.out.grow hg); replace RD := Lib.hid (RD.out.grow hg); replace BM := Lib.hid (BM.out.grow hg); replace BL := Lib.hid (BL.out.grow hg)
  have G8 := Lib.hid (G6.out.trans hg)
  clear hg m0 m1 ml l0 l1 ll
  have ⟨m0, m1⟩ := BM.out.two
  have ml := BM.out.1
  have ⟨l0, l1⟩ := BL.out.two
  have ll := BL.out.1
  go_wp2_with fail
  refine (coversI_any _ _ _ d dl RD.out RL.out (wf_mt MO.out) (wf_mt ML.out)).mono ?_
  rintro e w9 ⟨rfl, hg⟩
  rw [CM.out]
  replace RD := Lib.hid (RD.out.grow hg); replace BM := Lib.hid (BM.out.grow hg)
  have G9 := Lib.hid (G8.out.trans hg)
  clear hg m0 m1 ml l0 l1 ll
  have ⟨m0, m1⟩ := BM.out.two
  have ml := BM.out.1
  go_wp2_with fail
  refine (askedI_any _ _ d RD.out (wf_mt MO.out)).mono ?_
  rintro e wa ⟨rfl, hg⟩
  rw [AK.out]
  have Ga := Lib.hid (G9.out.trans hg)
  clear hg
  go_wp2
  go_ret
  exact ⟨ret_bool (by simp), Ga.out⟩
--%
end Go.Proofs.Ytkkhkojojnebjaa
