/- FnActs: the walk of the law. -/
import Derived.Test.YtgigdpdmdldhnaaDra
import Derived.Test.YtgigdpdmdldhnaaOp
import Derived.Test.YtgigdpdmdldhnaaPla
import Derived.Test.YtgigdpdmdldhnaaPfs
import Derived.WalkKit
import Derived.ProofKit
import Derived.OpenShut
import Derived.ShutString
import Derived.ChangeOld
import Derived.Below
import Derived.SizedLaws
import Derived.WalkSpells
import Derived.Deep.QuietTactic
import Derived.BigQuiet
import Derived.Outline
namespace Go.Proofs.Ytgigdpdmdldhnaa
open Go.ChangeShapes Go.WideShapes Go.ChangeAt Go.RowKit
open Go.ChangeMaps (open_string shut_string)
set_option linter.unusedVariables false
set_option linter.unusedSimpArgs false
--%
/-- A drawn head, ports and acts. -/
def RetDP (w : World) (e : Ending) (w' : World) : Prop := ∃ vh hs vp ps va ac, e = .returned (.tuple #[.agg #[vh], vp, va]) ∧ RdN w' vh hs ∧ RdN w' vp ps ∧ RdA w' va ac ∧ Grow w w'
--% spec.DrawPerform 44
set_option maxRecDepth 20000 in
set_option maxHeartbeats 4000000 in
theorem drawPerform_any (w : World) (v : Value) (cs : List Int) (h : RdB w v cs) (hb : Bytes cs) (hm : cs.length ≤ 1048576) : Calls Try.prog 44 #[v] w (RetDP w) := by
  have HV := Lib.hid h; have HB : Hid (Bytes cs) := Lib.hid hb
  clear h hb
  go_enter Try.func44, Try.ntmps44
  go_wp2_with fail
  have G0 := Lib.hid (Grow.alloc w (.cells #[.slice none 0 0] 42))
  have BR0 := Lib.hid (Box.alloc w [.slice none 0 0] 42)
  generalize w.alloc (.cells #[.slice none 0 0] 42) = w0 at *
  refine (l01New_any _ _ cs (HV.out.grow G0.out) HB.out hm).mono ?_
  rintro e w1 ⟨p, rfl, hC, hp, hg⟩
  have D := Lib.hid (DS.start hC)
  have G1 := Lib.hid (G0.out.trans hg)
  have BR := Lib.hid (BR0.out.grow hg)
  have nR : Hid (w.heap.size < p ∧ w.heap.size < w1.heap.size) := Lib.hid ⟨Nat.lt_of_lt_of_le BR0.out.1 hp, BR.out.1⟩
  have FIN : Hid (∀ W, DS w1 W p → Grow w W) := Lib.hid (fun W d => G1.out.then_upd d.upd (by intro x hx; have := nR.out; simp only [List.mem_cons, List.not_mem_nil, or_false] at hx; omega))
  clear hC hp hg BR0 G0
  go_wp2_with fail
  refine (l06Any_any _ p D.out.cur).mono ?_
  rintro e w2 ⟨va, ac, rfl, ho, -, -, hC, hU⟩
  have OA2 : Hid (OA w1 w2 va ac) := Lib.hid ho
  replace BR := Lib.hid (BR.out.upd hU (by have := nR.out; simp; omega))
  replace D := Lib.hid (D.out.call hC hU)
  clear ho hC hU
  go_wp2_with fail
  refine (l04Any_any _ p D.out.cur).mono ?_
  rintro e w3 ⟨vh, hs, rfl, ho, -, -, -, hC, hU⟩
  have OH : Hid (ON w1 w3 vh hs) := Lib.hid (own_mono ho D.out.size)
  replace BR := Lib.hid (BR.out.upd hU (by have := nR.out; simp; omega))
  replace OA2 := Lib.hid (OA2.out.call D.out hU)
  replace D := Lib.hid (D.out.call hC hU)
  obtain ⟨ah, ch, rfl⟩ := own_shape ho
  clear ho hC hU
  have ga := Lib.hid (Grow.alloc w3 (.cells #[.slice ah hs.length ch] 42))
  have BH : Hid (Bx w1 (w3.alloc (.cells #[.slice ah hs.length ch] 42)) w3.heap.size [.slice ah hs.length ch]) := Lib.hid (Bx.new D.out [.slice ah hs.length ch] 42)
  replace BR := Lib.hid (BR.out.grow ga.out); replace OA2 := Lib.hid (OA2.out.grow ga.out); replace OH := Lib.hid (OH.out.grow ga.out); replace D := Lib.hid (D.out.grow ga.out)
  clear ga
  go_wp2_with fail
  generalize w3.alloc (.cells #[.slice ah hs.length ch] 42) = w4 at *
  generalize w3.heap.size = bh at *
  refine (l06AnyPorts_any _ p D.out.cur).mono ?_
  rintro e w5 ⟨vp, ps, rfl, ho, -, -, hC, hU⟩
  have OP : Hid (ON w1 w5 vp ps) := Lib.hid (own_mono ho D.out.size)
  replace BR := Lib.hid (BR.out.upd hU (by have := nR.out; simp; omega))
  replace BH := Lib.hid (BH.out.call D.out hU); replace OA2 := Lib.hid (OA2.out.call D.out hU); replace OH := Lib.hid (OH.out.call D.out hU)
  replace D := Lib.hid (D.out.call hC hU)
  obtain ⟨ap, cp, rfl⟩ := own_shape ho
  clear ho hC hU
  obtain ⟨aa, ca, rfl⟩ := own_shape OA2.out
  have q0 := BH.out.1.one; have qz := BH.out.1.2.2; have ql := BH.out.1.1; have r0 := BR.out.one; have rz := BR.out.2.2; have rl := BR.out.1
  have n1 : ¬ bh = w.heap.size := by have := nR.out; have := BH.out.2; omega
  have n2 : ¬ w.heap.size = bh := by omega
  have HR : Hid (∀ W, Upd [w.heap.size] w5 W → RetDP w (.returned (.tuple #[.agg #[.slice ah hs.length ch], .slice ap ps.length cp, .slice aa ac.length ca])) W) := Lib.hid (fun W hu => by
    have nf : ∀ {t : TypeId} {k : Nat} {v : Value} {n : Nat} {xs : List Value}, w5.ownsRow w1.heap.size t k v n xs → W.ownsRow w1.heap.size t k v n xs := fun o => own_apart o hu (fun x hx hm => by
      have h1 := (own_new_ o x hx).1; have h2 := nR.out; simp only [List.mem_cons, List.not_mem_nil, or_false] at hm; omega)
    refine ⟨_, hs, _, ps, _, ac, rfl, (OwnR.of (nf OH.out)).1.rd, (OwnR.of (nf OP.out)).1.rd, (OwnR.of (nf OA2.out)).1.rd, ?_⟩
    exact (FIN.out _ D.out).then_upd hu (by intro x hx; simp only [List.mem_cons, List.not_mem_nil, or_false] at hx; omega))
  go_wp2
  refine bodyPost_ret (v := .tuple #[.agg #[.slice ah hs.length ch], .slice ap ps.length cp, .slice aa ac.length ca]) ?_ rfl (HR.out _ ?_)
  · simp [results, Try.results44, go_sem, q0, qz, ql, r0, rz, rl, n1, n2] <;> omega
  · ((repeat (first | (with_reducible refine Upd.setCell ?_ (by simp) _) | with_reducible exact Upd.refl _ _)))
--% walk FnActs 9
set_option maxRecDepth 20000 in
set_option maxHeartbeats 4000000 in
theorem walk_FnActs (w : World) (v0 : Value) (d0 : DatB) (h0 : RdB w v0 d0) (b0 : WfB d0) : Calls Try.prog 9 #[v0] w (RetV (.bool true) w) := by
  have H0 := Lib.hid h0; have B0 : Hid (Bytes d0) := Lib.hid b0
  obtain ⟨a0, c0, rfl, hlc0, hm0, hn0', hc0'⟩ := Rd.ints h0
  clear hn0' hc0' h0 b0
  unfold maxLen at hm0
  by_cases hl0 : 1048576 < d0.length
  · go_enter Try.func9, Try.ntmps9
    go_wp2
    go_ret
    exact ⟨rfl, Grow.refl _⟩
  go_enter Try.func9, Try.ntmps9
  go_wp2_with fail
  refine (drawPerform_any _ _ d0 H0.out B0.out (by omega)).mono ?_
  rintro e w1 ⟨vh, hs, vp, ps, va, ac, rfl, oh, op, oa, hg⟩
  obtain ⟨ah, ch, rfl⟩ := RdN.sh2 oh
  obtain ⟨ap, cp, rfl⟩ := RdN.sh2 op
  obtain ⟨aa, ca, rfl⟩ := RdA.sh oa
  have ga := Grow.alloc w1 (.cells #[.slice ah hs.length ch] 42)
  have RH := Lib.hid (oh.grow ga); have RP := Lib.hid (op.grow ga); have RA := Lib.hid (oa.grow ga); have G1 := Lib.hid (hg.trans ga)
  have BH := Lib.hid (Box.alloc w1 [.slice ah hs.length ch] 42)
  clear oh op oa hg ga
  have q0 := BH.out.one; have ql := BH.out.1
  go_wp2_with fail
  generalize w1.alloc (.cells #[.slice ah hs.length ch] 42) = w2 at *
  generalize w1.heap.size = bh at *
  refine (performI_any _ _ _ _ ⟨hs⟩ ps ac ⟨_, rfl, RH.out⟩ RP.out RA.out).mono ?_
  rintro e w3 ⟨vs, fps, rfl, ho, -, hg⟩
  have RS := Lib.hid ho.rd
  obtain ⟨as1, cs1, rfl⟩ := RS.out.shape
  have GG := Lib.hid hg
  replace BH := Lib.hid (BH.out.grow hg); replace RH := Lib.hid (RH.out.grow hg); replace RP := Lib.hid (RP.out.grow hg); replace RA := Lib.hid (RA.out.grow hg); replace G1 := Lib.hid (G1.out.trans hg)
  clear ho hg q0 ql GG
  have q0 := BH.out.one; have ql := BH.out.1
  simp only at *
  go_wp2_with fail
  refine (performS_any _ _ _ _ ⟨hs⟩ ps ac ⟨_, rfl, RH.out⟩ RP.out RA.out).mono ?_
  rintro e w4 ⟨vt, fpt, rfl, ho, -, hg⟩
  obtain ⟨at_, ct, rfl⟩ := ho.rd.shape
  replace BH := Lib.hid (BH.out.grow hg); replace RH := Lib.hid (RH.out.grow hg); replace RP := Lib.hid (RP.out.grow hg); replace RA := Lib.hid (RA.out.grow hg); replace G1 := Lib.hid (G1.out.trans hg); replace RS := Lib.hid (RS.out.grow hg)
  clear ho hg q0 ql
  have q0 := BH.out.one; have ql := BH.out.1
  simp only at *
  cases hb : pfB hs ps ac
  · have EZ := pfF_no hb
    have OZ := opF_no hb
    have EL : Hid ((pfF hs ps ac).length = 0) := Lib.hid (by rw [EZ]; rfl)
    have OL : Hid ((opF hs ps ac).length = 0) := Lib.hid (by rw [OZ]; rfl)
    clear EZ OZ
    go_wp2_with fail
    refine (outPortsI_any _ _ _ _ ⟨hs⟩ ps ac ⟨_, rfl, RH.out⟩ RP.out RA.out).mono ?_
    rintro e w5 ⟨vo, fpo, rfl, ho, -, hg⟩
    obtain ⟨ao, co, rfl⟩ := RdN.sh2 ho.rd
    replace G1 := Lib.hid (G1.out.trans hg)
    clear ho hg q0 ql
    simp only at *
    have e1 := EL.out
    have e2 := OL.out
    generalize pfF hs ps ac = es at *
    generalize opF hs ps ac = os at *
    have e3 : ((es.length : Int) == 0) = true := by rw [beq_iff_eq]; omega
    have e4 : ((os.length : Int) == 0) = true := by rw [beq_iff_eq]; omega
    have E12 := Lib.hid e1; have E22 := Lib.hid e2
    clear e1 e2
    go_wp2
    go_ret
    exact ⟨rfl, G1.out⟩
  have AT : Hid (∀ k (hk : k < (pfF hs ps ac).length), (pfF hs ps ac)[k].port ∈ ps ∧ (pfF hs ps ac)[k].port ≠ hs.getD 0 0 ∧ (pfF hs ps ac)[k].port ∈ opF hs ps ac ∧ hdOk (pfF hs ps ac)[k].vs = true) := Lib.hid (fun k hk => by
    have := acts_at hb (List.getElem_mem hk)
    exact ⟨this.1, this.2.1, this.2.2.1, this.2.2.2.1⟩)
  have H8 : Hid (hs.length = 8) := Lib.hid (hdOk_at (pfB_iff.1 hb).1).1
  have SL : Hid ((pfF hs ps ac).length ≤ 96) := Lib.hid (by rw [pfF_yes hb]; exact pfO_len96 (pfB_iff.1 hb).2.1 (pfB_iff.1 hb).2.2 (Nat.le_refl _))
  have OLE : Hid ((opF hs ps ac).length ≤ (pfF hs ps ac).length) := Lib.hid opF_len
  have OPO : Hid (0 < (pfF hs ps ac).length ↔ 0 < (opF hs ps ac).length) := Lib.hid opF_pos
  clear hb
  go_wp2_with fail
  refine (outPortsI_any _ _ _ _ ⟨hs⟩ ps ac ⟨_, rfl, RH.out⟩ RP.out RA.out).mono ?_
  rintro e w5 ⟨vo, fpo, rfl, ho, -, hg⟩
  have RO := Lib.hid ho.rd
  obtain ⟨ao, co, rfl⟩ := RdN.sh2 ho.rd
  replace BH := Lib.hid (BH.out.grow hg); replace RH := Lib.hid (RH.out.grow hg); replace RP := Lib.hid (RP.out.grow hg); replace G1 := Lib.hid (G1.out.trans hg); replace RS := Lib.hid (RS.out.grow hg)
  clear ho hg q0 ql RA
  simp only at *
  have hsl := SL.out
  have hol := OLE.out
  generalize pfF hs ps ac = es at *
  generalize opF hs ps ac = os at *
  generalize hz0 : hs.getD 0 0 = z0 at *
  obtain ⟨ah', ch', e', -, -, -, hcell⟩ := Rd.ints RH.out
  simp only [Value.slice.injEq] at e'
  obtain ⟨rfl, -, rfl⟩ := e'
  obtain ⟨hb_, ho_, rfl, hc0⟩ := hcell 0 (by have := H8.out; omega)
  have C0 : Hid (w5.cell? ⟨hb_, ho_, none⟩ = some (.int .i64 z0)) := Lib.hid (by
    rw [List.getD_eq_getElem?_getD, List.getElem?_eq_getElem (by have := H8.out; omega)] at hz0
    simp only [Option.getD_some] at hz0
    rw [← hz0]; simpa using hc0)
  clear hcell hc0 hz0
  have h8 : 0 < hs.length := by have := H8.out; omega
  go_wp2
  go_loopw [55] (fun i wr => ∃ k : Nat, k ≤ es.length ∧ i = .int .i64 k ∧ Grow w5 wr) (fun i _ => es.length - (intOf i).toNat)
  case atStart => exact ⟨0, Nat.zero_le _, rfl, Grow.refl _⟩
  case round =>
    obtain ⟨k, hk, rfl, hgr⟩ := hrel
    rename World => wr
    have HG := Lib.hid hgr; clear hgr
    by_cases hlt : k < es.length
    · obtain ⟨as2, cs2, e', -, -, -, hsn⟩ := RS.out
      simp only [Value.slice.injEq] at e'
      obtain ⟨rfl, -, rfl⟩ := e'
      obtain ⟨sb, so, v0, rfl, hsa⟩ := hsn k hlt
      obtain ⟨vv, vc, rfl⟩ := RdN.sh2 hsa.2.2
      have HS := Lib.hid (hsa.grow HG.out)
      have AK := Lib.hid (AT.out k hlt)
      clear hsn hsa
      generalize es[k] = e at *
      have s0 := HS.out.1; have s1 := HS.out.2.1
      have hm1 : decide (e.port ∈ ps) = true := by simpa using AK.out.1
      have hm2 : (e.port == z0) = false := by simpa using AK.out.2.1
      have hm3 : decide (e.port ∈ os) = true := by simpa using AK.out.2.2.1
      have hm4 : hdOk e.vs = true := AK.out.2.2.2
      have M1 := Lib.hid hm1; have M3 := Lib.hid hm3; have M4 := Lib.hid hm4
      clear hm1 hm3 hm4
      have BX := Lib.hid (Box.alloc wr [.int .i64 e.port, .slice vv e.vs.length vc] 56)
      have GX := Lib.hid (Grow.alloc wr (.cells #[.int .i64 e.port, .slice vv e.vs.length vc] 56))
      go_wp2_with fail
      clear s0 s1
      generalize wr.alloc (.cells #[.int .i64 e.port, .slice vv e.vs.length vc] 56) = wx at *
      generalize wr.heap.size = bx at *
      have hne : Nonempty (Cl (Grow wx)) := ⟨⟨wx, Grow.refl _⟩⟩
      have HX := Lib.hid (HG.out.trans GX.out)
      have ⟨x0, x1⟩ := BX.out.two_
      have y0 := (BH.out.grow HX.out).one_
      have z0c : ∀ x : Cl (Grow wx), x.w.cell? ⟨hb_, ho_, none⟩ = some (.int .i64 z0) := fun x => (HX.out.trans x.ok).cell C0.out
      refine wp_region_mix (Cls (Grow wx)) 27 #[false, false, false, false, false, false, false, false, false, false, false, false, false, false, false, false, false, false, false, false, false, false, false, false, false, false, false] (by kernel_rfl) (by kernel_rfl) ⟨⟨_, Grow.drewN _ 1⟩, rfl⟩ ?_
      refine anyC_seg [0, 1, 2] #[true, true, true, false, false, false, false, false, false, false, false, false, false, false, false, false, false, false, false, false, false, false, false, false, false, false, false] (fuel := 24) rfl (by kernel_rfl) ⟨⟨_, Grow.drewN _ 1⟩, rfl⟩ ?_
      simp only [pickOps, List.getD_cons_succ, List.getD_cons_zero]
      repeat (go_big_quiet_step (fail))
      refine wpQuiet_nil ?_
      refine anyC_sole 3 #[true, true, true, true, false, false, false, false, false, false, false, false, false, false, false, false, false, false, false, false, false, false, false, false, false, false, false] (fuel := 23) (by kernel_rfl) ?_
      simp only [List.getD_cons_succ, List.getD_cons_zero]
      go_wp2_with fail
      refine (hasInt_any _ _ ps e.port (RP.out.grow (HX.out.trans (Grow.drewN wx 1)))).mono ?_
      rintro _ u1 ⟨rfl, hg⟩
      rw [M1.out]
      have E1 := Lib.hid ((Grow.drewN wx 1).trans hg); clear hg
      go_wp2
      refine ⟨⟨⟨_, E1.out⟩, rfl⟩, ?_⟩
      refine anyC_seg [4, 5, 6, 7, 8, 9, 10, 11, 12, 13, 14, 15, 16, 17] #[true, true, true, true, true, true, true, true, true, true, true, true, true, true, true, true, true, true, false, false, false, false, false, false, false, false, false] (fuel := 9) rfl (by kernel_rfl) ⟨⟨_, E1.out⟩, rfl⟩ ?_
      simp only [pickOps, List.getD_cons_succ, List.getD_cons_zero]
      repeat (go_big_quiet_step (fail))
      refine wpQuiet_nil ?_
      refine anyC_sole 18 #[true, true, true, true, true, true, true, true, true, true, true, true, true, true, true, true, true, true, true, false, false, false, false, false, false, false, false] (fuel := 8) (by kernel_rfl) ?_
      simp only [List.getD_cons_succ, List.getD_cons_zero]
      go_wp2_with fail
      refine (hasInt_any _ _ os e.port (RO.out.grow (HX.out.trans E1.out))).mono ?_
      rintro _ u2 ⟨rfl, hg⟩
      rw [M3.out]
      have E2 := Lib.hid (E1.out.trans hg); clear hg
      go_wp2
      refine ⟨⟨⟨_, E2.out⟩, rfl⟩, ?_⟩
      refine anyC_seg [19, 20, 21, 22, 23] #[true, true, true, true, true, true, true, true, true, true, true, true, true, true, true, true, true, true, true, true, true, true, true, true, false, false, false] (fuel := 3) rfl (by kernel_rfl) ⟨⟨_, E2.out⟩, rfl⟩ ?_
      simp only [pickOps, List.getD_cons_succ, List.getD_cons_zero]
      repeat (go_big_quiet_step (fail))
      refine wpQuiet_nil ?_
      refine anyC_sole 24 #[true, true, true, true, true, true, true, true, true, true, true, true, true, true, true, true, true, true, true, true, true, true, true, true, true, false, false] (fuel := 2) (by kernel_rfl) ?_
      simp only [List.getD_cons_succ, List.getD_cons_zero]
      go_wp2_with fail
      refine (headOkI_any _ _ ⟨e.vs⟩ ⟨_, rfl, HS.out.2.2.grow (GX.out.trans E2.out)⟩).mono ?_
      rintro _ u3 ⟨rfl, hg⟩
      simp only
      rw [M4.out]
      have E3 := Lib.hid (E2.out.trans hg); clear hg
      go_wp2
      refine ⟨⟨⟨_, E3.out⟩, rfl⟩, ?_⟩
      refine anyC_seg [25, 26] #[true, true, true, true, true, true, true, true, true, true, true, true, true, true, true, true, true, true, true, true, true, true, true, true, true, true, true] (fuel := 0) rfl (by kernel_rfl) ⟨⟨_, E3.out⟩, rfl⟩ ?_
      simp only [pickOps, List.getD_cons_succ, List.getD_cons_zero]
      repeat (go_big_quiet_step (fail))
      refine wpQuiet_nil ?_
      refine anyC_done (by kernel_rfl) ?_
      clear hne x0 x1 y0 z0c hm2
      go_wp2
      go_roundw
      case rel => exact ⟨k + 1, by omega, by go_num, HX.out.trans E3.out⟩
      case measure => simp [intOf]; omega
    · obtain rfl : k = es.length := by omega
      have OPO' := OPO.out
      by_cases hp : 0 < es.length
      · have hq := OPO'.1 hp
        go_wp2
        go_ret
        exact ⟨rfl, G1.out.trans HG.out⟩
      · have hq : ¬ 0 < os.length := fun h => hp (OPO'.2 h)
        go_wp2
        go_ret
        exact ⟨rfl, G1.out.trans HG.out⟩
--%
end Go.Proofs.Ytgigdpdmdldhnaa
