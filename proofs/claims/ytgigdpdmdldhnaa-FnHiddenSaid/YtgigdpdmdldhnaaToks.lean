/- TableOk: what a right table is; contracts of the code (printed by gtok.py). -/
import Derived.Test.YtgigdpdmdldhnaaTok
import Derived.WalkKit
import Derived.ProofKit
import Derived.Deep.QuietTactic
import Derived.BigQuiet
import Derived.Outline
import Derived.WalkSpells
namespace Go.Proofs.Ytgigdpdmdldhnaa
open Go.ChangeShapes Go.WideShapes Go.ChangeAt Go.RowKit
set_option linter.unusedVariables false
set_option linter.unusedSimpArgs false
--%
--% TableOkS 53
set_option maxRecDepth 20000 in
set_option maxHeartbeats 4000000 in
theorem tableOkS_any (w : World) (V : Value) (d : TableD) (h : RdT w V d) (wf : WfT d) : Calls Try.prog 53 #[V] w (RetV (.bool (tbB d)) w) := by
  obtain ⟨v0, rfl, hv⟩ := h
  obtain ⟨a, c, rfl, hlc, hm, hn, hel⟩ := hv
  have H := Lib.hid hel; have WF := Lib.hid wf.2.at
  clear hel hn wf
  unfold maxLen at hm
  obtain ⟨cap, es⟩ := d
  simp only at hlc hm H WF ⊢
  have HNO : Hid (∀ k, k < es.length → ¬ tRow es k → tbB ⟨cap, es⟩ = false) := Lib.hid (fun k hk h => tbB_no (fun hb => h (hb.2.2 k hk)))
  have HF : Hid (((0 ≤ cap ∧ cap ≤ 400) ∧ (es.length : Int) ≤ cap → (∀ k, k < es.length → tRow es k) → tbB ⟨cap, es⟩ = true) ∧ (¬ ((0 ≤ cap ∧ cap ≤ 400) ∧ (es.length : Int) ≤ cap) → tbB ⟨cap, es⟩ = false)) := Lib.hid ⟨fun h hr => tbB_yes ⟨h.1, h.2, hr⟩, fun h => tbB_no (fun hb => h ⟨hb.1, hb.2.1⟩)⟩
  by_cases l1 : 0 ≤ cap
  rotate_left
  · have HX := Lib.hid (HF.out.2 (by omega))
    go_enter Try.func53, Try.ntmps53
    go_wp2
    go_ret
    refine ⟨ret_bool HX.out.symm, ?_⟩
    ((repeat (first | with_reducible exact Grow.refl _ | (with_reducible refine Grow.alloc_ ?_ _) | (with_reducible refine Grow.setCell_ ?_ (by first | exact Nat.le_refl _ | (simp only [World.alloc, Array.size_push]; omega) | omega) _))))
  by_cases l2 : cap ≤ 400
  rotate_left
  · have HX := Lib.hid (HF.out.2 (by omega))
    go_enter Try.func53, Try.ntmps53
    go_wp2
    go_ret
    refine ⟨ret_bool HX.out.symm, ?_⟩
    ((repeat (first | with_reducible exact Grow.refl _ | (with_reducible refine Grow.alloc_ ?_ _) | (with_reducible refine Grow.setCell_ ?_ (by first | exact Nat.le_refl _ | (simp only [World.alloc, Array.size_push]; omega) | omega) _))))
  by_cases l3 : (es.length : Int) ≤ cap
  rotate_left
  · have HX := Lib.hid (HF.out.2 (by omega))
    go_enter Try.func53, Try.ntmps53
    go_wp2
    go_ret
    refine ⟨ret_bool HX.out.symm, ?_⟩
    ((repeat (first | with_reducible exact Grow.refl _ | (with_reducible refine Grow.alloc_ ?_ _) | (with_reducible refine Grow.setCell_ ?_ (by first | exact Nat.le_refl _ | (simp only [World.alloc, Array.size_push]; omega) | omega) _))))
  have HY := Lib.hid (HF.out.1 ⟨⟨l1, l2⟩, l3⟩)
  clear HF
  go_enter Try.func53, Try.ntmps53
  go_wp2
  have B0 := Lib.hid (Box.alloc w [.int .i64 cap, .slice a es.length c] 79)
  have GB := Lib.hid (Grow.alloc w (.cells #[.int .i64 cap, .slice a es.length c] 79))
  generalize w.alloc (.cells #[.int .i64 cap, .slice a es.length c] 79) = wB at *
  go_loopw [24] (fun i wr => ∃ k : Nat, k ≤ es.length ∧ i = .int .i64 k ∧ (∀ j, j < k → tRow es j) ∧ Grow wB wr) (fun i _ => es.length - (intOf i).toNat)
  case atStart => exact ⟨0, Nat.zero_le _, rfl, (fun j hj => absurd hj (Nat.not_lt_zero _)), (by ((repeat (first | with_reducible exact Grow.refl _ | (with_reducible refine Grow.alloc_ ?_ _) | (with_reducible refine Grow.setCell_ ?_ (by first | exact Nat.le_refl _ | (simp only [World.alloc, Array.size_push]; omega) | omega) _)))))⟩
  case round =>
    obtain ⟨k, hk, rfl, hrow, hgr⟩ := hrel
    have HR := Lib.hid hrow; have HG := Lib.hid hgr
    clear hrow hgr
    have ⟨t0, t1⟩ := (B0.out.grow HG.out).two
    have tl := (B0.out.grow HG.out).1
    by_cases hlt : k < es.length
    · obtain ⟨b, off, rfl, hes⟩ := ent_open H.out hlt
      have HS := Lib.hid hes
      obtain ⟨a0, k0, a1, k1, a2, k2, hE⟩ := hes k hlt
      have WE := Lib.hid (WF.out k hlt)
      have HNk := Lib.hid (HNO.out k hlt)
      have HSR := Lib.hid (row_srt (es := es) (i := k) HR.out)
      have HKR := Lib.hid (fun m => row_key (es := es) (i := k) (m := m) HR.out)
      have HTR : Hid (enOk (es.getD k default) = true → (∀ j, j < k → ¬ Bef (es.getD k default) (es.getD j default)) → (∀ j, j < k → keyB (es.getD j default) (es.getD k default) = false) → tRow es k) := Lib.hid (fun h1 h2 h3 => ⟨h1, h2, h3⟩)
      have HTE : Hid (tRow es k → enOk (es.getD k default) = true ∧ (∀ j, j < k → ¬ Bef (es.getD k default) (es.getD j default)) ∧ (∀ j, j < k → keyB (es.getD j default) (es.getD k default) = false)) := Lib.hid (fun h => h)
      clear hes
      generalize es.getD k default = e at hE WE HSR HKR HTR HTE
      have HE := Lib.hid (hE.grow (GB.out.trans HG.out))
      have RE := Lib.hid HE.out.rd
      clear hE
      obtain ⟨c0, c1, c2, c3, c4, c5, -, -, -⟩ := HE.out
      go_wp2_with fail
      refine at_world (w := wr) ?G (fun hG => (entryOkS_any _ _ e (RE.out.grow hG) WE.out).mono ?_)
      case G => ((repeat (first | with_reducible exact Grow.refl _ | (with_reducible refine Grow.alloc_ ?_ _) | (with_reducible refine Grow.setCell_ ?_ (by first | exact Nat.le_refl _ | (simp only [World.alloc, Array.size_push]; omega) | omega) _))))
      rintro _ wE ⟨rfl, hg⟩
      have HE := Lib.hid (HE.out.grow (hG.trans hg))
      have RE := Lib.hid HE.out.rd
      have GE := Lib.hid (HG.out.trans (hG.trans hg))
      clear hg hG c0 c1 c2 c3 c4 c5 t0 t1 tl
      cases hok : enOk e
      · have HX := Lib.hid (HNk.out (fun h => by have := (HTE.out h).1; rw [hok] at this; cases this))
        go_wp2
        go_ret
        exact ⟨ret_bool HX.out.symm, GB.out.trans (GE.out.trans (Grow.refl _))⟩
      go_wp2_with fail
      have hne : Nonempty (Cl (Grow wE)) := ⟨⟨wE, Grow.refl _⟩⟩
      have ⟨p0, p1⟩ := (B0.out.grow GE.out).two_
      rcases Nat.eq_zero_or_pos k with rfl | hpos
      · have HSO : Hid (∀ j, j < 0 → ¬ Bef e (es.getD j default)) := Lib.hid (fun j hj => absurd hj (Nat.not_lt_zero _))
        refine wp_region_mix (Cls (Grow wE)) 16 #[false, false, false, false, false, false, false, false, false, false, false, false, false, false, false, false] (by kernel_rfl) (by kernel_rfl) ⟨⟨_, Grow.drewN _ 1⟩, rfl⟩ ?_
        refine anyC_seg [0, 1, 2, 3, 4, 5, 6, 7, 8, 9, 10, 11, 12, 13] #[true, true, true, true, true, true, true, true, true, true, true, true, true, true, false, false] (fuel := 2) rfl (by kernel_rfl) ⟨⟨_, Grow.drewN _ 1⟩, rfl⟩ ?_
        simp only [pickOps, List.getD_cons_succ, List.getD_cons_zero]
        repeat (go_big_quiet_step (fail))
        refine wpQuiet_nil ?_
        refine anyC_sole 14 #[true, true, true, true, true, true, true, true, true, true, true, true, true, true, true, false] (fuel := 1) (by kernel_rfl) ?_
        simp only [List.getD_cons_succ, List.getD_cons_zero]
        go_wp2
        refine ⟨⟨⟨_, Grow.drewN _ 1⟩, rfl⟩, ?_⟩
        refine anyC_seg [15] #[true, true, true, true, true, true, true, true, true, true, true, true, true, true, true, true] (fuel := 0) rfl (by kernel_rfl) ⟨⟨_, Grow.drewN _ 1⟩, rfl⟩ ?_
        simp only [pickOps, List.getD_cons_succ, List.getD_cons_zero]
        repeat (go_big_quiet_step (fail))
        refine wpQuiet_nil ?_
        refine anyC_done (by kernel_rfl) ?_
        clear p0 p1 hne
        have HW0 := Lib.hid (Grow.drewN wE 1)
        go_wp2
        go_loopw [4] (fun i wr => ∃ (m' : Nat) (z : Int), m' ≤ 0 ∧ z = (m' : Int) - 1 ∧ i = .int .i64 z ∧ (∀ j, m' ≤ j → j < 0 → keyB (es.getD j default) e = false) ∧ Grow wE wr) (fun i _ => (intOf i + 1).toNat)
        case atStart => exact ⟨0, _, Nat.le_refl _, rfl, by go_num, (fun j h1 h2 => by omega), (by ((repeat (first | with_reducible exact Grow.refl _ | (with_reducible refine Grow.alloc_ ?_ _) | (with_reducible refine Grow.setCell_ ?_ (by first | exact Nat.le_refl _ | (simp only [World.alloc, Array.size_push]; omega) | omega) _)))); try exact HW0.out)⟩
        case round =>
          obtain ⟨m', z, hm', hz, rfl, hkf, hgi⟩ := hrel
          have HKF := Lib.hid hkf; have HI := Lib.hid hgi
          clear hkf hgi
          rename World => wi
          rcases Nat.eq_zero_or_pos m' with rfl | hp
          · obtain rfl : z = -1 := by omega
            clear hz
            go_wp2_with fail
            have hne : Nonempty (Cl (Grow wi)) := ⟨⟨wi, Grow.refl _⟩⟩
            have ⟨p0, p1⟩ := (B0.out.grow (GE.out.trans HI.out)).two_
            refine wp_region_mix (Cls (Grow wi)) 16 #[false, false, false, false, false, false, false, false, false, false, false, false, false, false, false, false] (by kernel_rfl) (by kernel_rfl) ⟨⟨_, Grow.drewN _ 1⟩, rfl⟩ ?_
            refine anyC_seg [0, 1, 2, 3, 4, 5, 6, 7, 8, 9, 10, 11, 12] #[true, true, true, true, true, true, true, true, true, true, true, true, true, false, false, false] (fuel := 3) rfl (by kernel_rfl) ⟨⟨_, Grow.drewN _ 1⟩, rfl⟩ ?_
            simp only [pickOps, List.getD_cons_succ, List.getD_cons_zero]
            repeat (go_big_quiet_step (fail))
            refine wpQuiet_nil ?_
            refine anyC_sole 13 #[true, true, true, true, true, true, true, true, true, true, true, true, true, true, false, false] (fuel := 2) (by kernel_rfl) ?_
            simp only [List.getD_cons_succ, List.getD_cons_zero]
            go_wp2
            refine ⟨⟨⟨_, Grow.drewN _ 1⟩, rfl⟩, ?_⟩
            refine anyC_seg [14, 15] #[true, true, true, true, true, true, true, true, true, true, true, true, true, true, true, true] (fuel := 0) rfl (by kernel_rfl) ⟨⟨_, Grow.drewN _ 1⟩, rfl⟩ ?_
            simp only [pickOps, List.getD_cons_succ, List.getD_cons_zero]
            repeat (go_big_quiet_step (fail))
            refine wpQuiet_nil ?_
            refine anyC_done (by kernel_rfl) ?_
            have HROW := Lib.hid (HTR.out hok HSO.out (fun j hj => HKF.out j (Nat.zero_le _) hj))
            go_wp2
            go_roundw
            case rel => exact ⟨0 + 1, by omega, by go_num, belowP HR.out HROW.out, (GE.out.trans HI.out).trans (Grow.drewN _ 1)⟩
            case measure => simp [intOf]; omega
          · exact absurd hm' (by omega)

      obtain ⟨m, rfl⟩ : ∃ m, k = m + 1 := ⟨k - 1, by omega⟩
      obtain ⟨a3, k3, a4, k4, a5, k5, hF⟩ := HS.out m (by omega)
      have WFF := Lib.hid (WF.out m (by omega))
      have RF := Lib.hid (hF.grow (GB.out.trans GE.out)).rd
      have HBE : Hid (Bef e (es.getD m default) → tbB ⟨cap, es⟩ = false) := Lib.hid (fun hb => HNk.out (fun h => (HTE.out h).2.1 m (by omega) hb))
      have HSB : Hid (¬ Bef e (es.getD m default) → ∀ j, j < m + 1 → ¬ Bef e (es.getD j default)) := Lib.hid (fun hb => HSR.out (fun m' h => by
        obtain rfl : m' = m := by omega
        exact hb))
      have HFF := Lib.hid (hF.grow (GB.out.trans GE.out))
      generalize es.getD m default = f at *
      clear hF
      obtain ⟨x0, x1, x2, x3, x4, x5⟩ : (∀ x : Cl (Grow wE), x.w.cell? ⟨b, off + m * 6, none⟩ = some (.int .i64 f.epoch)) ∧ (∀ x : Cl (Grow wE), x.w.cell? ⟨b, off + m * 6 + 1, none⟩ = some (.int .i64 f.prio)) ∧ (∀ x : Cl (Grow wE), x.w.cell? ⟨b, off + m * 6 + 2, none⟩ = some (.slice a3 f.m.vs.length k3)) ∧ (∀ x : Cl (Grow wE), x.w.cell? ⟨b, off + m * 6 + 3, none⟩ = some (.slice a4 f.m.ms.length k4)) ∧ (∀ x : Cl (Grow wE), x.w.cell? ⟨b, off + m * 6 + 4, none⟩ = some (.slice a5 f.acts.length k5)) ∧ (∀ x : Cl (Grow wE), x.w.cell? ⟨b, off + m * 6 + 5, none⟩ = some (.int .i64 f.hits)) := ⟨fun x => (HFF.out.grow x.ok).1, fun x => (HFF.out.grow x.ok).2.1, fun x => (HFF.out.grow x.ok).2.2.1, fun x => (HFF.out.grow x.ok).2.2.2.1, fun x => (HFF.out.grow x.ok).2.2.2.2.1, fun x => (HFF.out.grow x.ok).2.2.2.2.2.1⟩
      obtain ⟨y0, y1, y2, y3, y4, y5⟩ : (∀ x : Cl (Grow wE), x.w.cell? ⟨b, off + (m + 1) * 6, none⟩ = some (.int .i64 e.epoch)) ∧ (∀ x : Cl (Grow wE), x.w.cell? ⟨b, off + (m + 1) * 6 + 1, none⟩ = some (.int .i64 e.prio)) ∧ (∀ x : Cl (Grow wE), x.w.cell? ⟨b, off + (m + 1) * 6 + 2, none⟩ = some (.slice a0 e.m.vs.length k0)) ∧ (∀ x : Cl (Grow wE), x.w.cell? ⟨b, off + (m + 1) * 6 + 3, none⟩ = some (.slice a1 e.m.ms.length k1)) ∧ (∀ x : Cl (Grow wE), x.w.cell? ⟨b, off + (m + 1) * 6 + 4, none⟩ = some (.slice a2 e.acts.length k2)) ∧ (∀ x : Cl (Grow wE), x.w.cell? ⟨b, off + (m + 1) * 6 + 5, none⟩ = some (.int .i64 e.hits)) := ⟨fun x => (HE.out.grow x.ok).1, fun x => (HE.out.grow x.ok).2.1, fun x => (HE.out.grow x.ok).2.2.1, fun x => (HE.out.grow x.ok).2.2.2.1, fun x => (HE.out.grow x.ok).2.2.2.2.1, fun x => (HE.out.grow x.ok).2.2.2.2.2.1⟩
      cases hbef : decide (Bef e f)
      rotate_left
      · have HX := Lib.hid (HBE.out (of_decide_eq_true hbef))
        refine wp_region_mix (Cls (Grow wE)) 16 #[false, false, false, false, false, false, false, false, false, false, false, false, false, false, false, false] (by kernel_rfl) (by kernel_rfl) ⟨⟨_, Grow.drewN _ 1⟩, rfl⟩ ?_
        refine anyC_seg [0, 1, 2, 3, 4, 5, 6, 7, 8, 9, 10, 11, 12, 13] #[true, true, true, true, true, true, true, true, true, true, true, true, true, true, false, false] (fuel := 2) rfl (by kernel_rfl) ⟨⟨_, Grow.drewN _ 1⟩, rfl⟩ ?_
        simp only [pickOps, List.getD_cons_succ, List.getD_cons_zero]
        repeat (go_big_quiet_step (fail))
        refine wpQuiet_nil ?_
        refine anyC_sole 14 #[true, true, true, true, true, true, true, true, true, true, true, true, true, true, true, false] (fuel := 1) (by kernel_rfl) ?_
        simp only [List.getD_cons_succ, List.getD_cons_zero]
        go_wp2_with fail
        refine (befS_any _ _ _ e f (RE.out.grow (Grow.drewN _ 1)) (RF.out.grow (Grow.drewN _ 1))).mono ?_
        rintro _ w1 ⟨rfl, hg⟩
        rw [hbef]
        have D1 := Lib.hid ((Grow.drewN _ 1).trans hg); clear hg
        go_wp2
        refine ⟨⟨⟨_, D1.out⟩, rfl⟩, ?_⟩
        refine anyC_seg [15] #[true, true, true, true, true, true, true, true, true, true, true, true, true, true, true, true] (fuel := 0) rfl (by kernel_rfl) ⟨⟨_, D1.out⟩, rfl⟩ ?_
        simp only [pickOps, List.getD_cons_succ, List.getD_cons_zero]
        repeat (go_big_quiet_step (fail))
        refine wpQuiet_nil ?_
        refine anyC_done (by kernel_rfl) ?_
        go_wp2
        go_ret
        exact ⟨ret_bool HX.out.symm, GB.out.trans (GE.out.trans (D1.out))⟩

      have HSO : Hid (∀ j, j < m + 1 → ¬ Bef e (es.getD j default)) := Lib.hid (HSB.out (of_decide_eq_false hbef))
      refine wp_region_mix (Cls (Grow wE)) 16 #[false, false, false, false, false, false, false, false, false, false, false, false, false, false, false, false] (by kernel_rfl) (by kernel_rfl) ⟨⟨_, Grow.drewN _ 1⟩, rfl⟩ ?_
      refine anyC_seg [0, 1, 2, 3, 4, 5, 6, 7, 8, 9, 10, 11, 12, 13] #[true, true, true, true, true, true, true, true, true, true, true, true, true, true, false, false] (fuel := 2) rfl (by kernel_rfl) ⟨⟨_, Grow.drewN _ 1⟩, rfl⟩ ?_
      simp only [pickOps, List.getD_cons_succ, List.getD_cons_zero]
      repeat (go_big_quiet_step (fail))
      refine wpQuiet_nil ?_
      refine anyC_sole 14 #[true, true, true, true, true, true, true, true, true, true, true, true, true, true, true, false] (fuel := 1) (by kernel_rfl) ?_
      simp only [List.getD_cons_succ, List.getD_cons_zero]
      go_wp2_with fail
      refine (befS_any _ _ _ e f (RE.out.grow (Grow.drewN _ 1)) (RF.out.grow (Grow.drewN _ 1))).mono ?_
      rintro _ w1 ⟨rfl, hg⟩
      rw [hbef]
      have D1 := Lib.hid ((Grow.drewN _ 1).trans hg); clear hg
      go_wp2
      refine ⟨⟨⟨_, D1.out⟩, rfl⟩, ?_⟩
      refine anyC_seg [15] #[true, true, true, true, true, true, true, true, true, true, true, true, true, true, true, true] (fuel := 0) rfl (by kernel_rfl) ⟨⟨_, D1.out⟩, rfl⟩ ?_
      simp only [pickOps, List.getD_cons_succ, List.getD_cons_zero]
      repeat (go_big_quiet_step (fail))
      refine wpQuiet_nil ?_
      refine anyC_done (by kernel_rfl) ?_
      clear x0 x1 x2 x3 x4 x5 y0 y1 y2 y3 y4 y5 p0 p1 hne
      have HW0 := Lib.hid (D1.out)
      go_wp2
      go_loopw [4] (fun i wr => ∃ (m' : Nat) (z : Int), m' ≤ (m + 1) ∧ z = (m' : Int) - 1 ∧ i = .int .i64 z ∧ (∀ j, m' ≤ j → j < (m + 1) → keyB (es.getD j default) e = false) ∧ Grow wE wr) (fun i _ => (intOf i + 1).toNat)
      case atStart => exact ⟨(m + 1), _, Nat.le_refl _, rfl, by go_num, (fun j h1 h2 => by omega), (by ((repeat (first | with_reducible exact Grow.refl _ | (with_reducible refine Grow.alloc_ ?_ _) | (with_reducible refine Grow.setCell_ ?_ (by first | exact Nat.le_refl _ | (simp only [World.alloc, Array.size_push]; omega) | omega) _)))); try exact HW0.out)⟩
      case round =>
        obtain ⟨m', z, hm', hz, rfl, hkf, hgi⟩ := hrel
        have HKF := Lib.hid hkf; have HI := Lib.hid hgi
        clear hkf hgi
        rename World => wi
        rcases Nat.eq_zero_or_pos m' with rfl | hp
        · obtain rfl : z = -1 := by omega
          clear hz
          go_wp2_with fail
          have hne : Nonempty (Cl (Grow wi)) := ⟨⟨wi, Grow.refl _⟩⟩
          have ⟨p0, p1⟩ := (B0.out.grow (GE.out.trans HI.out)).two_
          refine wp_region_mix (Cls (Grow wi)) 16 #[false, false, false, false, false, false, false, false, false, false, false, false, false, false, false, false] (by kernel_rfl) (by kernel_rfl) ⟨⟨_, Grow.drewN _ 1⟩, rfl⟩ ?_
          refine anyC_seg [0, 1, 2, 3, 4, 5, 6, 7, 8, 9, 10, 11, 12] #[true, true, true, true, true, true, true, true, true, true, true, true, true, false, false, false] (fuel := 3) rfl (by kernel_rfl) ⟨⟨_, Grow.drewN _ 1⟩, rfl⟩ ?_
          simp only [pickOps, List.getD_cons_succ, List.getD_cons_zero]
          repeat (go_big_quiet_step (fail))
          refine wpQuiet_nil ?_
          refine anyC_sole 13 #[true, true, true, true, true, true, true, true, true, true, true, true, true, true, false, false] (fuel := 2) (by kernel_rfl) ?_
          simp only [List.getD_cons_succ, List.getD_cons_zero]
          go_wp2
          refine ⟨⟨⟨_, Grow.drewN _ 1⟩, rfl⟩, ?_⟩
          refine anyC_seg [14, 15] #[true, true, true, true, true, true, true, true, true, true, true, true, true, true, true, true] (fuel := 0) rfl (by kernel_rfl) ⟨⟨_, Grow.drewN _ 1⟩, rfl⟩ ?_
          simp only [pickOps, List.getD_cons_succ, List.getD_cons_zero]
          repeat (go_big_quiet_step (fail))
          refine wpQuiet_nil ?_
          refine anyC_done (by kernel_rfl) ?_
          have HROW := Lib.hid (HTR.out hok HSO.out (fun j hj => HKF.out j (Nat.zero_le _) hj))
          go_wp2
          go_roundw
          case rel => exact ⟨(m + 1) + 1, by omega, by go_num, belowP HR.out HROW.out, (GE.out.trans HI.out).trans (Grow.drewN _ 1)⟩
          case measure => simp [intOf]; omega
        · obtain ⟨q, rfl⟩ : ∃ q, m' = q + 1 := ⟨m' - 1, by omega⟩
          obtain rfl : z = (q : Int) := by omega
          clear hz
          obtain ⟨a6, k6, a7, k7, a8, k8, hQ⟩ := HS.out q (by omega)
          have WFQ := Lib.hid (WF.out q (by omega))
          have HKB : Hid (keyB (es.getD q default) e = true → tbB ⟨cap, es⟩ = false) := Lib.hid (fun hb => HNk.out (fun h => by have := (HTE.out h).2.2 q (by omega); rw [hb] at this; cases this))
          have HKX : Hid (Bef (es.getD q default) e → ∀ j, j < (m + 1) → keyB (es.getD j default) e = false) := Lib.hid (fun hb j hj => by
            rcases Nat.lt_or_ge q j with h' | h'
            · exact HKF.out j (by omega) hj
            · exact HKR.out q HSO.out (by omega) (by unfold Bef at hb; omega) j h')
          have HKN : Hid (keyB (es.getD q default) e = false → ∀ j, q ≤ j → j < (m + 1) → keyB (es.getD j default) e = false) := Lib.hid (fun hb j h1 h2 => by
            rcases Nat.lt_or_ge q j with h' | h'
            · exact HKF.out j (by omega) h2
            · obtain rfl : j = q := by omega
              exact hb)
          generalize es.getD q default = g at hQ WFQ HKB HKX HKN
          have HQ := Lib.hid (hQ.grow (GB.out.trans (GE.out.trans HI.out)))
          have RQ := Lib.hid HQ.out.rd
          have hql : q < es.length := by omega
          clear hQ
          cases hbq : decide (Bef g e)
          rotate_left
          · have HX := Lib.hid (HKX.out (of_decide_eq_true hbq))
            go_wp2_with fail
            have hne : Nonempty (Cl (Grow wi)) := ⟨⟨wi, Grow.refl _⟩⟩
            have ⟨p0, p1⟩ := (B0.out.grow (GE.out.trans HI.out)).two_
            obtain ⟨x0, x1, x2, x3, x4, x5⟩ : (∀ x : Cl (Grow wi), x.w.cell? ⟨b, off + q * 6, none⟩ = some (.int .i64 g.epoch)) ∧ (∀ x : Cl (Grow wi), x.w.cell? ⟨b, off + q * 6 + 1, none⟩ = some (.int .i64 g.prio)) ∧ (∀ x : Cl (Grow wi), x.w.cell? ⟨b, off + q * 6 + 2, none⟩ = some (.slice a6 g.m.vs.length k6)) ∧ (∀ x : Cl (Grow wi), x.w.cell? ⟨b, off + q * 6 + 3, none⟩ = some (.slice a7 g.m.ms.length k7)) ∧ (∀ x : Cl (Grow wi), x.w.cell? ⟨b, off + q * 6 + 4, none⟩ = some (.slice a8 g.acts.length k8)) ∧ (∀ x : Cl (Grow wi), x.w.cell? ⟨b, off + q * 6 + 5, none⟩ = some (.int .i64 g.hits)) := ⟨fun x => (HQ.out.grow x.ok).1, fun x => (HQ.out.grow x.ok).2.1, fun x => (HQ.out.grow x.ok).2.2.1, fun x => (HQ.out.grow x.ok).2.2.2.1, fun x => (HQ.out.grow x.ok).2.2.2.2.1, fun x => (HQ.out.grow x.ok).2.2.2.2.2.1⟩
            obtain ⟨y0, y1, y2, y3, y4, y5⟩ : (∀ x : Cl (Grow wi), x.w.cell? ⟨b, off + (m + 1) * 6, none⟩ = some (.int .i64 e.epoch)) ∧ (∀ x : Cl (Grow wi), x.w.cell? ⟨b, off + (m + 1) * 6 + 1, none⟩ = some (.int .i64 e.prio)) ∧ (∀ x : Cl (Grow wi), x.w.cell? ⟨b, off + (m + 1) * 6 + 2, none⟩ = some (.slice a0 e.m.vs.length k0)) ∧ (∀ x : Cl (Grow wi), x.w.cell? ⟨b, off + (m + 1) * 6 + 3, none⟩ = some (.slice a1 e.m.ms.length k1)) ∧ (∀ x : Cl (Grow wi), x.w.cell? ⟨b, off + (m + 1) * 6 + 4, none⟩ = some (.slice a2 e.acts.length k2)) ∧ (∀ x : Cl (Grow wi), x.w.cell? ⟨b, off + (m + 1) * 6 + 5, none⟩ = some (.int .i64 e.hits)) := ⟨fun x => ((HE.out.grow HI.out).grow x.ok).1, fun x => ((HE.out.grow HI.out).grow x.ok).2.1, fun x => ((HE.out.grow HI.out).grow x.ok).2.2.1, fun x => ((HE.out.grow HI.out).grow x.ok).2.2.2.1, fun x => ((HE.out.grow HI.out).grow x.ok).2.2.2.2.1, fun x => ((HE.out.grow HI.out).grow x.ok).2.2.2.2.2.1⟩
            refine wp_region_mix (Cls (Grow wi)) 16 #[false, false, false, false, false, false, false, false, false, false, false, false, false, false, false, false] (by kernel_rfl) (by kernel_rfl) ⟨⟨_, Grow.drewN _ 1⟩, rfl⟩ ?_
            refine anyC_seg [0, 1, 2, 3, 4, 5, 6, 7, 8, 9, 10, 11, 12] #[true, true, true, true, true, true, true, true, true, true, true, true, true, false, false, false] (fuel := 3) rfl (by kernel_rfl) ⟨⟨_, Grow.drewN _ 1⟩, rfl⟩ ?_
            simp only [pickOps, List.getD_cons_succ, List.getD_cons_zero]
            repeat (go_big_quiet_step (fail))
            refine wpQuiet_nil ?_
            refine anyC_sole 13 #[true, true, true, true, true, true, true, true, true, true, true, true, true, true, false, false] (fuel := 2) (by kernel_rfl) ?_
            simp only [List.getD_cons_succ, List.getD_cons_zero]
            go_wp2_with fail
            refine (befS_any _ _ _ g e (RQ.out.grow (Grow.drewN _ 1)) ((RE.out.grow HI.out).grow (Grow.drewN _ 1))).mono ?_
            rintro _ w8 ⟨rfl, hg⟩
            rw [hbq]
            have D8 := Lib.hid ((Grow.drewN _ 1).trans hg); clear hg
            go_wp2
            refine ⟨⟨⟨_, D8.out⟩, rfl⟩, ?_⟩
            refine anyC_seg [14, 15] #[true, true, true, true, true, true, true, true, true, true, true, true, true, true, true, true] (fuel := 0) rfl (by kernel_rfl) ⟨⟨_, D8.out⟩, rfl⟩ ?_
            simp only [pickOps, List.getD_cons_succ, List.getD_cons_zero]
            repeat (go_big_quiet_step (fail))
            refine wpQuiet_nil ?_
            refine anyC_done (by kernel_rfl) ?_
            have HROW := Lib.hid (HTR.out hok HSO.out (HX.out))
            go_wp2
            go_roundw
            case rel => exact ⟨(m + 1) + 1, by omega, by go_num, belowP HR.out HROW.out, (GE.out.trans HI.out).trans (D8.out)⟩
            case measure => simp [intOf]; omega
          cases hkb : keyB g e
          · have HX := Lib.hid (HKN.out hkb)
            go_wp2_with fail
            have hne : Nonempty (Cl (Grow wi)) := ⟨⟨wi, Grow.refl _⟩⟩
            have ⟨p0, p1⟩ := (B0.out.grow (GE.out.trans HI.out)).two_
            obtain ⟨x0, x1, x2, x3, x4, x5⟩ : (∀ x : Cl (Grow wi), x.w.cell? ⟨b, off + q * 6, none⟩ = some (.int .i64 g.epoch)) ∧ (∀ x : Cl (Grow wi), x.w.cell? ⟨b, off + q * 6 + 1, none⟩ = some (.int .i64 g.prio)) ∧ (∀ x : Cl (Grow wi), x.w.cell? ⟨b, off + q * 6 + 2, none⟩ = some (.slice a6 g.m.vs.length k6)) ∧ (∀ x : Cl (Grow wi), x.w.cell? ⟨b, off + q * 6 + 3, none⟩ = some (.slice a7 g.m.ms.length k7)) ∧ (∀ x : Cl (Grow wi), x.w.cell? ⟨b, off + q * 6 + 4, none⟩ = some (.slice a8 g.acts.length k8)) ∧ (∀ x : Cl (Grow wi), x.w.cell? ⟨b, off + q * 6 + 5, none⟩ = some (.int .i64 g.hits)) := ⟨fun x => (HQ.out.grow x.ok).1, fun x => (HQ.out.grow x.ok).2.1, fun x => (HQ.out.grow x.ok).2.2.1, fun x => (HQ.out.grow x.ok).2.2.2.1, fun x => (HQ.out.grow x.ok).2.2.2.2.1, fun x => (HQ.out.grow x.ok).2.2.2.2.2.1⟩
            obtain ⟨y0, y1, y2, y3, y4, y5⟩ : (∀ x : Cl (Grow wi), x.w.cell? ⟨b, off + (m + 1) * 6, none⟩ = some (.int .i64 e.epoch)) ∧ (∀ x : Cl (Grow wi), x.w.cell? ⟨b, off + (m + 1) * 6 + 1, none⟩ = some (.int .i64 e.prio)) ∧ (∀ x : Cl (Grow wi), x.w.cell? ⟨b, off + (m + 1) * 6 + 2, none⟩ = some (.slice a0 e.m.vs.length k0)) ∧ (∀ x : Cl (Grow wi), x.w.cell? ⟨b, off + (m + 1) * 6 + 3, none⟩ = some (.slice a1 e.m.ms.length k1)) ∧ (∀ x : Cl (Grow wi), x.w.cell? ⟨b, off + (m + 1) * 6 + 4, none⟩ = some (.slice a2 e.acts.length k2)) ∧ (∀ x : Cl (Grow wi), x.w.cell? ⟨b, off + (m + 1) * 6 + 5, none⟩ = some (.int .i64 e.hits)) := ⟨fun x => ((HE.out.grow HI.out).grow x.ok).1, fun x => ((HE.out.grow HI.out).grow x.ok).2.1, fun x => ((HE.out.grow HI.out).grow x.ok).2.2.1, fun x => ((HE.out.grow HI.out).grow x.ok).2.2.2.1, fun x => ((HE.out.grow HI.out).grow x.ok).2.2.2.2.1, fun x => ((HE.out.grow HI.out).grow x.ok).2.2.2.2.2.1⟩
            refine wp_region_mix (Cls (Grow wi)) 16 #[false, false, false, false, false, false, false, false, false, false, false, false, false, false, false, false] (by kernel_rfl) (by kernel_rfl) ⟨⟨_, Grow.drewN _ 1⟩, rfl⟩ ?_
            refine anyC_seg [0, 1, 2, 3, 4, 5, 6, 7, 8, 9, 10, 11, 12] #[true, true, true, true, true, true, true, true, true, true, true, true, true, false, false, false] (fuel := 3) rfl (by kernel_rfl) ⟨⟨_, Grow.drewN _ 1⟩, rfl⟩ ?_
            simp only [pickOps, List.getD_cons_succ, List.getD_cons_zero]
            repeat (go_big_quiet_step (fail))
            refine wpQuiet_nil ?_
            refine anyC_sole 13 #[true, true, true, true, true, true, true, true, true, true, true, true, true, true, false, false] (fuel := 2) (by kernel_rfl) ?_
            simp only [List.getD_cons_succ, List.getD_cons_zero]
            go_wp2_with fail
            refine (befS_any _ _ _ g e (RQ.out.grow (Grow.drewN _ 1)) ((RE.out.grow HI.out).grow (Grow.drewN _ 1))).mono ?_
            rintro _ w8 ⟨rfl, hg⟩
            rw [hbq]
            have D8 := Lib.hid ((Grow.drewN _ 1).trans hg); clear hg
            go_wp2
            refine ⟨⟨⟨_, D8.out⟩, rfl⟩, ?_⟩
            refine anyC_seg [14, 15] #[true, true, true, true, true, true, true, true, true, true, true, true, true, true, true, true] (fuel := 0) rfl (by kernel_rfl) ⟨⟨_, D8.out⟩, rfl⟩ ?_
            simp only [pickOps, List.getD_cons_succ, List.getD_cons_zero]
            repeat (go_big_quiet_step (fail))
            refine wpQuiet_nil ?_
            refine anyC_done (by kernel_rfl) ?_
            go_wp2_with fail
            have HI := Lib.hid (HI.out.trans D8.out)
            have HQ := Lib.hid (HQ.out.grow D8.out)
            have RQ := Lib.hid HQ.out.rd
            clear x0 x1 x2 x3 x4 x5 y0 y1 y2 y3 y4 y5 p0 p1 hne
            obtain ⟨wj, hwj⟩ : ∃ wj : World, wj = w8 := ⟨_, rfl⟩
            subst hwj
            have hne : Nonempty (Cl (Grow wj)) := ⟨⟨wj, Grow.refl _⟩⟩
            have ⟨p0, p1⟩ := (B0.out.grow (GE.out.trans HI.out)).two_
            obtain ⟨x0, x1, x2, x3, x4, x5⟩ : (∀ x : Cl (Grow wj), x.w.cell? ⟨b, off + q * 6, none⟩ = some (.int .i64 g.epoch)) ∧ (∀ x : Cl (Grow wj), x.w.cell? ⟨b, off + q * 6 + 1, none⟩ = some (.int .i64 g.prio)) ∧ (∀ x : Cl (Grow wj), x.w.cell? ⟨b, off + q * 6 + 2, none⟩ = some (.slice a6 g.m.vs.length k6)) ∧ (∀ x : Cl (Grow wj), x.w.cell? ⟨b, off + q * 6 + 3, none⟩ = some (.slice a7 g.m.ms.length k7)) ∧ (∀ x : Cl (Grow wj), x.w.cell? ⟨b, off + q * 6 + 4, none⟩ = some (.slice a8 g.acts.length k8)) ∧ (∀ x : Cl (Grow wj), x.w.cell? ⟨b, off + q * 6 + 5, none⟩ = some (.int .i64 g.hits)) := ⟨fun x => (HQ.out.grow x.ok).1, fun x => (HQ.out.grow x.ok).2.1, fun x => (HQ.out.grow x.ok).2.2.1, fun x => (HQ.out.grow x.ok).2.2.2.1, fun x => (HQ.out.grow x.ok).2.2.2.2.1, fun x => (HQ.out.grow x.ok).2.2.2.2.2.1⟩
            obtain ⟨y0, y1, y2, y3, y4, y5⟩ : (∀ x : Cl (Grow wj), x.w.cell? ⟨b, off + (m + 1) * 6, none⟩ = some (.int .i64 e.epoch)) ∧ (∀ x : Cl (Grow wj), x.w.cell? ⟨b, off + (m + 1) * 6 + 1, none⟩ = some (.int .i64 e.prio)) ∧ (∀ x : Cl (Grow wj), x.w.cell? ⟨b, off + (m + 1) * 6 + 2, none⟩ = some (.slice a0 e.m.vs.length k0)) ∧ (∀ x : Cl (Grow wj), x.w.cell? ⟨b, off + (m + 1) * 6 + 3, none⟩ = some (.slice a1 e.m.ms.length k1)) ∧ (∀ x : Cl (Grow wj), x.w.cell? ⟨b, off + (m + 1) * 6 + 4, none⟩ = some (.slice a2 e.acts.length k2)) ∧ (∀ x : Cl (Grow wj), x.w.cell? ⟨b, off + (m + 1) * 6 + 5, none⟩ = some (.int .i64 e.hits)) := ⟨fun x => ((HE.out.grow HI.out).grow x.ok).1, fun x => ((HE.out.grow HI.out).grow x.ok).2.1, fun x => ((HE.out.grow HI.out).grow x.ok).2.2.1, fun x => ((HE.out.grow HI.out).grow x.ok).2.2.2.1, fun x => ((HE.out.grow HI.out).grow x.ok).2.2.2.2.1, fun x => ((HE.out.grow HI.out).grow x.ok).2.2.2.2.2.1⟩
            refine wp_region_mix (Cls (Grow wj)) 11 #[false, false, false, false, false, false, false, false, false, false, false] (by kernel_rfl) (by kernel_rfl) ⟨⟨_, Grow.drewN _ 1⟩, rfl⟩ ?_
            refine anyC_seg [0, 1, 2, 3, 4, 5, 6, 7, 8, 9] #[true, true, true, true, true, true, true, true, true, true, false] (fuel := 1) rfl (by kernel_rfl) ⟨⟨_, Grow.drewN _ 1⟩, rfl⟩ ?_
            simp only [pickOps, List.getD_cons_succ, List.getD_cons_zero]
            repeat (go_big_quiet_step (fail))
            refine wpQuiet_nil ?_
            refine anyC_sole 10 #[true, true, true, true, true, true, true, true, true, true, true] (fuel := 0) (by kernel_rfl) ?_
            simp only [List.getD_cons_succ, List.getD_cons_zero]
            go_wp2_with fail
            refine (keyS_any _ _ _ g e (RQ.out.grow (Grow.drewN _ 1)) ((RE.out.grow HI.out).grow (Grow.drewN _ 1)) WFQ.out WE.out).mono ?_
            rintro _ w9 ⟨rfl, hg⟩
            rw [hkb]
            have D9 := Lib.hid ((Grow.drewN _ 1).trans hg); clear hg
            go_wp2
            refine ⟨⟨⟨_, D9.out⟩, rfl⟩, ?_⟩
            refine anyC_done (by kernel_rfl) ?_
            go_wp2
            go_roundw
            case rel => exact ⟨q, _, by omega, rfl, by go_num, HX.out, HI.out.trans D9.out⟩
            case measure => simp [intOf] <;> omega
          · have HX := Lib.hid (HKB.out hkb)
            go_wp2_with fail
            have hne : Nonempty (Cl (Grow wi)) := ⟨⟨wi, Grow.refl _⟩⟩
            have ⟨p0, p1⟩ := (B0.out.grow (GE.out.trans HI.out)).two_
            obtain ⟨x0, x1, x2, x3, x4, x5⟩ : (∀ x : Cl (Grow wi), x.w.cell? ⟨b, off + q * 6, none⟩ = some (.int .i64 g.epoch)) ∧ (∀ x : Cl (Grow wi), x.w.cell? ⟨b, off + q * 6 + 1, none⟩ = some (.int .i64 g.prio)) ∧ (∀ x : Cl (Grow wi), x.w.cell? ⟨b, off + q * 6 + 2, none⟩ = some (.slice a6 g.m.vs.length k6)) ∧ (∀ x : Cl (Grow wi), x.w.cell? ⟨b, off + q * 6 + 3, none⟩ = some (.slice a7 g.m.ms.length k7)) ∧ (∀ x : Cl (Grow wi), x.w.cell? ⟨b, off + q * 6 + 4, none⟩ = some (.slice a8 g.acts.length k8)) ∧ (∀ x : Cl (Grow wi), x.w.cell? ⟨b, off + q * 6 + 5, none⟩ = some (.int .i64 g.hits)) := ⟨fun x => (HQ.out.grow x.ok).1, fun x => (HQ.out.grow x.ok).2.1, fun x => (HQ.out.grow x.ok).2.2.1, fun x => (HQ.out.grow x.ok).2.2.2.1, fun x => (HQ.out.grow x.ok).2.2.2.2.1, fun x => (HQ.out.grow x.ok).2.2.2.2.2.1⟩
            obtain ⟨y0, y1, y2, y3, y4, y5⟩ : (∀ x : Cl (Grow wi), x.w.cell? ⟨b, off + (m + 1) * 6, none⟩ = some (.int .i64 e.epoch)) ∧ (∀ x : Cl (Grow wi), x.w.cell? ⟨b, off + (m + 1) * 6 + 1, none⟩ = some (.int .i64 e.prio)) ∧ (∀ x : Cl (Grow wi), x.w.cell? ⟨b, off + (m + 1) * 6 + 2, none⟩ = some (.slice a0 e.m.vs.length k0)) ∧ (∀ x : Cl (Grow wi), x.w.cell? ⟨b, off + (m + 1) * 6 + 3, none⟩ = some (.slice a1 e.m.ms.length k1)) ∧ (∀ x : Cl (Grow wi), x.w.cell? ⟨b, off + (m + 1) * 6 + 4, none⟩ = some (.slice a2 e.acts.length k2)) ∧ (∀ x : Cl (Grow wi), x.w.cell? ⟨b, off + (m + 1) * 6 + 5, none⟩ = some (.int .i64 e.hits)) := ⟨fun x => ((HE.out.grow HI.out).grow x.ok).1, fun x => ((HE.out.grow HI.out).grow x.ok).2.1, fun x => ((HE.out.grow HI.out).grow x.ok).2.2.1, fun x => ((HE.out.grow HI.out).grow x.ok).2.2.2.1, fun x => ((HE.out.grow HI.out).grow x.ok).2.2.2.2.1, fun x => ((HE.out.grow HI.out).grow x.ok).2.2.2.2.2.1⟩
            refine wp_region_mix (Cls (Grow wi)) 16 #[false, false, false, false, false, false, false, false, false, false, false, false, false, false, false, false] (by kernel_rfl) (by kernel_rfl) ⟨⟨_, Grow.drewN _ 1⟩, rfl⟩ ?_
            refine anyC_seg [0, 1, 2, 3, 4, 5, 6, 7, 8, 9, 10, 11, 12] #[true, true, true, true, true, true, true, true, true, true, true, true, true, false, false, false] (fuel := 3) rfl (by kernel_rfl) ⟨⟨_, Grow.drewN _ 1⟩, rfl⟩ ?_
            simp only [pickOps, List.getD_cons_succ, List.getD_cons_zero]
            repeat (go_big_quiet_step (fail))
            refine wpQuiet_nil ?_
            refine anyC_sole 13 #[true, true, true, true, true, true, true, true, true, true, true, true, true, true, false, false] (fuel := 2) (by kernel_rfl) ?_
            simp only [List.getD_cons_succ, List.getD_cons_zero]
            go_wp2_with fail
            refine (befS_any _ _ _ g e (RQ.out.grow (Grow.drewN _ 1)) ((RE.out.grow HI.out).grow (Grow.drewN _ 1))).mono ?_
            rintro _ w8 ⟨rfl, hg⟩
            rw [hbq]
            have D8 := Lib.hid ((Grow.drewN _ 1).trans hg); clear hg
            go_wp2
            refine ⟨⟨⟨_, D8.out⟩, rfl⟩, ?_⟩
            refine anyC_seg [14, 15] #[true, true, true, true, true, true, true, true, true, true, true, true, true, true, true, true] (fuel := 0) rfl (by kernel_rfl) ⟨⟨_, D8.out⟩, rfl⟩ ?_
            simp only [pickOps, List.getD_cons_succ, List.getD_cons_zero]
            repeat (go_big_quiet_step (fail))
            refine wpQuiet_nil ?_
            refine anyC_done (by kernel_rfl) ?_
            go_wp2_with fail
            have HI := Lib.hid (HI.out.trans D8.out)
            have HQ := Lib.hid (HQ.out.grow D8.out)
            have RQ := Lib.hid HQ.out.rd
            clear x0 x1 x2 x3 x4 x5 y0 y1 y2 y3 y4 y5 p0 p1 hne
            obtain ⟨wj, hwj⟩ : ∃ wj : World, wj = w8 := ⟨_, rfl⟩
            subst hwj
            have hne : Nonempty (Cl (Grow wj)) := ⟨⟨wj, Grow.refl _⟩⟩
            have ⟨p0, p1⟩ := (B0.out.grow (GE.out.trans HI.out)).two_
            obtain ⟨x0, x1, x2, x3, x4, x5⟩ : (∀ x : Cl (Grow wj), x.w.cell? ⟨b, off + q * 6, none⟩ = some (.int .i64 g.epoch)) ∧ (∀ x : Cl (Grow wj), x.w.cell? ⟨b, off + q * 6 + 1, none⟩ = some (.int .i64 g.prio)) ∧ (∀ x : Cl (Grow wj), x.w.cell? ⟨b, off + q * 6 + 2, none⟩ = some (.slice a6 g.m.vs.length k6)) ∧ (∀ x : Cl (Grow wj), x.w.cell? ⟨b, off + q * 6 + 3, none⟩ = some (.slice a7 g.m.ms.length k7)) ∧ (∀ x : Cl (Grow wj), x.w.cell? ⟨b, off + q * 6 + 4, none⟩ = some (.slice a8 g.acts.length k8)) ∧ (∀ x : Cl (Grow wj), x.w.cell? ⟨b, off + q * 6 + 5, none⟩ = some (.int .i64 g.hits)) := ⟨fun x => (HQ.out.grow x.ok).1, fun x => (HQ.out.grow x.ok).2.1, fun x => (HQ.out.grow x.ok).2.2.1, fun x => (HQ.out.grow x.ok).2.2.2.1, fun x => (HQ.out.grow x.ok).2.2.2.2.1, fun x => (HQ.out.grow x.ok).2.2.2.2.2.1⟩
            obtain ⟨y0, y1, y2, y3, y4, y5⟩ : (∀ x : Cl (Grow wj), x.w.cell? ⟨b, off + (m + 1) * 6, none⟩ = some (.int .i64 e.epoch)) ∧ (∀ x : Cl (Grow wj), x.w.cell? ⟨b, off + (m + 1) * 6 + 1, none⟩ = some (.int .i64 e.prio)) ∧ (∀ x : Cl (Grow wj), x.w.cell? ⟨b, off + (m + 1) * 6 + 2, none⟩ = some (.slice a0 e.m.vs.length k0)) ∧ (∀ x : Cl (Grow wj), x.w.cell? ⟨b, off + (m + 1) * 6 + 3, none⟩ = some (.slice a1 e.m.ms.length k1)) ∧ (∀ x : Cl (Grow wj), x.w.cell? ⟨b, off + (m + 1) * 6 + 4, none⟩ = some (.slice a2 e.acts.length k2)) ∧ (∀ x : Cl (Grow wj), x.w.cell? ⟨b, off + (m + 1) * 6 + 5, none⟩ = some (.int .i64 e.hits)) := ⟨fun x => ((HE.out.grow HI.out).grow x.ok).1, fun x => ((HE.out.grow HI.out).grow x.ok).2.1, fun x => ((HE.out.grow HI.out).grow x.ok).2.2.1, fun x => ((HE.out.grow HI.out).grow x.ok).2.2.2.1, fun x => ((HE.out.grow HI.out).grow x.ok).2.2.2.2.1, fun x => ((HE.out.grow HI.out).grow x.ok).2.2.2.2.2.1⟩
            refine wp_region_mix (Cls (Grow wj)) 11 #[false, false, false, false, false, false, false, false, false, false, false] (by kernel_rfl) (by kernel_rfl) ⟨⟨_, Grow.drewN _ 1⟩, rfl⟩ ?_
            refine anyC_seg [0, 1, 2, 3, 4, 5, 6, 7, 8, 9] #[true, true, true, true, true, true, true, true, true, true, false] (fuel := 1) rfl (by kernel_rfl) ⟨⟨_, Grow.drewN _ 1⟩, rfl⟩ ?_
            simp only [pickOps, List.getD_cons_succ, List.getD_cons_zero]
            repeat (go_big_quiet_step (fail))
            refine wpQuiet_nil ?_
            refine anyC_sole 10 #[true, true, true, true, true, true, true, true, true, true, true] (fuel := 0) (by kernel_rfl) ?_
            simp only [List.getD_cons_succ, List.getD_cons_zero]
            go_wp2_with fail
            refine (keyS_any _ _ _ g e (RQ.out.grow (Grow.drewN _ 1)) ((RE.out.grow HI.out).grow (Grow.drewN _ 1)) WFQ.out WE.out).mono ?_
            rintro _ w9 ⟨rfl, hg⟩
            rw [hkb]
            have D9 := Lib.hid ((Grow.drewN _ 1).trans hg); clear hg
            go_wp2
            refine ⟨⟨⟨_, D9.out⟩, rfl⟩, ?_⟩
            refine anyC_done (by kernel_rfl) ?_
            go_wp2
            go_ret
            exact ⟨ret_bool HX.out.symm, GB.out.trans (GE.out.trans (HI.out.trans D9.out))⟩
    · obtain rfl : k = es.length := by omega
      have HX := Lib.hid (HY.out HR.out)
      go_wp2
      go_ret
      exact ⟨ret_bool HX.out.symm, GB.out.trans (HG.out.trans (by ((repeat (first | with_reducible exact Grow.refl _ | (with_reducible refine Grow.alloc_ ?_ _) | (with_reducible refine Grow.setCell_ ?_ (by first | exact Nat.le_refl _ | (simp only [World.alloc, Array.size_push]; omega) | omega) _))))))⟩
--%
end Go.Proofs.Ytgigdpdmdldhnaa
