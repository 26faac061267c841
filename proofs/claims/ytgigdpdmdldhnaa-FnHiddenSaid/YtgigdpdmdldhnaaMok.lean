/- MatchOk: contracts of the code. -/
import Derived.Test.YtgigdpdmdldhnaaMt
import Derived.WalkKit
import Derived.ProofKit
import Derived.Deep.QuietTactic
import Derived.BigQuiet
import Derived.Outline
import Derived.WalkSpells
namespace Go.Proofs.Ytgigdpdmdldhnaa
open Go.ChangeShapes Go.WideShapes Go.ChangeAt Go.RowKit
set_option linter.unusedVariables false
set_option linter.unusedSimpArgs false
--% MatchOkI 94
theorem matchOkI_any (w : World) (V : Value) (d : DatM) (h : RdM w V d) (wf : WfM d) : Calls Try.prog 94 #[V] w (RetV (.bool (mtOk d)) w) := by
  obtain ⟨v, v', rfl, hv, hv'⟩ := h
  obtain ⟨a, c, rfl, hlc, hm, hn, hc⟩ := Rd.ints hv
  obtain ⟨a', c', rfl, hlc', hm', hn', hc'⟩ := Rd.ints hv'
  have HV := Lib.hid hv; have HV' := Lib.hid hv'
  have H := Lib.hid hc; have H' := Lib.hid hc'
  have WF := Lib.hid wf
  clear hv hv' hn hn' hc hc' wf
  unfold maxLen at hm hm'
  by_cases h8 : d.vs.length = 8
  rotate_left
  · have hb : ((d.vs.length : Int) != 8) = true := by simp; omega
    have HE := Lib.hid (mtOk_len h8); clear h8
    go_enter Try.func94, Try.ntmps94
    go_wp2
    go_ret
    refine ⟨ret_bool HE.out.symm, ?_⟩
    ((repeat (first | with_reducible exact Grow.refl _ | (with_reducible refine Grow.alloc_ ?_ _) | (with_reducible refine Grow.setCell_ ?_ (by first | exact Nat.le_refl _ | (simp only [World.alloc, Array.size_push]; omega) | omega) _))))
  have hb : ((d.vs.length : Int) != 8) = false := by simp [h8]
  have H8 := Lib.hid h8; clear h8
  cases hok : hdOk d.ms
  · have HE := Lib.hid (mtOk_ms hok)
    go_enter Try.func94, Try.ntmps94
    go_wp2_with fail
    refine at_world (w := w) ?G (fun hG => (fitsAll_any _ _ _ (HV'.out.grow hG)).mono ?_)
    case G => ((repeat (first | with_reducible exact Grow.refl _ | (with_reducible refine Grow.alloc_ ?_ _) | (with_reducible refine Grow.setCell_ ?_ (by first | exact Nat.le_refl _ | (simp only [World.alloc, Array.size_push]; omega) | omega) _))))
    rintro e w1 ⟨rfl, hg⟩
    rw [hok]
    have HG := Lib.hid (hG.trans hg); clear hG hg
    go_wp2
    go_ret
    exact ⟨ret_bool HE.out.symm, HG.out⟩
  have HM8 := Lib.hid (hdOk_at hok)
  go_enter Try.func94, Try.ntmps94
  go_wp2_with fail
  refine at_world (w := w) ?G (fun hG => (fitsAll_any _ _ _ (HV'.out.grow hG)).mono ?_)
  case G => ((repeat (first | with_reducible exact Grow.refl _ | (with_reducible refine Grow.alloc_ ?_ _) | (with_reducible refine Grow.setCell_ ?_ (by first | exact Nat.le_refl _ | (simp only [World.alloc, Array.size_push]; omega) | omega) _))))
  rintro e w1 ⟨rfl, hg⟩
  rw [hok]
  have HG := Lib.hid (hG.trans hg)
  have BX := Lib.hid ((Box.alloc w _ _).grow hg)
  clear hG hg
  have ⟨q0, q1⟩ := BX.out.two
  go_wp2
  clear q0 q1
  go_loopw [18] (fun i wr => ∃ k : Nat, k ≤ 8 ∧ i = .int .i64 k ∧ (∀ j, j < k → mtAt d j = true) ∧ Grow w1 wr) (fun i _ => 8 - (intOf i).toNat)
  case atStart => exact ⟨0, Nat.zero_le _, rfl, fun j hj => absurd hj (Nat.not_lt_zero _), Grow.refl _⟩
  case round =>
    obtain ⟨k, hk, rfl, hal, hgr⟩ := hrel
    have HA := Lib.hid hal; have HW := Lib.hid hgr
    have HG := Lib.hid (HG.out.trans hgr)
    have ⟨q0, q1⟩ := (BX.out.grow hgr).two
    clear hal hgr
    by_cases hlt : k < 8
    · have hln : k < d.vs.length := by rw [H8.out]; exact hlt
      have hlm : k < d.ms.length := by rw [HM8.out.1]; exact hlt
      obtain ⟨b, o, rfl, hcs⟩ := H.out k hln
      obtain ⟨b', o', rfl, hcs'⟩ := H'.out k hlm
      have hc1 := HG.out.cell hcs
      have hc2 := HG.out.cell hcs'
      have hmb := fitB_bd (HM8.out.2 k hlt)
      rw [getD_at hlm] at hmb
      have hvb : -9223372036854775808 ≤ d.vs[k] ∧ d.vs[k] ≤ 9223372036854775807 := WF.out.1 _ (List.getElem_mem _)
      clear hcs hcs'
      by_cases hneg : d.vs[k] < 0
      · have HE := Lib.hid (mtOk_no k hlt (mtAt_neg (by rw [getD_at hln]; exact hneg)))
        go_wp2
        go_ret
        exact ⟨ret_bool HE.out.symm, HG.out⟩
      have hiff := andNot_zero (a := d.vs[k]) (b := d.ms[k]) (by omega) (by omega) (by omega) (by omega)
      have hd1 : nv d.vs k = d.vs[k].toNat := by unfold nv; rw [getD_at hln]
      have hd2 : nv d.ms k = d.ms[k].toNat := by unfold nv; rw [getD_at hlm]
      by_cases hor : d.vs[k].toNat ||| d.ms[k].toNat = d.ms[k].toNat
      · have hb1 : (bits .andNot .i64 d.vs[k] d.ms[k] != 0) = false := by rw [hiff.2 hor]; rfl
        have HK : Hid (mtAt d k = true) := Lib.hid (mtAt_iff.2 ⟨by rw [getD_at hln]; omega, by rw [hd1, hd2]; exact hor⟩)
        clear hiff hd1 hd2 hor
        go_wp2
        go_roundw
        case rel => exact ⟨k + 1, by omega, by go_num, below_succ (p := fun j => mtAt d j) HA.out HK.out, HW.out⟩
        case measure => simp [intOf]; omega
      · have hb1 : (bits .andNot .i64 d.vs[k] d.ms[k] != 0) = true := by simpa using fun h => hor (hiff.1 h)
        have HE := Lib.hid (mtOk_no k hlt (mtAt_or (d := d) (by rw [hd1, hd2]; exact hor)))
        clear hiff hd1 hd2 hor
        go_wp2
        go_ret
        exact ⟨ret_bool HE.out.symm, HG.out⟩
    · obtain rfl : k = 8 := by omega
      have HE := Lib.hid (mtOk_yes H8.out hok HA.out)
      have h8 := H8.out
      go_wp2
      go_ret
      exact ⟨ret_bool HE.out.symm, HG.out⟩
--% MatchOkS 91
theorem matchOkS_any (w : World) (V : Value) (d : DatM) (h : RdM w V d) (wf : WfM d) : Calls Try.prog 91 #[V] w (RetV (.bool (mtOk d)) w) := by
  obtain ⟨v, v', rfl, hv, hv'⟩ := h
  obtain ⟨a, c, rfl, hlc, hm, hn, hc⟩ := Rd.ints hv
  obtain ⟨a', c', rfl, hlc', hm', hn', hc'⟩ := Rd.ints hv'
  have H := Lib.hid hc; have H' := Lib.hid hc'
  have WF := Lib.hid wf
  clear hv hv' hn hn' hc hc' wf
  unfold maxLen at hm hm'
  by_cases h8 : d.vs.length = 8
  rotate_left
  · have hb : ((d.vs.length : Int) != 8) = true := by simp; omega
    have HE := Lib.hid (mtOk_len h8); clear h8
    go_enter Try.func91, Try.ntmps91
    go_wp2
    go_ret
    refine ⟨ret_bool HE.out.symm, ?_⟩
    ((repeat (first | with_reducible exact Grow.refl _ | (with_reducible refine Grow.alloc_ ?_ _) | (with_reducible refine Grow.setCell_ ?_ (by first | exact Nat.le_refl _ | (simp only [World.alloc, Array.size_push]; omega) | omega) _))))
  have hb : ((d.vs.length : Int) != 8) = false := by simp [h8]
  have H8 := Lib.hid h8; clear h8
  by_cases h8' : d.ms.length = 8
  rotate_left
  · have hb' : ((d.ms.length : Int) != 8) = true := by simp; omega
    have HE := Lib.hid (mtOk_ms (hdOk_len h8')); clear h8'
    go_enter Try.func91, Try.ntmps91
    go_wp2
    go_ret
    refine ⟨ret_bool HE.out.symm, ?_⟩
    ((repeat (first | with_reducible exact Grow.refl _ | (with_reducible refine Grow.alloc_ ?_ _) | (with_reducible refine Grow.setCell_ ?_ (by first | exact Nat.le_refl _ | (simp only [World.alloc, Array.size_push]; omega) | omega) _))))
  have hb' : ((d.ms.length : Int) != 8) = false := by simp [h8']
  have H8' := Lib.hid h8'; clear h8'
  go_enter Try.func91, Try.ntmps91
  go_wp2
  have BX := Lib.hid (Box.alloc w [Value.slice a d.vs.length c, Value.slice a' d.ms.length c'] 66)
  have HG0 := Lib.hid (Grow.alloc w (Obj.cells #[Value.slice a d.vs.length c, Value.slice a' d.ms.length c'] 66))
  have BX : Hid (Box (w.alloc (Obj.cells #[Value.slice a d.vs.length c, Value.slice a' d.ms.length c'] 66)) w.heap.size [Value.slice a d.vs.length c, Value.slice a' d.ms.length c']) := BX
  generalize w.alloc (Obj.cells #[Value.slice a d.vs.length c, Value.slice a' d.ms.length c'] 66) = W0 at *
  go_loopw [3] (fun i wr => ∃ k : Nat, k ≤ 8 ∧ i = .int .i64 k ∧ (∀ j, j < k → mtAt d j = true ∧ fitB (j : Nat) (d.ms.getD j 0) = true) ∧ Grow W0 wr) (fun i _ => 8 - (intOf i).toNat)
  case atStart => exact ⟨0, Nat.zero_le _, rfl, fun j hj => absurd hj (Nat.not_lt_zero _), Grow.refl _⟩
  case round =>
    obtain ⟨k, hk, rfl, hal, hgr⟩ := hrel
    have HA := Lib.hid hal; have HW := Lib.hid hgr
    have HG := Lib.hid (HG0.out.trans hgr)
    have BK := Lib.hid (BX.out.grow hgr)
    clear hal hgr
    by_cases hlt : k < 8
    · have hln : k < d.vs.length := by rw [H8.out]; exact hlt
      have hlm : k < d.ms.length := by rw [H8'.out]; exact hlt
      obtain ⟨b, o, rfl, hcs⟩ := H.out k hln
      obtain ⟨b', o', rfl, hcs'⟩ := H'.out k hlm
      have HC1 := Lib.hid (HG.out.cell hcs)
      have HC2 := Lib.hid (HG.out.cell hcs')
      have hvb : -9223372036854775808 ≤ d.vs[k] ∧ d.vs[k] ≤ 9223372036854775807 := WF.out.1 _ (List.getElem_mem _)
      have hmb0 : -9223372036854775808 ≤ d.ms[k] ∧ d.ms[k] ≤ 9223372036854775807 := WF.out.2 _ (List.getElem_mem _)
      clear hcs hcs'
      go_wp2_with fail
      have hne : Nonempty (Cl (Grow wr)) := ⟨⟨wr, Grow.refl _⟩⟩
      have ⟨p0, p1⟩ := BK.out.two_
      have hx1 : ∀ x : Cl (Grow wr), x.w.cell? ⟨b, o + k, none⟩ = some (.int .i64 d.vs[k]) := fun x => x.ok.cell HC1.out
      have hx2 : ∀ x : Cl (Grow wr), x.w.cell? ⟨b', o' + k, none⟩ = some (.int .i64 d.ms[k]) := fun x => x.ok.cell HC2.out
      cases hf : fitB (k : Nat) d.ms[k]
      · have HE := Lib.hid (mtOk_ms (d := d) (hdOk_no k hlm (by rw [getD_at hlm]; exact hf)))
        refine wp_region_mix (Cls (Grow wr)) 35 #[false, false, false, false, false, false, false, false, false, false, false, false, false, false, false, false, false, false, false, false, false, false, false, false, false, false, false, false, false, false, false, false, false, false, false] (by kernel_rfl) (by kernel_rfl) ⟨⟨_, Grow.drewN _ 1⟩, rfl⟩ ?_
        refine anyC_seg [0, 1, 2, 3, 4, 5] #[true, true, true, true, true, true, false, false, false, false, false, false, false, false, false, false, false, false, false, false, false, false, false, false, false, false, false, false, false, false, false, false, false, false, false] (fuel := 29) rfl (by kernel_rfl) ⟨⟨_, Grow.drewN _ 1⟩, rfl⟩ ?_
        simp only [pickOps, List.getD_cons_succ, List.getD_cons_zero]
        repeat (go_big_quiet_step (fail))
        refine wpQuiet_nil ?_
        refine anyC_sole 6 #[true, true, true, true, true, true, true, false, false, false, false, false, false, false, false, false, false, false, false, false, false, false, false, false, false, false, false, false, false, false, false, false, false, false, false] (fuel := 28) (by kernel_rfl) ?_
        simp only [List.getD_cons_succ, List.getD_cons_zero]
        go_wp2_with fail
        refine (l04Fits_any _ _ _).mono ?_
        rintro e w1 ⟨rfl, hg⟩
        rw [hf]
        have D1 := Lib.hid ((Grow.drewN _ 1).trans hg); clear hg
        go_wp2
        refine ⟨⟨⟨_, D1.out⟩, rfl⟩, ?_⟩
        refine anyC_seg [7, 8, 9, 10, 11, 12, 13, 14, 15, 16, 17, 18, 19, 20, 21, 22, 23, 24, 25, 26, 27, 28, 29, 30, 31, 32, 33, 34] #[true, true, true, true, true, true, true, true, true, true, true, true, true, true, true, true, true, true, true, true, true, true, true, true, true, true, true, true, true, true, true, true, true, true, true] (fuel := 0) rfl (by kernel_rfl) ⟨⟨_, D1.out⟩, rfl⟩ ?_
        simp only [pickOps, List.getD_cons_succ, List.getD_cons_zero]
        repeat (go_big_quiet_step (fail))
        refine wpQuiet_nil ?_
        refine anyC_done (by kernel_rfl) ?_
        go_wp2
        go_ret
        exact ⟨ret_bool HE.out.symm, HG.out.trans D1.out⟩
      have hmb := fitB_bd hf
      by_cases hneg : d.vs[k] < 0
      · have HE := Lib.hid (mtOk_no k hlt (mtAt_neg (by rw [getD_at hln]; exact hneg)))
        refine wp_region_mix (Cls (Grow wr)) 35 #[false, false, false, false, false, false, false, false, false, false, false, false, false, false, false, false, false, false, false, false, false, false, false, false, false, false, false, false, false, false, false, false, false, false, false] (by kernel_rfl) (by kernel_rfl) ⟨⟨_, Grow.drewN _ 1⟩, rfl⟩ ?_
        refine anyC_seg [0, 1, 2, 3, 4, 5] #[true, true, true, true, true, true, false, false, false, false, false, false, false, false, false, false, false, false, false, false, false, false, false, false, false, false, false, false, false, false, false, false, false, false, false] (fuel := 29) rfl (by kernel_rfl) ⟨⟨_, Grow.drewN _ 1⟩, rfl⟩ ?_
        simp only [pickOps, List.getD_cons_succ, List.getD_cons_zero]
        repeat (go_big_quiet_step (fail))
        refine wpQuiet_nil ?_
        refine anyC_sole 6 #[true, true, true, true, true, true, true, false, false, false, false, false, false, false, false, false, false, false, false, false, false, false, false, false, false, false, false, false, false, false, false, false, false, false, false] (fuel := 28) (by kernel_rfl) ?_
        simp only [List.getD_cons_succ, List.getD_cons_zero]
        go_wp2_with fail
        refine (l04Fits_any _ _ _).mono ?_
        rintro e w1 ⟨rfl, hg⟩
        rw [hf]
        have D1 := Lib.hid ((Grow.drewN _ 1).trans hg); clear hg
        go_wp2
        refine ⟨⟨⟨_, D1.out⟩, rfl⟩, ?_⟩
        refine anyC_seg [7, 8, 9, 10, 11, 12, 13, 14, 15, 16, 17, 18, 19, 20, 21, 22, 23, 24, 25, 26, 27, 28, 29, 30, 31, 32, 33, 34] #[true, true, true, true, true, true, true, true, true, true, true, true, true, true, true, true, true, true, true, true, true, true, true, true, true, true, true, true, true, true, true, true, true, true, true] (fuel := 0) rfl (by kernel_rfl) ⟨⟨_, D1.out⟩, rfl⟩ ?_
        simp only [pickOps, List.getD_cons_succ, List.getD_cons_zero]
        repeat (go_big_quiet_step (fail))
        refine wpQuiet_nil ?_
        refine anyC_done (by kernel_rfl) ?_
        go_wp2
        go_ret
        exact ⟨ret_bool HE.out.symm, HG.out.trans D1.out⟩
      have hiff := or_self_iff (a := d.vs[k]) (b := d.ms[k]) (by omega) (by omega) (by omega) (by omega)
      have hd1 : nv d.vs k = d.vs[k].toNat := by unfold nv; rw [getD_at hln]
      have hd2 : nv d.ms k = d.ms[k].toNat := by unfold nv; rw [getD_at hlm]
      by_cases hor : d.vs[k].toNat ||| d.ms[k].toNat = d.ms[k].toNat
      · have hb1 : (bits .or .i64 d.vs[k] d.ms[k] != d.ms[k]) = false := by rw [hiff.2 hor]; simp
        have HK : Hid (mtAt d k = true ∧ fitB (k : Nat) (d.ms.getD k 0) = true) := Lib.hid ⟨mtAt_iff.2 ⟨by rw [getD_at hln]; omega, by rw [hd1, hd2]; exact hor⟩, by rw [getD_at hlm]; exact hf⟩
        have hdn : decide (d.vs[k] < 0) = false := decide_eq_false hneg
        clear hiff hd1 hd2 hor
        refine wp_region_mix (Cls (Grow wr)) 35 #[false, false, false, false, false, false, false, false, false, false, false, false, false, false, false, false, false, false, false, false, false, false, false, false, false, false, false, false, false, false, false, false, false, false, false] (by kernel_rfl) (by kernel_rfl) ⟨⟨_, Grow.drewN _ 1⟩, rfl⟩ ?_
        refine anyC_seg [0, 1, 2, 3, 4, 5] #[true, true, true, true, true, true, false, false, false, false, false, false, false, false, false, false, false, false, false, false, false, false, false, false, false, false, false, false, false, false, false, false, false, false, false] (fuel := 29) rfl (by kernel_rfl) ⟨⟨_, Grow.drewN _ 1⟩, rfl⟩ ?_
        simp only [pickOps, List.getD_cons_succ, List.getD_cons_zero]
        repeat (go_big_quiet_step (fail))
        refine wpQuiet_nil ?_
        refine anyC_sole 6 #[true, true, true, true, true, true, true, false, false, false, false, false, false, false, false, false, false, false, false, false, false, false, false, false, false, false, false, false, false, false, false, false, false, false, false] (fuel := 28) (by kernel_rfl) ?_
        simp only [List.getD_cons_succ, List.getD_cons_zero]
        go_wp2_with fail
        refine (l04Fits_any _ _ _).mono ?_
        rintro e w1 ⟨rfl, hg⟩
        rw [hf]
        have D1 := Lib.hid ((Grow.drewN _ 1).trans hg); clear hg
        go_wp2
        refine ⟨⟨⟨_, D1.out⟩, rfl⟩, ?_⟩
        refine anyC_seg [7, 8, 9, 10, 11, 12, 13, 14, 15, 16, 17, 18, 19, 20, 21, 22, 23, 24, 25, 26, 27, 28, 29, 30, 31, 32, 33, 34] #[true, true, true, true, true, true, true, true, true, true, true, true, true, true, true, true, true, true, true, true, true, true, true, true, true, true, true, true, true, true, true, true, true, true, true] (fuel := 0) rfl (by kernel_rfl) ⟨⟨_, D1.out⟩, rfl⟩ ?_
        simp only [pickOps, List.getD_cons_succ, List.getD_cons_zero]
        repeat (go_big_quiet_step (fail))
        refine wpQuiet_nil ?_
        refine anyC_done (by kernel_rfl) ?_
        go_wp2
        go_roundw
        case rel =>
          refine ⟨k + 1, by omega, by go_num, fun j hj => ?_, HW.out.trans D1.out⟩
          rcases Nat.lt_or_ge j k with h' | h'
          · exact HA.out j h'
          · obtain rfl : j = k := by omega
            exact HK.out
        case measure => simp [intOf]; omega
      · have hb1 : (bits .or .i64 d.vs[k] d.ms[k] != d.ms[k]) = true := by simpa using fun h => hor (hiff.1 h)
        have HE := Lib.hid (mtOk_no k hlt (mtAt_or (d := d) (by rw [hd1, hd2]; exact hor)))
        have hdn : decide (d.vs[k] < 0) = false := decide_eq_false hneg
        clear hiff hd1 hd2 hor
        refine wp_region_mix (Cls (Grow wr)) 35 #[false, false, false, false, false, false, false, false, false, false, false, false, false, false, false, false, false, false, false, false, false, false, false, false, false, false, false, false, false, false, false, false, false, false, false] (by kernel_rfl) (by kernel_rfl) ⟨⟨_, Grow.drewN _ 1⟩, rfl⟩ ?_
        refine anyC_seg [0, 1, 2, 3, 4, 5] #[true, true, true, true, true, true, false, false, false, false, false, false, false, false, false, false, false, false, false, false, false, false, false, false, false, false, false, false, false, false, false, false, false, false, false] (fuel := 29) rfl (by kernel_rfl) ⟨⟨_, Grow.drewN _ 1⟩, rfl⟩ ?_
        simp only [pickOps, List.getD_cons_succ, List.getD_cons_zero]
        repeat (go_big_quiet_step (fail))
        refine wpQuiet_nil ?_
        refine anyC_sole 6 #[true, true, true, true, true, true, true, false, false, false, false, false, false, false, false, false, false, false, false, false, false, false, false, false, false, false, false, false, false, false, false, false, false, false, false] (fuel := 28) (by kernel_rfl) ?_
        simp only [List.getD_cons_succ, List.getD_cons_zero]
        go_wp2_with fail
        refine (l04Fits_any _ _ _).mono ?_
        rintro e w1 ⟨rfl, hg⟩
        rw [hf]
        have D1 := Lib.hid ((Grow.drewN _ 1).trans hg); clear hg
        go_wp2
        refine ⟨⟨⟨_, D1.out⟩, rfl⟩, ?_⟩
        refine anyC_seg [7, 8, 9, 10, 11, 12, 13, 14, 15, 16, 17, 18, 19, 20, 21, 22, 23, 24, 25, 26, 27, 28, 29, 30, 31, 32, 33, 34] #[true, true, true, true, true, true, true, true, true, true, true, true, true, true, true, true, true, true, true, true, true, true, true, true, true, true, true, true, true, true, true, true, true, true, true] (fuel := 0) rfl (by kernel_rfl) ⟨⟨_, D1.out⟩, rfl⟩ ?_
        simp only [pickOps, List.getD_cons_succ, List.getD_cons_zero]
        repeat (go_big_quiet_step (fail))
        refine wpQuiet_nil ?_
        refine anyC_done (by kernel_rfl) ?_
        go_wp2
        go_ret
        exact ⟨ret_bool HE.out.symm, HG.out.trans D1.out⟩
    · obtain rfl : k = 8 := by omega
      have HE := Lib.hid (mtOk_yes H8.out (hdOk_yes H8'.out (fun i hi => (HA.out i (by rw [H8'.out] at hi; exact hi)).2)) (fun i hi => (HA.out i hi).1))
      go_wp2
      go_ret
      exact ⟨ret_bool HE.out.symm, HG.out⟩
--%
end Go.Proofs.Ytgigdpdmdldhnaa
