/- Hits, Covers, Meets of the program: contracts of the code (printed by gm.py). -/
import Derived.Test.YtgigdpdmdldhnaaMok
import Derived.WalkKit
import Derived.ProofKit
import Derived.Deep.QuietTactic
import Derived.BigQuiet
import Derived.Outline
import Derived.WalkSpells
namespace Go.Proofs.Ytgigdpdmdldhnaa
open Go.ChangeShapes Go.WideShapes Go.ChangeAt Go.RowKit
set_option linter.unusedVariables false
set_option linter.unusedSimpArgs false
--% HitsI 106
theorem hitsI_any (w : World) (V U : Value) (a : DatM) (b : DatH) (h : RdM w V a) (h2 : RdH w U b) (wa : WfM a) (wb : WfH b) : Calls Try.prog 106 #[V, U] w (RetV (.bool (hitOk a b.vs)) w) := by
  obtain ⟨v0, v1, rfl, hv0, hv1⟩ := h
  obtain ⟨v2, rfl, hv2⟩ := h2
  have R0 := Lib.hid hv0
  obtain ⟨a0, c0, rfl, hlc0, hm0, hn0, hc0⟩ := Rd.ints hv0
  have H0 := Lib.hid hc0
  unfold maxLen at hm0
  clear hv0 hn0 hc0
  have R1 := Lib.hid hv1
  obtain ⟨a1, c1, rfl, hlc1, hm1, hn1, hc1⟩ := Rd.ints hv1
  have H1 := Lib.hid hc1
  unfold maxLen at hm1
  clear hv1 hn1 hc1
  have R2 := Lib.hid hv2
  obtain ⟨a2, c2, rfl, hlc2, hm2, hn2, hc2⟩ := Rd.ints hv2
  have H2 := Lib.hid hc2
  unfold maxLen at hm2
  clear hv2 hn2 hc2
  cases hoka : mtOk a
  · have HE : Hid ((hitOk a b.vs) = false) := Lib.hid (by simp [hitOk, hoka])
    go_enter Try.func106, Try.ntmps106
    go_wp2_with fail
    refine at_world (w := w) ?G (fun hG => (matchOkI_any _ _ a ⟨_, _, rfl, R0.out.grow hG, R1.out.grow hG⟩ wa).mono ?_)
    case G => ((repeat (first | with_reducible exact Grow.refl _ | (with_reducible refine Grow.alloc_ ?_ _) | (with_reducible refine Grow.setCell_ ?_ (by first | exact Nat.le_refl _ | (simp only [World.alloc, Array.size_push]; omega) | omega) _))))
    rintro e w1 ⟨rfl, hg⟩
    rw [hoka]
    have G1 := Lib.hid (hG.trans hg)
    have BA := Lib.hid ((Box.alloc w _ _).grow ((Grow.alloc _ _).trans hg))
    have BB := Lib.hid (((Box.alloc (w.alloc _) _ _).grow hg).at_ (b' := w.heap.size + 1) (by simp only [World.alloc, Array.size_push]))
    clear hG hg
    go_wp2
    go_ret
    exact ⟨ret_bool HE.out.symm, G1.out⟩
  cases hokb : hdOk b.vs
  · have HE : Hid ((hitOk a b.vs) = false) := Lib.hid (by simp [hitOk, hokb])
    go_enter Try.func106, Try.ntmps106
    go_wp2_with fail
    refine at_world (w := w) ?G (fun hG => (matchOkI_any _ _ a ⟨_, _, rfl, R0.out.grow hG, R1.out.grow hG⟩ wa).mono ?_)
    case G => ((repeat (first | with_reducible exact Grow.refl _ | (with_reducible refine Grow.alloc_ ?_ _) | (with_reducible refine Grow.setCell_ ?_ (by first | exact Nat.le_refl _ | (simp only [World.alloc, Array.size_push]; omega) | omega) _))))
    rintro e w1 ⟨rfl, hg⟩
    rw [hoka]
    have G1 := Lib.hid (hG.trans hg)
    have BA := Lib.hid ((Box.alloc w _ _).grow ((Grow.alloc _ _).trans hg))
    have BB := Lib.hid (((Box.alloc (w.alloc _) _ _).grow hg).at_ (b' := w.heap.size + 1) (by simp only [World.alloc, Array.size_push]))
    clear hG hg
    have r0 := BB.out.one
    go_wp2_with fail
    refine (headOkI_any _ _ b ⟨_, rfl, R2.out.grow G1.out⟩).mono ?_
    rintro e w2 ⟨rfl, hg⟩
    rw [hokb]
    have G2 := Lib.hid (G1.out.trans hg)
    have BA := Lib.hid (BA.out.grow hg)
    have BB := Lib.hid (BB.out.grow hg)
    clear hg r0
    go_wp2
    go_ret
    exact ⟨ret_bool HE.out.symm, G2.out⟩
  have KA := Lib.hid (mtOk_at hoka)
  have KB := Lib.hid (hdOk_at hokb)
  have L0 := Lib.hid (mtOk_iff.1 hoka).1; have L1 := Lib.hid (hdOk_at (mtOk_iff.1 hoka).2.1).1
  have L2 := Lib.hid (hdOk_at hokb).1
  have HY : Hid ((∀ i, i < 8 → hitAt a b.vs i = true) → (hitOk a b.vs) = true) := Lib.hid (fun h => by simp [hitOk, hoka, hokb, allB_true h])
  have HN : Hid (∀ i, i < 8 → hitAt a b.vs i = false → (hitOk a b.vs) = false) := Lib.hid (fun i hi h => by simp [hitOk, allB_false i hi h])
  go_enter Try.func106, Try.ntmps106
  go_wp2_with fail
  refine at_world (w := w) ?G (fun hG => (matchOkI_any _ _ a ⟨_, _, rfl, R0.out.grow hG, R1.out.grow hG⟩ wa).mono ?_)
  case G => ((repeat (first | with_reducible exact Grow.refl _ | (with_reducible refine Grow.alloc_ ?_ _) | (with_reducible refine Grow.setCell_ ?_ (by first | exact Nat.le_refl _ | (simp only [World.alloc, Array.size_push]; omega) | omega) _))))
  rintro e w1 ⟨rfl, hg⟩
  rw [hoka]
  have G1 := Lib.hid (hG.trans hg)
  have BA := Lib.hid ((Box.alloc w _ _).grow ((Grow.alloc _ _).trans hg))
  have BB := Lib.hid (((Box.alloc (w.alloc _) _ _).grow hg).at_ (b' := w.heap.size + 1) (by simp only [World.alloc, Array.size_push]))
  clear hG hg
  have r0 := BB.out.one
  go_wp2_with fail
  refine (headOkI_any _ _ b ⟨_, rfl, R2.out.grow G1.out⟩).mono ?_
  rintro e w2 ⟨rfl, hg⟩
  rw [hokb]
  have G2 := Lib.hid (G1.out.trans hg)
  have BA := Lib.hid (BA.out.grow hg)
  have BB := Lib.hid (BB.out.grow hg)
  clear hg r0
  have r0 := BB.out.one
  go_wp2
  clear r0
  go_loopw [18] (fun i wr => ∃ k : Nat, k ≤ 8 ∧ i = .int .i64 k ∧ (∀ j, j < k → hitAt a b.vs j = true) ∧ Grow w2 wr) (fun i _ => 8 - (intOf i).toNat)
  case atStart => exact ⟨0, Nat.zero_le _, rfl, fun j hj => absurd hj (Nat.not_lt_zero _), Grow.refl _⟩
  case round =>
    obtain ⟨k, hk, rfl, hal, hgr⟩ := hrel
    have HA := Lib.hid hal; have HW := Lib.hid hgr
    have HG := Lib.hid (G2.out.trans hgr)
    have BAk := Lib.hid (BA.out.grow hgr)
    have BBk := Lib.hid (BB.out.grow hgr)
    clear hal hgr
    by_cases hlt : k < 8
    · skip
      have hl0 : k < a.vs.length := by rw [L0.out]; exact hlt
      obtain ⟨b0, o0, rfl, hcs0⟩ := H0.out k hl0
      have C0 := Lib.hid (HG.out.cell hcs0)
      have hd0 : nv a.vs k = a.vs[k].toNat := by unfold nv; rw [getD_at hl0]
      clear hcs0
      have hl1 : k < a.ms.length := by rw [L1.out]; exact hlt
      obtain ⟨b1, o1, rfl, hcs1⟩ := H1.out k hl1
      have C1 := Lib.hid (HG.out.cell hcs1)
      have hd1 : nv a.ms k = a.ms[k].toNat := by unfold nv; rw [getD_at hl1]
      clear hcs1
      have hl2 : k < b.vs.length := by rw [L2.out]; exact hlt
      obtain ⟨b2, o2, rfl, hcs2⟩ := H2.out k hl2
      have C2 := Lib.hid (HG.out.cell hcs2)
      have hd2 : nv b.vs k = b.vs[k].toNat := by unfold nv; rw [getD_at hl2]
      clear hcs2
      have ka := KA.out k hlt
      rw [getD_at hl0, getD_at hl1] at ka
      have ka1 := fitB_bd ka.1
      have kb := fitB_bd (KB.out.2 k hlt)
      rw [getD_at hl2] at kb
      have hz := and_i64 (a := b.vs[k]) (b := a.ms[k]) (by omega) (by omega) (by omega) (by omega)
      by_cases hx : b.vs[k].toNat &&& a.ms[k].toNat = a.vs[k].toNat
      · have hb1 : (bits .and .i64 b.vs[k] a.ms[k] != a.vs[k]) = false := by rw [hz, hx]; simp; omega
        have HK : Hid (hitAt a b.vs k = true) := Lib.hid (by unfold hitAt; rw [hd0, hd1, hd2]; exact decide_eq_true hx)
        clear hz hd0 hd1 hd2 hx
        have cc2 := C2.out
        go_wp2_with fail
        have hne : Nonempty (Cl (Grow wr)) := ⟨⟨wr, Grow.refl _⟩⟩
        have ⟨p0, p1⟩ := BAk.out.two_
        have p2 := BBk.out.one_
        have x0 : ∀ x : Cl (Grow wr), x.w.cell? ⟨b0, o0 + k, none⟩ = some (.int .i64 a.vs[k]) := fun x => x.ok.cell C0.out
        have x1 : ∀ x : Cl (Grow wr), x.w.cell? ⟨b1, o1 + k, none⟩ = some (.int .i64 a.ms[k]) := fun x => x.ok.cell C1.out
        have x2 : ∀ x : Cl (Grow wr), x.w.cell? ⟨b2, o2 + k, none⟩ = some (.int .i64 b.vs[k]) := fun x => x.ok.cell C2.out
        refine wp_region_mix (Cls (Grow wr)) 13 #[false, false, false, false, false, false, false, false, false, false, false, false, false] (by kernel_rfl) (by kernel_rfl) ⟨⟨_, Grow.drewN _ 1⟩, rfl⟩ ?_
        refine anyC_seg [0, 1, 2, 3, 4, 5, 6, 7, 8, 9, 10, 11, 12] #[true, true, true, true, true, true, true, true, true, true, true, true, true] (fuel := 0) rfl (by kernel_rfl) ⟨⟨_, Grow.drewN _ 1⟩, rfl⟩ ?_
        simp only [pickOps, List.getD_cons_succ, List.getD_cons_zero]
        repeat (go_big_quiet_step (fail))
        refine wpQuiet_nil ?_
        refine anyC_done (by kernel_rfl) ?_
        go_wp2
        go_roundw
        case rel => exact ⟨k + 1, by omega, by go_num, below_succ (p := fun j => hitAt a b.vs j) HA.out HK.out, HW.out.trans (Grow.drewN _ 1)⟩
        case measure => simp [intOf]; omega
      · have hb1 : (bits .and .i64 b.vs[k] a.ms[k] != a.vs[k]) = true := by rw [hz]; simp; omega
        have HE : Hid (hitOk a b.vs = false) := Lib.hid (HN.out k hlt (by unfold hitAt; rw [hd0, hd1, hd2]; exact decide_eq_false hx))
        clear hz hd0 hd1 hd2 hx
        have cc2 := C2.out
        go_wp2_with fail
        have hne : Nonempty (Cl (Grow wr)) := ⟨⟨wr, Grow.refl _⟩⟩
        have ⟨p0, p1⟩ := BAk.out.two_
        have p2 := BBk.out.one_
        have x0 : ∀ x : Cl (Grow wr), x.w.cell? ⟨b0, o0 + k, none⟩ = some (.int .i64 a.vs[k]) := fun x => x.ok.cell C0.out
        have x1 : ∀ x : Cl (Grow wr), x.w.cell? ⟨b1, o1 + k, none⟩ = some (.int .i64 a.ms[k]) := fun x => x.ok.cell C1.out
        have x2 : ∀ x : Cl (Grow wr), x.w.cell? ⟨b2, o2 + k, none⟩ = some (.int .i64 b.vs[k]) := fun x => x.ok.cell C2.out
        refine wp_region_mix (Cls (Grow wr)) 13 #[false, false, false, false, false, false, false, false, false, false, false, false, false] (by kernel_rfl) (by kernel_rfl) ⟨⟨_, Grow.drewN _ 1⟩, rfl⟩ ?_
        refine anyC_seg [0, 1, 2, 3, 4, 5, 6, 7, 8, 9, 10, 11, 12] #[true, true, true, true, true, true, true, true, true, true, true, true, true] (fuel := 0) rfl (by kernel_rfl) ⟨⟨_, Grow.drewN _ 1⟩, rfl⟩ ?_
        simp only [pickOps, List.getD_cons_succ, List.getD_cons_zero]
        repeat (go_big_quiet_step (fail))
        refine wpQuiet_nil ?_
        refine anyC_done (by kernel_rfl) ?_
        go_wp2
        go_ret
        exact ⟨ret_bool HE.out.symm, HG.out.trans (Grow.drewN _ 1)⟩
    · obtain rfl : k = 8 := by omega
      have HE := Lib.hid (HY.out HA.out)
      have hl8 := L2.out
      go_wp2
      go_ret
      exact ⟨ret_bool HE.out.symm, HG.out⟩
--% CoversI 110
theorem coversI_any (w : World) (V U : Value) (a : DatM) (b : DatM) (h : RdM w V a) (h2 : RdM w U b) (wa : WfM a) (wb : WfM b) : Calls Try.prog 110 #[V, U] w (RetV (.bool (cvOk a b)) w) := by
  obtain ⟨v0, v1, rfl, hv0, hv1⟩ := h
  obtain ⟨v2, v3, rfl, hv2, hv3⟩ := h2
  have R0 := Lib.hid hv0
  obtain ⟨a0, c0, rfl, hlc0, hm0, hn0, hc0⟩ := Rd.ints hv0
  have H0 := Lib.hid hc0
  unfold maxLen at hm0
  clear hv0 hn0 hc0
  have R1 := Lib.hid hv1
  obtain ⟨a1, c1, rfl, hlc1, hm1, hn1, hc1⟩ := Rd.ints hv1
  have H1 := Lib.hid hc1
  unfold maxLen at hm1
  clear hv1 hn1 hc1
  have R2 := Lib.hid hv2
  obtain ⟨a2, c2, rfl, hlc2, hm2, hn2, hc2⟩ := Rd.ints hv2
  have H2 := Lib.hid hc2
  unfold maxLen at hm2
  clear hv2 hn2 hc2
  have R3 := Lib.hid hv3
  obtain ⟨a3, c3, rfl, hlc3, hm3, hn3, hc3⟩ := Rd.ints hv3
  have H3 := Lib.hid hc3
  unfold maxLen at hm3
  clear hv3 hn3 hc3
  cases hoka : mtOk a
  · have HE : Hid ((cvOk a b) = false) := Lib.hid (by simp [cvOk, hoka])
    go_enter Try.func110, Try.ntmps110
    go_wp2_with fail
    refine at_world (w := w) ?G (fun hG => (matchOkI_any _ _ a ⟨_, _, rfl, R0.out.grow hG, R1.out.grow hG⟩ wa).mono ?_)
    case G => ((repeat (first | with_reducible exact Grow.refl _ | (with_reducible refine Grow.alloc_ ?_ _) | (with_reducible refine Grow.setCell_ ?_ (by first | exact Nat.le_refl _ | (simp only [World.alloc, Array.size_push]; omega) | omega) _))))
    rintro e w1 ⟨rfl, hg⟩
    rw [hoka]
    have G1 := Lib.hid (hG.trans hg)
    have BA := Lib.hid ((Box.alloc w _ _).grow ((Grow.alloc _ _).trans hg))
    have BB := Lib.hid (((Box.alloc (w.alloc _) _ _).grow hg).at_ (b' := w.heap.size + 1) (by simp only [World.alloc, Array.size_push]))
    clear hG hg
    go_wp2
    go_ret
    exact ⟨ret_bool HE.out.symm, G1.out⟩
  cases hokb : mtOk b
  · have HE : Hid ((cvOk a b) = false) := Lib.hid (by simp [cvOk, hokb])
    go_enter Try.func110, Try.ntmps110
    go_wp2_with fail
    refine at_world (w := w) ?G (fun hG => (matchOkI_any _ _ a ⟨_, _, rfl, R0.out.grow hG, R1.out.grow hG⟩ wa).mono ?_)
    case G => ((repeat (first | with_reducible exact Grow.refl _ | (with_reducible refine Grow.alloc_ ?_ _) | (with_reducible refine Grow.setCell_ ?_ (by first | exact Nat.le_refl _ | (simp only [World.alloc, Array.size_push]; omega) | omega) _))))
    rintro e w1 ⟨rfl, hg⟩
    rw [hoka]
    have G1 := Lib.hid (hG.trans hg)
    have BA := Lib.hid ((Box.alloc w _ _).grow ((Grow.alloc _ _).trans hg))
    have BB := Lib.hid (((Box.alloc (w.alloc _) _ _).grow hg).at_ (b' := w.heap.size + 1) (by simp only [World.alloc, Array.size_push]))
    clear hG hg
    have ⟨r0, r1⟩ := BB.out.two
    go_wp2_with fail
    refine (matchOkI_any _ _ b ⟨_, _, rfl, R2.out.grow G1.out, R3.out.grow G1.out⟩ wb).mono ?_
    rintro e w2 ⟨rfl, hg⟩
    rw [hokb]
    have G2 := Lib.hid (G1.out.trans hg)
    have BA := Lib.hid (BA.out.grow hg)
    have BB := Lib.hid (BB.out.grow hg)
    clear hg r0 r1
    go_wp2
    go_ret
    exact ⟨ret_bool HE.out.symm, G2.out⟩
  have KA := Lib.hid (mtOk_at hoka)
  have KB := Lib.hid (mtOk_at hokb)
  have L0 := Lib.hid (mtOk_iff.1 hoka).1; have L1 := Lib.hid (hdOk_at (mtOk_iff.1 hoka).2.1).1
  have L2 := Lib.hid (mtOk_iff.1 hokb).1; have L3 := Lib.hid (hdOk_at (mtOk_iff.1 hokb).2.1).1
  have HY : Hid ((∀ i, i < 8 → cvAt a b i = true) → (cvOk a b) = true) := Lib.hid (fun h => by simp [cvOk, hoka, hokb, allB_true h])
  have HN : Hid (∀ i, i < 8 → cvAt a b i = false → (cvOk a b) = false) := Lib.hid (fun i hi h => by simp [cvOk, allB_false i hi h])
  go_enter Try.func110, Try.ntmps110
  go_wp2_with fail
  refine at_world (w := w) ?G (fun hG => (matchOkI_any _ _ a ⟨_, _, rfl, R0.out.grow hG, R1.out.grow hG⟩ wa).mono ?_)
  case G => ((repeat (first | with_reducible exact Grow.refl _ | (with_reducible refine Grow.alloc_ ?_ _) | (with_reducible refine Grow.setCell_ ?_ (by first | exact Nat.le_refl _ | (simp only [World.alloc, Array.size_push]; omega) | omega) _))))
  rintro e w1 ⟨rfl, hg⟩
  rw [hoka]
  have G1 := Lib.hid (hG.trans hg)
  have BA := Lib.hid ((Box.alloc w _ _).grow ((Grow.alloc _ _).trans hg))
  have BB := Lib.hid (((Box.alloc (w.alloc _) _ _).grow hg).at_ (b' := w.heap.size + 1) (by simp only [World.alloc, Array.size_push]))
  clear hG hg
  have ⟨r0, r1⟩ := BB.out.two
  go_wp2_with fail
  refine (matchOkI_any _ _ b ⟨_, _, rfl, R2.out.grow G1.out, R3.out.grow G1.out⟩ wb).mono ?_
  rintro e w2 ⟨rfl, hg⟩
  rw [hokb]
  have G2 := Lib.hid (G1.out.trans hg)
  have BA := Lib.hid (BA.out.grow hg)
  have BB := Lib.hid (BB.out.grow hg)
  clear hg r0 r1
  go_wp2
  go_loopw [14] (fun i wr => ∃ k : Nat, k ≤ 8 ∧ i = .int .i64 k ∧ (∀ j, j < k → cvAt a b j = true) ∧ Grow w2 wr) (fun i _ => 8 - (intOf i).toNat)
  case atStart => exact ⟨0, Nat.zero_le _, rfl, fun j hj => absurd hj (Nat.not_lt_zero _), Grow.refl _⟩
  case round =>
    obtain ⟨k, hk, rfl, hal, hgr⟩ := hrel
    have HA := Lib.hid hal; have HW := Lib.hid hgr
    have HG := Lib.hid (G2.out.trans hgr)
    have BAk := Lib.hid (BA.out.grow hgr)
    have BBk := Lib.hid (BB.out.grow hgr)
    clear hal hgr
    by_cases hlt : k < 8
    · skip
      have hl0 : k < a.vs.length := by rw [L0.out]; exact hlt
      obtain ⟨b0, o0, rfl, hcs0⟩ := H0.out k hl0
      have C0 := Lib.hid (HG.out.cell hcs0)
      have hd0 : nv a.vs k = a.vs[k].toNat := by unfold nv; rw [getD_at hl0]
      clear hcs0
      have hl1 : k < a.ms.length := by rw [L1.out]; exact hlt
      obtain ⟨b1, o1, rfl, hcs1⟩ := H1.out k hl1
      have C1 := Lib.hid (HG.out.cell hcs1)
      have hd1 : nv a.ms k = a.ms[k].toNat := by unfold nv; rw [getD_at hl1]
      clear hcs1
      have hl2 : k < b.vs.length := by rw [L2.out]; exact hlt
      obtain ⟨b2, o2, rfl, hcs2⟩ := H2.out k hl2
      have C2 := Lib.hid (HG.out.cell hcs2)
      have hd2 : nv b.vs k = b.vs[k].toNat := by unfold nv; rw [getD_at hl2]
      clear hcs2
      have hl3 : k < b.ms.length := by rw [L3.out]; exact hlt
      obtain ⟨b3, o3, rfl, hcs3⟩ := H3.out k hl3
      have C3 := Lib.hid (HG.out.cell hcs3)
      have hd3 : nv b.ms k = b.ms[k].toNat := by unfold nv; rw [getD_at hl3]
      clear hcs3
      have ka := KA.out k hlt
      rw [getD_at hl0, getD_at hl1] at ka
      have ka1 := fitB_bd ka.1
      have kb := KB.out k hlt
      rw [getD_at hl2, getD_at hl3] at kb
      have kb1 := fitB_bd kb.1
      have hz1 := andNot_zero (a := a.ms[k]) (b := b.ms[k]) (by omega) (by omega) (by omega) (by omega)
      have hz2 := and_i64 (a := b.vs[k]) (b := a.ms[k]) (by omega) (by omega) (by omega) (by omega)
      by_cases hs : a.ms[k].toNat ||| b.ms[k].toNat = b.ms[k].toNat
      rotate_left
      · have hb1 : (bits .andNot .i64 a.ms[k] b.ms[k] != 0) = true := by simpa using fun h => hs (hz1.1 h)
        have HE : Hid (cvOk a b = false) := Lib.hid (HN.out k hlt (by unfold cvAt; rw [hd1, hd3, decide_eq_false hs]; rfl))
        clear hz1 hz2 hd0 hd1 hd2 hd3
        go_wp2_with fail
        have hne : Nonempty (Cl (Grow wr)) := ⟨⟨wr, Grow.refl _⟩⟩
        have ⟨p0, p1⟩ := BAk.out.two_
        have ⟨p2, p3⟩ := BBk.out.two_
        have x0 : ∀ x : Cl (Grow wr), x.w.cell? ⟨b0, o0 + k, none⟩ = some (.int .i64 a.vs[k]) := fun x => x.ok.cell C0.out
        have x1 : ∀ x : Cl (Grow wr), x.w.cell? ⟨b1, o1 + k, none⟩ = some (.int .i64 a.ms[k]) := fun x => x.ok.cell C1.out
        have x2 : ∀ x : Cl (Grow wr), x.w.cell? ⟨b2, o2 + k, none⟩ = some (.int .i64 b.vs[k]) := fun x => x.ok.cell C2.out
        have x3 : ∀ x : Cl (Grow wr), x.w.cell? ⟨b3, o3 + k, none⟩ = some (.int .i64 b.ms[k]) := fun x => x.ok.cell C3.out
        refine wp_region_mix (Cls (Grow wr)) 31 #[false, false, false, false, false, false, false, false, false, false, false, false, false, false, false, false, false, false, false, false, false, false, false, false, false, false, false, false, false, false, false] (by kernel_rfl) (by kernel_rfl) ⟨⟨_, Grow.drewN _ 1⟩, rfl⟩ ?_
        refine anyC_seg [0, 1, 2, 3, 4, 5, 6, 7, 8, 9, 10, 11, 12, 13, 14, 15, 16, 17, 18, 19, 20, 21, 22, 23, 24, 25, 26, 27, 28, 29, 30] #[true, true, true, true, true, true, true, true, true, true, true, true, true, true, true, true, true, true, true, true, true, true, true, true, true, true, true, true, true, true, true] (fuel := 0) rfl (by kernel_rfl) ⟨⟨_, Grow.drewN _ 1⟩, rfl⟩ ?_
        simp only [pickOps, List.getD_cons_succ, List.getD_cons_zero]
        repeat (go_big_quiet_step (fail))
        refine wpQuiet_nil ?_
        refine anyC_done (by kernel_rfl) ?_
        go_wp2
        go_ret
        exact ⟨ret_bool HE.out.symm, HG.out.trans (Grow.drewN _ 1)⟩
      have hb1 : (bits .andNot .i64 a.ms[k] b.ms[k] != 0) = false := by rw [hz1.2 hs]; rfl
      by_cases hx : b.vs[k].toNat &&& a.ms[k].toNat = a.vs[k].toNat
      · have hb2 : (bits .and .i64 b.vs[k] a.ms[k] != a.vs[k]) = false := by rw [hz2, hx]; simp; omega
        have HK : Hid (cvAt a b k = true) := Lib.hid (by unfold cvAt; rw [hd0, hd1, hd2, hd3, decide_eq_true hs, decide_eq_true hx]; rfl)
        clear hs hx
        clear hz1 hz2 hd0 hd1 hd2 hd3
        go_wp2_with fail
        have hne : Nonempty (Cl (Grow wr)) := ⟨⟨wr, Grow.refl _⟩⟩
        have ⟨p0, p1⟩ := BAk.out.two_
        have ⟨p2, p3⟩ := BBk.out.two_
        have x0 : ∀ x : Cl (Grow wr), x.w.cell? ⟨b0, o0 + k, none⟩ = some (.int .i64 a.vs[k]) := fun x => x.ok.cell C0.out
        have x1 : ∀ x : Cl (Grow wr), x.w.cell? ⟨b1, o1 + k, none⟩ = some (.int .i64 a.ms[k]) := fun x => x.ok.cell C1.out
        have x2 : ∀ x : Cl (Grow wr), x.w.cell? ⟨b2, o2 + k, none⟩ = some (.int .i64 b.vs[k]) := fun x => x.ok.cell C2.out
        have x3 : ∀ x : Cl (Grow wr), x.w.cell? ⟨b3, o3 + k, none⟩ = some (.int .i64 b.ms[k]) := fun x => x.ok.cell C3.out
        refine wp_region_mix (Cls (Grow wr)) 31 #[false, false, false, false, false, false, false, false, false, false, false, false, false, false, false, false, false, false, false, false, false, false, false, false, false, false, false, false, false, false, false] (by kernel_rfl) (by kernel_rfl) ⟨⟨_, Grow.drewN _ 1⟩, rfl⟩ ?_
        refine anyC_seg [0, 1, 2, 3, 4, 5, 6, 7, 8, 9, 10, 11, 12, 13, 14, 15, 16, 17, 18, 19, 20, 21, 22, 23, 24, 25, 26, 27, 28, 29, 30] #[true, true, true, true, true, true, true, true, true, true, true, true, true, true, true, true, true, true, true, true, true, true, true, true, true, true, true, true, true, true, true] (fuel := 0) rfl (by kernel_rfl) ⟨⟨_, Grow.drewN _ 1⟩, rfl⟩ ?_
        simp only [pickOps, List.getD_cons_succ, List.getD_cons_zero]
        repeat (go_big_quiet_step (fail))
        refine wpQuiet_nil ?_
        refine anyC_done (by kernel_rfl) ?_
        go_wp2
        go_roundw
        case rel => exact ⟨k + 1, by omega, by go_num, below_succ (p := fun j => cvAt a b j) HA.out HK.out, HW.out.trans (Grow.drewN _ 1)⟩
        case measure => simp [intOf]; omega
      · have hb2 : (bits .and .i64 b.vs[k] a.ms[k] != a.vs[k]) = true := by rw [hz2]; simp; omega
        have HE : Hid (cvOk a b = false) := Lib.hid (HN.out k hlt (by unfold cvAt; rw [hd0, hd1, hd2, hd3, decide_eq_false hx, Bool.and_false]))
        clear hs hx
        clear hz1 hz2 hd0 hd1 hd2 hd3
        go_wp2_with fail
        have hne : Nonempty (Cl (Grow wr)) := ⟨⟨wr, Grow.refl _⟩⟩
        have ⟨p0, p1⟩ := BAk.out.two_
        have ⟨p2, p3⟩ := BBk.out.two_
        have x0 : ∀ x : Cl (Grow wr), x.w.cell? ⟨b0, o0 + k, none⟩ = some (.int .i64 a.vs[k]) := fun x => x.ok.cell C0.out
        have x1 : ∀ x : Cl (Grow wr), x.w.cell? ⟨b1, o1 + k, none⟩ = some (.int .i64 a.ms[k]) := fun x => x.ok.cell C1.out
        have x2 : ∀ x : Cl (Grow wr), x.w.cell? ⟨b2, o2 + k, none⟩ = some (.int .i64 b.vs[k]) := fun x => x.ok.cell C2.out
        have x3 : ∀ x : Cl (Grow wr), x.w.cell? ⟨b3, o3 + k, none⟩ = some (.int .i64 b.ms[k]) := fun x => x.ok.cell C3.out
        refine wp_region_mix (Cls (Grow wr)) 31 #[false, false, false, false, false, false, false, false, false, false, false, false, false, false, false, false, false, false, false, false, false, false, false, false, false, false, false, false, false, false, false] (by kernel_rfl) (by kernel_rfl) ⟨⟨_, Grow.drewN _ 1⟩, rfl⟩ ?_
        refine anyC_seg [0, 1, 2, 3, 4, 5, 6, 7, 8, 9, 10, 11, 12, 13, 14, 15, 16, 17, 18, 19, 20, 21, 22, 23, 24, 25, 26, 27, 28, 29, 30] #[true, true, true, true, true, true, true, true, true, true, true, true, true, true, true, true, true, true, true, true, true, true, true, true, true, true, true, true, true, true, true] (fuel := 0) rfl (by kernel_rfl) ⟨⟨_, Grow.drewN _ 1⟩, rfl⟩ ?_
        simp only [pickOps, List.getD_cons_succ, List.getD_cons_zero]
        repeat (go_big_quiet_step (fail))
        refine wpQuiet_nil ?_
        refine anyC_done (by kernel_rfl) ?_
        go_wp2
        go_ret
        exact ⟨ret_bool HE.out.symm, HG.out.trans (Grow.drewN _ 1)⟩
    · obtain rfl : k = 8 := by omega
      have HE := Lib.hid (HY.out HA.out)
      have hl8 := L2.out
      go_wp2
      go_ret
      exact ⟨ret_bool HE.out.symm, HG.out⟩
--%
end Go.Proofs.Ytgigdpdmdldhnaa
