/- Slices of entries and tables: contracts of the laws' helpers, the second half (printed by gtab.py). -/
import Derived.Test.YtgigdpdmdldhnaaTab
import Derived.WalkKit
import Derived.ProofKit
import Derived.Deep.QuietTactic
import Derived.BigQuiet
import Derived.Outline
import Derived.WalkSpells
namespace Go.Proofs.Ytgigdpdmdldhnaa
open Go.ChangeShapes Go.WideShapes Go.ChangeAt Go.RowKit
set_option linter.unusedVariables false
set_option linter.unusedSimpArgs false
--% eqEntryS 102
set_option maxHeartbeats 1000000 in
theorem eq_ES (w : World) (v1 v2 : Value) (xs ys : List EntryD) (h1 : RdES w v1 xs) (h2 : RdES w v2 ys) : Calls Try.prog 102 #[v1, v2] w (RetV (.bool (decide (xs = ys))) w) := by
  obtain ⟨a1, c1, rfl, hlc1, hm1, hn1, hc1⟩ := h1
  obtain ⟨a2, c2, rfl, hlc2, hm2, hn2, hc2⟩ := h2
  clear hn1 hn2
  have H1 := Lib.hid hc1; clear hc1
  have H2 := Lib.hid hc2; clear hc2
  unfold maxLen at hm1 hm2
  by_cases hl : xs.length = ys.length
  rotate_left
  · have hb : ((xs.length : Int) != (ys.length : Int)) = true := by simp; omega
    have hne : xs ≠ ys := fun h => hl (by rw [h])
    have HN := Lib.hid hne; clear hne
    go_enter Try.func102, Try.ntmps102
    go_wp2
    go_ret
    exact ⟨ret_bool (decide_eq_false HN.out).symm, Grow.refl _⟩
  have hb : ((xs.length : Int) != (ys.length : Int)) = false := by simp [hl]
  have HL := Lib.hid hl; clear hl
  go_enter Try.func102, Try.ntmps102
  go_wp2
  go_loopw [5] (fun i wr => ∃ k : Nat, k ≤ xs.length ∧ i = .int .i64 k ∧ xs.take k = ys.take k ∧ Grow w wr) (fun i _ => xs.length - (intOf i).toNat)
  case atStart => exact ⟨0, Nat.zero_le _, rfl, by simp, Grow.refl _⟩
  case round =>
    obtain ⟨k, hk, rfl, htk, hgr⟩ := hrel
    have HT := Lib.hid htk; clear htk
    have HG := Lib.hid hgr; clear hgr
    by_cases hlt : k < xs.length
    · have hlt2 : k < ys.length := by rw [← HL.out]; exact hlt
      obtain ⟨b1, o1, u0, u1, u2, rfl, he1⟩ := H1.out k hlt
      obtain ⟨b2, o2, t0, t1, t2, rfl, he2⟩ := H2.out k hlt2
      obtain ⟨aa0, k0, rfl⟩ := RdN.sh he1.2.2.2.2.2.2.1
      obtain ⟨aa1, k1, rfl⟩ := RdN.sh he1.2.2.2.2.2.2.2.1
      obtain ⟨aa2, k2, rfl⟩ := RdA.sh he1.2.2.2.2.2.2.2.2
      obtain ⟨ab0, m0, rfl⟩ := RdN.sh he2.2.2.2.2.2.2.1
      obtain ⟨ab1, m1, rfl⟩ := RdN.sh he2.2.2.2.2.2.2.2.1
      obtain ⟨ab2, m2, rfl⟩ := RdA.sh he2.2.2.2.2.2.2.2.2
      have E1 := Lib.hid (he1.grow HG.out); have E2 := Lib.hid (he2.grow HG.out)
      clear he1 he2
      by_cases he : xs[k] = ys[k]
      · have hd := decide_eq_true he
        have HE := Lib.hid he; clear he
        go_wp2_with fail
        have hne : Nonempty (Cl (Grow wr)) := ⟨⟨wr, Grow.refl _⟩⟩
        have p0 : ∀ x : Cl (Grow wr), x.w.cell? ⟨b1, o1 + k * 6, none⟩ = some (.int .i64 xs[k].epoch) := fun x => x.ok.cell E1.out.1
        have p1 : ∀ x : Cl (Grow wr), x.w.cell? ⟨b1, o1 + k * 6 + 1, none⟩ = some (.int .i64 xs[k].prio) := fun x => x.ok.cell E1.out.2.1
        have p2 : ∀ x : Cl (Grow wr), x.w.cell? ⟨b1, o1 + k * 6 + 2, none⟩ = some (.slice aa0 xs[k].m.vs.length k0) := fun x => x.ok.cell E1.out.2.2.1
        have p3 : ∀ x : Cl (Grow wr), x.w.cell? ⟨b1, o1 + k * 6 + 3, none⟩ = some (.slice aa1 xs[k].m.ms.length k1) := fun x => x.ok.cell E1.out.2.2.2.1
        have p4 : ∀ x : Cl (Grow wr), x.w.cell? ⟨b1, o1 + k * 6 + 4, none⟩ = some (.slice aa2 xs[k].acts.length k2) := fun x => x.ok.cell E1.out.2.2.2.2.1
        have p5 : ∀ x : Cl (Grow wr), x.w.cell? ⟨b1, o1 + k * 6 + 5, none⟩ = some (.int .i64 xs[k].hits) := fun x => x.ok.cell E1.out.2.2.2.2.2.1
        have q0 : ∀ x : Cl (Grow wr), x.w.cell? ⟨b2, o2 + k * 6, none⟩ = some (.int .i64 ys[k].epoch) := fun x => x.ok.cell E2.out.1
        have q1 : ∀ x : Cl (Grow wr), x.w.cell? ⟨b2, o2 + k * 6 + 1, none⟩ = some (.int .i64 ys[k].prio) := fun x => x.ok.cell E2.out.2.1
        have q2 : ∀ x : Cl (Grow wr), x.w.cell? ⟨b2, o2 + k * 6 + 2, none⟩ = some (.slice ab0 ys[k].m.vs.length m0) := fun x => x.ok.cell E2.out.2.2.1
        have q3 : ∀ x : Cl (Grow wr), x.w.cell? ⟨b2, o2 + k * 6 + 3, none⟩ = some (.slice ab1 ys[k].m.ms.length m1) := fun x => x.ok.cell E2.out.2.2.2.1
        have q4 : ∀ x : Cl (Grow wr), x.w.cell? ⟨b2, o2 + k * 6 + 4, none⟩ = some (.slice ab2 ys[k].acts.length m2) := fun x => x.ok.cell E2.out.2.2.2.2.1
        have q5 : ∀ x : Cl (Grow wr), x.w.cell? ⟨b2, o2 + k * 6 + 5, none⟩ = some (.int .i64 ys[k].hits) := fun x => x.ok.cell E2.out.2.2.2.2.2.1
        refine wp_region_mix (Cls (Grow wr)) 10 #[false, false, false, false, false, false, false, false, false, false] (by kernel_rfl) (by kernel_rfl) ⟨⟨_, Grow.drewN _ 1⟩, rfl⟩ ?_
        refine anyC_seg [0, 1, 2, 3, 4, 5, 6, 7] #[true, true, true, true, true, true, true, true, false, false] (fuel := 2) rfl (by kernel_rfl) ⟨⟨_, Grow.drewN _ 1⟩, rfl⟩ ?_
        simp only [pickOps, List.getD_cons_succ, List.getD_cons_zero]
        repeat (go_big_quiet_step (fail))
        refine wpQuiet_nil ?_
        clear p0 p1 p2 p3 p4 p5 q0 q1 q2 q3 q4 q5
        refine anyC_sole 8 #[true, true, true, true, true, true, true, true, true, false] (fuel := 1) (by kernel_rfl) ?_
        simp only [List.getD_cons_succ, List.getD_cons_zero]
        go_wp2_with fail
        refine (eq_E _ _ _ xs[k] ys[k] (E1.out.grow (Grow.drewN _ 1)).rd (E2.out.grow (Grow.drewN _ 1)).rd).mono ?_
        rintro e w1 ⟨rfl, hg⟩
        rw [hd]
        have D1 := Lib.hid ((Grow.drewN _ 1).trans hg); clear hg
        go_wp2
        refine ⟨⟨⟨_, D1.out⟩, rfl⟩, ?_⟩
        refine anyC_seg [9] #[true, true, true, true, true, true, true, true, true, true] (fuel := 0) rfl (by kernel_rfl) ⟨⟨_, D1.out⟩, rfl⟩ ?_
        simp only [pickOps, List.getD_cons_succ, List.getD_cons_zero]
        repeat (go_big_quiet_step (fail))
        refine wpQuiet_nil ?_
        refine anyC_done (by kernel_rfl) ?_
        go_wp2
        go_roundw
        case rel => exact ⟨k + 1, by omega, by go_num, take_succ_eq hlt hlt2 HT.out HE.out, HG.out.trans D1.out⟩
        case measure => simp [intOf]; omega

      · have hd := decide_eq_false he
        have HE := Lib.hid he; clear he
        go_wp2_with fail
        have hne : Nonempty (Cl (Grow wr)) := ⟨⟨wr, Grow.refl _⟩⟩
        have p0 : ∀ x : Cl (Grow wr), x.w.cell? ⟨b1, o1 + k * 6, none⟩ = some (.int .i64 xs[k].epoch) := fun x => x.ok.cell E1.out.1
        have p1 : ∀ x : Cl (Grow wr), x.w.cell? ⟨b1, o1 + k * 6 + 1, none⟩ = some (.int .i64 xs[k].prio) := fun x => x.ok.cell E1.out.2.1
        have p2 : ∀ x : Cl (Grow wr), x.w.cell? ⟨b1, o1 + k * 6 + 2, none⟩ = some (.slice aa0 xs[k].m.vs.length k0) := fun x => x.ok.cell E1.out.2.2.1
        have p3 : ∀ x : Cl (Grow wr), x.w.cell? ⟨b1, o1 + k * 6 + 3, none⟩ = some (.slice aa1 xs[k].m.ms.length k1) := fun x => x.ok.cell E1.out.2.2.2.1
        have p4 : ∀ x : Cl (Grow wr), x.w.cell? ⟨b1, o1 + k * 6 + 4, none⟩ = some (.slice aa2 xs[k].acts.length k2) := fun x => x.ok.cell E1.out.2.2.2.2.1
        have p5 : ∀ x : Cl (Grow wr), x.w.cell? ⟨b1, o1 + k * 6 + 5, none⟩ = some (.int .i64 xs[k].hits) := fun x => x.ok.cell E1.out.2.2.2.2.2.1
        have q0 : ∀ x : Cl (Grow wr), x.w.cell? ⟨b2, o2 + k * 6, none⟩ = some (.int .i64 ys[k].epoch) := fun x => x.ok.cell E2.out.1
        have q1 : ∀ x : Cl (Grow wr), x.w.cell? ⟨b2, o2 + k * 6 + 1, none⟩ = some (.int .i64 ys[k].prio) := fun x => x.ok.cell E2.out.2.1
        have q2 : ∀ x : Cl (Grow wr), x.w.cell? ⟨b2, o2 + k * 6 + 2, none⟩ = some (.slice ab0 ys[k].m.vs.length m0) := fun x => x.ok.cell E2.out.2.2.1
        have q3 : ∀ x : Cl (Grow wr), x.w.cell? ⟨b2, o2 + k * 6 + 3, none⟩ = some (.slice ab1 ys[k].m.ms.length m1) := fun x => x.ok.cell E2.out.2.2.2.1
        have q4 : ∀ x : Cl (Grow wr), x.w.cell? ⟨b2, o2 + k * 6 + 4, none⟩ = some (.slice ab2 ys[k].acts.length m2) := fun x => x.ok.cell E2.out.2.2.2.2.1
        have q5 : ∀ x : Cl (Grow wr), x.w.cell? ⟨b2, o2 + k * 6 + 5, none⟩ = some (.int .i64 ys[k].hits) := fun x => x.ok.cell E2.out.2.2.2.2.2.1
        refine wp_region_mix (Cls (Grow wr)) 10 #[false, false, false, false, false, false, false, false, false, false] (by kernel_rfl) (by kernel_rfl) ⟨⟨_, Grow.drewN _ 1⟩, rfl⟩ ?_
        refine anyC_seg [0, 1, 2, 3, 4, 5, 6, 7] #[true, true, true, true, true, true, true, true, false, false] (fuel := 2) rfl (by kernel_rfl) ⟨⟨_, Grow.drewN _ 1⟩, rfl⟩ ?_
        simp only [pickOps, List.getD_cons_succ, List.getD_cons_zero]
        repeat (go_big_quiet_step (fail))
        refine wpQuiet_nil ?_
        clear p0 p1 p2 p3 p4 p5 q0 q1 q2 q3 q4 q5
        refine anyC_sole 8 #[true, true, true, true, true, true, true, true, true, false] (fuel := 1) (by kernel_rfl) ?_
        simp only [List.getD_cons_succ, List.getD_cons_zero]
        go_wp2_with fail
        refine (eq_E _ _ _ xs[k] ys[k] (E1.out.grow (Grow.drewN _ 1)).rd (E2.out.grow (Grow.drewN _ 1)).rd).mono ?_
        rintro e w1 ⟨rfl, hg⟩
        rw [hd]
        have D1 := Lib.hid ((Grow.drewN _ 1).trans hg); clear hg
        go_wp2
        refine ⟨⟨⟨_, D1.out⟩, rfl⟩, ?_⟩
        refine anyC_seg [9] #[true, true, true, true, true, true, true, true, true, true] (fuel := 0) rfl (by kernel_rfl) ⟨⟨_, D1.out⟩, rfl⟩ ?_
        simp only [pickOps, List.getD_cons_succ, List.getD_cons_zero]
        repeat (go_big_quiet_step (fail))
        refine wpQuiet_nil ?_
        refine anyC_done (by kernel_rfl) ?_
        go_wp2
        go_ret
        exact ⟨ret_bool (decide_eq_false (ne_of_at hlt hlt2 HE.out)).symm, HG.out.trans D1.out⟩

    · go_wp2
      go_ret
      exact ⟨ret_bool (decide_eq_true (by have := HT.out; rwa [List.take_of_length_le (by omega), List.take_of_length_le (by rw [← HL.out]; omega)] at this)).symm, HG.out⟩
--% szTable 52
theorem sz_T (w : World) (V : Value) (d : TableD) (l : Int) (h : RdT w V d) (hl : 0 ≤ l ∧ l ≤ 1048576) : Calls Try.prog 52 #[V, .int .i64 l] w (RetV (.int .i64 (leftOf l (sizeT d))) w) := by
  obtain ⟨v0, rfl, hv⟩ := h
  have HV := Lib.hid hv
  obtain ⟨a, c, rfl, -⟩ := hv
  have hr : leftOf l (sizeT d) = -1 ∨ (0 ≤ leftOf l (sizeT d) ∧ leftOf l (sizeT d) ≤ 1048576) := by
    have h1 := sumE_nn d.es
    unfold leftOf sizeT sizeES; split <;> omega
  have SZ := Lib.hid (fun (w' : World) (g : Grow w w') => sz_ES w' _ d.es l (HV.out.grow g) hl)
  unfold sizeT at *
  generalize leftOf l (sizeES d.es) = q at *
  have HR : Hid (q = -1 ∨ (0 ≤ q ∧ q ≤ 1048576)) := Lib.hid hr; clear hr
  rcases HR.out with rfl | hq2
  all_goals (
    go_enter Try.func52, Try.ntmps52
    go_wp2_with fail
    refine at_world (w := w) ?G (fun hG => (SZ.out _ hG).mono ?_)
    case G => ((repeat (first | with_reducible exact Grow.refl _ | (with_reducible refine Grow.alloc_ ?_ _) | (with_reducible refine Grow.setCell_ ?_ (by first | exact Nat.le_refl _ | (simp only [World.alloc, Array.size_push]; omega) | omega) _))))
    rintro e w1 ⟨rfl, hg⟩
    have HG := Lib.hid (hG.trans hg); clear hg hG
    go_wp2
    go_ret
    exact ⟨rfl, HG.out⟩)
--% toTable 54
theorem to_T (w : World) (V : Value) (d : TableD) (h : RdT w V d) (hs : SmT d) : Calls Try.prog 54 #[V] w (RetNew OwnT d w) := by
  obtain ⟨v0, rfl, hv⟩ := h
  have HV := Lib.hid hv
  obtain ⟨a, c, rfl, -⟩ := hv
  have SM : Hid (SmES d.es) := Lib.hid hs; clear hs
  go_enter Try.func54, Try.ntmps54
  go_wp2_with fail
  refine at_world (w := w) ?G (fun hG => (to_ES _ _ d.es (HV.out.grow hG) SM.out).mono ?_)
  case G => ((repeat (first | with_reducible exact Grow.refl _ | (with_reducible refine Grow.alloc_ ?_ _) | (with_reducible refine Grow.setCell_ ?_ (by first | exact Nat.le_refl _ | (simp only [World.alloc, Array.size_push]; omega) | omega) _))))
  rintro e w1 ⟨v', fp, rfl, ho, hf, hg⟩
  have HO := Lib.hid ho
  obtain ⟨a', c', rfl, -⟩ := ho.rd
  have HG1 := Lib.hid (hG.trans hg)
  have BR := Lib.hid (((Box.alloc (w.alloc _) _ _).grow ((Grow.alloc _ _).trans hg)).at_ (b' := w.heap.size + 1) (by simp only [World.alloc, Array.size_push]))
  have BO := Lib.hid (((Box.alloc ((w.alloc _).alloc _) _ _).grow hg).at_ (b' := w.heap.size + 1 + 1) (by simp only [World.alloc, Array.size_push]))
  have HF : Hid (∀ x ∈ fp, w.heap.size + 1 + 1 < x) := Lib.hid (fun x hx => by have h1 := hf x hx; simp only [World.alloc, Array.size_push] at h1; omega)
  have HR : Hid (∀ W, Upd [w.heap.size + 1 + 1, w.heap.size + 1] w1 W → RetNew OwnT d w (.returned (.agg #[.int .i64 d.cap, .slice a' d.es.length c'])) W) := Lib.hid (fun W hu => by
    have o1 := Framed.upd HO.out hu (fun x hx hm => by have := HF.out x hx; simp only [List.mem_cons, List.not_mem_nil, or_false] at hm; omega)
    exact ⟨_, fp, rfl, ⟨o1.1, fun W' hW => ⟨_, rfl, o1.2 W' hW⟩⟩, fun x hx => by have := HF.out x hx; omega, HG1.out.box_end hu (by intro b hb; simp only [List.mem_cons, List.not_mem_nil, or_false] at hb; omega)⟩)
  clear ho hf hg hG
  have ⟨q0, q1⟩ := BO.out.two
  have qz := BO.out.2.2
  have ql := BO.out.1
  have ⟨r0, r1⟩ := BR.out.two
  have rz := BR.out.2.2
  have rl := BR.out.1
  go_wp2
  refine bodyPost_ret (v := .agg #[.int .i64 d.cap, .slice a' d.es.length c']) ?_ rfl (HR.out _ ?_)
  · simp [results, Try.results54, go_sem, r0, r1, rz, rl, q0, q1, qz, ql]
  · ((repeat (first | with_reducible exact Upd.refl _ _ | (with_reducible refine Upd.setCell ?_ (by simp) _))))
--% eqTable 56
theorem eq_T (w : World) (V1 V2 : Value) (x y : TableD) (h1 : RdT w V1 x) (h2 : RdT w V2 y) : Calls Try.prog 56 #[V1, V2] w (RetV (.bool (decide (x = y))) w) := by
  obtain ⟨v1, rfl, hv1⟩ := h1
  obtain ⟨v2, rfl, hv2⟩ := h2
  have H1 := Lib.hid hv1; have H2 := Lib.hid hv2
  obtain ⟨a1, c1, rfl, -⟩ := hv1
  obtain ⟨a2, c2, rfl, -⟩ := hv2
  by_cases hc : x.cap = y.cap
  rotate_left
  · have hb : (x.cap != y.cap) = true := by simpa using hc
    have HN := Lib.hid hc; clear hc
    go_enter Try.func56, Try.ntmps56
    go_wp2
    go_ret
    refine ⟨ret_bool (decide_eq_false (fun h => HN.out (by rw [h]))).symm, ?_⟩
    ((repeat (first | with_reducible exact Grow.refl _ | (with_reducible refine Grow.alloc_ ?_ _) | (with_reducible refine Grow.setCell_ ?_ (by first | exact Nat.le_refl _ | (simp only [World.alloc, Array.size_push]; omega) | omega) _))))
  have hb : (x.cap != y.cap) = false := by simp [hc]
  by_cases he : x.es = y.es
  rotate_left
  · have hd := decide_eq_false he
    have HN := Lib.hid he; clear he hc
    go_enter Try.func56, Try.ntmps56
    go_wp2_with fail
    refine at_world (w := w) ?G (fun hG => (eq_ES _ _ _ x.es y.es (H1.out.grow hG) (H2.out.grow hG)).mono ?_)
    case G => ((repeat (first | with_reducible exact Grow.refl _ | (with_reducible refine Grow.alloc_ ?_ _) | (with_reducible refine Grow.setCell_ ?_ (by first | exact Nat.le_refl _ | (simp only [World.alloc, Array.size_push]; omega) | omega) _))))
    rintro e w1 ⟨rfl, hg⟩
    rw [hd]
    have HG := Lib.hid (hG.trans hg); clear hg hG
    go_wp2
    go_ret
    exact ⟨ret_bool (decide_eq_false (fun h => HN.out (by rw [h]))).symm, HG.out⟩
  have hd := decide_eq_true he
  have HE : Hid (x = y) := Lib.hid (by cases x; cases y; simp_all)
  clear he hc
  go_enter Try.func56, Try.ntmps56
  go_wp2_with fail
  refine at_world (w := w) ?G (fun hG => (eq_ES _ _ _ x.es y.es (H1.out.grow hG) (H2.out.grow hG)).mono ?_)
  case G => ((repeat (first | with_reducible exact Grow.refl _ | (with_reducible refine Grow.alloc_ ?_ _) | (with_reducible refine Grow.setCell_ ?_ (by first | exact Nat.le_refl _ | (simp only [World.alloc, Array.size_push]; omega) | omega) _))))
  rintro e w1 ⟨rfl, hg⟩
  rw [hd]
  have HG := Lib.hid (hG.trans hg); clear hg hG
  go_wp2
  go_ret
  exact ⟨ret_bool (decide_eq_true HE.out).symm, HG.out⟩
--%
end Go.Proofs.Ytgigdpdmdldhnaa
