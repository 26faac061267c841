/- TableKeep: contracts of the code (printed by gtk2.py). -/
import Derived.Test.YtgigdpdmdldhnaaTk
import Derived.WalkKit
import Derived.ProofKit
import Derived.Deep.QuietTactic
import Derived.Deep.Cut
import Derived.BigQuiet
import Derived.Outline
import Derived.WalkSpells
namespace Go.Proofs.Ytgigdpdmdldhnaa
open Go.ChangeShapes Go.WideShapes Go.ChangeAt Go.RowKit
set_option linter.unusedVariables false
set_option linter.unusedSimpArgs false
--%
def tkF (d : TableD) (ep : Int) : TableD × Int := if tbB d = true then (⟨d.cap, keepL ep d.es⟩, (d.es.length : Int) - ((keepL ep d.es).length : Int)) else (⟨0, []⟩, -1)
theorem tkF_no {d : TableD} {ep : Int} (h : tbB d = false) : tkF d ep = (⟨0, []⟩, -1) := by simp [tkF, h]
theorem tkF_yes {d : TableD} {ep : Int} (h : tbB d = true) : tkF d ep = (⟨d.cap, keepL ep d.es⟩, (d.es.length : Int) - ((keepL ep d.es).length : Int)) := by simp [tkF, h]
theorem zeroT2 (w : World) : OwnT2 w (.agg #[.int .i64 0, .slice none 0 0]) ⟨0, []⟩ [] := ⟨_, rfl, OwnES2.nil w⟩
--% without 116 117
set_option maxHeartbeats 1000000 in
theorem withoutK_any (w : World) (V : Value) (d : TableD) (ep : Int) (bx : Nat) (h : RdT w V d) (sm : SmT d) (hb : Box w bx [.int .i64 ep]) :
    Calls Try.prog 116 #[V, .func (Fn.func 117) #[] #[.pointer (some ⟨bx, 0, none⟩)]] w (RetNew2 OwnT2 ⟨d.cap, keepL ep d.es⟩ (.int .i64 ((d.es.length : Int) - ((keepL ep d.es).length : Int))) w) := by
  have HT := Lib.hid h; have SM := Lib.hid sm
  obtain ⟨v0, rfl, hv⟩ := h
  obtain ⟨a, c, rfl, hlc, hm, -, -⟩ := hv
  obtain ⟨cap, es⟩ := d
  simp only at hlc hm HT SM ⊢
  have hdl : es.length ≤ 1048576 := by have := sumE_nn es; unfold SmT sizeT sizeES at sm; simp only at sm; omega
  have hkl : (keepL ep es).length ≤ es.length := List.length_filter_le _ _
  clear sm
  unfold maxLen at hm
  have HB := Lib.hid hb; clear hb
  go_enter Try.func116, Try.ntmps116
  go_wp2_with fail
  have BP0 : Hid (Box ((w.alloc (.cells #[Value.int .i64 cap, .slice a es.length c] 79)).alloc (.cells #[Value.int .i64 0, .slice none 0 0] 79)) w.heap.size [Value.int .i64 cap, .slice a es.length c]) := Lib.hid ((Box.alloc w [Value.int .i64 cap, .slice a es.length c] 79).grow (Grow.alloc _ _))
  have BR0 : Hid (Box ((w.alloc (.cells #[Value.int .i64 cap, .slice a es.length c] 79)).alloc (.cells #[Value.int .i64 0, .slice none 0 0] 79)) (w.heap.size + 1) [Value.int .i64 0, .slice none 0 0]) := Lib.hid ((Box.alloc (w.alloc (.cells #[Value.int .i64 cap, .slice a es.length c] 79)) [Value.int .i64 0, .slice none 0 0] 79).at_ (b' := w.heap.size + 1) (by simp only [World.alloc, Array.size_push]))
  have G0 : Hid (Grow w ((w.alloc (.cells #[Value.int .i64 cap, .slice a es.length c] 79)).alloc (.cells #[Value.int .i64 0, .slice none 0 0] 79))) := Lib.hid ((Grow.alloc _ _).trans (Grow.alloc _ _))
  generalize ((w.alloc (.cells #[Value.int .i64 cap, .slice a es.length c] 79)).alloc (.cells #[Value.int .i64 0, .slice none 0 0] 79)) = W0 at *
  refine (copyTable_any _ _ ⟨cap, es⟩ (HT.out.grow G0.out) SM.out).mono ?_
  rintro _ w2 ⟨V2, fp, rfl, ho, hf, hg⟩
  obtain ⟨zv, rfl, ho⟩ := ho
  simp only at ho
  obtain ⟨za, zc, rfl, -⟩ := ho.rd
  have G2 := Lib.hid (G0.out.trans hg)
  have BP2 := Lib.hid (((BP0.out.grow hg).set 0 (.int .i64 cap) (by simp)).set 1 (.slice za es.length zc) (by simp))
  have U2 : Hid (Upd [w.heap.size] w2 ((w2.setCell ⟨w.heap.size, 0, none⟩ (.int .i64 cap)).setCell ⟨w.heap.size, 1, none⟩ (.slice za es.length zc))) := Lib.hid (Upd.setCell (Upd.one_cell w2 w.heap.size 0 (.int .i64 cap)) (p := ⟨w.heap.size, 1, none⟩) (by simp) (.slice za es.length zc))
  have F2 : Hid (∀ x ∈ fp, w.heap.size + 1 < x) := Lib.hid (fun x hx => by have h1 := hf x hx; have h2 := BR0.out.1; omega)
  have O2 := Lib.hid (ho.upd U2.out (fun x hx hm => by have := F2.out x hx; simp only [List.mem_cons, List.not_mem_nil, or_false] at hm; omega))
  have BR2 := Lib.hid ((BR0.out.grow hg).upd U2.out (by simp))
  have BX2 := Lib.hid ((HB.out.grow G2.out).upd U2.out (by have := HB.out.1; simp; omega))
  have G3 := Lib.hid (G2.out.then_upd U2.out (by simp [Fresh]))
  have ⟨p0, p1⟩ := (BP0.out.grow hg).two
  have pl := (BP0.out.grow hg).1
  have pz := (BP0.out.grow hg).2.2
  clear ho hf hg
  go_wp2_with fail
  generalize (w2.setCell ⟨w.heap.size, 0, none⟩ (.int .i64 cap)).setCell ⟨w.heap.size, 1, none⟩ (.slice za es.length zc) = wA at *
  clear p0 p1 pl pz
  refine (delK_any _ _ es fp ep bx O2.out BX2.out (fun hm => by have h1 := F2.out _ hm; have h2 := HB.out.1; omega) hdl).mono ?_
  rintro _ w3 ⟨v3, rfl, hu, fp3, ho3, hsub⟩
  generalize keepL ep es = ks at *
  obtain ⟨na, nc, rfl, -⟩ := ho3.rd
  have U3 := Lib.hid hu; have O3 := Lib.hid ho3; have SB := Lib.hid hsub
  have BP3 := Lib.hid (BP2.out.upd hu (fun hm => by have := F2.out _ hm; omega))
  have BR3 := Lib.hid (BR2.out.upd hu (fun hm => by have := F2.out _ hm; omega))
  have G4 := Lib.hid (G3.out.then_upd hu (fun x hx => by have := F2.out x hx; omega))
  have U4 : Hid (Upd [w.heap.size] w3 (w3.setCell ⟨w.heap.size, 1, none⟩ (.slice na ks.length nc))) := Lib.hid (Upd.one_cell w3 w.heap.size 1 (.slice na ks.length nc))
  have BP4 := Lib.hid (BP3.out.set 1 (.slice na ks.length nc) (by simp))
  have BR4 := Lib.hid (BR3.out.upd U4.out (by simp))
  have O4 := Lib.hid (O3.out.upd U4.out (fun x hx hm => by have := F2.out x (SB.out x hx); simp only [List.mem_cons, List.not_mem_nil, or_false] at hm; omega))
  have G5 := Lib.hid (G4.out.then_upd U4.out (by simp [Fresh]))
  have ⟨p0, p1⟩ := BP3.out.two
  have pl := BP3.out.1
  have pz := BP3.out.2.2
  clear hu ho3 hsub
  go_wp2_with fail
  generalize w3.setCell ⟨w.heap.size, 1, none⟩ (.slice na ks.length nc) = wB at *
  have BP4 : Hid (Box wB w.heap.size [Value.int .i64 cap, .slice na ks.length nc]) := BP4
  clear p0 p1 pl pz
  obtain ⟨C, hC⟩ : ∃ C : World → Prop, C = fun W => Box W w.heap.size [Value.int .i64 cap, .slice na ks.length nc] := ⟨_, rfl⟩
  have CC : Hid (∀ W, C W → Box W w.heap.size [Value.int .i64 cap, .slice na ks.length nc]) := Lib.hid (fun W h => by rw [hC] at h; exact h)
  have MK : Hid (∀ W, Box W w.heap.size [Value.int .i64 cap, .slice na ks.length nc] → C W) := Lib.hid (fun W h => by rw [hC]; exact h)
  clear hC
  have BP5 := Lib.hid (BP4.out.grow (Grow.drewN wB 1)); have BR5 := Lib.hid (BR4.out.grow (Grow.drewN wB 1)); have O5 := Lib.hid (O4.out.grow (Grow.drewN wB 1)); have G6 := Lib.hid (G5.out.trans (Grow.drewN wB 1))
  have c0 : Hid (C (wB.drewN 1)) := Lib.hid (MK.out _ BP5.out)
  have hne : Nonempty (Cl C) := ⟨⟨_, c0.out⟩⟩
  have p0 : ∀ x : Cl C, x.w.cell? ⟨w.heap.size, 0, none⟩ = some (.int .i64 cap) := fun x => (CC.out x.w x.ok).two.1
  have p1 : ∀ x : Cl C, x.w.cell? ⟨w.heap.size, 1, none⟩ = some (.slice na ks.length nc) := fun x => (CC.out x.w x.ok).two.2
  refine wp_region_mix (Cls C) 8 #[false, false, false, false, false, false, false, false] (by kernel_rfl) (by kernel_rfl) ⟨⟨_, c0.out⟩, rfl⟩ ?_
  refine anyC_seg [0, 1, 2, 3, 4, 5] #[true, true, true, true, true, true, false, false] (fuel := 2) rfl (by kernel_rfl) ⟨⟨_, c0.out⟩, rfl⟩ ?_
  simp only [pickOps, List.getD_cons_succ, List.getD_cons_zero]
  repeat (go_big_quiet_step (fail))
  refine wpQuiet_nil ?_
  refine anyC_sole 6 #[true, true, true, true, true, true, true, false] (fuel := 1) (by kernel_rfl) ?_
  simp only [List.getD_cons_succ, List.getD_cons_zero]
  have ⟨r0, r1⟩ := BR5.out.two
  have rl := BR5.out.1
  have rz := BR5.out.2.2
  have c1 : Hid (C (((wB.drewN 1).setCell ⟨w.heap.size + 1, 0, none⟩ (.int .i64 cap)).setCell ⟨w.heap.size + 1, 1, none⟩ (.slice na ks.length nc))) := Lib.hid (MK.out _ (BP5.out.upd (Upd.setCell (Upd.one_cell (wB.drewN 1) (w.heap.size + 1) 0 (.int .i64 cap)) (p := ⟨w.heap.size + 1, 1, none⟩) (by simp) (.slice na ks.length nc)) (by simp)))
  go_wp2
  refine ⟨⟨⟨_, c1.out⟩, rfl⟩, ?_⟩
  refine anyC_seg [7] #[true, true, true, true, true, true, true, true] (fuel := 0) rfl (by kernel_rfl) ⟨⟨_, c1.out⟩, rfl⟩ ?_
  simp only [pickOps, List.getD_cons_succ, List.getD_cons_zero]
  repeat (go_big_quiet_step (fail))
  refine wpQuiet_nil ?_
  refine anyC_done (by kernel_rfl) ?_
  clear p0 p1
  have HR : Hid (∀ W, Upd [w.heap.size + 1] (wB.drewN 1) W → RetNew2 OwnT2 ⟨cap, ks⟩ (.int .i64 ((es.length : Int) - (ks.length : Int))) w (.returned (.tuple #[.agg #[.int .i64 cap, .slice na ks.length nc], .int .i64 ((es.length : Int) - (ks.length : Int))])) W) := Lib.hid (fun W hu => by
    have hx : ∀ x ∈ fp3, w.heap.size + 1 < x := fun x hx => F2.out x (SB.out x hx)
    exact ⟨_, fp3, rfl, ⟨_, rfl, O5.out.upd hu (fun x h1 hm => by have := hx x h1; simp only [List.mem_cons, List.not_mem_nil, or_false] at hm; omega)⟩, fun x h1 => by have := hx x h1; omega, G6.out.box_end hu (by simp)⟩)
  go_wp2
  refine bodyPost_ret (v := .tuple #[.agg #[.int .i64 cap, .slice na ks.length nc], .int .i64 ((es.length : Int) - (ks.length : Int))]) ?_ rfl (HR.out _ ?_)
  · simp [results, Try.results116, go_sem, r0, r1, rl, rz]
  · ((repeat (first | with_reducible exact Upd.refl _ _ | (with_reducible refine Upd.setCell ?_ (by simp) _))))
--% tableKeepI 66
set_option maxHeartbeats 2000000 in
theorem tableKeepI_any (w : World) (V : Value) (d : TableD) (ep : Int) (h : RdT w V d) (wf : WfT d) (sm : SmT d) (hi : -9223372036854775808 ≤ ep ∧ ep ≤ 9223372036854775807) : Calls Try.prog 66 #[V, .int .i64 ep] w (RetNew2 OwnT2 (tkF d ep).1 (.int .i64 (tkF d ep).2) w) := by
  have WF := Lib.hid wf; clear wf
  have HT := Lib.hid h; have SM := Lib.hid sm
  obtain ⟨v0, rfl, hv⟩ := h
  obtain ⟨a, c, rfl, hlc, hm, -, -⟩ := hv
  obtain ⟨cap, es⟩ := d
  simp only at hlc hm HT SM ⊢
  have hdl : es.length ≤ 1048576 := by have := sumE_nn es; unfold SmT sizeT sizeES at sm; simp only at sm; omega
  have hkl : (keepL ep es).length ≤ es.length := List.length_filter_le _ _
  clear sm
  unfold maxLen at hm
  cases htb : tbB ⟨cap, es⟩
  · have HX := Lib.hid (tkF_no (ep := ep) htb)
    go_enter Try.func66, Try.ntmps66
    go_wp2_with fail
    have BP0 : Hid (Box (((w.alloc (.cells #[Value.int .i64 cap, .slice a es.length c] 79)).alloc (.cells #[Value.int .i64 ep] 3)).alloc (.cells #[Value.int .i64 0, .slice none 0 0] 79)) w.heap.size [Value.int .i64 cap, .slice a es.length c]) := Lib.hid ((Box.alloc w [Value.int .i64 cap, .slice a es.length c] 79).grow ((Grow.alloc _ _).trans (Grow.alloc _ _)))
    have BE0 : Hid (Box (((w.alloc (.cells #[Value.int .i64 cap, .slice a es.length c] 79)).alloc (.cells #[Value.int .i64 ep] 3)).alloc (.cells #[Value.int .i64 0, .slice none 0 0] 79)) (w.heap.size + 1) [Value.int .i64 ep]) := Lib.hid (((Box.alloc (w.alloc (.cells #[Value.int .i64 cap, .slice a es.length c] 79)) [Value.int .i64 ep] 3).at_ (b' := w.heap.size + 1) (by simp only [World.alloc, Array.size_push])).grow (Grow.alloc _ _))
    have BR0 : Hid (Box (((w.alloc (.cells #[Value.int .i64 cap, .slice a es.length c] 79)).alloc (.cells #[Value.int .i64 ep] 3)).alloc (.cells #[Value.int .i64 0, .slice none 0 0] 79)) (w.heap.size + 1 + 1) [Value.int .i64 0, .slice none 0 0]) := Lib.hid ((Box.alloc ((w.alloc (.cells #[Value.int .i64 cap, .slice a es.length c] 79)).alloc (.cells #[Value.int .i64 ep] 3)) [Value.int .i64 0, .slice none 0 0] 79).at_ (b' := w.heap.size + 1 + 1) (by simp only [World.alloc, Array.size_push]))
    have G0 : Hid (Grow w (((w.alloc (.cells #[Value.int .i64 cap, .slice a es.length c] 79)).alloc (.cells #[Value.int .i64 ep] 3)).alloc (.cells #[Value.int .i64 0, .slice none 0 0] 79))) := Lib.hid ((Grow.alloc _ _).trans ((Grow.alloc _ _).trans (Grow.alloc _ _)))
    generalize (((w.alloc (.cells #[Value.int .i64 cap, .slice a es.length c] 79)).alloc (.cells #[Value.int .i64 ep] 3)).alloc (.cells #[Value.int .i64 0, .slice none 0 0] 79)) = W0 at *
    refine (tableOkI_any _ _ ⟨cap, es⟩ (HT.out.grow G0.out) WF.out).mono ?_
    rintro _ w1 ⟨rfl, hg⟩
    rw [htb]
    have G1 := Lib.hid (G0.out.trans hg); have BP := Lib.hid (BP0.out.grow hg); have BR := Lib.hid (BR0.out.grow hg); have BE := Lib.hid (BE0.out.grow hg)
    clear hg
    have ⟨p0, p1⟩ := BP.out.two
    have pl := BP.out.1
    have pz := BP.out.2.2
    have ⟨r0, r1⟩ := BR.out.two
    have rl := BR.out.1
    have rz := BR.out.2.2
    have HR : Hid (∀ W, Upd [w.heap.size + 1 + 1] w1 W → RetNew2 OwnT2 (tkF ⟨cap, es⟩ ep).1 (.int .i64 (tkF ⟨cap, es⟩ ep).2) w (.returned (.tuple #[.agg #[.int .i64 0, .slice none 0 0], .int .i64 (-1)])) W) := Lib.hid (fun W hu => by
      rw [HX.out]
      exact ⟨_, [], rfl, zeroT2 _, by simp [Fresh], G1.out.box_end hu (by intro b hb; simp only [List.mem_cons, List.not_mem_nil, or_false] at hb; omega)⟩)
    go_wp2
    refine bodyPost_ret (v := .tuple #[.agg #[.int .i64 0, .slice none 0 0], .int .i64 (-1)]) ?_ rfl (HR.out _ ?_)
    · simp [results, Try.results66, go_sem, p0, p1, r0, r1, rl, rz, pl, pz]
    · ((repeat (first | with_reducible exact Upd.refl _ _ | (with_reducible refine Upd.setCell ?_ (by simp) _))))
  have HX := Lib.hid (tkF_yes (ep := ep) htb)
  go_enter Try.func66, Try.ntmps66
  go_wp2_with fail
  have BP0 : Hid (Box (((w.alloc (.cells #[Value.int .i64 cap, .slice a es.length c] 79)).alloc (.cells #[Value.int .i64 ep] 3)).alloc (.cells #[Value.int .i64 0, .slice none 0 0] 79)) w.heap.size [Value.int .i64 cap, .slice a es.length c]) := Lib.hid ((Box.alloc w [Value.int .i64 cap, .slice a es.length c] 79).grow ((Grow.alloc _ _).trans (Grow.alloc _ _)))
  have BE0 : Hid (Box (((w.alloc (.cells #[Value.int .i64 cap, .slice a es.length c] 79)).alloc (.cells #[Value.int .i64 ep] 3)).alloc (.cells #[Value.int .i64 0, .slice none 0 0] 79)) (w.heap.size + 1) [Value.int .i64 ep]) := Lib.hid (((Box.alloc (w.alloc (.cells #[Value.int .i64 cap, .slice a es.length c] 79)) [Value.int .i64 ep] 3).at_ (b' := w.heap.size + 1) (by simp only [World.alloc, Array.size_push])).grow (Grow.alloc _ _))
  have BR0 : Hid (Box (((w.alloc (.cells #[Value.int .i64 cap, .slice a es.length c] 79)).alloc (.cells #[Value.int .i64 ep] 3)).alloc (.cells #[Value.int .i64 0, .slice none 0 0] 79)) (w.heap.size + 1 + 1) [Value.int .i64 0, .slice none 0 0]) := Lib.hid ((Box.alloc ((w.alloc (.cells #[Value.int .i64 cap, .slice a es.length c] 79)).alloc (.cells #[Value.int .i64 ep] 3)) [Value.int .i64 0, .slice none 0 0] 79).at_ (b' := w.heap.size + 1 + 1) (by simp only [World.alloc, Array.size_push]))
  have G0 : Hid (Grow w (((w.alloc (.cells #[Value.int .i64 cap, .slice a es.length c] 79)).alloc (.cells #[Value.int .i64 ep] 3)).alloc (.cells #[Value.int .i64 0, .slice none 0 0] 79))) := Lib.hid ((Grow.alloc _ _).trans ((Grow.alloc _ _).trans (Grow.alloc _ _)))
  generalize (((w.alloc (.cells #[Value.int .i64 cap, .slice a es.length c] 79)).alloc (.cells #[Value.int .i64 ep] 3)).alloc (.cells #[Value.int .i64 0, .slice none 0 0] 79)) = W0 at *
  refine (tableOkI_any _ _ ⟨cap, es⟩ (HT.out.grow G0.out) WF.out).mono ?_
  rintro _ w1 ⟨rfl, hg⟩
  rw [htb]
  have G1 := Lib.hid (G0.out.trans hg); have BP := Lib.hid (BP0.out.grow hg); have BR := Lib.hid (BR0.out.grow hg); have BE := Lib.hid (BE0.out.grow hg)
  clear hg
  have ⟨p0, p1⟩ := BP.out.two
  have pl := BP.out.1
  have pz := BP.out.2.2
  have ⟨r0, r1⟩ := BR.out.two
  have rl := BR.out.1
  have rz := BR.out.2.2
  go_wp2_with fail
  refine (withoutK_any _ _ ⟨cap, es⟩ ep (w.heap.size + 1) (HT.out.grow G1.out) SM.out BE.out).mono ?_
  rintro _ w2 ⟨V2, fp, rfl, ho, hf, hg⟩
  obtain ⟨zv, rfl, ho⟩ := ho
  simp only at ho HX ⊢
  generalize keepL ep es = ks at *
  obtain ⟨na, nc, rfl, -⟩ := ho.rd
  have G2 := Lib.hid (G1.out.trans hg)
  have BR2 := Lib.hid (BR.out.grow hg)
  have F2 : Hid (∀ x ∈ fp, w.heap.size + 1 + 1 < x) := Lib.hid (fun x hx => by have h1 := hf x hx; have h2 := BR.out.1; omega)
  have O2 := Lib.hid ho
  clear ho hf hg p0 p1 pl pz r0 r1 rl rz
  have ⟨r0, r1⟩ := BR2.out.two
  have rl := BR2.out.1
  have rz := BR2.out.2.2
  go_wp2
  have HR : Hid (∀ W, Upd [w.heap.size + 1 + 1] w2 W → RetNew2 OwnT2 (tkF ⟨cap, es⟩ ep).1 (.int .i64 (tkF ⟨cap, es⟩ ep).2) w (.returned (.tuple #[.agg #[.int .i64 cap, .slice na ks.length nc], .int .i64 ((es.length : Int) - (ks.length : Int))])) W) := Lib.hid (fun W hu => by
    rw [HX.out]
    exact ⟨_, fp, rfl, ⟨_, rfl, O2.out.upd hu (fun x h1 hm => by have := F2.out x h1; simp only [List.mem_cons, List.not_mem_nil, or_false] at hm; omega)⟩, fun x h1 => by have := F2.out x h1; omega, G2.out.box_end hu (by intro b hb; simp only [List.mem_cons, List.not_mem_nil, or_false] at hb; omega)⟩)
  refine bodyPost_ret (v := .tuple #[.agg #[.int .i64 cap, .slice na ks.length nc], .int .i64 ((es.length : Int) - (ks.length : Int))]) ?_ rfl (HR.out _ ?_)
  · simp [results, Try.results66, go_sem, r0, r1, rl, rz]
  · ((repeat (first | with_reducible exact Upd.refl _ _ | (with_reducible refine Upd.setCell ?_ (by simp) _))))
--% tableKeepS 65
set_option maxHeartbeats 2000000 in
theorem tableKeepS_any (w : World) (V : Value) (d : TableD) (ep : Int) (h : RdT w V d) (wf : WfT d) (sm : SmT d) (hi : -9223372036854775808 ≤ ep ∧ ep ≤ 9223372036854775807) : Calls Try.prog 65 #[V, .int .i64 ep] w (RetNew2 OwnT2 (tkF d ep).1 (.int .i64 (tkF d ep).2) w) := by
  have WF := Lib.hid wf; clear wf
  have HT := Lib.hid h; have SM := Lib.hid sm
  obtain ⟨v0, rfl, hv⟩ := h
  obtain ⟨a, c, rfl, hlc, hm, -, hel⟩ := hv
  have H := Lib.hid hel
  have HS : Hid (SmES d.es) := Lib.hid sm
  clear hel
  obtain ⟨cap, es⟩ := d
  simp only at hlc hm HT SM H HS ⊢
  have hdl : es.length ≤ 1048576 := by have := sumE_nn es; unfold SmT sizeT sizeES at sm; simp only at sm; omega
  have hkl : (keepL ep es).length ≤ es.length := List.length_filter_le _ _
  clear sm
  unfold maxLen at hm
  cases htb : tbB ⟨cap, es⟩
  · have HX := Lib.hid (tkF_no (ep := ep) htb)
    go_enter Try.func65, Try.ntmps65
    go_wp2_with fail
    have BP0 : Hid (Box ((w.alloc (.cells #[Value.int .i64 cap, .slice a es.length c] 79)).alloc (.cells #[Value.int .i64 0, .slice none 0 0] 79)) w.heap.size [Value.int .i64 cap, .slice a es.length c]) := Lib.hid ((Box.alloc w [Value.int .i64 cap, .slice a es.length c] 79).grow (Grow.alloc _ _))
    have BR0 : Hid (Box ((w.alloc (.cells #[Value.int .i64 cap, .slice a es.length c] 79)).alloc (.cells #[Value.int .i64 0, .slice none 0 0] 79)) (w.heap.size + 1) [Value.int .i64 0, .slice none 0 0]) := Lib.hid ((Box.alloc (w.alloc (.cells #[Value.int .i64 cap, .slice a es.length c] 79)) [Value.int .i64 0, .slice none 0 0] 79).at_ (b' := w.heap.size + 1) (by simp only [World.alloc, Array.size_push]))
    have G0 : Hid (Grow w ((w.alloc (.cells #[Value.int .i64 cap, .slice a es.length c] 79)).alloc (.cells #[Value.int .i64 0, .slice none 0 0] 79))) := Lib.hid ((Grow.alloc _ _).trans (Grow.alloc _ _))
    generalize ((w.alloc (.cells #[Value.int .i64 cap, .slice a es.length c] 79)).alloc (.cells #[Value.int .i64 0, .slice none 0 0] 79)) = W0 at *
    refine (tableOkS_any _ _ ⟨cap, es⟩ (HT.out.grow G0.out) WF.out).mono ?_
    rintro _ w1 ⟨rfl, hg⟩
    rw [htb]
    have G1 := Lib.hid (G0.out.trans hg); have BP := Lib.hid (BP0.out.grow hg); have BR := Lib.hid (BR0.out.grow hg)
    clear hg
    have ⟨p0, p1⟩ := BP.out.two
    have pl := BP.out.1
    have pz := BP.out.2.2
    have ⟨r0, r1⟩ := BR.out.two
    have rl := BR.out.1
    have rz := BR.out.2.2
    have HR : Hid (∀ W, Upd [w.heap.size + 1] w1 W → RetNew2 OwnT2 (tkF ⟨cap, es⟩ ep).1 (.int .i64 (tkF ⟨cap, es⟩ ep).2) w (.returned (.tuple #[.agg #[.int .i64 0, .slice none 0 0], .int .i64 (-1)])) W) := Lib.hid (fun W hu => by
      rw [HX.out]
      exact ⟨_, [], rfl, zeroT2 _, by simp [Fresh], G1.out.box_end hu (by intro b hb; simp only [List.mem_cons, List.not_mem_nil, or_false] at hb; omega)⟩)
    go_wp2
    refine bodyPost_ret (v := .tuple #[.agg #[.int .i64 0, .slice none 0 0], .int .i64 (-1)]) ?_ rfl (HR.out _ ?_)
    · simp [results, Try.results65, go_sem, p0, p1, r0, r1, rl, rz, pl, pz]
    · ((repeat (first | with_reducible exact Upd.refl _ _ | (with_reducible refine Upd.setCell ?_ (by simp) _))))
  have HX := Lib.hid (tkF_yes (ep := ep) htb)
  go_enter Try.func65, Try.ntmps65
  go_wp2_with fail
  have BP0 : Hid (Box ((w.alloc (.cells #[Value.int .i64 cap, .slice a es.length c] 79)).alloc (.cells #[Value.int .i64 0, .slice none 0 0] 79)) w.heap.size [Value.int .i64 cap, .slice a es.length c]) := Lib.hid ((Box.alloc w [Value.int .i64 cap, .slice a es.length c] 79).grow (Grow.alloc _ _))
  have BR0 : Hid (Box ((w.alloc (.cells #[Value.int .i64 cap, .slice a es.length c] 79)).alloc (.cells #[Value.int .i64 0, .slice none 0 0] 79)) (w.heap.size + 1) [Value.int .i64 0, .slice none 0 0]) := Lib.hid ((Box.alloc (w.alloc (.cells #[Value.int .i64 cap, .slice a es.length c] 79)) [Value.int .i64 0, .slice none 0 0] 79).at_ (b' := w.heap.size + 1) (by simp only [World.alloc, Array.size_push]))
  have G0 : Hid (Grow w ((w.alloc (.cells #[Value.int .i64 cap, .slice a es.length c] 79)).alloc (.cells #[Value.int .i64 0, .slice none 0 0] 79))) := Lib.hid ((Grow.alloc _ _).trans (Grow.alloc _ _))
  generalize ((w.alloc (.cells #[Value.int .i64 cap, .slice a es.length c] 79)).alloc (.cells #[Value.int .i64 0, .slice none 0 0] 79)) = W0 at *
  refine (tableOkS_any _ _ ⟨cap, es⟩ (HT.out.grow G0.out) WF.out).mono ?_
  rintro _ w1 ⟨rfl, hg⟩
  rw [htb]
  have G1 := Lib.hid (G0.out.trans hg); have BP := Lib.hid (BP0.out.grow hg); have BR := Lib.hid (BR0.out.grow hg)
  clear hg
  have ⟨p0, p1⟩ := BP.out.two
  have pl := BP.out.1
  have pz := BP.out.2.2
  have ⟨r0, r1⟩ := BR.out.two
  have rl := BR.out.1
  have rz := BR.out.2.2
  go_wp2
  have ST : Hid (CpT w (w1.alloc (.cells #[Value.int .i64 cap, .slice none 0 0] 79)) w.heap.size (w.heap.size + 1) w1.heap.size [Value.int .i64 cap, .slice a es.length c] [Value.int .i64 0, .slice none 0 0] cap (.slice none 0 0) (keepL ep []) [] (fun _ => [])) := Lib.hid (by
    have h1 := BP.out.1; have h2 := BR.out.1; have h3 := G1.out.size
    exact ⟨AccEF.nil (G1.out.trans (Grow.alloc _ _)), Box.alloc w1 [Value.int .i64 cap, .slice none 0 0] 79, BP.out.grow (Grow.alloc _ _), BR.out.grow (Grow.alloc _ _), by simp [allF, fpOf, Value.ownBlock, keepL], by omega, by omega, by omega⟩)
  generalize w1.alloc (.cells #[Value.int .i64 cap, .slice none 0 0] 79) = W1 at *
  generalize w1.heap.size = bo at *
  clear p0 p1 pl pz r0 r1 rl rz
  go_loopw [18] (fun i wr => ∃ (k : Nat) (q : Value) (cs : List Value) (F : Nat → List Nat), k ≤ es.length ∧ i = .int .i64 k ∧ CpT w wr w.heap.size (w.heap.size + 1) bo [Value.int .i64 cap, .slice a es.length c] [Value.int .i64 0, .slice none 0 0] cap q (keepL ep (es.take k)) cs F) (fun i _ => es.length - (intOf i).toNat)
  case atStart => exact ⟨0, _, _, _, Nat.zero_le _, rfl, ST.out⟩
  case round =>
    obtain ⟨k, q, cs, F, hk, rfl, hst⟩ := hrel
    rename World => wr
    have ST := Lib.hid hst
    have HG := Lib.hid hst.acc.1
    by_cases hlt : k < es.length
    · obtain ⟨b, off, v0, v1, v2, rfl, he⟩ := H.out k hlt
      have SM1 := Lib.hid (HS.out.at hlt)
      have HKY := Lib.hid (keepL_yes (ep := ep) hlt); have HKN := Lib.hid (keepL_no (ep := ep) hlt)
      have hkl1 : (keepL ep (es.take k)).length ≤ 1048576 := by have := keepL_len ep es k; omega
      have HE := Lib.hid (he.grow HG.out)
      have HE0 := Lib.hid he
      obtain ⟨a3, k3, rfl⟩ := RdN.sh he.2.2.2.2.2.2.1
      obtain ⟨a4, k4, rfl⟩ := RdN.sh he.2.2.2.2.2.2.2.1
      obtain ⟨a5, k5, rfl⟩ := RdA.sh he.2.2.2.2.2.2.2.2
      generalize hkk : keepL ep (es.take (k + 1)) = kk at HKY HKN
      have HKK := Lib.hid hkk; clear hkk
      generalize es[k] = e at *
      generalize keepL ep (es.take k) = ek at *
      obtain ⟨qa, qc, rfl⟩ := own_shape hst.acc.2.2.2
      have s0 := HE.out.1
      have ⟨pa0, pa1⟩ := ST.out.par.two
      clear he hst
      by_cases hc : e.epoch = ep
      rotate_left
      · have hb : (e.epoch == ep) = false := by simpa using hc
        have HK := Lib.hid (HKN.out hc)
        clear hc
        go_wp2
        go_roundw
        case rel => exact ⟨k + 1, _, _, _, by omega, by go_num, by rw [HKK.out, HK.out]; exact ST.out⟩
        case measure => simp [intOf]; omega
      have hb : (e.epoch == ep) = true := by simpa using hc
      have HK := Lib.hid (HKY.out hc)
      clear hc
      go_wp2_with fail
      obtain ⟨C, hC⟩ : ∃ C : World → Prop, C = fun W => Box W bo [.int .i64 cap, .slice qa ek.length qc] ∧ Box W w.heap.size [Value.int .i64 cap, .slice (some ⟨b, off, none⟩) es.length c] ∧ Grow w W := ⟨_, rfl⟩
      have CC : Hid (∀ W, C W → Box W bo [.int .i64 cap, .slice qa ek.length qc] ∧ Box W w.heap.size [Value.int .i64 cap, .slice (some ⟨b, off, none⟩) es.length c] ∧ Grow w W) := Lib.hid (fun W h => by rw [hC] at h; exact h)
      have MK : Hid (∀ W, (Box W bo [.int .i64 cap, .slice qa ek.length qc] ∧ Box W w.heap.size [Value.int .i64 cap, .slice (some ⟨b, off, none⟩) es.length c] ∧ Grow w W) → C W) := Lib.hid (fun W h => by rw [hC]; exact h)
      clear hC
      have c0 : Hid (C (wr.drewN 1)) := Lib.hid (MK.out _ ⟨(ST.out.grow (Grow.drewN _ 1)).out, (ST.out.grow (Grow.drewN _ 1)).par, HG.out.trans (Grow.drewN _ 1)⟩)
      have hne : Nonempty (Cl C) := ⟨⟨_, c0.out⟩⟩
      have p1 : ∀ x : Cl C, x.w.cell? ⟨bo, 1, none⟩ = some (.slice qa ek.length qc) := fun x => (CC.out x.w x.ok).1.two.2
      have p2 : ∀ x : Cl C, x.w.cell? ⟨w.heap.size, 1, none⟩ = some (.slice (some ⟨b, off, none⟩) es.length c) := fun x => (CC.out x.w x.ok).2.1.two.2
      have e0 : ∀ x : Cl C, x.w.cell? ⟨b, off + k * 6, none⟩ = some (.int .i64 e.epoch) := fun x => (CC.out x.w x.ok).2.2.cell HE0.out.1
      have e1 : ∀ x : Cl C, x.w.cell? ⟨b, off + k * 6 + 1, none⟩ = some (.int .i64 e.prio) := fun x => (CC.out x.w x.ok).2.2.cell HE0.out.2.1
      have e2 : ∀ x : Cl C, x.w.cell? ⟨b, off + k * 6 + 2, none⟩ = some (.slice a3 e.m.vs.length k3) := fun x => (CC.out x.w x.ok).2.2.cell HE0.out.2.2.1
      have e3 : ∀ x : Cl C, x.w.cell? ⟨b, off + k * 6 + 3, none⟩ = some (.slice a4 e.m.ms.length k4) := fun x => (CC.out x.w x.ok).2.2.cell HE0.out.2.2.2.1
      have e4 : ∀ x : Cl C, x.w.cell? ⟨b, off + k * 6 + 4, none⟩ = some (.slice a5 e.acts.length k5) := fun x => (CC.out x.w x.ok).2.2.cell HE0.out.2.2.2.2.1
      have e5 : ∀ x : Cl C, x.w.cell? ⟨b, off + k * 6 + 5, none⟩ = some (.int .i64 e.hits) := fun x => (CC.out x.w x.ok).2.2.cell HE0.out.2.2.2.2.2.1
      clear s0 pa0 pa1
      refine wp_region_last (Cls C) 11 12 #[false, false, false, false, false, false, false, false, false, false, false, false] (by kernel_rfl) (by kernel_rfl) ?_
      refine anyL_seg [0, 1, 2, 3, 4, 5, 6] #[true, true, true, true, true, true, true, false, false, false, false, false] (fuel := 5) rfl (by kernel_rfl) ⟨⟨_, c0.out⟩, rfl⟩ ?_
      simp only [pickOps, List.getD_cons_succ, List.getD_cons_zero]
      repeat (go_big_quiet_step (fail))
      refine wpQuiet_nil ?_
      refine anyL_sole 7 #[true, true, true, true, true, true, true, true, false, false, false, false] (fuel := 4) (by kernel_rfl) ?_
      simp only [List.getD_cons_succ, List.getD_cons_zero]
      go_wp2_with fail
      refine (l07Entry_any _ _ e (HE.out.rd.grow (Grow.drewN wr 1)) SM1.out).mono ?_
      rintro _ w1 ⟨V, fe, rfl, ho, hf, hg⟩
      have ho' := ho
      obtain ⟨u0, u1, u2, f0, f1, f2, rfl, o0, o1, o2, -⟩ := ho'
      obtain ⟨n0, m0, rfl⟩ := own_shape o0.1
      obtain ⟨n1, m1, rfl⟩ := own_shape o1.1
      obtain ⟨n2, m2, rfl⟩ := own_shape o2.1
      have OE := Lib.hid ho; have FE := Lib.hid hf
      have T1 := Lib.hid ((ST.out.grow (Grow.drewN wr 1)).grow hg)
      have TF := Lib.hid (ST.out.grow (Grow.drewN wr 1))
      have c1 : Hid (C w1) := Lib.hid (have := CC.out _ c0.out; MK.out _ ⟨this.1.grow hg, this.2.1.grow hg, this.2.2.trans hg⟩)
      clear ho hf hg o0 o1 o2
      go_wp2
      refine ⟨⟨⟨_, c1.out⟩, rfl⟩, ?_⟩
      refine anyL_sole 8 #[true, true, true, true, true, true, true, true, true, false, false, false] (fuel := 3) (by kernel_rfl) ?_
      simp only [List.getD_cons_succ, List.getD_cons_zero]
      go_wp2
      have T2 := Lib.hid (T1.out.grow (Grow.alloc w1 (.cells (entC e (.slice n0 e.m.vs.length m0) (.slice n1 e.m.ms.length m1) (.slice n2 e.acts.length m2)).toArray 68)))
      have OE2 := Lib.hid (OE.out.grow (Grow.alloc w1 (.cells (entC e (.slice n0 e.m.vs.length m0) (.slice n1 e.m.ms.length m1) (.slice n2 e.acts.length m2)).toArray 68)))
      have c2 : Hid (C (w1.alloc (.cells (entC e (.slice n0 e.m.vs.length m0) (.slice n1 e.m.ms.length m1) (.slice n2 e.acts.length m2)).toArray 68))) := Lib.hid (have := CC.out _ c1.out; MK.out _ ⟨this.1.grow (Grow.alloc _ _), this.2.1.grow (Grow.alloc _ _), this.2.2.trans (Grow.alloc _ _)⟩)
      refine ⟨⟨⟨_, c2.out⟩, rfl⟩, ?_⟩
      refine anyL_sole 9 #[true, true, true, true, true, true, true, true, true, true, false, false] (fuel := 2) (by kernel_rfl) ?_
      simp only [List.getD_cons_succ, List.getD_cons_zero]
      go_wp2_with (at_builtin; refine wpl_append Try.elemEnt rfl _ _ rfl w.heap.size rfl T2.out.acc.2.2.2 1 rfl (rd_built _ _ 6 1 (entC e (.slice n0 e.m.vs.length m0) (.slice n1 e.m.ms.length m1) (.slice n2 e.acts.length m2)) rfl (by decide)) rfl (entC_one e _ _ _ _ _ _ _ _ _) (by omega) (by unfold maxLen; omega) T2.out.acc.1.size ?_; intro v5 w5 hown hgr hmv)
      have TZ := Lib.hid (T2.out.onto OE2.out FE.out TF.out hown hgr hmv)
      obtain ⟨za, zc, rfl⟩ := own_shape hown
      have BZ := Lib.hid (T2.out.out.upd (Upd.of_grown hgr) (fun hx => T2.out.off bo (by simp) (mem_allF.2 (.inl hx))))
      have c3 : Hid (C w5) := Lib.hid (by
        have := CC.out _ c2.out
        exact MK.out _ ⟨BZ.out, this.2.1.upd (Upd.of_grown hgr) (fun hx => T2.out.off w.heap.size (by simp) (mem_allF.2 (.inl hx))), T2.out.acc.1.then_upd (Upd.of_grown hgr) (fun x hx => T2.out.acc.2.2.1 x (mem_allF.2 (.inl hx)))⟩)
      clear hown hgr hmv
      refine ⟨⟨⟨_, c3.out⟩, rfl⟩, ?_⟩
      refine anyL_seg [10] #[true, true, true, true, true, true, true, true, true, true, true, false] (fuel := 1) rfl (by kernel_rfl) ⟨⟨_, c3.out⟩, rfl⟩ ?_
      simp only [pickOps, List.getD_cons_succ, List.getD_cons_zero]
      repeat (go_big_quiet_step (fail))
      refine wpQuiet_nil ?_
      refine anyL_last (by kernel_rfl) ?_
      simp only [List.getD_cons_succ, List.getD_cons_zero]
      have ⟨y0, y1⟩ := BZ.out.two
      have yl := BZ.out.1
      have yz := BZ.out.2.2
      clear p1 p2 e0 e1 e2 e3 e4 e5
      go_wp2
      refine ⟨trivial, ?_⟩
      go_wp2
      go_roundw
      case rel => exact ⟨k + 1, _, _, _, by omega, by go_num, by rw [HKK.out, HK.out]; exact TZ.out⟩
      case measure => simp [intOf]; omega
    · obtain rfl : k = es.length := by omega
      have TZ : Hid (CpT w wr w.heap.size (w.heap.size + 1) bo [Value.int .i64 cap, .slice a es.length c] [Value.int .i64 0, .slice none 0 0] cap q (keepL ep es) cs F) := Lib.hid (by have := ST.out; rwa [List.take_of_length_le (Nat.le_refl _)] at this)
      have hqo := TZ.out.acc.2.2.2
      generalize hks : keepL ep es = ks at *
      have HKS := Lib.hid hks
      clear hks
      obtain ⟨qa, qc, rfl⟩ := own_shape hqo
      clear hst hqo ST
      go_wp2_with fail
      obtain ⟨C, hC⟩ : ∃ C : World → Prop, C = fun W => Box W bo [.int .i64 cap, .slice qa ks.length qc] ∧ Box W w.heap.size [Value.int .i64 cap, .slice a es.length c] := ⟨_, rfl⟩
      have CC : Hid (∀ W, C W → Box W bo [.int .i64 cap, .slice qa ks.length qc] ∧ Box W w.heap.size [Value.int .i64 cap, .slice a es.length c]) := Lib.hid (fun W h => by rw [hC] at h; exact h)
      have MK : Hid (∀ W, (Box W bo [.int .i64 cap, .slice qa ks.length qc] ∧ Box W w.heap.size [Value.int .i64 cap, .slice a es.length c]) → C W) := Lib.hid (fun W h => by rw [hC]; exact h)
      clear hC
      have T5 := Lib.hid (TZ.out.grow (Grow.drewN wr 1))
      have c0 : Hid (C (wr.drewN 1)) := Lib.hid (MK.out _ ⟨T5.out.out, T5.out.par⟩)
      have hne : Nonempty (Cl C) := ⟨⟨_, c0.out⟩⟩
      have p0 : ∀ x : Cl C, x.w.cell? ⟨bo, 0, none⟩ = some (.int .i64 cap) := fun x => (CC.out x.w x.ok).1.two.1
      have p1 : ∀ x : Cl C, x.w.cell? ⟨bo, 1, none⟩ = some (.slice qa ks.length qc) := fun x => (CC.out x.w x.ok).1.two.2
      have p2 : ∀ x : Cl C, x.w.cell? ⟨w.heap.size, 1, none⟩ = some (.slice a es.length c) := fun x => (CC.out x.w x.ok).2.two.2
      refine wp_region_mix (Cls C) 10 #[false, false, false, false, false, false, false, false, false, false] (by kernel_rfl) (by kernel_rfl) ⟨⟨_, c0.out⟩, rfl⟩ ?_
      refine anyC_seg [0, 1, 2, 3, 4, 5, 6, 7] #[true, true, true, true, true, true, true, true, false, false] (fuel := 2) rfl (by kernel_rfl) ⟨⟨_, c0.out⟩, rfl⟩ ?_
      simp only [pickOps, List.getD_cons_succ, List.getD_cons_zero]
      repeat (go_big_quiet_step (fail))
      refine wpQuiet_nil ?_
      refine anyC_sole 8 #[true, true, true, true, true, true, true, true, true, false] (fuel := 1) (by kernel_rfl) ?_
      simp only [List.getD_cons_succ, List.getD_cons_zero]
      have ⟨r0, r1⟩ := T5.out.res.two
      have rl := T5.out.res.1
      have rz := T5.out.res.2.2
      have US : Hid (Upd [w.heap.size + 1] (wr.drewN 1) (((wr.drewN 1).setCell ⟨w.heap.size + 1, 0, none⟩ (.int .i64 cap)).setCell ⟨w.heap.size + 1, 1, none⟩ (.slice qa ks.length qc))) := Lib.hid (Upd.setCell (Upd.one_cell (wr.drewN 1) (w.heap.size + 1) 0 (.int .i64 cap)) (p := ⟨w.heap.size + 1, 1, none⟩) (by simp) (.slice qa ks.length qc))
      have c1 : Hid (C (((wr.drewN 1).setCell ⟨w.heap.size + 1, 0, none⟩ (.int .i64 cap)).setCell ⟨w.heap.size + 1, 1, none⟩ (.slice qa ks.length qc))) := Lib.hid (MK.out _ ⟨T5.out.out.upd US.out (by have := T5.out.apart.2.1; simp; omega), T5.out.par.upd US.out (by simp)⟩)
      go_wp2
      refine ⟨⟨⟨_, c1.out⟩, rfl⟩, ?_⟩
      refine anyC_seg [9] #[true, true, true, true, true, true, true, true, true, true] (fuel := 0) rfl (by kernel_rfl) ⟨⟨_, c1.out⟩, rfl⟩ ?_
      simp only [pickOps, List.getD_cons_succ, List.getD_cons_zero]
      repeat (go_big_quiet_step (fail))
      refine wpQuiet_nil ?_
      refine anyC_done (by kernel_rfl) ?_
      clear p0 p1 p2
      have HR : Hid (∀ W, Upd [w.heap.size + 1] (wr.drewN 1) W → RetNew2 OwnT2 (tkF ⟨cap, es⟩ ep).1 (.int .i64 (tkF ⟨cap, es⟩ ep).2) w (.returned (.tuple #[.agg #[.int .i64 cap, .slice qa ks.length qc], .int .i64 ((es.length : Int) - (ks.length : Int))])) W) := Lib.hid (fun W hu => by
        have hx := HX.out
        try simp only [HKS.out] at hx
        rw [hx]
        obtain ⟨v, fp, e, ⟨v1, e1, o1⟩, h2, h3⟩ := T5.out.ret hu (by omega)
        cases e; cases e1
        exact ⟨_, fp, rfl, ⟨_, rfl, o1⟩, h2, h3⟩)
      go_wp2
      refine bodyPost_ret (v := .tuple #[.agg #[.int .i64 cap, .slice qa ks.length qc], .int .i64 ((es.length : Int) - (ks.length : Int))]) ?_ rfl (HR.out _ ?_)
      · simp [results, Try.results65, go_sem, r0, r1, rl, rz]
      · ((repeat (first | with_reducible exact Upd.refl _ _ | (with_reducible refine Upd.setCell ?_ (by simp) _))))
--%
end Go.Proofs.Ytgigdpdmdldhnaa
