/- MeetOf of the program: contract of the code (printed by gmi.py). -/
import Derived.Test.YtkkhkojojnebjaaMi
import Derived.Test.YtkkhkojojnebjaaMe
import Derived.WalkKit
import Derived.ProofKit
import Derived.Deep.QuietTactic
import Derived.BigQuiet
import Derived.Outline
import Derived.WalkSpells
namespace Go.Proofs.Ytkkhkojojnebjaa
open Go.ChangeShapes Go.WideShapes Go.ChangeAt Go.RowKit
set_option linter.unusedVariables false
set_option linter.unusedSimpArgs false
--% MeetOfI 49
set_option maxHeartbeats 2000000 in
set_option maxRecDepth 20000 in
theorem meetOfI_any (w : World) (V U : Value) (a b : DatM) (h : RdM w V a) (h2 : RdM w U b) (wa : WfM a) (wb : WfM b) : Calls Try.prog 49 #[V, U] w (RetNew2 OwnM (meetF a b).1 (.bool (meetF a b).2) w) := by
  have HZ : ∀ (w1 : World), Grow w w1 → RetNew2 OwnM zeroM (.bool false) w (.returned (.tuple #[.agg #[.slice none 0 0, .slice none 0 0], .bool false])) w1 := fun w1 hg => ⟨_, [], rfl, ownM_nil _, by simp [Fresh], hg⟩
  have HZ := Lib.hid HZ
  obtain ⟨v0, v1, rfl, hv0, hv1⟩ := h
  obtain ⟨v2, v3, rfl, hv2, hv3⟩ := h2
  have R0 := Lib.hid hv0
  obtain ⟨a0, c0, rfl, hlc0, hm0, hn0, hc0⟩ := Rd.ints hv0
  have H0 := Lib.hid hc0
  unfold maxLen at hm0
  clear hv0 hn0 hc0
  have R1 := Lib.hid hv1
  obtain ⟨a1, c1, rfl, hlc1, hm1, hn1, hc1⟩ := Rd.ints hv1
  have H1 := Lib.hid hc1
  unfold maxLen at hm1
  clear hv1 hn1 hc1
  have R2 := Lib.hid hv2
  obtain ⟨a2, c2, rfl, hlc2, hm2, hn2, hc2⟩ := Rd.ints hv2
  have H2 := Lib.hid hc2
  unfold maxLen at hm2
  clear hv2 hn2 hc2
  have R3 := Lib.hid hv3
  obtain ⟨a3, c3, rfl, hlc3, hm3, hn3, hc3⟩ := Rd.ints hv3
  have H3 := Lib.hid hc3
  unfold maxLen at hm3
  clear hv3 hn3 hc3
  cases hok : meOk a b
  · rw [meetF_no hok]
    go_enter Try.func49, Try.ntmps49
    go_wp2_with fail
    refine at_world (w := w) ?G (fun hG => (meetsI_any _ _ _ a b ⟨_, _, rfl, R0.out.grow hG, R1.out.grow hG⟩ ⟨_, _, rfl, R2.out.grow hG, R3.out.grow hG⟩ wa wb).mono ?_)
    case G => ((repeat (first | with_reducible exact Grow.refl _ | (with_reducible refine Grow.alloc_ ?_ _) | (with_reducible refine Grow.setCell_ ?_ (by first | exact Nat.le_refl _ | (simp only [World.alloc, Array.size_push]; omega) | omega) _))))
    rintro e w2 ⟨rfl, hg⟩
    rw [hok]
    have G2 := Lib.hid (hG.trans hg)
    have BA := Lib.hid ((Box.alloc w _ _).grow ((Grow.alloc _ _).trans ((Grow.alloc _ _).trans hg)))
    have BB := Lib.hid (((Box.alloc (w.alloc _) _ _).grow ((Grow.alloc _ _).trans hg)).at_ (b' := w.heap.size + 1) (by simp only [World.alloc, Array.size_push]))
    have BR := Lib.hid (((Box.alloc ((w.alloc _).alloc _) _ _).grow hg).at_ (b' := w.heap.size + 1 + 1) (by simp only [World.alloc, Array.size_push]))
    clear hG hg
    have ⟨t0, t1⟩ := BR.out.two
    have z0 := BR.out.2.2
    have l0 := BR.out.1
    go_wp2
    refine bodyPost_ret (v := .tuple #[.agg #[.slice none 0 0, .slice none 0 0], .bool false]) ?_ rfl (HZ.out _ (G2.out.box_end (fq := [w.heap.size + 1 + 1]) ?_ (by intro b hb; simp only [List.mem_cons, List.not_mem_nil, or_false] at hb; omega)))
    · simp [results, Try.results49, go_sem, t0, t1, z0, l0]
    · ((repeat (first | with_reducible exact Upd.refl _ _ | (with_reducible refine Upd.setCell ?_ (by simp) _))))
  rw [meetF_yes hok, orM_eq]
  have hab : mtOk a = true ∧ mtOk b = true := by
    unfold meOk at hok; simp only [Bool.and_eq_true] at hok; exact ⟨hok.1, hok.2.1⟩
  have KA := Lib.hid (mtOk_at hab.1)
  have KB := Lib.hid (mtOk_at hab.2)
  have L0 := Lib.hid (mtOk_iff.1 hab.1).1; have L1 := Lib.hid (hdOk_at (mtOk_iff.1 hab.1).2.1).1
  have L2 := Lib.hid (mtOk_iff.1 hab.2).1; have L3 := Lib.hid (hdOk_at (mtOk_iff.1 hab.2).2.1).1
  clear hab
  go_enter Try.func49, Try.ntmps49
  go_wp2_with fail
  refine at_world (w := w) ?G (fun hG => (meetsI_any _ _ _ a b ⟨_, _, rfl, R0.out.grow hG, R1.out.grow hG⟩ ⟨_, _, rfl, R2.out.grow hG, R3.out.grow hG⟩ wa wb).mono ?_)
  case G => ((repeat (first | with_reducible exact Grow.refl _ | (with_reducible refine Grow.alloc_ ?_ _) | (with_reducible refine Grow.setCell_ ?_ (by first | exact Nat.le_refl _ | (simp only [World.alloc, Array.size_push]; omega) | omega) _))))
  rintro e w2 ⟨rfl, hg⟩
  rw [hok]
  have G2 := Lib.hid (hG.trans hg)
  have BA := Lib.hid ((Box.alloc w _ _).grow ((Grow.alloc _ _).trans ((Grow.alloc _ _).trans hg)))
  have BB := Lib.hid (((Box.alloc (w.alloc _) _ _).grow ((Grow.alloc _ _).trans hg)).at_ (b' := w.heap.size + 1) (by simp only [World.alloc, Array.size_push]))
  have BR := Lib.hid (((Box.alloc ((w.alloc _).alloc _) _ _).grow hg).at_ (b' := w.heap.size + 1 + 1) (by simp only [World.alloc, Array.size_push]))
  clear hG hg
  go_wp2_with fail
  refine (matchAllI_any _).mono ?_
  rintro e w3 ⟨v4, fp4, rfl, ho, hf, hg⟩
  obtain ⟨g1, g2, e1, e2, rfl, o1, o2, hd, n1, n2, l1, l2⟩ := ownM_open ho hf
  have BS := Lib.hid (Bld.start hg 41 o1 o2 hd n1 n2 l1 l2)
  clear ho hf o1 o2 hd n1 n2 l1 l2 hg
  go_wp2
  generalize w3.alloc (Obj.cells #[Value.slice (some ⟨g1, 0, none⟩) 8 e1, Value.slice (some ⟨g2, 0, none⟩) 8 e2] 41) = W0 at *
  go_loopw [14] (fun i wr => ∃ k : Nat, k ≤ 8 ∧ i = .int .i64 k ∧ Bld w2 wr w3.heap.size g1 g2 e1 e2 ⟨partZ (orL a.vs b.vs) k, partZ (orL a.ms b.ms) k⟩) (fun i _ => 8 - (intOf i).toNat)
  case atStart => exact ⟨0, Nat.zero_le _, rfl, by rw [partZ_0, partZ_0]; exact BS.out⟩
  case round =>
    obtain ⟨k, hk, rfl, hbl⟩ := hrel
    have BL := Lib.hid hbl
    clear hbl
    by_cases hlt : k < 8
    · skip
      have hl0 : k < a.vs.length := by rw [L0.out]; exact hlt
      obtain ⟨b0, o0, rfl, hcs0⟩ := H0.out k hl0
      have C0 := Lib.hid hcs0
      have hd0 : nv a.vs k = a.vs[k].toNat := by unfold nv; rw [getD_at hl0]
      clear hcs0
      have hl1 : k < a.ms.length := by rw [L1.out]; exact hlt
      obtain ⟨b1, o1, rfl, hcs1⟩ := H1.out k hl1
      have C1 := Lib.hid hcs1
      have hd1 : nv a.ms k = a.ms[k].toNat := by unfold nv; rw [getD_at hl1]
      clear hcs1
      have hl2 : k < b.vs.length := by rw [L2.out]; exact hlt
      obtain ⟨b2, o2, rfl, hcs2⟩ := H2.out k hl2
      have C2 := Lib.hid hcs2
      have hd2 : nv b.vs k = b.vs[k].toNat := by unfold nv; rw [getD_at hl2]
      clear hcs2
      have hl3 : k < b.ms.length := by rw [L3.out]; exact hlt
      obtain ⟨b3, o3, rfl, hcs3⟩ := H3.out k hl3
      have C3 := Lib.hid hcs3
      have hd3 : nv b.ms k = b.ms[k].toNat := by unfold nv; rw [getD_at hl3]
      clear hcs3
      have ka := KA.out k hlt
      rw [getD_at hl0, getD_at hl1] at ka
      have ka1 := fitB_bd ka.1
      have kb := KB.out k hlt
      rw [getD_at hl2, getD_at hl3] at kb
      have kb1 := fitB_bd kb.1
      have OM : Hid (bits .or .i64 a.ms[k] b.ms[k] = ((nv a.ms k ||| nv b.ms k : Nat) : Int)) := Lib.hid (by rw [hd1, hd3]; exact or_i64 (by omega) (by omega) (by omega) (by omega))
      have OV : Hid (bits .or .i64 a.vs[k] b.vs[k] = ((nv a.vs k ||| nv b.vs k : Nat) : Int)) := Lib.hid (by rw [hd0, hd2]; exact or_i64 (by omega) (by omega) (by omega) (by omega))
      have EV := Lib.hid (partZ_set (orL a.vs b.vs) (orL_len _ _) k hlt)
      have EM := Lib.hid (partZ_set (orL a.ms b.ms) (orL_len _ _) k hlt)
      rw [orL_at _ _ k hlt] at EV EM
      clear hd0 hd1 hd2 hd3 ka kb
      generalize ((nv a.vs k ||| nv b.vs k : Nat) : Int) = ov at *
      generalize ((nv a.ms k ||| nv b.ms k : Nat) : Int) = om at *
      go_wp2_with fail
      have hne : Nonempty (Cl (Grow wr)) := ⟨⟨wr, Grow.refl _⟩⟩
      have ⟨p0, p1⟩ := (BA.out.grow BL.out.grow).two_
      have ⟨p2, p3⟩ := (BB.out.grow BL.out.grow).two_
      have x0 : ∀ x : Cl (Grow wr), x.w.cell? ⟨b0, o0 + k, none⟩ = some (.int .i64 a.vs[k]) := fun x => x.ok.cell ((G2.out.trans BL.out.grow).cell C0.out)
      have x1 : ∀ x : Cl (Grow wr), x.w.cell? ⟨b1, o1 + k, none⟩ = some (.int .i64 a.ms[k]) := fun x => x.ok.cell ((G2.out.trans BL.out.grow).cell C1.out)
      have x2 : ∀ x : Cl (Grow wr), x.w.cell? ⟨b2, o2 + k, none⟩ = some (.int .i64 b.vs[k]) := fun x => x.ok.cell ((G2.out.trans BL.out.grow).cell C2.out)
      have x3 : ∀ x : Cl (Grow wr), x.w.cell? ⟨b3, o3 + k, none⟩ = some (.int .i64 b.ms[k]) := fun x => x.ok.cell ((G2.out.trans BL.out.grow).cell C3.out)
      have ⟨p4, p5⟩ := BL.out.box.two_
      refine wp_region_last (Cls (Grow wr)) 15 16 #[false, false, false, false, false, false, false, false, false, false, false, false, false, false, false, false] (by kernel_rfl) (by kernel_rfl) ?_
      refine anyL_seg [0, 1, 2, 3, 4, 5, 6, 7, 8, 9, 10, 11, 12, 13, 14] #[true, true, true, true, true, true, true, true, true, true, true, true, true, true, true, false] (fuel := 1) rfl (by kernel_rfl) ⟨⟨_, Grow.drewN _ 1⟩, rfl⟩ ?_
      simp only [pickOps, List.getD_cons_succ, List.getD_cons_zero]
      repeat (go_big_quiet_step (fail))
      refine wpQuiet_nil ?_
      refine anyL_last (by kernel_rfl) ?_
      simp only [List.getD_cons_succ, List.getD_cons_zero]
      have ⟨f0, f1⟩ := (BL.out.later (Grow.drewN wr 1)).vs.cell_at k (by rw [BL.out.lv]; exact hlt)
      go_wp2
      refine ⟨trivial, ?_⟩
      rw [OV.out]
      have BL2 : Hid (Bld w2 ((wr.drewN 1).setCell ⟨g1, k, none⟩ (.int .i64 ov)) w3.heap.size g1 g2 e1 e2 ⟨partZ (orL a.vs b.vs) (k + 1), partZ (orL a.ms b.ms) k⟩) := Lib.hid (by
        have := (BL.out.later (Grow.drewN wr 1)).setV k hlt ov
        rwa [EV.out] at this)
      clear hne p0 p1 p2 p3 p4 p5 x0 x1 x2 x3 f0 f1
      generalize (wr.drewN 1).setCell ⟨g1, k, none⟩ (.int .i64 ov) = wm at *
      go_wp2_with fail
      have hne : Nonempty (Cl (Grow wm)) := ⟨⟨wm, Grow.refl _⟩⟩
      have ⟨p0, p1⟩ := (BA.out.grow BL2.out.grow).two_
      have ⟨p2, p3⟩ := (BB.out.grow BL2.out.grow).two_
      have x0 : ∀ x : Cl (Grow wm), x.w.cell? ⟨b0, o0 + k, none⟩ = some (.int .i64 a.vs[k]) := fun x => x.ok.cell ((G2.out.trans BL2.out.grow).cell C0.out)
      have x1 : ∀ x : Cl (Grow wm), x.w.cell? ⟨b1, o1 + k, none⟩ = some (.int .i64 a.ms[k]) := fun x => x.ok.cell ((G2.out.trans BL2.out.grow).cell C1.out)
      have x2 : ∀ x : Cl (Grow wm), x.w.cell? ⟨b2, o2 + k, none⟩ = some (.int .i64 b.vs[k]) := fun x => x.ok.cell ((G2.out.trans BL2.out.grow).cell C2.out)
      have x3 : ∀ x : Cl (Grow wm), x.w.cell? ⟨b3, o3 + k, none⟩ = some (.int .i64 b.ms[k]) := fun x => x.ok.cell ((G2.out.trans BL2.out.grow).cell C3.out)
      have ⟨p4, p5⟩ := BL2.out.box.two_
      refine wp_region_last (Cls (Grow wm)) 15 16 #[false, false, false, false, false, false, false, false, false, false, false, false, false, false, false, false] (by kernel_rfl) (by kernel_rfl) ?_
      refine anyL_seg [0, 1, 2, 3, 4, 5, 6, 7, 8, 9, 10, 11, 12, 13, 14] #[true, true, true, true, true, true, true, true, true, true, true, true, true, true, true, false] (fuel := 1) rfl (by kernel_rfl) ⟨⟨_, Grow.drewN _ 1⟩, rfl⟩ ?_
      simp only [pickOps, List.getD_cons_succ, List.getD_cons_zero]
      repeat (go_big_quiet_step (fail))
      refine wpQuiet_nil ?_
      refine anyL_last (by kernel_rfl) ?_
      simp only [List.getD_cons_succ, List.getD_cons_zero]
      have ⟨f0, f1⟩ := (BL2.out.later (Grow.drewN wm 1)).ms.cell_at k (by rw [BL2.out.lm]; exact hlt)
      go_wp2
      refine ⟨trivial, ?_⟩
      rw [OM.out]
      have BL3 : Hid (Bld w2 ((wm.drewN 1).setCell ⟨g2, k, none⟩ (.int .i64 om)) w3.heap.size g1 g2 e1 e2 ⟨partZ (orL a.vs b.vs) (k + 1), partZ (orL a.ms b.ms) (k + 1)⟩) := Lib.hid (by
        have := (BL2.out.later (Grow.drewN wm 1)).setM k hlt om
        rwa [EM.out] at this)
      clear hne p0 p1 p2 p3 p4 p5 x0 x1 x2 x3 f0 f1
      go_wp2
      go_roundw
      case rel => exact ⟨k + 1, by omega, by go_num, BL3.out⟩
      case measure => simp [intOf]; omega
    · obtain rfl : k = 8 := by omega
      have ⟨q0, q1⟩ := BL.out.box.two
      have lk := BL.out.box.1
      have ⟨s0, s1⟩ := (BR.out.grow BL.out.grow).two
      have z0 := (BR.out.grow BL.out.grow).2.2
      have l0 := (BR.out.grow BL.out.grow).1
      have hlt1 : w.heap.size + 1 + 1 < w2.heap.size := BR.out.1
      have HR : Hid (∀ W, Upd [w.heap.size + 1 + 1] wr W → RetNew2 OwnM ⟨orL a.vs b.vs, orL a.ms b.ms⟩ (.bool true) w (.returned (.tuple #[.agg #[.slice (some ⟨g1, 0, none⟩) 8 e1, .slice (some ⟨g2, 0, none⟩) 8 e2], .bool true])) W) := Lib.hid (fun W hu => by
        have hb := BL.out
        rw [partZ_8 _ (orL_len _ _), partZ_8 _ (orL_len _ _)] at hb
        refine ⟨_, [g1, g2], rfl, hb.ret hu hlt1, ?_, (G2.out.trans hb.grow).box_end hu (by intro b hb; simp only [List.mem_cons, List.not_mem_nil, or_false] at hb; omega)⟩
        have h1 := hb.n1; have h2 := hb.n2; have h3 := G2.out.size
        intro x hx; simp only [List.mem_cons, List.not_mem_nil, or_false] at hx; omega)
      have hnb := BL.out.nb
      go_wp2
      refine bodyPost_ret (v := .tuple #[.agg #[.slice (some ⟨g1, 0, none⟩) 8 e1, .slice (some ⟨g2, 0, none⟩) 8 e2], .bool true]) ?_ rfl (HR.out _ ?_)
      · simp [results, Try.results49, go_sem, q0, q1, s0, s1, z0, l0, lk]
      · ((repeat (first | with_reducible exact Upd.refl _ _ | (with_reducible refine Upd.setCell ?_ (by simp) _))))
--%
end Go.Proofs.Ytkkhkojojnebjaa
