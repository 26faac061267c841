/- Copies of acts, matches and entries: contracts (printed by gcp.py). -/
import Derived.Test.YtgigdpdmdldhnaaAcce
import Derived.Test.YtgigdpdmdldhnaaHdn
import Derived.Test.YtgigdpdmdldhnaaReg2
import Derived.WalkKit
import Derived.ProofKit
import Derived.Deep.QuietTactic
import Derived.BigQuiet
import Derived.Outline
import Derived.WalkSpells
namespace Go.Proofs.Ytgigdpdmdldhnaa
open Go.ChangeShapes Go.WideShapes Go.ChangeAt Go.RowKit
set_option linter.unusedVariables false
set_option linter.unusedSimpArgs false
--% elemAct 29
theorem Try.elemAct : ElemOk Try.prog 29 96 3 24 := by
  obtain ⟨i0, hi, hz0, hz1, hz2⟩ := info_parts Try.infoAct
  exact ⟨Try.underlying29, ⟨i0, _, hi, hz0, hz1, hz2, rfl⟩, by decide⟩
theorem oneCell_acts (ds : List ActD) : ∀ u ∈ actsC ds, u.oneCell' = true := by
  intro u hu
  obtain ⟨d, _, hd⟩ := List.mem_flatMap.1 hu
  simp only [actC, List.mem_cons, List.not_mem_nil, or_false] at hd
  rcases hd with rfl | rfl | rfl <;> rfl
theorem ownA_nil (w : World) : OwnA w (.slice none 0 0) [] [] := ⟨World.ownsRow_nil _ _ _ _, rfl⟩
theorem litA_at {W : World} {n : Nat} (t : TypeId) (size : Nat) (h : W.heap.size = n) : (W.alloc (.cells #[] t)).ownsRow n t size (.slice (some ⟨n, 0, none⟩) 0 0) 0 [] := by
  subst h; exact World.ownsRow_lit W #[] 0 (Nat.le_refl _) (by decide) (by simp)
/-- 'append([]Act{}, x...)' has made a copy. -/
theorem copiedA {w w' : World} {n : Nat} {v' : Value} {ds : List ActD} (h : w.heap.size = n) (ho : w'.ownsRow n 96 3 v' (0 + ds.length) ([] ++ actsC ds))
    (hg : (w.alloc (.cells #[] 96)).grownBy w' (Value.slice (some ⟨n, 0, none⟩) 0 0).ownBlock) : ∃ fp, OwnA w' v' ds fp ∧ Fresh w fp ∧ Grow w w' := by
  subst h
  simp only [Nat.zero_add, List.nil_append] at ho
  exact ⟨_, (OwnR.of ho).1, (OwnR.of ho).2, Grow.of_grown (grown_trans (Grow.alloc w _).grown hg (fun g hg hlt => by have := own_new hg; omega))⟩
--% CloneA 158
theorem clone_A (w : World) (v : Value) (ds : List ActD) (h : RdA w v ds) (sm : SmA ds) : Calls Try.prog 158 #[v] w (RetNew OwnA ds w) := by
  have H := Lib.hid h
  obtain ⟨a, c, rfl, hlc, hm2, hn, hc⟩ := RdA.acts h
  clear h hc
  have hm : ds.length ≤ 1048576 := by unfold SmA sizeA at sm; omega
  have HN := Lib.hid hn; clear hn sm
  cases a with
  | none =>
    have hc0 := HN.out rfl
    obtain rfl : c = 0 := hc0
    have hz : ds = [] := List.eq_nil_of_length_eq_zero (by omega)
    subst hz
    have heq := fun (w : World) (a : Option Addr) (n c n' c' : Nat) => Lib.run_eql_slice_nil (P := Try.prog) w 29 96 a n c n' c' Try.underlying29
    go_enter Try.func158, Try.ntmps158
    go_wp2
    go_ret
    exact ⟨_, _, rfl, ownA_nil _, by simp [Fresh], Grow.refl _⟩
  | some ad =>
    have heq := fun (w : World) (a : Option Addr) (n c n' c' : Nat) => Lib.run_eql_slice_nil (P := Try.prog) w 29 96 a n c n' c' Try.underlying29
    go_enter Try.func158, Try.ntmps158
    go_wp2_with (at_builtin; refine wpl_append Try.elemAct rfl _ _ rfl w.heap.size rfl (litA_at _ 3 rfl) ds.length rfl (H.out.grow (Grow.alloc _ _)) (actsC_len ds) (oneCell_acts ds) (by omega) (by unfold maxLen; omega) (by simp) ?_; intro v' w' hown hgr hmv)
    go_ret
    obtain ⟨fp, h1, h2, h3⟩ := copiedA rfl hown hgr
    exact ⟨_, fp, rfl, h1, h2, h3⟩
--% copyMatch 157
theorem copyMatch_any (w : World) (V : Value) (d : MatchD) (h : RdM w V d) (sm : SmM d) : Calls Try.prog 157 #[V] w (RetNew OwnM d w) := by
  obtain ⟨v0, v1, rfl, h0, h1⟩ := h
  obtain ⟨a0, c0, rfl⟩ := RdN.sh h0
  obtain ⟨a1, c1, rfl⟩ := RdN.sh h1
  have H0 := Lib.hid h0; have H1 := Lib.hid h1
  have S0 := Lib.hid sm.vs; have S1 := Lib.hid sm.ms
  clear h0 h1 sm
  go_enter Try.func157, Try.ntmps157
  go_wp2_with fail
  have B1 := Lib.hid ((Box.alloc w [.slice a0 d.vs.length c0, .slice a1 d.ms.length c1] 66).grow (Grow.alloc _ (.cells #[Value.slice none 0 0, .slice none 0 0] 66)))
  have B2 : Hid (Box _ (w.heap.size + 1) [Value.slice none 0 0, .slice none 0 0]) := Lib.hid ((Box.alloc (w.alloc (.cells #[.slice a0 d.vs.length c0, .slice a1 d.ms.length c1] 66)) [Value.slice none 0 0, .slice none 0 0] 66).at_ (b' := w.heap.size + 1) (by simp only [World.alloc, Array.size_push]))
  have G0 := Lib.hid ((Grow.alloc w (.cells #[.slice a0 d.vs.length c0, .slice a1 d.ms.length c1] 66)).trans (Grow.alloc _ (.cells #[Value.slice none 0 0, .slice none 0 0] 66)))
  have hsz0 : ((w.alloc (.cells #[.slice a0 d.vs.length c0, .slice a1 d.ms.length c1] 66)).alloc (.cells #[Value.slice none 0 0, .slice none 0 0] 66)).heap.size = w.heap.size + 1 + 1 := by simp only [World.alloc, Array.size_push]
  generalize (w.alloc (.cells #[.slice a0 d.vs.length c0, .slice a1 d.ms.length c1] 66)).alloc (.cells #[Value.slice none 0 0, .slice none 0 0] 66) = W0 at *
  have SZ := Lib.hid hsz0; clear hsz0
  have hne : Nonempty (Cl (Grow W0)) := ⟨⟨W0, Grow.refl _⟩⟩
  have ⟨p0, p1⟩ := B1.out.two_
  refine wp_region_last (Cls (Grow W0)) 7 8 #[false, false, false, false, false, false, false, false] (by kernel_rfl) (by kernel_rfl) ?_
  refine anyL_seg [0, 1, 3, 4] #[true, true, false, true, true, false, false, false] (fuel := 4) rfl (by kernel_rfl) ⟨⟨_, Grow.drewN _ 1⟩, rfl⟩ ?_
  simp only [pickOps, List.getD_cons_succ, List.getD_cons_zero]
  repeat (go_big_quiet_step (fail))
  refine wpQuiet_nil ?_
  refine anyL_sole 2 #[true, true, true, true, true, false, false, false] (fuel := 3) (by kernel_rfl) ?_
  simp only [List.getD_cons_succ, List.getD_cons_zero]
  go_wp2_with fail
  refine (clone_N _ _ d.vs (H0.out.grow (G0.out.trans (Grow.drewN _ 1))) S0.out).mono ?_
  rintro e w1 ⟨v2, fp1, rfl, ho, hf, hg⟩
  obtain ⟨a2, c2, rfl⟩ := own_shape ho.1
  have D1 := Lib.hid ((Grow.drewN W0 1).trans hg)
  have P1 := Lib.hid ho
  have F1 : Hid (∀ x ∈ fp1, W0.heap.size ≤ x) := Lib.hid (fun x hx => Nat.le_trans (Grow.drewN W0 1).size (hf x hx))
  clear ho hf hg
  go_wp2
  refine ⟨⟨⟨_, D1.out⟩, rfl⟩, ?_⟩
  refine anyL_sole 5 #[true, true, true, true, true, true, false, false] (fuel := 2) (by kernel_rfl) ?_
  simp only [List.getD_cons_succ, List.getD_cons_zero]
  go_wp2_with fail
  refine (clone_N _ _ d.ms (H1.out.grow (G0.out.trans D1.out)) S1.out).mono ?_
  rintro e w2 ⟨v3, fp2, rfl, ho, hf, hg⟩
  obtain ⟨a3, c3, rfl⟩ := own_shape ho.1
  have GZ := Lib.hid (D1.out.trans hg)
  have O1 := Lib.hid (P1.out.grow hg)
  have O2 := Lib.hid ho
  have F2 : Hid (∀ x ∈ fp2, W0.heap.size ≤ x) := Lib.hid (fun x hx => Nat.le_trans D1.out.size (hf x hx))
  have DJ : Hid (∀ x ∈ fp1, x ∉ fp2) := Lib.hid (fun x hx hm => by have h1 := P1.out.here x hx; have h2 := hf x hm; omega)
  have HE : Hid (∀ W, Upd [w.heap.size + 1] w2 W → RetNew OwnM d w (.returned (.agg #[.slice a2 d.vs.length c2, .slice a3 d.ms.length c3])) W) := Lib.hid (fun W hu => by
    have hs := SZ.out
    have o1 := O1.out.upd hu (fun x hx hm => by have := F1.out x hx; simp only [List.mem_cons, List.not_mem_nil, or_false] at hm; omega)
    have o2 := O2.out.upd hu (fun x hx hm => by have := F2.out x hx; simp only [List.mem_cons, List.not_mem_nil, or_false] at hm; omega)
    refine ⟨_, _, rfl, ⟨_, _, _, _, rfl, rfl, DJ.out, o1, o2⟩, fun x hx => ?_, (G0.out.trans GZ.out).box_end hu (by simp)⟩
    rcases List.mem_append.1 hx with h | h
    · have := F1.out x h; omega
    · have := F2.out x h; omega)
  have BZ := Lib.hid (B2.out.grow GZ.out)
  clear ho hf hg
  go_wp2
  refine ⟨⟨⟨_, GZ.out⟩, rfl⟩, ?_⟩
  refine anyL_seg [6] #[true, true, true, true, true, true, true, false] (fuel := 1) rfl (by kernel_rfl) ⟨⟨_, GZ.out⟩, rfl⟩ ?_
  simp only [pickOps, List.getD_cons_succ, List.getD_cons_zero]
  repeat (go_big_quiet_step (fail))
  refine wpQuiet_nil ?_
  refine anyL_last (by kernel_rfl) ?_
  simp only [List.getD_cons_succ, List.getD_cons_zero]
  have ⟨q0, q1⟩ := BZ.out.two
  have z0 := BZ.out.2.2
  have l0 := BZ.out.1
  go_wp2
  refine ⟨trivial, ?_⟩
  go_wp2
  refine bodyPost_ret (v := .agg #[.slice a2 d.vs.length c2, .slice a3 d.ms.length c3]) ?_ rfl (HE.out _ ?_)
  · simp [results, Try.results157, go_sem, q0, q1, z0, l0]
  · ((repeat (first | with_reducible exact Upd.refl _ _ | (with_reducible refine Upd.setCell ?_ (by simp) _))))
--% two lists
theorem AccN.base {w1 W W' : World} {v : Value} {zs : List Int} (h : AccN W W' v zs) (g : Grow w1 W) : AccN w1 W' v zs := ⟨g.trans h.1, own_mono h.2 g.size⟩
/-- Two lists gathered, in blocks apart. -/
def Two (w W : World) (va : Value) (xs : List Int) (vb : Value) (ys : List Int) : Prop := AccN w W va xs ∧ AccN w W vb ys ∧ ∀ x ∈ fpOf va, x ∉ fpOf vb
theorem Two.swap {w W : World} {va vb : Value} {xs ys : List Int} (h : Two w W va xs vb ys) : Two w W vb ys va xs := ⟨h.2.1, h.1, fun x hx hm => h.2.2 x hm hx⟩
theorem Two.lit {w W : World} {va : Value} {xs : List Int} {n : Nat} (h : AccN w W va xs) (hn : W.heap.size = n) : Two w (W.alloc (.cells #[] 3)) va xs (.slice (some ⟨n, 0, none⟩) 0 0) [] :=
  ⟨h.grow (Grow.alloc _ _), (accN_lit hn).base h.1, fun x hx hm => by
    have h1 := h.own.1.here x hx
    have h2 : x = n := by simpa [fpOf, Value.ownBlock] using hm
    omega⟩
theorem Two.onto {w W W' : World} {va vb va' : Value} {xs ys zs : List Int} (h : Two w W va xs vb ys) (ho : W'.ownsRow w.heap.size 3 1 va' (xs.length + zs.length) (xs.map (Value.int .i64) ++ zs.map (Value.int .i64))) (hg : W.grownBy W' va.ownBlock) (hm : Moved W va va') : Two w W' va' (xs ++ zs) vb ys :=
  ⟨h.1.onto ho hg, h.2.1.upd (Upd.of_grown hg) h.1.own.2 (fun x hx hm => h.2.2 x hm hx), fun x hx hb => by
    rcases hm x (by simpa [fpOf] using hx) with h1 | h1
    · exact h.2.2 x (by simp [fpOf, h1]) hb
    · have := h.2.1.own.1.here x hb; omega⟩
--% l07Match 136
set_option maxHeartbeats 1000000 in
theorem l07Match_any (w : World) (V : Value) (d : MatchD) (h : RdM w V d) (sm : SmM d) : Calls Try.prog 136 #[V] w (RetNew OwnM d w) := by
  obtain ⟨v0, v1, rfl, h0, h1⟩ := h
  obtain ⟨a0, c0, rfl⟩ := RdN.sh h0
  obtain ⟨a1, c1, rfl⟩ := RdN.sh h1
  have H0 := Lib.hid h0; have H1 := Lib.hid h1
  have S0 := Lib.hid sm.vs; have S1 := Lib.hid sm.ms
  clear h0 h1 sm
  go_enter Try.func136, Try.ntmps136
  go_wp2_with fail
  have B1 := Lib.hid ((Box.alloc w [.slice a0 d.vs.length c0, .slice a1 d.ms.length c1] 66).grow (Grow.alloc _ (.cells #[Value.slice none 0 0, .slice none 0 0] 66)))
  have B2 : Hid (Box _ (w.heap.size + 1) [Value.slice none 0 0, .slice none 0 0]) := Lib.hid ((Box.alloc (w.alloc (.cells #[.slice a0 d.vs.length c0, .slice a1 d.ms.length c1] 66)) [Value.slice none 0 0, .slice none 0 0] 66).at_ (b' := w.heap.size + 1) (by simp only [World.alloc, Array.size_push]))
  have G0 := Lib.hid ((Grow.alloc w (.cells #[.slice a0 d.vs.length c0, .slice a1 d.ms.length c1] 66)).trans (Grow.alloc _ (.cells #[Value.slice none 0 0, .slice none 0 0] 66)))
  have hsz0 : ((w.alloc (.cells #[.slice a0 d.vs.length c0, .slice a1 d.ms.length c1] 66)).alloc (.cells #[Value.slice none 0 0, .slice none 0 0] 66)).heap.size = w.heap.size + 1 + 1 := by simp only [World.alloc, Array.size_push]
  generalize (w.alloc (.cells #[.slice a0 d.vs.length c0, .slice a1 d.ms.length c1] 66)).alloc (.cells #[Value.slice none 0 0, .slice none 0 0] 66) = W0 at *
  have SZ := Lib.hid hsz0; clear hsz0
  have hne : Nonempty (Cl (Grow W0)) := ⟨⟨W0, Grow.refl _⟩⟩
  have ⟨p0, p1⟩ := B1.out.two_
  refine wp_region_last (Cls (Grow W0)) 9 10 #[false, false, false, false, false, false, false, false, false, false] (by kernel_rfl) (by kernel_rfl) ?_
  refine anyL_seg [1, 2, 5, 6] #[false, true, true, false, false, true, true, false, false, false] (fuel := 6) rfl (by kernel_rfl) ⟨⟨_, Grow.drewN _ 1⟩, rfl⟩ ?_
  simp only [pickOps, List.getD_cons_succ, List.getD_cons_zero]
  repeat (go_big_quiet_step (fail))
  refine wpQuiet_nil ?_
  clear p0 p1
  refine anyL_two 0 4 #[true, true, true, false, false, true, true, false, false, false] #[false, true, true, false, true, true, true, false, false, false] (fuel := 5) (by kernel_rfl) ?_ ?_
  · simp only [List.getD_cons_succ, List.getD_cons_zero]
    go_wp2
    have T1 : Hid (AccN W0 _ (.slice (some ⟨W0.heap.size, 0, none⟩) 0 0) []) := Lib.hid ((accN_lit (W := W0.drewN 1) (n := W0.heap.size) rfl).base (Grow.drewN W0 1))
    generalize hx1 : (W0.drewN 1).alloc _ = x1 at *
    have T1 : Hid (AccN W0 x1 (.slice (some ⟨W0.heap.size, 0, none⟩) 0 0) []) := T1
    clear hx1
    refine ⟨⟨⟨_, T1.out.1⟩, rfl⟩, ?_⟩
    refine anyL_two 3 4 #[true, true, true, true, false, true, true, false, false, false] #[true, true, true, false, true, true, true, false, false, false] (fuel := 4) (by kernel_rfl) ?_ ?_
    · simp only [List.getD_cons_succ, List.getD_cons_zero]
      have hl2 := S0.out; unfold SmN at hl2
      go_wp2_with (at_builtin; refine wpl_append Try.elemI64 rfl _ _ rfl W0.heap.size rfl T1.out.2 d.vs.length rfl (H0.out.grow (G0.out.trans T1.out.1)) (by simp) (oneCell_ints _ _) (by simp only [List.length_nil]; omega) (by simp only [List.length_nil]; unfold maxLen; omega) T1.out.1.size ?_; intro y2 x2 hown hgr hmv)
      have T2 := Lib.hid (T1.out.onto (ys := d.vs) hown hgr)
      clear hown hgr hmv hl2
      refine ⟨⟨⟨_, T2.out.1⟩, rfl⟩, ?_⟩
      refine anyL_sole 4 #[true, true, true, true, true, true, true, false, false, false] (fuel := 3) (by kernel_rfl) ?_
      simp only [List.getD_cons_succ, List.getD_cons_zero]
      go_wp2
      have T3 := Lib.hid (Two.lit (n := x2.heap.size) T2.out rfl)
      generalize hx3 : x2.alloc _ = x3 at *
      clear hx3
      refine ⟨⟨⟨_, T3.out.1.1⟩, rfl⟩, ?_⟩
      refine anyL_sole 7 #[true, true, true, true, true, true, true, true, false, false] (fuel := 2) (by kernel_rfl) ?_
      simp only [List.getD_cons_succ, List.getD_cons_zero]
      have hl4 := S1.out; unfold SmN at hl4
      go_wp2_with (at_builtin; refine wpl_append Try.elemI64 rfl _ _ rfl W0.heap.size rfl T3.out.2.1.2 d.ms.length rfl (H1.out.grow (G0.out.trans T3.out.1.1)) (by simp) (oneCell_ints _ _) (by simp only [List.length_nil]; omega) (by simp only [List.length_nil]; unfold maxLen; omega) T3.out.2.1.1.size ?_; intro y4 x4 hown hgr hmv)
      have T4 := Lib.hid (T3.out.swap.onto (zs := d.ms) hown hgr hmv).swap
      clear hown hgr hmv hl4
      refine ⟨⟨⟨_, T4.out.1.1⟩, rfl⟩, ?_⟩
      obtain ⟨a2, c2, hyA⟩ := own_shape T4.out.1.2
      obtain ⟨a3, c3, hyB⟩ := own_shape T4.out.2.1.2
      simp only [List.nil_append] at hyA hyB
      subst hyA; subst hyB
      have GZ := Lib.hid T4.out.1.1
      have O1 : Hid (OwnN _ _ d.vs _) := Lib.hid T4.out.1.own.1
      have O2 : Hid (OwnN _ _ d.ms _) := Lib.hid T4.out.2.1.own.1
      have F1 := Lib.hid T4.out.1.own.2
      have F2 := Lib.hid T4.out.2.1.own.2
      have DJ := Lib.hid T4.out.2.2
      have HE : Hid (∀ W, Upd [w.heap.size + 1] x4 W → RetNew OwnM d w (.returned (.agg #[.slice a2 d.vs.length c2, .slice a3 d.ms.length c3])) W) := Lib.hid (fun W hu => by
        have hs := SZ.out
        have o1 := O1.out.upd hu (fun x hx hm => by have := F1.out x hx; simp only [List.mem_cons, List.not_mem_nil, or_false] at hm; omega)
        have o2 := O2.out.upd hu (fun x hx hm => by have := F2.out x hx; simp only [List.mem_cons, List.not_mem_nil, or_false] at hm; omega)
        refine ⟨_, _, rfl, ⟨_, _, _, _, rfl, rfl, DJ.out, o1, o2⟩, fun x hx => ?_, (G0.out.trans GZ.out).box_end hu (by simp)⟩
        rcases List.mem_append.1 hx with h | h
        · have := F1.out x h; omega
        · have := F2.out x h; omega)
      have BZ := Lib.hid (B2.out.grow GZ.out)
      refine anyL_seg [8] #[true, true, true, true, true, true, true, true, true, false] (fuel := 1) rfl (by kernel_rfl) ⟨⟨_, GZ.out⟩, rfl⟩ ?_
      simp only [pickOps, List.getD_cons_succ, List.getD_cons_zero]
      repeat (go_big_quiet_step (fail))
      refine wpQuiet_nil ?_
      refine anyL_last (by kernel_rfl) ?_
      simp only [List.getD_cons_succ, List.getD_cons_zero]
      have ⟨q0, q1⟩ := BZ.out.two
      have z0 := BZ.out.2.2
      have l0 := BZ.out.1
      go_wp2
      refine ⟨trivial, ?_⟩
      go_wp2
      refine bodyPost_ret (v := .agg #[.slice a2 d.vs.length c2, .slice a3 d.ms.length c3]) ?_ rfl (HE.out _ ?_)
      · simp [results, Try.results136, go_sem, q0, q1, z0, l0]
      · ((repeat (first | with_reducible exact Upd.refl _ _ | (with_reducible refine Upd.setCell ?_ (by simp) _))))
    · simp only [List.getD_cons_succ, List.getD_cons_zero]
      go_wp2
      have T2 := Lib.hid (Two.lit (n := x1.heap.size) T1.out rfl)
      generalize hx2 : x1.alloc _ = x2 at *
      clear hx2
      refine ⟨⟨⟨_, T2.out.1.1⟩, rfl⟩, ?_⟩
      refine anyL_sole 3 #[true, true, true, true, true, true, true, false, false, false] (fuel := 3) (by kernel_rfl) ?_
      simp only [List.getD_cons_succ, List.getD_cons_zero]
      have hl3 := S0.out; unfold SmN at hl3
      go_wp2_with (at_builtin; refine wpl_append Try.elemI64 rfl _ _ rfl W0.heap.size rfl T2.out.1.2 d.vs.length rfl (H0.out.grow (G0.out.trans T2.out.1.1)) (by simp) (oneCell_ints _ _) (by simp only [List.length_nil]; omega) (by simp only [List.length_nil]; unfold maxLen; omega) T2.out.1.1.size ?_; intro y3 x3 hown hgr hmv)
      have T3 := Lib.hid (T2.out.onto (zs := d.vs) hown hgr hmv)
      clear hown hgr hmv hl3
      refine ⟨⟨⟨_, T3.out.1.1⟩, rfl⟩, ?_⟩
      refine anyL_sole 7 #[true, true, true, true, true, true, true, true, false, false] (fuel := 2) (by kernel_rfl) ?_
      simp only [List.getD_cons_succ, List.getD_cons_zero]
      have hl4 := S1.out; unfold SmN at hl4
      go_wp2_with (at_builtin; refine wpl_append Try.elemI64 rfl _ _ rfl W0.heap.size rfl T3.out.2.1.2 d.ms.length rfl (H1.out.grow (G0.out.trans T3.out.1.1)) (by simp) (oneCell_ints _ _) (by simp only [List.length_nil]; omega) (by simp only [List.length_nil]; unfold maxLen; omega) T3.out.2.1.1.size ?_; intro y4 x4 hown hgr hmv)
      have T4 := Lib.hid (T3.out.swap.onto (zs := d.ms) hown hgr hmv).swap
      clear hown hgr hmv hl4
      refine ⟨⟨⟨_, T4.out.1.1⟩, rfl⟩, ?_⟩
      obtain ⟨a2, c2, hyA⟩ := own_shape T4.out.1.2
      obtain ⟨a3, c3, hyB⟩ := own_shape T4.out.2.1.2
      simp only [List.nil_append] at hyA hyB
      subst hyA; subst hyB
      have GZ := Lib.hid T4.out.1.1
      have O1 : Hid (OwnN _ _ d.vs _) := Lib.hid T4.out.1.own.1
      have O2 : Hid (OwnN _ _ d.ms _) := Lib.hid T4.out.2.1.own.1
      have F1 := Lib.hid T4.out.1.own.2
      have F2 := Lib.hid T4.out.2.1.own.2
      have DJ := Lib.hid T4.out.2.2
      have HE : Hid (∀ W, Upd [w.heap.size + 1] x4 W → RetNew OwnM d w (.returned (.agg #[.slice a2 d.vs.length c2, .slice a3 d.ms.length c3])) W) := Lib.hid (fun W hu => by
        have hs := SZ.out
        have o1 := O1.out.upd hu (fun x hx hm => by have := F1.out x hx; simp only [List.mem_cons, List.not_mem_nil, or_false] at hm; omega)
        have o2 := O2.out.upd hu (fun x hx hm => by have := F2.out x hx; simp only [List.mem_cons, List.not_mem_nil, or_false] at hm; omega)
        refine ⟨_, _, rfl, ⟨_, _, _, _, rfl, rfl, DJ.out, o1, o2⟩, fun x hx => ?_, (G0.out.trans GZ.out).box_end hu (by simp)⟩
        rcases List.mem_append.1 hx with h | h
        · have := F1.out x h; omega
        · have := F2.out x h; omega)
      have BZ := Lib.hid (B2.out.grow GZ.out)
      refine anyL_seg [8] #[true, true, true, true, true, true, true, true, true, false] (fuel := 1) rfl (by kernel_rfl) ⟨⟨_, GZ.out⟩, rfl⟩ ?_
      simp only [pickOps, List.getD_cons_succ, List.getD_cons_zero]
      repeat (go_big_quiet_step (fail))
      refine wpQuiet_nil ?_
      refine anyL_last (by kernel_rfl) ?_
      simp only [List.getD_cons_succ, List.getD_cons_zero]
      have ⟨q0, q1⟩ := BZ.out.two
      have z0 := BZ.out.2.2
      have l0 := BZ.out.1
      go_wp2
      refine ⟨trivial, ?_⟩
      go_wp2
      refine bodyPost_ret (v := .agg #[.slice a2 d.vs.length c2, .slice a3 d.ms.length c3]) ?_ rfl (HE.out _ ?_)
      · simp [results, Try.results136, go_sem, q0, q1, z0, l0]
      · ((repeat (first | with_reducible exact Upd.refl _ _ | (with_reducible refine Upd.setCell ?_ (by simp) _))))
  · simp only [List.getD_cons_succ, List.getD_cons_zero]
    go_wp2
    have T1 : Hid (AccN W0 _ (.slice (some ⟨W0.heap.size, 0, none⟩) 0 0) []) := Lib.hid ((accN_lit (W := W0.drewN 1) (n := W0.heap.size) rfl).base (Grow.drewN W0 1))
    generalize hx1 : (W0.drewN 1).alloc _ = x1 at *
    have T1 : Hid (AccN W0 x1 (.slice (some ⟨W0.heap.size, 0, none⟩) 0 0) []) := T1
    clear hx1
    refine ⟨⟨⟨_, T1.out.1⟩, rfl⟩, ?_⟩
    refine anyL_sole 0 #[true, true, true, false, true, true, true, false, false, false] (fuel := 4) (by kernel_rfl) ?_
    simp only [List.getD_cons_succ, List.getD_cons_zero]
    go_wp2
    have T2 := Lib.hid (Two.lit (n := x1.heap.size) T1.out rfl)
    generalize hx2 : x1.alloc _ = x2 at *
    clear hx2
    have T2 := Lib.hid T2.out.swap
    refine ⟨⟨⟨_, T2.out.1.1⟩, rfl⟩, ?_⟩
    refine anyL_sole 3 #[true, true, true, true, true, true, true, false, false, false] (fuel := 3) (by kernel_rfl) ?_
    simp only [List.getD_cons_succ, List.getD_cons_zero]
    have hl3 := S0.out; unfold SmN at hl3
    go_wp2_with (at_builtin; refine wpl_append Try.elemI64 rfl _ _ rfl W0.heap.size rfl T2.out.1.2 d.vs.length rfl (H0.out.grow (G0.out.trans T2.out.1.1)) (by simp) (oneCell_ints _ _) (by simp only [List.length_nil]; omega) (by simp only [List.length_nil]; unfold maxLen; omega) T2.out.1.1.size ?_; intro y3 x3 hown hgr hmv)
    have T3 := Lib.hid (T2.out.onto (zs := d.vs) hown hgr hmv)
    clear hown hgr hmv hl3
    refine ⟨⟨⟨_, T3.out.1.1⟩, rfl⟩, ?_⟩
    refine anyL_sole 7 #[true, true, true, true, true, true, true, true, false, false] (fuel := 2) (by kernel_rfl) ?_
    simp only [List.getD_cons_succ, List.getD_cons_zero]
    have hl4 := S1.out; unfold SmN at hl4
    go_wp2_with (at_builtin; refine wpl_append Try.elemI64 rfl _ _ rfl W0.heap.size rfl T3.out.2.1.2 d.ms.length rfl (H1.out.grow (G0.out.trans T3.out.1.1)) (by simp) (oneCell_ints _ _) (by simp only [List.length_nil]; omega) (by simp only [List.length_nil]; unfold maxLen; omega) T3.out.2.1.1.size ?_; intro y4 x4 hown hgr hmv)
    have T4 := Lib.hid (T3.out.swap.onto (zs := d.ms) hown hgr hmv).swap
    clear hown hgr hmv hl4
    refine ⟨⟨⟨_, T4.out.1.1⟩, rfl⟩, ?_⟩
    obtain ⟨a2, c2, hyA⟩ := own_shape T4.out.1.2
    obtain ⟨a3, c3, hyB⟩ := own_shape T4.out.2.1.2
    simp only [List.nil_append] at hyA hyB
    subst hyA; subst hyB
    have GZ := Lib.hid T4.out.1.1
    have O1 : Hid (OwnN _ _ d.vs _) := Lib.hid T4.out.1.own.1
    have O2 : Hid (OwnN _ _ d.ms _) := Lib.hid T4.out.2.1.own.1
    have F1 := Lib.hid T4.out.1.own.2
    have F2 := Lib.hid T4.out.2.1.own.2
    have DJ := Lib.hid T4.out.2.2
    have HE : Hid (∀ W, Upd [w.heap.size + 1] x4 W → RetNew OwnM d w (.returned (.agg #[.slice a2 d.vs.length c2, .slice a3 d.ms.length c3])) W) := Lib.hid (fun W hu => by
      have hs := SZ.out
      have o1 := O1.out.upd hu (fun x hx hm => by have := F1.out x hx; simp only [List.mem_cons, List.not_mem_nil, or_false] at hm; omega)
      have o2 := O2.out.upd hu (fun x hx hm => by have := F2.out x hx; simp only [List.mem_cons, List.not_mem_nil, or_false] at hm; omega)
      refine ⟨_, _, rfl, ⟨_, _, _, _, rfl, rfl, DJ.out, o1, o2⟩, fun x hx => ?_, (G0.out.trans GZ.out).box_end hu (by simp)⟩
      rcases List.mem_append.1 hx with h | h
      · have := F1.out x h; omega
      · have := F2.out x h; omega)
    have BZ := Lib.hid (B2.out.grow GZ.out)
    refine anyL_seg [8] #[true, true, true, true, true, true, true, true, true, false] (fuel := 1) rfl (by kernel_rfl) ⟨⟨_, GZ.out⟩, rfl⟩ ?_
    simp only [pickOps, List.getD_cons_succ, List.getD_cons_zero]
    repeat (go_big_quiet_step (fail))
    refine wpQuiet_nil ?_
    refine anyL_last (by kernel_rfl) ?_
    simp only [List.getD_cons_succ, List.getD_cons_zero]
    have ⟨q0, q1⟩ := BZ.out.two
    have z0 := BZ.out.2.2
    have l0 := BZ.out.1
    go_wp2
    refine ⟨trivial, ?_⟩
    go_wp2
    refine bodyPost_ret (v := .agg #[.slice a2 d.vs.length c2, .slice a3 d.ms.length c3]) ?_ rfl (HE.out _ ?_)
    · simp [results, Try.results136, go_sem, q0, q1, z0, l0]
    · ((repeat (first | with_reducible exact Upd.refl _ _ | (with_reducible refine Upd.setCell ?_ (by simp) _))))
--%
end Go.Proofs.Ytgigdpdmdldhnaa
