/- MatchOf, MatchBits: contracts of the code. -/
import Derived.Test.YtkkhkojojnebjaaMa
import Derived.Test.YtkkhkojojnebjaaHs
import Derived.WalkKit
import Derived.ProofKit
import Derived.Deep.QuietTactic
import Derived.BigQuiet
import Derived.Outline
import Derived.WalkSpells
namespace Go.Proofs.Ytkkhkojojnebjaa
open Go.ChangeShapes Go.WideShapes Go.ChangeAt Go.RowKit
set_option linter.unusedVariables false
set_option linter.unusedSimpArgs false
--%
theorem mtOf_no {zs : List Int} (h : hdOk zs = false) : mtOf zs = zeroM := by simp [mtOf, h]
theorem mtOf_yes {zs : List Int} (h : hdOk zs = true) : mtOf zs = ⟨zs, fulls⟩ := by simp [mtOf, h]
theorem ownM_nil (w : World) : OwnM w (.agg #[.slice none 0 0, .slice none 0 0]) zeroM [] := ⟨_, _, [], [], rfl, rfl, by simp, ownN_nil _, ownN_nil _⟩
theorem fulls_at (k : Nat) (h : k < 8) : fulls.take (k + 1) = fulls.take k ++ [full (k : Nat)] := by
  obtain rfl | rfl | rfl | rfl | rfl | rfl | rfl | rfl : k = 0 ∨ k = 1 ∨ k = 2 ∨ k = 3 ∨ k = 4 ∨ k = 5 ∨ k = 6 ∨ k = 7 := by omega
  all_goals rfl
/-- Ints gathered over appends, in blocks made since w1. -/
def AccN (w1 w : World) (v : Value) (zs : List Int) : Prop := Grow w1 w ∧ w.ownsRow w1.heap.size 3 1 v zs.length (zs.map (Value.int .i64))
theorem AccN.nil {w1 w : World} (g : Grow w1 w) : AccN w1 w (.slice none 0 0) [] := ⟨g, World.ownsRow_nil _ _ _ _⟩
theorem AccN.grow {w1 w w' : World} {v : Value} {zs : List Int} (h : AccN w1 w v zs) (g : Grow w w') : AccN w1 w' v zs := ⟨h.1.trans g, own_grow h.2 g⟩
theorem AccN.own {w1 w : World} {v : Value} {zs : List Int} (h : AccN w1 w v zs) : OwnN w v zs (fpOf v) ∧ Fresh w1 (fpOf v) := OwnR.of h.2
theorem AccN.onto {w1 w w' : World} {v v' : Value} {zs ys : List Int} (h : AccN w1 w v zs) (ho : w'.ownsRow w1.heap.size 3 1 v' (zs.length + ys.length) (zs.map (Value.int .i64) ++ ys.map (Value.int .i64))) (hg : w.grownBy w' v.ownBlock) : AccN w1 w' v' (zs ++ ys) := by
  refine ⟨h.1.then_upd (Upd.of_grown hg) h.own.2, ?_⟩
  rw [List.length_append, List.map_append]
  exact ho
theorem AccN.upd {w1 w w' : World} {v : Value} {zs : List Int} {fp : List Nat} (h : AccN w1 w v zs) (u : Upd fp w w') (hf : Fresh w1 fp) (ha : ∀ x ∈ fpOf v, x ∉ fp) : AccN w1 w' v zs := by
  refine ⟨h.1.then_upd u hf, ?_⟩
  have h1 := h.own.1.upd u ha
  obtain ⟨⟨hl, h3⟩, _⟩ := h1
  refine ⟨hl, ?_⟩
  rcases h3 with h4 | ⟨b, cap, cur, rfl, hb, r⟩
  · exact .inl h4
  · exact .inr ⟨b, cap, cur, rfl, h.own.2 b (by simp [fpOf, Value.ownBlock]), r⟩
--% MatchOfI 39
theorem matchOfI_any (w : World) (V : Value) (d : DatH) (h : RdH w V d) (sm : SmH d) : Calls Try.prog 39 #[V] w (RetNew OwnM (mtOf d.vs) w) := by
  have HS := Lib.hid sm.vs; clear sm
  obtain ⟨v, rfl, hv⟩ := h
  have HV := Lib.hid hv; clear hv
  cases hok : hdOk d.vs
  · rw [mtOf_no hok]
    go_enter Try.func39, Try.ntmps39
    go_wp2_with fail
    refine at_world (w := w) ?G (fun hG => (headOkI_any _ _ d ⟨_, rfl, HV.out.grow hG⟩).mono ?_)
    case G => ((repeat (first | with_reducible exact Grow.refl _ | (with_reducible refine Grow.alloc_ ?_ _) | (with_reducible refine Grow.setCell_ ?_ (by first | exact Nat.le_refl _ | (simp only [World.alloc, Array.size_push]; omega) | omega) _))))
    rintro e w1 ⟨rfl, hg⟩
    rw [hok]
    have HG := Lib.hid (hG.trans hg)
    have BX := Lib.hid (((Box.alloc (w.alloc _) _ _).grow hg).at_ (b' := w.heap.size + 1) (by simp only [World.alloc, Array.size_push]))
    clear hG hg
    have ⟨q0, q1⟩ := BX.out.two
    have z0 := BX.out.2.2
    have l0 := BX.out.1
    go_wp2
    refine bodyPost_ret (v := .agg #[.slice none 0 0, .slice none 0 0]) ?_ rfl ⟨_, [], rfl, ownM_nil _, by simp [Fresh], HG.out.box_end (fq := [w.heap.size + 1]) ?_ (by simp)⟩
    · simp [results, Try.results39, go_sem, q0, q1, z0, l0]
    · ((repeat (first | with_reducible exact Upd.refl _ _ | (with_reducible refine Upd.setCell ?_ (by simp) _))))
  rw [mtOf_yes hok]
  have HL8 := Lib.hid (hdOk_at hok).1
  go_enter Try.func39, Try.ntmps39
  go_wp2_with fail
  refine at_world (w := w) ?G (fun hG => (headOkI_any _ _ d ⟨_, rfl, HV.out.grow hG⟩).mono ?_)
  case G => ((repeat (first | with_reducible exact Grow.refl _ | (with_reducible refine Grow.alloc_ ?_ _) | (with_reducible refine Grow.setCell_ ?_ (by first | exact Nat.le_refl _ | (simp only [World.alloc, Array.size_push]; omega) | omega) _))))
  rintro e w1 ⟨rfl, hg⟩
  rw [hok]
  have HG := Lib.hid (hG.trans hg)
  have B0 := Lib.hid ((Box.alloc w _ _).grow ((Grow.alloc _ _).trans hg))
  have BX := Lib.hid (((Box.alloc (w.alloc _) _ _).grow hg).at_ (b' := w.heap.size + 1) (by simp only [World.alloc, Array.size_push]))
  clear hG hg
  have q0 := B0.out.one
  go_wp2_with fail
  refine (clone_N _ _ _ (HV.out.grow HG.out) HS.out).mono ?_
  rintro e w2 ⟨v2, fp2, rfl, ho, hf, hg⟩
  obtain ⟨a2, c2, rfl⟩ := own_shape ho.1
  have HG2 := Lib.hid (HG.out.trans hg)
  have B1 := Lib.hid BX.out.1
  have BX := Lib.hid (BX.out.grow hg)
  have HO := Lib.hid ho; have HF := Lib.hid hf
  clear ho hf hg q0
  go_wp2
  have hb : w2.heap.size ∉ fpOf (.slice none 0 0) := by simp [fpOf, Value.ownBlock]
  have BM := Lib.hid (Box.alloc w2 [Value.slice a2 d.vs.length c2, .slice none 0 0] 41)
  have AM := Lib.hid (AccN.nil (Grow.alloc w2 (.cells #[Value.slice a2 d.vs.length c2, .slice none 0 0] 41)))
  go_loopw [13] (fun i wr => ∃ (k : Nat) (mv : Value), k ≤ 8 ∧ i = .int .i64 k ∧ AccN w2 wr mv (fulls.take k) ∧ Box wr w2.heap.size [.slice a2 d.vs.length c2, mv] ∧ w2.heap.size ∉ fpOf mv) (fun i _ => 8 - (intOf i).toNat)
  case atStart => exact ⟨0, _, Nat.zero_le _, rfl, AM.out, BM.out, hb⟩
  case round =>
    obtain ⟨k, mv, hk, rfl, hacc, hbox, hnb⟩ := hrel
    clear hb
    have hzl : (fulls.take k).length ≤ 8 := by simp only [List.length_take]; exact Nat.le_trans (Nat.min_le_right _ _) (by decide)
    have hz0 : fulls.take k = fulls.take k := rfl
    revert hz0
    generalize hz : fulls.take k = zs at hacc hzl ⊢
    intro _
    have HZ := Lib.hid hz; clear hz
    obtain ⟨ma, mc, rfl⟩ := own_shape hacc.2
    have AC := Lib.hid hacc; have BK := Lib.hid hbox; have HB := Lib.hid hnb
    clear hacc hbox hnb
    by_cases hlt : k < 8
    · obtain ⟨fp, hfp⟩ : ∃ fp, fp = fpOf (.slice ma zs.length mc) := ⟨_, rfl⟩
      rw [← hfp] at HB
      have HFP := Lib.hid hfp; clear hfp
      go_wp2_with fail
      have hne : Nonempty (Cl (Upd fp wr)) := ⟨⟨wr, Upd.refl _ _⟩⟩
      have p0 : ∀ x : Cl (Upd fp wr), x.w.cell? ⟨w2.heap.size, 0, none⟩ = some (.slice a2 d.vs.length c2) := fun x => (BK.out.upd x.ok HB.out).two.1
      have p1 : ∀ x : Cl (Upd fp wr), x.w.cell? ⟨w2.heap.size, 1, none⟩ = some (.slice ma zs.length mc) := fun x => (BK.out.upd x.ok HB.out).two.2
      have U0 := Lib.hid ((Grow.drewN wr 1).upd fp)
      have U1 := Lib.hid (((Grow.drewN wr 1).trans (Grow.alloc _ (.cells #[Value.int .i64 (full (k : Nat))] 3))).upd fp)
      have A1 := Lib.hid (AC.out.grow ((Grow.drewN wr 1).trans (Grow.alloc _ (.cells #[Value.int .i64 (full (k : Nat))] 3))))
      refine wp_region_last (Cls (Upd fp wr)) 7 8 #[false, false, false, false, false, false, false, false] (by kernel_rfl) (by kernel_rfl) ?_
      refine anyL_seg [0, 1, 2] #[true, true, true, false, false, false, false, false] (fuel := 5) rfl (by kernel_rfl) ⟨⟨_, U0.out⟩, rfl⟩ ?_
      simp only [pickOps, List.getD_cons_succ, List.getD_cons_zero]
      repeat (go_big_quiet_step (fail))
      refine wpQuiet_nil ?_
      refine anyL_sole 3 #[true, true, true, true, false, false, false, false] (fuel := 4) (by kernel_rfl) ?_
      simp only [List.getD_cons_succ, List.getD_cons_zero]
      go_wp2_with fail
      refine (allBits_any _ _).mono ?_
      rintro e w' ⟨rfl, rfl⟩
      go_wp2
      refine ⟨⟨⟨_, U0.out⟩, rfl⟩, ?_⟩
      refine anyL_sole 4 #[true, true, true, true, true, false, false, false] (fuel := 3) (by kernel_rfl) ?_
      simp only [List.getD_cons_succ, List.getD_cons_zero]
      go_wp2
      refine ⟨⟨⟨_, U1.out⟩, rfl⟩, ?_⟩
      refine anyL_sole 5 #[true, true, true, true, true, true, false, false] (fuel := 2) (by kernel_rfl) ?_
      simp only [List.getD_cons_succ, List.getD_cons_zero]
      go_wp2_with (at_builtin; refine wpl_append Try.elemI64 rfl _ _ rfl w2.heap.size rfl A1.out.2 1 rfl (rd_built _ _ 1 1 [Value.int .i64 (full (k : Nat))] rfl (by decide)) rfl (oneCell_ints .i64 [_]) (by omega) (by unfold maxLen; omega) A1.out.1.size ?_; intro v5 w5 hown hgr hmv)
      have A2 := Lib.hid (A1.out.onto (ys := [full (k : Nat)]) hown hgr)
      have U5 := Lib.hid ((U1.out.trans (Upd.of_grown hgr)).mono (fq := fp) (fun x hx _ => (List.mem_append.1 hx).elim id (fun h => HFP.out ▸ h)))
      have hnb : w2.heap.size ∉ fpOf v5 := fun hm => by
        have hob : v5.ownBlock = some w2.heap.size := by simpa [fpOf] using hm
        rcases hmv _ hob with h | h
        · exact HB.out (by rw [HFP.out]; have h' : (Value.slice ma zs.length mc).ownBlock = some w2.heap.size := h; simpa [fpOf] using h')
        · have h1 := BK.out.1; simp only [World.alloc, World.drewN, Array.size_push] at h; omega
      have HB5 := Lib.hid hnb
      clear hown hgr hmv hnb
      obtain ⟨a5, c5, rfl⟩ := own_shape A2.out.2
      have B5 := Lib.hid (BK.out.upd U5.out HB.out)
      refine ⟨⟨⟨_, U5.out⟩, rfl⟩, ?_⟩
      refine anyL_seg [6] #[true, true, true, true, true, true, true, false] (fuel := 1) rfl (by kernel_rfl) ⟨⟨_, U5.out⟩, rfl⟩ ?_
      simp only [pickOps, List.getD_cons_succ, List.getD_cons_zero]
      repeat (go_big_quiet_step (fail))
      refine wpQuiet_nil ?_
      refine anyL_last (by kernel_rfl) ?_
      simp only [List.getD_cons_succ, List.getD_cons_zero]
      have ⟨q0, q1⟩ := B5.out.two
      have z0 := B5.out.2.2
      have l0 := B5.out.1
      go_wp2
      refine ⟨trivial, ?_⟩
      go_wp2
      go_roundw
      case rel =>
        have hle : (zs ++ [full (k : Nat)]).length = zs.length + 1 := by simp
        have A3 := A2.out
        have HB6 := HB5.out
        rw [hle] at A3 HB6
        refine ⟨k + 1, .slice a5 (zs.length + 1) c5, by omega, by go_num, ?_, B5.out.set 1 _ (by simp), HB6⟩
        rw [fulls_at k hlt, HZ.out]
        exact A3.upd (fp := [w2.heap.size]) (Upd.setCell (Upd.refl _ _) (by simp) _) (by intro x hx; simp only [List.mem_cons, List.not_mem_nil, or_false] at hx; omega) (by intro x hx hm; simp only [List.mem_cons, List.not_mem_nil, or_false] at hm; exact HB6 (hm ▸ hx))
      case measure => simp [intOf]; omega
    · obtain rfl : k = 8 := by omega
      obtain rfl : fulls = zs := HZ.out
      have HG3 := Lib.hid (HG2.out.trans AC.out.1)
      have ⟨q0, q1⟩ := BK.out.two
      have lk := BK.out.1
      have ⟨r0, r1⟩ := (BX.out.grow AC.out.1).two
      have z0 := (BX.out.grow AC.out.1).2.2
      have l0 := (BX.out.grow AC.out.1).1
      have hne : w.heap.size + 1 < w2.heap.size := BX.out.1
      have HR : Hid (∀ W, Upd [w.heap.size + 1] wr W → RetNew OwnM ⟨d.vs, fulls⟩ w (.returned (.agg #[.slice a2 d.vs.length c2, .slice ma fulls.length mc])) W) := Lib.hid (fun W hu => by
        have o1 := AC.out.own
        have hh := HO.out.here
        have hz := HF.out
        have hsz := HG.out.size
        have h11 : w.heap.size + 1 < w1.heap.size := B1.out
        refine ⟨_, fp2 ++ fpOf (.slice ma fulls.length mc), rfl, ⟨_, _, fp2, _, rfl, rfl, ?_, ?_, ?_⟩, ?_, HG3.out.box_end hu (by simp)⟩
        · intro x hx hm; have h1 := hh x hx; have h2 := o1.2 x hm; omega
        · exact (HO.out.grow AC.out.1).upd hu (by intro x hx hm; have h1 := hz x hx; simp only [List.mem_cons, List.not_mem_nil, or_false] at hm; omega)
        · exact o1.1.upd hu (by intro x hx hm; have h1 := o1.2 x hx; simp only [List.mem_cons, List.not_mem_nil, or_false] at hm; omega)
        · intro x hx
          rcases List.mem_append.1 hx with h | h
          · have := hz x h; omega
          · have := o1.2 x h; omega)
      go_wp2
      refine bodyPost_ret (v := .agg #[.slice a2 d.vs.length c2, .slice ma fulls.length mc]) ?_ rfl (HR.out _ ?_)
      · simp [results, Try.results39, go_sem, q0, q1, r0, r1, z0, l0, lk]
      · ((repeat (first | with_reducible exact Upd.refl _ _ | (with_reducible refine Upd.setCell ?_ (by simp) _))))
--% Bld
/-- A match under construction: a box with two rows of the call's own. -/
structure Bld (w0 W : World) (bx g1 g2 c1 c2 : Nat) (d : MatchD) : Prop where
  grow : Grow w0 W
  box : Box W bx [.slice (some ⟨g1, 0, none⟩) 8 c1, .slice (some ⟨g2, 0, none⟩) 8 c2]
  vs : OwnN W (.slice (some ⟨g1, 0, none⟩) 8 c1) d.vs [g1]
  ms : OwnN W (.slice (some ⟨g2, 0, none⟩) 8 c2) d.ms [g2]
  lv : d.vs.length = 8
  lm : d.ms.length = 8
  n1 : w0.heap.size ≤ g1
  n2 : w0.heap.size ≤ g2
  nb : w0.heap.size ≤ bx
  d1 : g1 ≠ g2
  d2 : bx ≠ g1
  d3 : bx ≠ g2
theorem Bld.later {w0 W W' : World} {bx g1 g2 c1 c2 : Nat} {d : MatchD} (h : Bld w0 W bx g1 g2 c1 c2 d) (g : Grow W W') : Bld w0 W' bx g1 g2 c1 c2 d :=
  ⟨h.grow.trans g, h.box.grow g, h.vs.grow g, h.ms.grow g, h.lv, h.lm, h.n1, h.n2, h.nb, h.d1, h.d2, h.d3⟩
theorem Upd.one_cell (W : World) (b o : Nat) (x : Value) : Upd [b] W (W.setCell ⟨b, o, none⟩ x) := Upd.setCell (Upd.refl _ _) (by simp) _
theorem Bld.setV {w0 W : World} {bx g1 g2 c1 c2 : Nat} {d : MatchD} (h : Bld w0 W bx g1 g2 c1 c2 d) (k : Nat) (hk : k < 8) (x : Int) : Bld w0 (W.setCell ⟨g1, k, none⟩ (.int .i64 x)) bx g1 g2 c1 c2 ⟨d.vs.set k x, d.ms⟩ :=
  ⟨h.grow.setCell_ h.n1 _, h.box.upd (Upd.one_cell _ _ _ _) (by simpa using h.d2), h.vs.put k (by rw [h.lv]; exact hk) x, h.ms.upd (Upd.one_cell _ _ _ _) (by have := h.d1; simp; omega), by simp [h.lv], h.lm, h.n1, h.n2, h.nb, h.d1, h.d2, h.d3⟩
theorem Bld.setM {w0 W : World} {bx g1 g2 c1 c2 : Nat} {d : MatchD} (h : Bld w0 W bx g1 g2 c1 c2 d) (k : Nat) (hk : k < 8) (x : Int) : Bld w0 (W.setCell ⟨g2, k, none⟩ (.int .i64 x)) bx g1 g2 c1 c2 ⟨d.vs, d.ms.set k x⟩ :=
  ⟨h.grow.setCell_ h.n2 _, h.box.upd (Upd.one_cell _ _ _ _) (by simpa using h.d3), h.vs.upd (Upd.one_cell _ _ _ _) (by have := h.d1; simp; omega), h.ms.put k (by rw [h.lm]; exact hk) x, h.lv, by simp [h.lm], h.n1, h.n2, h.nb, h.d1, h.d2, h.d3⟩
theorem OwnN.cell_at {w : World} {g n c : Nat} {zs : List Int} {fp : List Nat} (h : OwnN w (.slice (some ⟨g, 0, none⟩) n c) zs fp) (k : Nat) (hk : k < zs.length) : w.cell? ⟨g, k, none⟩ = some (.int .i64 zs[k]) ∧ ∀ o, w.frozen? ⟨g, o, none⟩ = false := by
  obtain ⟨g', c', e, _, h1, h2, _⟩ := h.set k hk 0
  simp only [Value.slice.injEq, Option.some.injEq, Addr.mk.injEq] at e
  obtain ⟨⟨rfl, _, _⟩, rfl, rfl⟩ := e
  exact ⟨h1, h2⟩
theorem Bld.ret {w0 W W' : World} {bx g1 g2 c1 c2 r : Nat} {d : MatchD} (h : Bld w0 W bx g1 g2 c1 c2 d) (u : Upd [r] W W') (hr : r < w0.heap.size) : OwnM W' (.agg #[.slice (some ⟨g1, 0, none⟩) 8 c1, .slice (some ⟨g2, 0, none⟩) 8 c2]) d [g1, g2] :=
  ownM_mk (h.vs.upd u (by have := h.n1; simp; omega)) (h.ms.upd u (by have := h.n2; simp; omega)) h.d1
/-- What MatchAll has handed back. -/
theorem ownM_open {w0 w : World} {V : Value} {fp : List Nat} (h : OwnM w V allM fp) (hf : Fresh w0 fp) : ∃ g1 g2 c1 c2, V = .agg #[.slice (some ⟨g1, 0, none⟩) 8 c1, .slice (some ⟨g2, 0, none⟩) 8 c2] ∧
    OwnN w (.slice (some ⟨g1, 0, none⟩) 8 c1) allM.vs [g1] ∧ OwnN w (.slice (some ⟨g2, 0, none⟩) 8 c2) allM.ms [g2] ∧ g1 ≠ g2 ∧ w0.heap.size ≤ g1 ∧ w0.heap.size ≤ g2 ∧ g1 < w.heap.size ∧ g2 < w.heap.size := by
  obtain ⟨v0, v1, fp0, fp1, rfl, rfl, hd, h0, h1⟩ := h
  obtain ⟨g1, c1, rfl, rfl, _⟩ := h0.set 0 (by decide) 0
  obtain ⟨g2, c2, rfl, rfl, _⟩ := h1.set 0 (by decide) 0
  exact ⟨g1, g2, c1, c2, rfl, h0, h1, by simpa using hd g1 (by simp), hf g1 (by simp), hf g2 (by simp), h0.here g1 (by simp), h1.here g2 (by simp)⟩
/-- .. laid into a box. -/
theorem Bld.start {w0 w : World} {g1 g2 c1 c2 : Nat} (hG : Grow w0 w) (t : TypeId) (h0 : OwnN w (.slice (some ⟨g1, 0, none⟩) 8 c1) allM.vs [g1]) (h1 : OwnN w (.slice (some ⟨g2, 0, none⟩) 8 c2) allM.ms [g2]) (hd : g1 ≠ g2) (n1 : w0.heap.size ≤ g1) (n2 : w0.heap.size ≤ g2) (l1 : g1 < w.heap.size) (l2 : g2 < w.heap.size) :
    Bld w0 (w.alloc (.cells #[.slice (some ⟨g1, 0, none⟩) 8 c1, .slice (some ⟨g2, 0, none⟩) 8 c2] t)) w.heap.size g1 g2 c1 c2 allM :=
  ⟨hG.trans (Grow.alloc _ _), Box.alloc w [.slice (some ⟨g1, 0, none⟩) 8 c1, .slice (some ⟨g2, 0, none⟩) 8 c2] t, h0.grow (Grow.alloc _ _), h1.grow (Grow.alloc _ _), rfl, rfl, n1, n2, hG.size, hd, by omega, by omega⟩
--% l05Full 65
theorem l05Full_any (k : Nat) (hk : k < 8) (w : World) : Calls Try.prog 65 #[.int .i64 k] w (RetV (.int .i64 (full (k : Nat))) w) := by
  have e1 : p256 1 = 256 := by decide
  have e2 : p256 2 = 65536 := by decide
  have e4 : p256 4 = 4294967296 := by decide
  have e6 : p256 6 = 281474976710656 := by decide
  rcases bits_full (k : Int) with ⟨h1, h2, _⟩ | ⟨h1, h2, _⟩ | ⟨h1, h2, _⟩ | ⟨h1, h2, _⟩ | ⟨_, _, h3⟩
  all_goals first | omega | (
    have H1 := Lib.hid h1; have H2 := Lib.hid h2; clear h1 h2
    go_enter Try.func65, Try.ntmps65
    go_wp2_with fail
    refine (fieldBitsS_any _ _).mono ?_
    rintro e w1 ⟨rfl, hg⟩
    rw [H1.out]
    have HG := Lib.hid hg; clear hg
    go_wp2_with fail
    refine (pow_any _ _ (by decide) (by decide)).mono ?_
    rintro e w' ⟨rfl, rfl⟩
    first | rw [show (Int.toNat 1) = 1 from rfl, e1] | rw [show (Int.toNat 2) = 2 from rfl, e2] | rw [show (Int.toNat 4) = 4 from rfl, e4] | rw [show (Int.toNat 6) = 6 from rfl, e6]
    go_wp2
    go_ret
    exact ⟨ret_int H2.out.symm, HG.out⟩)
--% MatchOfS 38
def partZ (zs : List Int) (k : Nat) : List Int := zs.take k ++ List.replicate (8 - k) 0
theorem partZ_0 (zs : List Int) : partZ zs 0 = List.replicate 8 0 := by simp [partZ]
theorem partZ_8 (zs : List Int) (h : zs.length = 8) : partZ zs 8 = zs := by simp [partZ, List.take_of_length_le (Nat.le_of_eq h)]
theorem partZ_set (zs : List Int) (h : zs.length = 8) (k : Nat) (hk : k < 8) : (partZ zs k).set k (zs[k]'(by omega)) = partZ zs (k + 1) := by
  unfold partZ
  have e : (zs.take k).length = k := by simp; omega
  have e2 : 8 - k = (8 - (k + 1)) + 1 := by omega
  rw [List.set_append_right _ _ (by omega), e, Nat.sub_self, e2, List.replicate_succ, List.set_cons_zero, List.take_succ_eq_append_getElem (by omega), List.append_assoc]
  rfl
theorem fulls_get (k : Nat) (h : k < 8) : fulls[k]'(by simpa [fulls] using h) = full (k : Nat) := by
  obtain rfl | rfl | rfl | rfl | rfl | rfl | rfl | rfl : k = 0 ∨ k = 1 ∨ k = 2 ∨ k = 3 ∨ k = 4 ∨ k = 5 ∨ k = 6 ∨ k = 7 := by omega
  all_goals rfl
theorem matchOfS_any (w : World) (V : Value) (d : DatH) (h : RdH w V d) : Calls Try.prog 38 #[V] w (RetNew OwnM (mtOf d.vs) w) := by
  obtain ⟨v, rfl, hv⟩ := h
  have HV := Lib.hid hv
  obtain ⟨a, c, rfl, hlc, hm, hn, hc⟩ := Rd.ints hv
  have H := Lib.hid hc; clear hv hn hc
  unfold maxLen at hm
  cases hok : hdOk d.vs
  · rw [mtOf_no hok]
    go_enter Try.func38, Try.ntmps38
    go_wp2_with fail
    refine at_world (w := w) ?G (fun hG => (headOkS_any _ _ d ⟨_, rfl, HV.out.grow hG⟩).mono ?_)
    case G => ((repeat (first | with_reducible exact Grow.refl _ | (with_reducible refine Grow.alloc_ ?_ _) | (with_reducible refine Grow.setCell_ ?_ (by first | exact Nat.le_refl _ | (simp only [World.alloc, Array.size_push]; omega) | omega) _))))
    rintro e w1 ⟨rfl, hg⟩
    rw [hok]
    have HG := Lib.hid (hG.trans hg)
    have BX := Lib.hid (((Box.alloc (w.alloc _) _ _).grow hg).at_ (b' := w.heap.size + 1) (by simp only [World.alloc, Array.size_push]))
    clear hG hg
    have ⟨q0, q1⟩ := BX.out.two
    have z0 := BX.out.2.2
    have l0 := BX.out.1
    go_wp2
    refine bodyPost_ret (v := .agg #[.slice none 0 0, .slice none 0 0]) ?_ rfl ⟨_, [], rfl, ownM_nil _, by simp [Fresh], HG.out.box_end (fq := [w.heap.size + 1]) ?_ (by simp)⟩
    · simp [results, Try.results38, go_sem, q0, q1, z0, l0]
    · ((repeat (first | with_reducible exact Upd.refl _ _ | (with_reducible refine Upd.setCell ?_ (by simp) _))))
  rw [mtOf_yes hok]
  have HL8 := Lib.hid (hdOk_at hok).1
  go_enter Try.func38, Try.ntmps38
  go_wp2_with fail
  refine at_world (w := w) ?G (fun hG => (headOkS_any _ _ d ⟨_, rfl, HV.out.grow hG⟩).mono ?_)
  case G => ((repeat (first | with_reducible exact Grow.refl _ | (with_reducible refine Grow.alloc_ ?_ _) | (with_reducible refine Grow.setCell_ ?_ (by first | exact Nat.le_refl _ | (simp only [World.alloc, Array.size_push]; omega) | omega) _))))
  rintro e w1 ⟨rfl, hg⟩
  rw [hok]
  have HG := Lib.hid (hG.trans hg)
  have B0 := Lib.hid ((Box.alloc w _ _).grow ((Grow.alloc _ _).trans hg))
  have BX := Lib.hid (((Box.alloc (w.alloc _) _ _).grow hg).at_ (b' := w.heap.size + 1) (by simp only [World.alloc, Array.size_push]))
  clear hG hg
  go_wp2_with fail
  refine (matchAllS_any _).mono ?_
  rintro e w2 ⟨v2, fp2, rfl, ho, hf, hg⟩
  obtain ⟨g1, g2, c1, c2, rfl, o1, o2, hd, n1, n2, l1, l2⟩ := ownM_open ho hf
  have BS := Lib.hid (Bld.start hg 41 o1 o2 hd n1 n2 l1 l2)
  have BG := Lib.hid l1
  clear ho hf o1 o2 hd n1 n2 l1 l2 hg
  go_wp2
  generalize w2.alloc (Obj.cells #[Value.slice (some ⟨g1, 0, none⟩) 8 c1, Value.slice (some ⟨g2, 0, none⟩) 8 c2] 41) = W0 at *
  go_loopw [4] (fun i wr => ∃ k : Nat, k ≤ 8 ∧ i = .int .i64 k ∧ Bld w1 wr w2.heap.size g1 g2 c1 c2 ⟨partZ d.vs k, partZ fulls k⟩) (fun i _ => 8 - (intOf i).toNat)
  case atStart => exact ⟨0, Nat.zero_le _, rfl, by rw [partZ_0, partZ_0]; exact BS.out⟩
  case round =>
    obtain ⟨k, hk, rfl, hbl⟩ := hrel
    have BL := Lib.hid hbl; clear hbl
    by_cases hlt : k < 8
    · have hln : k < d.vs.length := by rw [HL8.out]; exact hlt
      obtain ⟨b, o, rfl, hcs⟩ := H.out k hln
      have C0 := Lib.hid ((HG.out.trans BL.out.grow).cell hcs)
      clear hcs
      go_wp2_with fail
      have hne : Nonempty (Cl (Grow wr)) := ⟨⟨wr, Grow.refl _⟩⟩
      have ⟨p0, p1⟩ := BL.out.box.two_
      have p2 := (B0.out.grow BL.out.grow).one_
      have p3 : ∀ x : Cl (Grow wr), x.w.cell? ⟨b, o + k, none⟩ = some (.int .i64 d.vs[k]) := fun x => x.ok.cell C0.out
      refine wp_region_last (Cls (Grow wr)) 9 10 #[false, false, false, false, false, false, false, false, false, false] (by kernel_rfl) (by kernel_rfl) ?_
      refine anyL_seg [0, 1, 2, 3, 4, 5, 6, 7, 8] #[true, true, true, true, true, true, true, true, true, false] (fuel := 1) rfl (by kernel_rfl) ⟨⟨_, Grow.drewN _ 1⟩, rfl⟩ ?_
      simp only [pickOps, List.getD_cons_succ, List.getD_cons_zero]
      repeat (go_big_quiet_step (fail))
      refine wpQuiet_nil ?_
      refine anyL_last (by kernel_rfl) ?_
      simp only [List.getD_cons_succ, List.getD_cons_zero]
      have ⟨e0, e1⟩ := (BL.out.later (Grow.drewN wr 1)).vs.cell_at k (by rw [BL.out.lv]; exact hlt)
      have l0 := BG.out
      go_wp2
      refine ⟨trivial, ?_⟩
      clear hne p0 p1 p2 p3 e0 e1
      have BL2 : Hid (Bld w1 ((wr.drewN 1).setCell ⟨g1, k, none⟩ (.int .i64 d.vs[k])) w2.heap.size g1 g2 c1 c2 ⟨partZ d.vs (k + 1), partZ fulls k⟩) := Lib.hid (by
        have := (BL.out.later (Grow.drewN wr 1)).setV k hlt d.vs[k]
        rwa [partZ_set d.vs HL8.out k hlt] at this)
      generalize (wr.drewN 1).setCell ⟨g1, k, none⟩ (.int .i64 d.vs[k]) = wm at *
      go_wp2_with fail
      have hne : Nonempty (Cl (Grow wm)) := ⟨⟨wm, Grow.refl _⟩⟩
      have ⟨p0, p1⟩ := BL2.out.box.two_
      refine wp_region_last (Cls (Grow wm)) 6 7 #[false, false, false, false, false, false, false] (by kernel_rfl) (by kernel_rfl) ?_
      refine anyL_seg [0, 1, 2, 3] #[true, true, true, true, false, false, false] (fuel := 3) rfl (by kernel_rfl) ⟨⟨_, Grow.drewN _ 1⟩, rfl⟩ ?_
      simp only [pickOps, List.getD_cons_succ, List.getD_cons_zero]
      repeat (go_big_quiet_step (fail))
      refine wpQuiet_nil ?_
      refine anyL_sole 4 #[true, true, true, true, true, false, false] (fuel := 2) (by kernel_rfl) ?_
      simp only [List.getD_cons_succ, List.getD_cons_zero]
      go_wp2_with fail
      refine (l05Full_any k hlt _).mono ?_
      rintro e wq ⟨rfl, hg⟩
      have D1 := Lib.hid ((Grow.drewN _ 1).trans hg); clear hg
      go_wp2
      refine ⟨⟨⟨_, D1.out⟩, rfl⟩, ?_⟩
      refine anyL_seg [5] #[true, true, true, true, true, true, false] (fuel := 1) rfl (by kernel_rfl) ⟨⟨_, D1.out⟩, rfl⟩ ?_
      simp only [pickOps, List.getD_cons_succ, List.getD_cons_zero]
      repeat (go_big_quiet_step (fail))
      refine wpQuiet_nil ?_
      refine anyL_last (by kernel_rfl) ?_
      simp only [List.getD_cons_succ, List.getD_cons_zero]
      have ⟨f0, f1⟩ := (BL2.out.later D1.out).ms.cell_at k (by rw [BL2.out.lm]; exact hlt)
      go_wp2
      refine ⟨trivial, ?_⟩
      have BL3 : Hid (Bld w1 (wq.setCell ⟨g2, k, none⟩ (.int .i64 (full (k : Nat)))) w2.heap.size g1 g2 c1 c2 ⟨partZ d.vs (k + 1), partZ fulls (k + 1)⟩) := Lib.hid (by
        have := (BL2.out.later D1.out).setM k hlt (full (k : Nat))
        have e := partZ_set fulls rfl k hlt
        rw [fulls_get k hlt] at e
        rwa [e] at this)
      clear hne p0 p1 f0 f1
      go_wp2
      go_roundw
      case rel => exact ⟨k + 1, by omega, by go_num, BL3.out⟩
      case measure => simp [intOf]; omega
    · obtain rfl : k = 8 := by omega
      have ⟨q0, q1⟩ := BL.out.box.two
      have lk := BL.out.box.1
      have ⟨r0, r1⟩ := (BX.out.grow BL.out.grow).two
      have z0 := (BX.out.grow BL.out.grow).2.2
      have l0 := (BX.out.grow BL.out.grow).1
      have hlt1 : w.heap.size + 1 < w1.heap.size := BX.out.1
      have HR : Hid (∀ W, Upd [w.heap.size + 1] wr W → RetNew OwnM ⟨d.vs, fulls⟩ w (.returned (.agg #[.slice (some ⟨g1, 0, none⟩) 8 c1, .slice (some ⟨g2, 0, none⟩) 8 c2])) W) := Lib.hid (fun W hu => by
        have hb := BL.out
        rw [partZ_8 _ HL8.out, partZ_8 _ rfl] at hb
        refine ⟨_, [g1, g2], rfl, hb.ret hu hlt1, ?_, (HG.out.trans hb.grow).box_end hu (by simp)⟩
        have h1 := hb.n1; have h2 := hb.n2
        intro x hx; simp only [List.mem_cons, List.not_mem_nil, or_false] at hx; omega)
      have hnb := BL.out.nb
      go_wp2
      refine bodyPost_ret (v := .agg #[.slice (some ⟨g1, 0, none⟩) 8 c1, .slice (some ⟨g2, 0, none⟩) 8 c2]) ?_ rfl (HR.out _ ?_)
      · simp [results, Try.results38, go_sem, q0, q1, r0, r1, z0, l0, lk]
      · ((repeat (first | with_reducible exact Upd.refl _ _ | (with_reducible refine Upd.setCell ?_ (by simp) _))))
--%
end Go.Proofs.Ytkkhkojojnebjaa
