/- The draws of matches: contracts that tell only bounds (printed by gdn.py). -/
import Derived.Test.YtkkhkojojnebjaaDrm
import Derived.Test.YtkkhkojojnebjaaPlc
import Derived.WalkKit
import Derived.ProofKit
import Derived.Deep.QuietTactic
import Derived.BigQuiet
import Derived.Outline
import Derived.WalkSpells
namespace Go.Proofs.Ytkkhkojojnebjaa
open Go.ChangeShapes Go.WideShapes Go.ChangeAt Go.RowKit
set_option linter.unusedVariables false
set_option linter.unusedSimpArgs false
--%
/-- A match in hand: a cursor, the slot of the result, its box, its rows. -/
structure M2 (w W : World) (p R bm : Nat) (v0 v1 : Value) (vs ms : List Int) : Prop where
  d : DS w W p
  br : Bx w W R [.slice none 0 0, .slice none 0 0]
  fm : Bx w W bm [v0, v1]
  ov : ON w W v0 vs
  om : ON w W v1 ms
  ne : R ≠ bm
  nv : ∀ x ∈ fpOf v0, x ≠ R ∧ x ≠ bm ∧ x ∉ fpOf v1
  nm : ∀ x ∈ fpOf v1, x ≠ R ∧ x ≠ bm ∧ x ∉ fpOf v0
theorem M2.call {w W W' : World} {p R bm : Nat} {v0 v1 : Value} {vs ms : List Int} (h : M2 w W p R bm v0 v1 vs ms) (hC : Cur W' p) (hU : Upd [p] W W') : M2 w W' p R bm v0 v1 vs ms :=
  ⟨h.d.call hC hU, h.br.call h.d hU, h.fm.call h.d hU, h.ov.call h.d hU, h.om.call h.d hU, h.ne, h.nv, h.nm⟩
theorem M2.grow {w W W' : World} {p R bm : Nat} {v0 v1 : Value} {vs ms : List Int} (h : M2 w W p R bm v0 v1 vs ms) (g : Grow W W') : M2 w W' p R bm v0 v1 vs ms :=
  ⟨h.d.grow g, h.br.grow g, h.fm.grow g, h.ov.grow g, h.om.grow g, h.ne, h.nv, h.nm⟩
theorem M2.putV {w W : World} {p R bm g c : Nat} {v1 : Value} {vs ms : List Int} (h : M2 w W p R bm (.slice (some ⟨g, 0, none⟩) 8 c) v1 vs ms) (k : Nat) (hk : k < 8) (x : Int) : M2 w (W.setCell ⟨g, k, none⟩ (.int .i64 x)) p R bm (.slice (some ⟨g, 0, none⟩) 8 c) v1 (vs.set k x) ms := by
  have u : Upd [g] W (W.setCell ⟨g, k, none⟩ (.int .i64 x)) := Upd.setCell (p := ⟨g, k, none⟩) (Upd.refl [g] W) (by simp) _
  have hg := h.nv g (by simp [fpOf, Value.ownBlock])
  exact ⟨ON.set_ h.d h.ov k _, h.br.own u (by simp; omega), h.fm.own u (by simp; omega), h.ov.put k (by have := h.ov.len; omega) x, own_apart h.om u (fun y hy hm => by simp only [List.mem_cons, List.not_mem_nil, or_false] at hm; subst hm; exact hg.2.2 hy), h.ne, h.nv, h.nm⟩
theorem M2.putM {w W : World} {p R bm g c : Nat} {v0 : Value} {vs ms : List Int} (h : M2 w W p R bm v0 (.slice (some ⟨g, 0, none⟩) 8 c) vs ms) (k : Nat) (hk : k < 8) (x : Int) : M2 w (W.setCell ⟨g, k, none⟩ (.int .i64 x)) p R bm v0 (.slice (some ⟨g, 0, none⟩) 8 c) vs (ms.set k x) := by
  have u : Upd [g] W (W.setCell ⟨g, k, none⟩ (.int .i64 x)) := Upd.setCell (p := ⟨g, k, none⟩) (Upd.refl [g] W) (by simp) _
  have hg := h.nm g (by simp [fpOf, Value.ownBlock])
  exact ⟨ON.set_ h.d h.om k _, h.br.own u (by simp; omega), h.fm.own u (by simp; omega), own_apart h.ov u (fun y hy hm => by simp only [List.mem_cons, List.not_mem_nil, or_false] at hm; subst hm; exact hg.2.2 hy), h.om.put k (by have := h.om.len; omega) x, h.ne, h.nv, h.nm⟩
theorem M2.cutV {w W : World} {p R bm g c : Nat} {v1 : Value} {vs ms : List Int} (h : M2 w W p R bm (.slice (some ⟨g, 0, none⟩) 8 c) v1 vs ms) (k : Nat) (hk : k < 8) : M2 w (W.setCell ⟨bm, 0, none⟩ (.slice (some ⟨g, 0, none⟩) k c)) p R bm (.slice (some ⟨g, 0, none⟩) k c) v1 (vs.take k) ms := by
  have l := h.ov.len
  have hg := h.nv g (by simp [fpOf, Value.ownBlock])
  refine ⟨h.d.box h.fm _, h.br.apart h.ne _, h.fm.set 0 _ (by simp), (h.ov.take (k := k) (by omega) (by omega)).box (fun x hx => ?_), h.om.box (fun x hx => (h.nm x hx).2.1), h.ne, fun x hx => ?_, fun x hx => ?_⟩
  · rw [fp1 x hx]; exact hg.2.1
  · rw [fp1 x hx]; exact hg
  · exact ⟨(h.nm x hx).1, (h.nm x hx).2.1, fun hm => by have e := fp1 x hm; subst e; exact hg.2.2 hx⟩
theorem M2.appM {w W W' : World} {p R bm : Nat} {v0 v1 v' : Value} {vs ms ys : List Int} {cs : Array Value} {t : TypeId} (h : M2 w W p R bm v0 v1 vs ms)
    (hown : W'.ownsRow w.heap.size 3 1 v' (ms.length + ys.length) (ms.map (Value.int .i64) ++ ys.map (Value.int .i64))) (hgr : (W.alloc (.cells cs t)).grownBy W' v1.ownBlock) (hmv : Moved (W.alloc (.cells cs t)) v1 v') :
    M2 w (W'.setCell ⟨bm, 1, none⟩ v') p R bm v0 v' vs (ms ++ ys) ∧ Bx w W' bm [v0, v1] := by
  have u := Upd.of_grown hgr
  have g := Grow.alloc W (.cells cs t)
  have D := (h.d.grow g).own u (fun x hx => (own_new_ h.om x hx).1)
  have FM := (h.fm.grow g).own u (fun hx => (h.nm _ hx).2.1 rfl)
  have OM : ON w W' v' (ms ++ ys) := by
    unfold ON
    rw [List.length_append, List.map_append]
    exact hown
  have OV : ON w W' v0 vs := own_apart (h.ov.grow g) u (fun x hx hm => (h.nv x hx).2.2 hm)
  have NM : ∀ x ∈ fpOf v', x ≠ R ∧ x ≠ bm ∧ x ∉ fpOf v0 := fun x hx => by
    rcases hmv x (by simpa [fpOf] using hx) with h1 | h1
    · exact h.nm x (by simpa [fpOf] using h1)
    · have h2 := (h.fm.grow g).1.1; have h3 := (h.br.grow g).1.1
      exact ⟨by omega, by omega, fun hm => by have := (own_new_ (h.ov.grow g) x hm).2; omega⟩
  refine ⟨⟨D.box FM _, ((h.br.grow g).own u (fun hx => (h.nm _ hx).1 rfl)).apart h.ne _, FM.set 1 _ (by simp), OV.box (fun x hx => (h.nv x hx).2.1), OM.box (fun x hx => (NM x hx).2.1), h.ne, fun x hx => ⟨(h.nv x hx).1, (h.nv x hx).2.1, fun hm => (NM x hm).2.2 hx⟩, NM⟩, FM⟩
theorem M2.ret {w W W' : World} {p R bm n : Nat} {v0 v1 : Value} {vs ms : List Int} (h : M2 w W p R bm v0 v1 vs ms) (hv : WfN vs) (hm : WfN ms) (l1 : vs.length ≤ n) (l2 : ms.length ≤ n) (h8 : n ≠ 8) (u : Upd [R] W W') : RetMt n w p (.returned (.agg #[v0, v1])) W' := by
  have d := h.d.own u (fun x hx => by simp only [List.mem_cons, List.not_mem_nil, or_false] at hx; subst hx; exact h.br.2)
  exact ⟨_, _, vs, ms, rfl, own_apart h.ov u (fun x hx hm => by simp only [List.mem_cons, List.not_mem_nil, or_false] at hm; exact (h.nv x hx).1 hm), own_apart h.om u (fun x hx hm => by simp only [List.mem_cons, List.not_mem_nil, or_false] at hm; exact (h.nm x hx).1 hm), fun x hx => (h.nv x hx).2.2, hv, hm, l1, l2, fun e => absurd e h8, d.cur, d.upd⟩
--% l05Any 84
set_option maxRecDepth 20000 in
set_option maxHeartbeats 4000000 in
theorem l05Any_any (w : World) (p : Nat) (hc : Cur w p) : Calls Try.prog 84 #[.pointer (some ⟨p, 0, none⟩)] w (RetMt 9 w p) := by
  have D0 := Lib.hid (DS.start hc); clear hc
  go_enter Try.func84, Try.ntmps84
  go_wp2_with fail
  have D := Lib.hid (D0.out.grow (Grow.alloc w (.cells #[.slice none 0 0, .slice none 0 0] 41)))
  have BR : Hid (Bx w (w.alloc (.cells #[.slice none 0 0, .slice none 0 0] 41)) w.heap.size [.slice none 0 0, .slice none 0 0]) := Lib.hid (Bx.new D0.out [.slice none 0 0, .slice none 0 0] 41)
  clear D0
  generalize w.alloc (.cells #[.slice none 0 0, .slice none 0 0] 41) = W0 at *
  refine (l05Match_any _ p D.out.cur).mono ?_
  rintro e w1 ⟨v0, v1, vs, ms, rfl, o0, o1, hd, hv, hm, -, -, h8, hC, hU⟩
  obtain ⟨l0, l1⟩ := h8 rfl
  obtain ⟨a0, cv, rfl⟩ := own_shape o0
  obtain ⟨gv, rfl⟩ := own_some o0 (by omega)
  obtain ⟨a1, cm, rfl⟩ := own_shape o1
  obtain ⟨gm, rfl⟩ := own_some o1 (by omega)
  rw [l0] at o0 hd ⊢
  rw [l1] at o1 hd ⊢
  have n0 := own_new_ o0 gv (by simp [fpOf, Value.ownBlock])
  have n1 := own_new_ o1 gm (by simp [fpOf, Value.ownBlock])
  have n2 : gv ≠ gm := fun e => hd gv (by simp [fpOf, Value.ownBlock]) (by simp [fpOf, Value.ownBlock, e])
  have hcb : 8 ≤ cv ∧ cv ≤ maxLen := by
    obtain ⟨a', n', c', e', -, h1, h2, -⟩ := (OwnR.of o0).1.rd
    simp only [Value.slice.injEq] at e'
    obtain ⟨-, rfl, rfl⟩ := e'
    exact ⟨h1, h2⟩
  unfold maxLen at hcb
  have WV := Lib.hid hv; have WM := Lib.hid hm
  have S : Hid (M2 w (w1.alloc (.cells #[.slice (some ⟨gv, 0, none⟩) 8 cv, .slice (some ⟨gm, 0, none⟩) 8 cm] 41)) p w.heap.size w1.heap.size (.slice (some ⟨gv, 0, none⟩) 8 cv) (.slice (some ⟨gm, 0, none⟩) 8 cm) vs ms) := Lib.hid (by
    have g := Grow.alloc w1 (.cells #[.slice (some ⟨gv, 0, none⟩) 8 cv, .slice (some ⟨gm, 0, none⟩) 8 cm] 41)
    have B1 := BR.out.call D.out hU
    have D1 := D.out.call hC hU
    have z := B1.1.1
    have zz := BR.out.1.1
    refine ⟨D1.grow g, B1.grow g, Bx.new D1 [.slice (some ⟨gv, 0, none⟩) 8 cv, .slice (some ⟨gm, 0, none⟩) 8 cm] 41, ON.grow (own_mono o0 D.out.size) g, ON.grow (own_mono o1 D.out.size) g, by omega, fun x hx => ?_, fun x hx => ?_⟩
    · have := fp1 x hx; exact ⟨by omega, by omega, fun hm => by have := fp1 x hm; omega⟩
    · have := fp1 x hx; exact ⟨by omega, by omega, fun hm => by have := fp1 x hm; omega⟩)
  clear o0 o1 hd hv hm h8 hC hU n0 n1 n2 l0 l1 BR D
  go_wp2_with fail
  generalize w1.alloc (.cells #[.slice (some ⟨gv, 0, none⟩) 8 cv, .slice (some ⟨gm, 0, none⟩) 8 cm] 41) = W1 at *
  generalize w1.heap.size = bm at *
  obtain ⟨R, hR⟩ : ∃ R, w.heap.size = R := ⟨_, rfl⟩
  rw [hR] at S ⊢
  refine (l01Below_any _ p 8 (by decide) S.out.d.cur).mono ?_
  rintro e w2 ⟨x2, rfl, h2a, h2b, -, hC, hU⟩
  have h2b := h2b (by decide)
  replace S := Lib.hid (S.out.call hC hU)
  clear hC hU
  obtain ⟨k, rfl⟩ := Int.eq_ofNat_of_zero_le h2a
  have hk8 : k < 8 := by omega
  go_wp2_with fail
  refine (l01Below_any _ p 16 (by decide) S.out.d.cur).mono ?_
  rintro e w3 ⟨x3, rfl, h3a, h3b, -, hC, hU⟩
  have h3b := h3b (by decide)
  replace S := Lib.hid (S.out.call hC hU)
  clear hC hU
  by_cases c0 : x3 = 0
  · subst c0
    go_wp2_with fail
    replace S := Lib.hid (S.out.grow (Grow.drewN w3 1))
    obtain ⟨C, hC⟩ : ∃ C : World → Prop, C = fun W => M2 w W p R bm (.slice (some ⟨gv, 0, none⟩) 8 cv) (.slice (some ⟨gm, 0, none⟩) 8 cm) vs ms := ⟨_, rfl⟩
    have CC : Hid (∀ W, C W → M2 w W p R bm (.slice (some ⟨gv, 0, none⟩) 8 cv) (.slice (some ⟨gm, 0, none⟩) 8 cm) vs ms) := Lib.hid (fun W h => by rw [hC] at h; exact h)
    have MK : Hid (∀ W, M2 w W p R bm (.slice (some ⟨gv, 0, none⟩) 8 cv) (.slice (some ⟨gm, 0, none⟩) 8 cm) vs ms → C W) := Lib.hid (fun W h => by rw [hC]; exact h)
    clear hC
    have c0 : Hid (C (w3.drewN 1)) := Lib.hid (MK.out _ S.out)
    have hne : Nonempty (Cl C) := ⟨⟨_, c0.out⟩⟩
    have p0 : ∀ x : Cl C, x.w.cell? ⟨bm, 0, none⟩ = some (.slice (some ⟨gv, 0, none⟩) 8 cv) := fun x => (CC.out x.w x.ok).fm.1.two.1
    have p1 : ∀ x : Cl C, x.w.cell? ⟨bm, 1, none⟩ = some (.slice (some ⟨gm, 0, none⟩) 8 cm) := fun x => (CC.out x.w x.ok).fm.1.two.2
    refine wp_region_last (Cls C) 6 7 #[false, false, false, false, false, false, false] (by kernel_rfl) (by kernel_rfl) ?_
    refine anyL_seg [0, 1, 2, 3] #[true, true, true, true, false, false, false] (fuel := 3) rfl (by kernel_rfl) ⟨⟨_, c0.out⟩, rfl⟩ ?_
    simp only [pickOps, List.getD_cons_succ, List.getD_cons_zero]
    repeat (go_big_quiet_step (fail))
    refine wpQuiet_nil ?_
    refine anyL_sole 4 #[true, true, true, true, true, false, false] (fuel := 2) (by kernel_rfl) ?_
    simp only [List.getD_cons_succ, List.getD_cons_zero]
    go_wp2_with fail
    refine (l01Raw_any _ p S.out.d.cur).mono ?_
    rintro e w4 ⟨x4, rfl, h4, hC, hU⟩
    have I4 := Lib.hid h4
    clear h4
    replace S := Lib.hid (S.out.call hC hU)
    clear hC hU
    have c4 : Hid (C w4) := Lib.hid (MK.out _ S.out)
    go_wp2
    refine ⟨⟨⟨_, c4.out⟩, rfl⟩, ?_⟩
    refine anyL_seg [5] #[true, true, true, true, true, true, false] (fuel := 1) rfl (by kernel_rfl) ⟨⟨_, c4.out⟩, rfl⟩ ?_
    simp only [pickOps, List.getD_cons_succ, List.getD_cons_zero]
    repeat (go_big_quiet_step (fail))
    refine wpQuiet_nil ?_
    refine anyL_last (by kernel_rfl) ?_
    simp only [List.getD_cons_succ, List.getD_cons_zero]
    have og := S.out.om.at8 k hk8; have ⟨of, ol⟩ := S.out.om.fz8
    clear p0 p1
    go_wp2
    replace S := Lib.hid (S.out.putM k hk8 (x4))
    clear og of ol
    generalize w4.setCell ⟨gm, k, none⟩ (.int .i64 (x4)) = wZ at *
    refine ⟨trivial, ?_⟩
    clear CC MK c0 c4 hne C
    replace WM := Lib.hid (WfN.set (k := k) (x := x4) WM.out I4.out)
    generalize ms.set k x4 = ms at *
    have ⟨q0, q1⟩ := S.out.fm.1.two; have qz := S.out.fm.1.2.2; have ql := S.out.fm.1.1
    have ⟨r0, r1⟩ := S.out.br.1.two; have rz := S.out.br.1.2.2; have rl := S.out.br.1.1
    have n1 : ¬ bm = R := by have := S.out.ne; omega
    have n2 : ¬ R = bm := by omega
    go_wp2
    have HR : Hid (∀ W, Upd [R] wZ W → RetMt 9 w p (.returned (.agg #[.slice (some ⟨gv, 0, none⟩) 8 cv, .slice (some ⟨gm, 0, none⟩) 8 cm])) W) := Lib.hid (fun W hu => S.out.ret WV.out WM.out (by have := S.out.ov.len; omega) (by have := S.out.om.len; omega) (by decide) hu)
    refine bodyPost_ret (v := .agg #[.slice (some ⟨gv, 0, none⟩) 8 cv, .slice (some ⟨gm, 0, none⟩) 8 cm]) ?_ rfl (HR.out _ ?_)
    · simp [results, Try.results84, go_sem, q0, q1, qz, ql, r0, r1, rz, rl, n1, n2] <;> omega
    · ((repeat (first | (with_reducible refine Upd.setCell ?_ (by simp) _) | with_reducible exact Upd.refl _ _)))
  by_cases c1 : x3 = 1
  · subst c1
    go_wp2_with fail
    replace S := Lib.hid (S.out.grow (Grow.drewN w3 1))
    obtain ⟨C, hC⟩ : ∃ C : World → Prop, C = fun W => M2 w W p R bm (.slice (some ⟨gv, 0, none⟩) 8 cv) (.slice (some ⟨gm, 0, none⟩) 8 cm) vs ms := ⟨_, rfl⟩
    have CC : Hid (∀ W, C W → M2 w W p R bm (.slice (some ⟨gv, 0, none⟩) 8 cv) (.slice (some ⟨gm, 0, none⟩) 8 cm) vs ms) := Lib.hid (fun W h => by rw [hC] at h; exact h)
    have MK : Hid (∀ W, M2 w W p R bm (.slice (some ⟨gv, 0, none⟩) 8 cv) (.slice (some ⟨gm, 0, none⟩) 8 cm) vs ms → C W) := Lib.hid (fun W h => by rw [hC]; exact h)
    clear hC
    have c0 : Hid (C (w3.drewN 1)) := Lib.hid (MK.out _ S.out)
    have hne : Nonempty (Cl C) := ⟨⟨_, c0.out⟩⟩
    have p0 : ∀ x : Cl C, x.w.cell? ⟨bm, 0, none⟩ = some (.slice (some ⟨gv, 0, none⟩) 8 cv) := fun x => (CC.out x.w x.ok).fm.1.two.1
    have p1 : ∀ x : Cl C, x.w.cell? ⟨bm, 1, none⟩ = some (.slice (some ⟨gm, 0, none⟩) 8 cm) := fun x => (CC.out x.w x.ok).fm.1.two.2
    refine wp_region_last (Cls C) 6 7 #[false, false, false, false, false, false, false] (by kernel_rfl) (by kernel_rfl) ?_
    refine anyL_seg [0, 1, 2, 3] #[true, true, true, true, false, false, false] (fuel := 3) rfl (by kernel_rfl) ⟨⟨_, c0.out⟩, rfl⟩ ?_
    simp only [pickOps, List.getD_cons_succ, List.getD_cons_zero]
    repeat (go_big_quiet_step (fail))
    refine wpQuiet_nil ?_
    refine anyL_sole 4 #[true, true, true, true, true, false, false] (fuel := 2) (by kernel_rfl) ?_
    simp only [List.getD_cons_succ, List.getD_cons_zero]
    go_wp2_with fail
    refine (l01Raw_any _ p S.out.d.cur).mono ?_
    rintro e w4 ⟨x4, rfl, h4, hC, hU⟩
    have I4 := Lib.hid h4
    clear h4
    replace S := Lib.hid (S.out.call hC hU)
    clear hC hU
    have c4 : Hid (C w4) := Lib.hid (MK.out _ S.out)
    go_wp2
    refine ⟨⟨⟨_, c4.out⟩, rfl⟩, ?_⟩
    refine anyL_seg [5] #[true, true, true, true, true, true, false] (fuel := 1) rfl (by kernel_rfl) ⟨⟨_, c4.out⟩, rfl⟩ ?_
    simp only [pickOps, List.getD_cons_succ, List.getD_cons_zero]
    repeat (go_big_quiet_step (fail))
    refine wpQuiet_nil ?_
    refine anyL_last (by kernel_rfl) ?_
    simp only [List.getD_cons_succ, List.getD_cons_zero]
    have og := S.out.ov.at8 k hk8; have ⟨of, ol⟩ := S.out.ov.fz8
    clear p0 p1
    go_wp2
    replace S := Lib.hid (S.out.putV k hk8 (x4))
    clear og of ol
    generalize w4.setCell ⟨gv, k, none⟩ (.int .i64 (x4)) = wZ at *
    refine ⟨trivial, ?_⟩
    clear CC MK c0 c4 hne C
    replace WV := Lib.hid (WfN.set (k := k) (x := x4) WV.out I4.out)
    generalize vs.set k x4 = vs at *
    have ⟨q0, q1⟩ := S.out.fm.1.two; have qz := S.out.fm.1.2.2; have ql := S.out.fm.1.1
    have ⟨r0, r1⟩ := S.out.br.1.two; have rz := S.out.br.1.2.2; have rl := S.out.br.1.1
    have n1 : ¬ bm = R := by have := S.out.ne; omega
    have n2 : ¬ R = bm := by omega
    go_wp2
    have HR : Hid (∀ W, Upd [R] wZ W → RetMt 9 w p (.returned (.agg #[.slice (some ⟨gv, 0, none⟩) 8 cv, .slice (some ⟨gm, 0, none⟩) 8 cm])) W) := Lib.hid (fun W hu => S.out.ret WV.out WM.out (by have := S.out.ov.len; omega) (by have := S.out.om.len; omega) (by decide) hu)
    refine bodyPost_ret (v := .agg #[.slice (some ⟨gv, 0, none⟩) 8 cv, .slice (some ⟨gm, 0, none⟩) 8 cm]) ?_ rfl (HR.out _ ?_)
    · simp [results, Try.results84, go_sem, q0, q1, qz, ql, r0, r1, rz, rl, n1, n2] <;> omega
    · ((repeat (first | (with_reducible refine Upd.setCell ?_ (by simp) _) | with_reducible exact Upd.refl _ _)))
  by_cases c2 : x3 = 2
  · subst c2
    have ⟨q0, q1⟩ := S.out.fm.1.two; have qz := S.out.fm.1.2.2; have ql := S.out.fm.1.1
    have ⟨r0, r1⟩ := S.out.br.1.two; have rz := S.out.br.1.2.2; have rl := S.out.br.1.1
    have n1 : ¬ bm = R := by have := S.out.ne; omega
    have n2 : ¬ R = bm := by omega
    replace S := Lib.hid (S.out.cutV k hk8)
    replace WV := Lib.hid (WfN.take (k := k) WV.out)
    have hvl : Hid ((vs.take k).length ≤ 9) := Lib.hid (by rw [List.length_take]; omega)
    go_wp2
    have HR : Hid (∀ W, Upd [R] (w3.setCell ⟨bm, 0, none⟩ (.slice (some ⟨gv, 0, none⟩) k cv)) W → RetMt 9 w p (.returned (.agg #[.slice (some ⟨gv, 0, none⟩) k cv, .slice (some ⟨gm, 0, none⟩) 8 cm])) W) := Lib.hid (fun W hu => S.out.ret WV.out WM.out hvl.out (by have := S.out.om.len; omega) (by decide) hu)
    refine bodyPost_ret (v := .agg #[.slice (some ⟨gv, 0, none⟩) k cv, .slice (some ⟨gm, 0, none⟩) 8 cm]) ?_ rfl (HR.out _ ?_)
    · simp [results, Try.results84, go_sem, q0, q1, qz, ql, r0, r1, rz, rl, n1, n2] <;> omega
    · ((repeat (first | with_reducible exact Upd.refl _ _ | (with_reducible refine Upd.setCell ?_ (by simp) _))))
  by_cases c3 : x3 = 3
  · subst c3
    have ⟨q0, q1⟩ := S.out.fm.1.two; have qz := S.out.fm.1.2.2; have ql := S.out.fm.1.1
    have ⟨r0, r1⟩ := S.out.br.1.two; have rz := S.out.br.1.2.2; have rl := S.out.br.1.1
    have n1 : ¬ bm = R := by have := S.out.ne; omega
    have n2 : ¬ R = bm := by omega
    go_wp2_with (at_builtin; refine wpl_append Try.elemI64 rfl _ _ rfl w.heap.size rfl (own_grow S.out.om (Grow.alloc _ _)) 1 rfl (rd_built w3 _ 1 1 [Value.int .i64 0] rfl (by decide)) rfl (oneCell_ints .i64 [0]) (by have := S.out.om.len; omega) (by have := S.out.om.len; unfold maxLen; omega) (by have := S.out.d.size; simp; omega) ?_; intro v4 w4 hown hgr hmv; obtain ⟨S4, F4⟩ := S.out.appM (ys := [0]) hown hgr hmv; have ML := Lib.hid S.out.om.len; have u4 := Upd.of_grown hgr; have BR4 := (S.out.br.grow (Grow.alloc w3 (.cells #[Value.int .i64 0] 3))).own u4 (fun hx => (S.out.nm _ hx).1 rfl); clear S hown hgr hmv u4 q0 q1 qz ql r0 r1 rz rl; obtain ⟨a4, c4, rfl⟩ := own_shape S4.om; generalize hn4 : (ms ++ [0]).length = n4 at *; have N4 : Hid (n4 = 9) := Lib.hid (by have := ML.out; rw [← hn4]; simp; omega); have S := Lib.hid S4; clear S4 hn4; have ⟨q0, q1⟩ := F4.1.two; have qz := F4.1.2.2; have ql := F4.1.1; have ⟨r0, r1⟩ := BR4.1.two; have rz := BR4.1.2.2; have rl := BR4.1.1; clear F4 BR4)
    have hml : Hid ((ms ++ [0]).length ≤ 9) := Lib.hid (by have h1 := S.out.om.len; have h2 := N4.out; omega)
    have HR : Hid (∀ W, Upd [R] (w4.setCell ⟨bm, 1, none⟩ (.slice a4 n4 c4)) W → RetMt 9 w p (.returned (.agg #[.slice (some ⟨gv, 0, none⟩) 8 cv, .slice a4 n4 c4])) W) := Lib.hid (fun W hu => S.out.ret WV.out (WfN.onto WM.out (by unfold I64; omega)) (by have := S.out.ov.len; omega) hml.out (by decide) hu)
    refine bodyPost_ret (v := .agg #[.slice (some ⟨gv, 0, none⟩) 8 cv, .slice a4 n4 c4]) ?_ rfl (HR.out _ ?_)
    · simp [results, Try.results84, go_sem, q0, q1, qz, ql, r0, r1, rz, rl, n1, n2] <;> omega
    · ((repeat (first | with_reducible exact Upd.refl _ _ | (with_reducible refine Upd.setCell ?_ (by simp) _))))
  have hk0 : (x3 == 0) = false := by simpa using c0
  have hk1 : (x3 == 1) = false := by simpa using c1
  have hk2 : (x3 == 2) = false := by simpa using c2
  have hk3 : (x3 == 3) = false := by simpa using c3
  have ⟨q0, q1⟩ := S.out.fm.1.two; have qz := S.out.fm.1.2.2; have ql := S.out.fm.1.1
  have ⟨r0, r1⟩ := S.out.br.1.two; have rz := S.out.br.1.2.2; have rl := S.out.br.1.1
  have n1 : ¬ bm = R := by have := S.out.ne; omega
  have n2 : ¬ R = bm := by omega
  go_wp2
  have HR : Hid (∀ W, Upd [R] w3 W → RetMt 9 w p (.returned (.agg #[.slice (some ⟨gv, 0, none⟩) 8 cv, .slice (some ⟨gm, 0, none⟩) 8 cm])) W) := Lib.hid (fun W hu => S.out.ret WV.out WM.out (by have := S.out.ov.len; omega) (by have := S.out.om.len; omega) (by decide) hu)
  refine bodyPost_ret (v := .agg #[.slice (some ⟨gv, 0, none⟩) 8 cv, .slice (some ⟨gm, 0, none⟩) 8 cm]) ?_ rfl (HR.out _ ?_)
  · simp [results, Try.results84, go_sem, q0, q1, qz, ql, r0, r1, rz, rl, n1, n2] <;> omega
  · ((repeat (first | (with_reducible refine Upd.setCell ?_ (by simp) _) | with_reducible exact Upd.refl _ _)))
--%
/-- Two matches in hand: the slots of the results, the boxes, the rows. -/
structure T2 (w W : World) (p R1 R2 ba bb : Nat) (a0 a1 b0 b1 : Value) (av am bv bw : List Int) : Prop where
  d : DS w W p
  r1 : Bx w W R1 [.slice none 0 0, .slice none 0 0]
  r2 : Bx w W R2 [.slice none 0 0, .slice none 0 0]
  fa : Bx w W ba [a0, a1]
  fb : Bx w W bb [b0, b1]
  oa0 : ON w W a0 av
  oa1 : ON w W a1 am
  ob0 : ON w W b0 bv
  ob1 : ON w W b1 bw
  ne : R1 ≠ R2 ∧ R1 ≠ ba ∧ R1 ≠ bb ∧ R2 ≠ ba ∧ R2 ≠ bb ∧ ba ≠ bb
  nf : ∀ x, x ∈ fpOf a0 ∨ x ∈ fpOf a1 ∨ x ∈ fpOf b0 ∨ x ∈ fpOf b1 → x ≠ R1 ∧ x ≠ R2 ∧ x ≠ ba ∧ x ≠ bb
theorem T2.call {w W W' : World} {p R1 R2 ba bb : Nat} {a0 a1 b0 b1 : Value} {av am bv bw : List Int} (h : T2 w W p R1 R2 ba bb a0 a1 b0 b1 av am bv bw) (hC : Cur W' p) (hU : Upd [p] W W') : T2 w W' p R1 R2 ba bb a0 a1 b0 b1 av am bv bw :=
  ⟨h.d.call hC hU, h.r1.call h.d hU, h.r2.call h.d hU, h.fa.call h.d hU, h.fb.call h.d hU, h.oa0.call h.d hU, h.oa1.call h.d hU, h.ob0.call h.d hU, h.ob1.call h.d hU, h.ne, h.nf⟩
theorem T2.grow {w W W' : World} {p R1 R2 ba bb : Nat} {a0 a1 b0 b1 : Value} {av am bv bw : List Int} (h : T2 w W p R1 R2 ba bb a0 a1 b0 b1 av am bv bw) (g : Grow W W') : T2 w W' p R1 R2 ba bb a0 a1 b0 b1 av am bv bw :=
  ⟨h.d.grow g, h.r1.grow g, h.r2.grow g, h.fa.grow g, h.fb.grow g, h.oa0.grow g, h.oa1.grow g, h.ob0.grow g, h.ob1.grow g, h.ne, h.nf⟩
/-- The second one is laid anew. -/
theorem T2.newB {w W : World} {p R1 R2 ba bb : Nat} {a0 a1 b0 b1 c0 c1 : Value} {av am bv bw cv cw : List Int} (h : T2 w W p R1 R2 ba bb a0 a1 b0 b1 av am bv bw) (o0 : ON w W c0 cv) (o1 : ON w W c1 cw)
    (n : ∀ x, x ∈ fpOf c0 ∨ x ∈ fpOf c1 → x ≠ R1 ∧ x ≠ R2 ∧ x ≠ ba ∧ x ≠ bb) : T2 w ((W.setCell ⟨bb, 0, none⟩ c0).setCell ⟨bb, 1, none⟩ c1) p R1 R2 ba bb a0 a1 c0 c1 av am cv cw := by
  have u : Upd [bb] W ((W.setCell ⟨bb, 0, none⟩ c0).setCell ⟨bb, 1, none⟩ c1) := Upd.setCell (p := ⟨bb, 1, none⟩) (Upd.setCell (p := ⟨bb, 0, none⟩) (Upd.refl [bb] W) (by simp) c0) (by simp) c1
  have hn := h.ne
  have f : ∀ {v : Value}, (∀ x ∈ fpOf v, x ≠ bb) → ∀ x ∈ fpOf v, x ∉ [bb] := fun k x hx hm => by simp only [List.mem_cons, List.not_mem_nil, or_false] at hm; exact k x hx hm
  exact ⟨h.d.own u (fun x hx => by simp only [List.mem_cons, List.not_mem_nil, or_false] at hx; subst hx; exact h.fb.2), h.r1.own u (by simp; omega), h.r2.own u (by simp; omega), h.fa.own u (by simp; omega), (h.fb.set 0 c0 (by simp)).set 1 c1 (by simp),
    own_apart h.oa0 u (f fun x hx => (h.nf x (.inl hx)).2.2.2), own_apart h.oa1 u (f fun x hx => (h.nf x (.inr (.inl hx))).2.2.2), own_apart o0 u (f fun x hx => (n x (.inl hx)).2.2.2), own_apart o1 u (f fun x hx => (n x (.inr hx)).2.2.2), h.ne,
    fun x hx => hx.elim (fun k => h.nf x (.inl k)) (fun hx => hx.elim (fun k => h.nf x (.inr (.inl k))) (fun hx => n x hx))⟩
/-- Two drawn matches. -/
def RetTwo (w : World) (p : Nat) (e : Ending) (w' : World) : Prop := ∃ a0 a1 b0 b1 av am bv bw, e = .returned (.tuple #[.agg #[a0, a1], .agg #[b0, b1]]) ∧ (ON w w' a0 av ∧ ON w w' a1 am ∧ ON w w' b0 bv ∧ ON w w' b1 bw) ∧ (WfN av ∧ WfN am ∧ WfN bv ∧ WfN bw) ∧ Cur w' p ∧ Upd [p] w w'
theorem T2.keep {w W W' : World} {p R1 R2 ba bb : Nat} {a0 a1 b0 b1 : Value} {av am bv bw : List Int} (h : T2 w W p R1 R2 ba bb a0 a1 b0 b1 av am bv bw) (u : Upd [R1, R2] W W') : (ON w W' a0 av ∧ ON w W' a1 am ∧ ON w W' b0 bv ∧ ON w W' b1 bw) ∧ Cur W' p ∧ Upd [p] w W' := by
  have d := h.d.own u (fun x hx => by
    have h1 := h.r1.2; have h2 := h.r2.2
    simp only [List.mem_cons, List.not_mem_nil, or_false] at hx; omega)
  have f : ∀ {v : Value}, (∀ x ∈ fpOf v, x ≠ R1 ∧ x ≠ R2) → ∀ x ∈ fpOf v, x ∉ [R1, R2] := fun k x hx hm => by
    have := k x hx
    simp only [List.mem_cons, List.not_mem_nil, or_false] at hm; omega
  exact ⟨⟨own_apart h.oa0 u (f fun x hx => ⟨(h.nf x (.inl hx)).1, (h.nf x (.inl hx)).2.1⟩), own_apart h.oa1 u (f fun x hx => ⟨(h.nf x (.inr (.inl hx))).1, (h.nf x (.inr (.inl hx))).2.1⟩), own_apart h.ob0 u (f fun x hx => ⟨(h.nf x (.inr (.inr (.inl hx)))).1, (h.nf x (.inr (.inr (.inl hx)))).2.1⟩), own_apart h.ob1 u (f fun x hx => ⟨(h.nf x (.inr (.inr (.inr hx)))).1, (h.nf x (.inr (.inr (.inr hx)))).2.1⟩)⟩, d.cur, d.upd⟩
--% l05Two 77
set_option maxRecDepth 20000 in
set_option maxHeartbeats 4000000 in
theorem l05Two_any (w : World) (p : Nat) (hc : Cur w p) : Calls Try.prog 77 #[.pointer (some ⟨p, 0, none⟩)] w (RetTwo w p) := by
  have D0 := Lib.hid (DS.start hc); clear hc
  go_enter Try.func77, Try.ntmps77
  go_wp2_with fail
  have g1 := Grow.alloc w (.cells #[.slice none 0 0, .slice none 0 0] 41)
  have g2 := Grow.alloc (w.alloc (.cells #[.slice none 0 0, .slice none 0 0] 41)) (.cells #[.slice none 0 0, .slice none 0 0] 41)
  have D := Lib.hid (D0.out.grow (g1.trans g2))
  have R1B : Hid (Bx w ((w.alloc (.cells #[.slice none 0 0, .slice none 0 0] 41)).alloc (.cells #[.slice none 0 0, .slice none 0 0] 41)) w.heap.size [.slice none 0 0, .slice none 0 0]) := Lib.hid ((Bx.new D0.out [.slice none 0 0, .slice none 0 0] 41).grow g2)
  have R2B : Hid (Bx w ((w.alloc (.cells #[.slice none 0 0, .slice none 0 0] 41)).alloc (.cells #[.slice none 0 0, .slice none 0 0] 41)) (w.heap.size + 1) [.slice none 0 0, .slice none 0 0]) := Lib.hid ⟨(Box.alloc (w.alloc (.cells #[.slice none 0 0, .slice none 0 0] 41)) [.slice none 0 0, .slice none 0 0] 41).at_ (by simp only [World.alloc, Array.size_push]), by omega⟩
  clear D0 g1 g2
  generalize (w.alloc (.cells #[.slice none 0 0, .slice none 0 0] 41)).alloc (.cells #[.slice none 0 0, .slice none 0 0] 41) = W0 at *
  refine (l05Any_any _ p D.out.cur).mono ?_
  rintro e w1 ⟨z0, z1, av, am, rfl, o0, o1, -, hv, hm, -, -, -, hC, hU⟩
  have WAV := Lib.hid hv; have WAM := Lib.hid hm
  have NA : Hid (∀ x, x ∈ fpOf z0 ∨ x ∈ fpOf z1 → w.heap.size + 1 < x ∧ x < w1.heap.size) := Lib.hid (fun x hx => by
    have z := R2B.out.1.1
    rcases hx with k | k
    · have := own_new_ o0 x k; exact ⟨by omega, this.2⟩
    · have := own_new_ o1 x k; exact ⟨by omega, this.2⟩)
  have OA0 : Hid (ON w w1 z0 av) := Lib.hid (own_mono o0 D.out.size)
  have OA1 : Hid (ON w w1 z1 am) := Lib.hid (own_mono o1 D.out.size)
  replace R1B := Lib.hid (R1B.out.call D.out hU); replace R2B := Lib.hid (R2B.out.call D.out hU); replace D := Lib.hid (D.out.call hC hU)
  clear o0 o1 hv hm hC hU
  have NB : Hid (w.heap.size + 1 < w1.heap.size) := Lib.hid R2B.out.1.1
  obtain ⟨a0, ca0, rfl⟩ := own_shape OA0.out
  obtain ⟨a1, ca1, rfl⟩ := own_shape OA1.out
  have ga := Lib.hid (Grow.alloc w1 (.cells #[.slice a0 av.length ca0, .slice a1 am.length ca1] 41))
  have FA : Hid (Bx w (w1.alloc (.cells #[.slice a0 av.length ca0, .slice a1 am.length ca1] 41)) w1.heap.size [.slice a0 av.length ca0, .slice a1 am.length ca1]) := Lib.hid (Bx.new D.out [.slice a0 av.length ca0, .slice a1 am.length ca1] 41)
  replace OA0 := Lib.hid (OA0.out.grow ga.out); replace OA1 := Lib.hid (OA1.out.grow ga.out); replace R1B := Lib.hid (R1B.out.grow ga.out); replace R2B := Lib.hid (R2B.out.grow ga.out); replace D := Lib.hid (D.out.grow ga.out)
  clear ga
  go_wp2_with fail
  generalize w1.alloc (.cells #[.slice a0 av.length ca0, .slice a1 am.length ca1] 41) = W1 at *
  generalize w1.heap.size = ba at *
  refine (l05Any_any _ p D.out.cur).mono ?_
  rintro e w2 ⟨z0, z1, bv, bw, rfl, o0, o1, -, hv, hm, -, -, -, hC, hU⟩
  obtain ⟨b0, cb0, rfl⟩ := own_shape o0
  obtain ⟨b1, cb1, rfl⟩ := own_shape o1
  have WBV := Lib.hid hv; have WBM := Lib.hid hm
  have S : Hid (T2 w (w2.alloc (.cells #[.slice b0 bv.length cb0, .slice b1 bw.length cb1] 41)) p w.heap.size (w.heap.size + 1) ba w2.heap.size (.slice a0 av.length ca0) (.slice a1 am.length ca1) (.slice b0 bv.length cb0) (.slice b1 bw.length cb1) av am bv bw) := Lib.hid (by
    have g := Grow.alloc w2 (.cells #[.slice b0 bv.length cb0, .slice b1 bw.length cb1] 41)
    have FA' := FA.out.call D.out hU
    have D' := D.out.call hC hU
    have z := FA.out.1.1; have z' := FA'.1.1; have nb := NB.out
    refine ⟨D'.grow g, (R1B.out.call D.out hU).grow g, (R2B.out.call D.out hU).grow g, FA'.grow g, Bx.new D' [.slice b0 bv.length cb0, .slice b1 bw.length cb1] 41, (OA0.out.call D.out hU).grow g, (OA1.out.call D.out hU).grow g, ON.grow (own_mono o0 D.out.size) g, ON.grow (own_mono o1 D.out.size) g, by omega, fun x hx => ?_⟩
    rcases hx with k | k | k | k
    · have := NA.out x (.inl k); omega
    · have := NA.out x (.inr k); omega
    · have := own_new_ o0 x k; omega
    · have := own_new_ o1 x k; omega)
  clear o0 o1 hv hm hC hU FA OA0 OA1 R1B R2B D NA NB
  go_wp2_with fail
  generalize w2.alloc (.cells #[.slice b0 bv.length cb0, .slice b1 bw.length cb1] 41) = W2 at *
  generalize w2.heap.size = bb at *
  obtain ⟨R1, hR1⟩ : ∃ R, w.heap.size = R := ⟨_, rfl⟩
  rw [hR1] at S ⊢
  obtain ⟨R2, hR2⟩ : ∃ R, R1 + 1 = R := ⟨_, rfl⟩
  rw [hR2] at S ⊢
  clear hR2
  refine (l01Below_any _ p 2 (by decide) S.out.d.cur).mono ?_
  rintro e w3 ⟨x3, rfl, h3a, h3b, -, hC, hU⟩
  have h3b := h3b (by decide)
  replace S := Lib.hid (S.out.call hC hU)
  clear hC hU
  by_cases e3 : x3 = 0
  · subst e3
    have ⟨q0, q1⟩ := S.out.fa.1.two; have qz := S.out.fa.1.2.2; have ql := S.out.fa.1.1
    have ⟨t0, t1⟩ := S.out.fb.1.two; have tz := S.out.fb.1.2.2; have tl := S.out.fb.1.1
    go_wp2_with fail
    clear q0 q1 qz ql t0 t1 tz tl
    refine (meetOfS_any _ _ _ ⟨av, am⟩ ⟨bv, bw⟩ ⟨_, _, rfl, S.out.oa0.rd, S.out.oa1.rd⟩ ⟨_, _, rfl, S.out.ob0.rd, S.out.ob1.rd⟩ ⟨WAV.out, WAM.out⟩ ⟨WBV.out, WBM.out⟩).mono ?_
    rintro e w4 ⟨V, fp, rfl, ho, hf, hg⟩
    have WF := Lib.hid (meetF_wf ⟨av, am⟩ ⟨bv, bw⟩)
    generalize (meetF ⟨av, am⟩ ⟨bv, bw⟩).1 = md at *
    obtain ⟨z0, z1, f0, f1, rfl, rfl, -, o0, o1⟩ := ho
    have e0 := o0.2; have e1 := o1.2
    obtain ⟨m0, cm0, rfl⟩ := own_shape o0.1
    obtain ⟨m1, cm1, rfl⟩ := own_shape o1.1
    have g := hg.trans (Grow.alloc w4 (.cells #[.slice m0 md.vs.length cm0, .slice m1 md.ms.length cm1] 41))
    have OM0 : Hid (ON w (w4.alloc (.cells #[.slice m0 md.vs.length cm0, .slice m1 md.ms.length cm1] 41)) (.slice m0 md.vs.length cm0) md.vs) := Lib.hid (ON.grow (ON.of o0 (fun x hx => Nat.le_trans S.out.d.size (hf x (by simp [hx])))) (Grow.alloc _ _))
    have OM1 : Hid (ON w (w4.alloc (.cells #[.slice m0 md.vs.length cm0, .slice m1 md.ms.length cm1] 41)) (.slice m1 md.ms.length cm1) md.ms) := Lib.hid (ON.grow (ON.of o1 (fun x hx => Nat.le_trans S.out.d.size (hf x (by simp [hx])))) (Grow.alloc _ _))
    have NM : Hid (∀ x, x ∈ fpOf (.slice m0 md.vs.length cm0) ∨ x ∈ fpOf (.slice m1 md.ms.length cm1) → x ≠ R1 ∧ x ≠ R2 ∧ x ≠ ba ∧ x ≠ bb) := Lib.hid (fun x hx => by
      have h1 : w3.heap.size ≤ x := hf x (by rw [e0, e1]; simpa using hx)
      have h2 := S.out.r1.1.1; have h3 := S.out.r2.1.1; have h4 := S.out.fa.1.1; have h5 := S.out.fb.1.1
      exact ⟨by omega, by omega, by omega, by omega⟩)
    have BM := Lib.hid (Box.alloc w4 [.slice m0 md.vs.length cm0, .slice m1 md.ms.length cm1] 41)
    replace S := Lib.hid (S.out.grow g)
    clear hf hg o0 o1 g e0 e1
    generalize (meetF ⟨av, am⟩ ⟨bv, bw⟩).2 = ok at *
    cases ok
    · go_wp2_with fail
      generalize w4.alloc (.cells #[.slice m0 md.vs.length cm0, .slice m1 md.ms.length cm1] 41) = w5 at *
      generalize w4.heap.size = bm at *
      refine (l01Below_any _ p 2 (by decide) S.out.d.cur).mono ?_
      rintro e w7 ⟨x7, rfl, h7a, h7b, -, hC, hU⟩
      have h7b := h7b (by decide)
      replace S := Lib.hid (S.out.call hC hU)
      clear hC hU
      by_cases e7 : x7 = 0
      · subst e7
        go_wp2_with fail
        replace S := Lib.hid (S.out.grow (Grow.drewN w7 1))
        obtain ⟨C, hC⟩ : ∃ C : World → Prop, C = fun W => Box W ba [.slice a0 av.length ca0, .slice a1 am.length ca1] ∧ Box W bb [.slice b0 bv.length cb0, .slice b1 bw.length cb1] := ⟨_, rfl⟩
        have CC : Hid (∀ W, C W → Box W ba [.slice a0 av.length ca0, .slice a1 am.length ca1] ∧ Box W bb [.slice b0 bv.length cb0, .slice b1 bw.length cb1]) := Lib.hid (fun W h => by rw [hC] at h; exact h)
        have MK : Hid (∀ W, Box W ba [.slice a0 av.length ca0, .slice a1 am.length ca1] ∧ Box W bb [.slice b0 bv.length cb0, .slice b1 bw.length cb1] → C W) := Lib.hid (fun W h => by rw [hC]; exact h)
        clear hC
        have c0 : Hid (C (w7.drewN 1)) := Lib.hid (MK.out _ ⟨S.out.fa.1, S.out.fb.1⟩)
        have hne : Nonempty (Cl C) := ⟨⟨_, c0.out⟩⟩
        have p0 : ∀ x : Cl C, x.w.cell? ⟨ba, 0, none⟩ = some (.slice a0 av.length ca0) := fun x => (CC.out x.w x.ok).1.two.1
        have p1 : ∀ x : Cl C, x.w.cell? ⟨ba, 1, none⟩ = some (.slice a1 am.length ca1) := fun x => (CC.out x.w x.ok).1.two.2
        have p2 : ∀ x : Cl C, x.w.cell? ⟨bb, 0, none⟩ = some (.slice b0 bv.length cb0) := fun x => (CC.out x.w x.ok).2.two.1
        have p3 : ∀ x : Cl C, x.w.cell? ⟨bb, 1, none⟩ = some (.slice b1 bw.length cb1) := fun x => (CC.out x.w x.ok).2.two.2
        refine wp_region_last (Cls C) 3 4 #[false, false, false, false] (by kernel_rfl) (by kernel_rfl) ?_
        refine anyL_seg [0, 1] #[true, true, false, false] (fuel := 2) rfl (by kernel_rfl) ⟨⟨_, c0.out⟩, rfl⟩ ?_
        simp only [pickOps, List.getD_cons_succ, List.getD_cons_zero]
        repeat (go_big_quiet_step (fail))
        refine wpQuiet_nil ?_
        refine anyL_sole 2 #[true, true, true, false] (fuel := 1) (by kernel_rfl) ?_
        simp only [List.getD_cons_succ, List.getD_cons_zero]
        have ⟨r0, r1⟩ := S.out.r1.1.two; have rz := S.out.r1.1.2.2; have rl := S.out.r1.1.1
        have ⟨s0, s1⟩ := S.out.r2.1.two; have sz := S.out.r2.1.2.2; have sl := S.out.r2.1.1
        have n1 : ¬ R1 = R2 := S.out.ne.1
        have n2 : ¬ R2 = R1 := fun h => S.out.ne.1 h.symm
        have U1 : Hid (Upd [R1] (w7.drewN 1) (((w7.drewN 1).setCell ⟨R1, 0, none⟩ (.slice b0 bv.length cb0)).setCell ⟨R1, 1, none⟩ (.slice b1 bw.length cb1))) := Lib.hid (Upd.setCell (p := ⟨R1, 1, none⟩) (Upd.setCell (p := ⟨R1, 0, none⟩) (Upd.refl [R1] (w7.drewN 1)) (by simp) _) (by simp) _)
        have c1 : Hid (C (((w7.drewN 1).setCell ⟨R1, 0, none⟩ (.slice b0 bv.length cb0)).setCell ⟨R1, 1, none⟩ (.slice b1 bw.length cb1))) := Lib.hid (MK.out _ ⟨S.out.fa.1.upd U1.out (by have := S.out.ne; simp; omega), S.out.fb.1.upd U1.out (by have := S.out.ne; simp; omega)⟩)
        go_wp2
        refine ⟨⟨⟨_, c1.out⟩, rfl⟩, ?_⟩
        refine anyL_last (by kernel_rfl) ?_
        simp only [List.getD_cons_succ, List.getD_cons_zero]
        go_wp2
        refine ⟨trivial, ?_⟩
        clear p0 p1 p2 p3 c0 c1 hne
        have HR : Hid (∀ W, Upd [R1, R2] (w7.drewN 1) W → RetTwo w p (.returned (.tuple #[.agg #[.slice b0 bv.length cb0, .slice b1 bw.length cb1], .agg #[.slice a0 av.length ca0, .slice a1 am.length ca1]])) W) := Lib.hid (fun W hu => by
          have k := S.out.keep hu
          exact ⟨_, _, _, _, _, _, _, _, rfl, ⟨k.1.2.2.1, k.1.2.2.2, k.1.1, k.1.2.1⟩, ⟨WBV.out, WBM.out, WAV.out, WAM.out⟩, k.2.1, k.2.2⟩)
        go_wp2
        refine bodyPost_ret (v := .tuple #[.agg #[.slice b0 bv.length cb0, .slice b1 bw.length cb1], .agg #[.slice a0 av.length ca0, .slice a1 am.length ca1]]) ?_ rfl (HR.out _ ?_)
        · simp [results, Try.results77, go_sem, r0, r1, rz, rl, s0, s1, sz, sl, n1, n2] <;> omega
        · ((repeat (first | with_reducible exact Upd.refl _ _ | (with_reducible refine Upd.setCell ?_ (by simp) _))))
      have he7 : (x7 == 0) = false := by simpa using e7
      go_wp2_with fail
      replace S := Lib.hid (S.out.grow (Grow.drewN w7 1))
      obtain ⟨C, hC⟩ : ∃ C : World → Prop, C = fun W => Box W ba [.slice a0 av.length ca0, .slice a1 am.length ca1] ∧ Box W bb [.slice b0 bv.length cb0, .slice b1 bw.length cb1] := ⟨_, rfl⟩
      have CC : Hid (∀ W, C W → Box W ba [.slice a0 av.length ca0, .slice a1 am.length ca1] ∧ Box W bb [.slice b0 bv.length cb0, .slice b1 bw.length cb1]) := Lib.hid (fun W h => by rw [hC] at h; exact h)
      have MK : Hid (∀ W, Box W ba [.slice a0 av.length ca0, .slice a1 am.length ca1] ∧ Box W bb [.slice b0 bv.length cb0, .slice b1 bw.length cb1] → C W) := Lib.hid (fun W h => by rw [hC]; exact h)
      clear hC
      have c0 : Hid (C (w7.drewN 1)) := Lib.hid (MK.out _ ⟨S.out.fa.1, S.out.fb.1⟩)
      have hne : Nonempty (Cl C) := ⟨⟨_, c0.out⟩⟩
      have p0 : ∀ x : Cl C, x.w.cell? ⟨ba, 0, none⟩ = some (.slice a0 av.length ca0) := fun x => (CC.out x.w x.ok).1.two.1
      have p1 : ∀ x : Cl C, x.w.cell? ⟨ba, 1, none⟩ = some (.slice a1 am.length ca1) := fun x => (CC.out x.w x.ok).1.two.2
      have p2 : ∀ x : Cl C, x.w.cell? ⟨bb, 0, none⟩ = some (.slice b0 bv.length cb0) := fun x => (CC.out x.w x.ok).2.two.1
      have p3 : ∀ x : Cl C, x.w.cell? ⟨bb, 1, none⟩ = some (.slice b1 bw.length cb1) := fun x => (CC.out x.w x.ok).2.two.2
      refine wp_region_last (Cls C) 3 4 #[false, false, false, false] (by kernel_rfl) (by kernel_rfl) ?_
      refine anyL_seg [0, 1] #[true, true, false, false] (fuel := 2) rfl (by kernel_rfl) ⟨⟨_, c0.out⟩, rfl⟩ ?_
      simp only [pickOps, List.getD_cons_succ, List.getD_cons_zero]
      repeat (go_big_quiet_step (fail))
      refine wpQuiet_nil ?_
      refine anyL_sole 2 #[true, true, true, false] (fuel := 1) (by kernel_rfl) ?_
      simp only [List.getD_cons_succ, List.getD_cons_zero]
      have ⟨r0, r1⟩ := S.out.r1.1.two; have rz := S.out.r1.1.2.2; have rl := S.out.r1.1.1
      have ⟨s0, s1⟩ := S.out.r2.1.two; have sz := S.out.r2.1.2.2; have sl := S.out.r2.1.1
      have n1 : ¬ R1 = R2 := S.out.ne.1
      have n2 : ¬ R2 = R1 := fun h => S.out.ne.1 h.symm
      have U1 : Hid (Upd [R1] (w7.drewN 1) (((w7.drewN 1).setCell ⟨R1, 0, none⟩ (.slice a0 av.length ca0)).setCell ⟨R1, 1, none⟩ (.slice a1 am.length ca1))) := Lib.hid (Upd.setCell (p := ⟨R1, 1, none⟩) (Upd.setCell (p := ⟨R1, 0, none⟩) (Upd.refl [R1] (w7.drewN 1)) (by simp) _) (by simp) _)
      have c1 : Hid (C (((w7.drewN 1).setCell ⟨R1, 0, none⟩ (.slice a0 av.length ca0)).setCell ⟨R1, 1, none⟩ (.slice a1 am.length ca1))) := Lib.hid (MK.out _ ⟨S.out.fa.1.upd U1.out (by have := S.out.ne; simp; omega), S.out.fb.1.upd U1.out (by have := S.out.ne; simp; omega)⟩)
      go_wp2
      refine ⟨⟨⟨_, c1.out⟩, rfl⟩, ?_⟩
      refine anyL_last (by kernel_rfl) ?_
      simp only [List.getD_cons_succ, List.getD_cons_zero]
      go_wp2
      refine ⟨trivial, ?_⟩
      clear p0 p1 p2 p3 c0 c1 hne
      have HR : Hid (∀ W, Upd [R1, R2] (w7.drewN 1) W → RetTwo w p (.returned (.tuple #[.agg #[.slice a0 av.length ca0, .slice a1 am.length ca1], .agg #[.slice b0 bv.length cb0, .slice b1 bw.length cb1]])) W) := Lib.hid (fun W hu => by
        have k := S.out.keep hu
        exact ⟨_, _, _, _, _, _, _, _, rfl, k.1, ⟨WAV.out, WAM.out, WBV.out, WBM.out⟩, k.2.1, k.2.2⟩)
      go_wp2
      refine bodyPost_ret (v := .tuple #[.agg #[.slice a0 av.length ca0, .slice a1 am.length ca1], .agg #[.slice b0 bv.length cb0, .slice b1 bw.length cb1]]) ?_ rfl (HR.out _ ?_)
      · simp [results, Try.results77, go_sem, r0, r1, rz, rl, s0, s1, sz, sl, n1, n2] <;> omega
      · ((repeat (first | with_reducible exact Upd.refl _ _ | (with_reducible refine Upd.setCell ?_ (by simp) _))))
    · have ⟨t0, t1⟩ := S.out.fb.1.two; have tz := S.out.fb.1.2.2; have tl := S.out.fb.1.1
      have ⟨y0, y1⟩ := BM.out.two
      go_wp2_with fail
      generalize w4.alloc (.cells #[.slice m0 md.vs.length cm0, .slice m1 md.ms.length cm1] 41) = w5 at *
      generalize w4.heap.size = bm at *
      clear t0 t1 tz tl y0 y1
      replace S := Lib.hid (S.out.newB OM0.out OM1.out NM.out)
      generalize (w5.setCell ⟨bb, 0, none⟩ (.slice m0 md.vs.length cm0)).setCell ⟨bb, 1, none⟩ (.slice m1 md.ms.length cm1) = w6 at *
      refine (l01Below_any _ p 2 (by decide) S.out.d.cur).mono ?_
      rintro e w7 ⟨x7, rfl, h7a, h7b, -, hC, hU⟩
      have h7b := h7b (by decide)
      replace S := Lib.hid (S.out.call hC hU)
      clear hC hU
      by_cases e7 : x7 = 0
      · subst e7
        go_wp2_with fail
        replace S := Lib.hid (S.out.grow (Grow.drewN w7 1))
        obtain ⟨C, hC⟩ : ∃ C : World → Prop, C = fun W => Box W ba [.slice a0 av.length ca0, .slice a1 am.length ca1] ∧ Box W bb [.slice m0 md.vs.length cm0, .slice m1 md.ms.length cm1] := ⟨_, rfl⟩
        have CC : Hid (∀ W, C W → Box W ba [.slice a0 av.length ca0, .slice a1 am.length ca1] ∧ Box W bb [.slice m0 md.vs.length cm0, .slice m1 md.ms.length cm1]) := Lib.hid (fun W h => by rw [hC] at h; exact h)
        have MK : Hid (∀ W, Box W ba [.slice a0 av.length ca0, .slice a1 am.length ca1] ∧ Box W bb [.slice m0 md.vs.length cm0, .slice m1 md.ms.length cm1] → C W) := Lib.hid (fun W h => by rw [hC]; exact h)
        clear hC
        have c0 : Hid (C (w7.drewN 1)) := Lib.hid (MK.out _ ⟨S.out.fa.1, S.out.fb.1⟩)
        have hne : Nonempty (Cl C) := ⟨⟨_, c0.out⟩⟩
        have p0 : ∀ x : Cl C, x.w.cell? ⟨ba, 0, none⟩ = some (.slice a0 av.length ca0) := fun x => (CC.out x.w x.ok).1.two.1
        have p1 : ∀ x : Cl C, x.w.cell? ⟨ba, 1, none⟩ = some (.slice a1 am.length ca1) := fun x => (CC.out x.w x.ok).1.two.2
        have p2 : ∀ x : Cl C, x.w.cell? ⟨bb, 0, none⟩ = some (.slice m0 md.vs.length cm0) := fun x => (CC.out x.w x.ok).2.two.1
        have p3 : ∀ x : Cl C, x.w.cell? ⟨bb, 1, none⟩ = some (.slice m1 md.ms.length cm1) := fun x => (CC.out x.w x.ok).2.two.2
        refine wp_region_last (Cls C) 3 4 #[false, false, false, false] (by kernel_rfl) (by kernel_rfl) ?_
        refine anyL_seg [0, 1] #[true, true, false, false] (fuel := 2) rfl (by kernel_rfl) ⟨⟨_, c0.out⟩, rfl⟩ ?_
        simp only [pickOps, List.getD_cons_succ, List.getD_cons_zero]
        repeat (go_big_quiet_step (fail))
        refine wpQuiet_nil ?_
        refine anyL_sole 2 #[true, true, true, false] (fuel := 1) (by kernel_rfl) ?_
        simp only [List.getD_cons_succ, List.getD_cons_zero]
        have ⟨r0, r1⟩ := S.out.r1.1.two; have rz := S.out.r1.1.2.2; have rl := S.out.r1.1.1
        have ⟨s0, s1⟩ := S.out.r2.1.two; have sz := S.out.r2.1.2.2; have sl := S.out.r2.1.1
        have n1 : ¬ R1 = R2 := S.out.ne.1
        have n2 : ¬ R2 = R1 := fun h => S.out.ne.1 h.symm
        have U1 : Hid (Upd [R1] (w7.drewN 1) (((w7.drewN 1).setCell ⟨R1, 0, none⟩ (.slice m0 md.vs.length cm0)).setCell ⟨R1, 1, none⟩ (.slice m1 md.ms.length cm1))) := Lib.hid (Upd.setCell (p := ⟨R1, 1, none⟩) (Upd.setCell (p := ⟨R1, 0, none⟩) (Upd.refl [R1] (w7.drewN 1)) (by simp) _) (by simp) _)
        have c1 : Hid (C (((w7.drewN 1).setCell ⟨R1, 0, none⟩ (.slice m0 md.vs.length cm0)).setCell ⟨R1, 1, none⟩ (.slice m1 md.ms.length cm1))) := Lib.hid (MK.out _ ⟨S.out.fa.1.upd U1.out (by have := S.out.ne; simp; omega), S.out.fb.1.upd U1.out (by have := S.out.ne; simp; omega)⟩)
        go_wp2
        refine ⟨⟨⟨_, c1.out⟩, rfl⟩, ?_⟩
        refine anyL_last (by kernel_rfl) ?_
        simp only [List.getD_cons_succ, List.getD_cons_zero]
        go_wp2
        refine ⟨trivial, ?_⟩
        clear p0 p1 p2 p3 c0 c1 hne
        have HR : Hid (∀ W, Upd [R1, R2] (w7.drewN 1) W → RetTwo w p (.returned (.tuple #[.agg #[.slice m0 md.vs.length cm0, .slice m1 md.ms.length cm1], .agg #[.slice a0 av.length ca0, .slice a1 am.length ca1]])) W) := Lib.hid (fun W hu => by
          have k := S.out.keep hu
          exact ⟨_, _, _, _, _, _, _, _, rfl, ⟨k.1.2.2.1, k.1.2.2.2, k.1.1, k.1.2.1⟩, ⟨WF.out.1, WF.out.2, WAV.out, WAM.out⟩, k.2.1, k.2.2⟩)
        go_wp2
        refine bodyPost_ret (v := .tuple #[.agg #[.slice m0 md.vs.length cm0, .slice m1 md.ms.length cm1], .agg #[.slice a0 av.length ca0, .slice a1 am.length ca1]]) ?_ rfl (HR.out _ ?_)
        · simp [results, Try.results77, go_sem, r0, r1, rz, rl, s0, s1, sz, sl, n1, n2] <;> omega
        · ((repeat (first | with_reducible exact Upd.refl _ _ | (with_reducible refine Upd.setCell ?_ (by simp) _))))
      have he7 : (x7 == 0) = false := by simpa using e7
      go_wp2_with fail
      replace S := Lib.hid (S.out.grow (Grow.drewN w7 1))
      obtain ⟨C, hC⟩ : ∃ C : World → Prop, C = fun W => Box W ba [.slice a0 av.length ca0, .slice a1 am.length ca1] ∧ Box W bb [.slice m0 md.vs.length cm0, .slice m1 md.ms.length cm1] := ⟨_, rfl⟩
      have CC : Hid (∀ W, C W → Box W ba [.slice a0 av.length ca0, .slice a1 am.length ca1] ∧ Box W bb [.slice m0 md.vs.length cm0, .slice m1 md.ms.length cm1]) := Lib.hid (fun W h => by rw [hC] at h; exact h)
      have MK : Hid (∀ W, Box W ba [.slice a0 av.length ca0, .slice a1 am.length ca1] ∧ Box W bb [.slice m0 md.vs.length cm0, .slice m1 md.ms.length cm1] → C W) := Lib.hid (fun W h => by rw [hC]; exact h)
      clear hC
      have c0 : Hid (C (w7.drewN 1)) := Lib.hid (MK.out _ ⟨S.out.fa.1, S.out.fb.1⟩)
      have hne : Nonempty (Cl C) := ⟨⟨_, c0.out⟩⟩
      have p0 : ∀ x : Cl C, x.w.cell? ⟨ba, 0, none⟩ = some (.slice a0 av.length ca0) := fun x => (CC.out x.w x.ok).1.two.1
      have p1 : ∀ x : Cl C, x.w.cell? ⟨ba, 1, none⟩ = some (.slice a1 am.length ca1) := fun x => (CC.out x.w x.ok).1.two.2
      have p2 : ∀ x : Cl C, x.w.cell? ⟨bb, 0, none⟩ = some (.slice m0 md.vs.length cm0) := fun x => (CC.out x.w x.ok).2.two.1
      have p3 : ∀ x : Cl C, x.w.cell? ⟨bb, 1, none⟩ = some (.slice m1 md.ms.length cm1) := fun x => (CC.out x.w x.ok).2.two.2
      refine wp_region_last (Cls C) 3 4 #[false, false, false, false] (by kernel_rfl) (by kernel_rfl) ?_
      refine anyL_seg [0, 1] #[true, true, false, false] (fuel := 2) rfl (by kernel_rfl) ⟨⟨_, c0.out⟩, rfl⟩ ?_
      simp only [pickOps, List.getD_cons_succ, List.getD_cons_zero]
      repeat (go_big_quiet_step (fail))
      refine wpQuiet_nil ?_
      refine anyL_sole 2 #[true, true, true, false] (fuel := 1) (by kernel_rfl) ?_
      simp only [List.getD_cons_succ, List.getD_cons_zero]
      have ⟨r0, r1⟩ := S.out.r1.1.two; have rz := S.out.r1.1.2.2; have rl := S.out.r1.1.1
      have ⟨s0, s1⟩ := S.out.r2.1.two; have sz := S.out.r2.1.2.2; have sl := S.out.r2.1.1
      have n1 : ¬ R1 = R2 := S.out.ne.1
      have n2 : ¬ R2 = R1 := fun h => S.out.ne.1 h.symm
      have U1 : Hid (Upd [R1] (w7.drewN 1) (((w7.drewN 1).setCell ⟨R1, 0, none⟩ (.slice a0 av.length ca0)).setCell ⟨R1, 1, none⟩ (.slice a1 am.length ca1))) := Lib.hid (Upd.setCell (p := ⟨R1, 1, none⟩) (Upd.setCell (p := ⟨R1, 0, none⟩) (Upd.refl [R1] (w7.drewN 1)) (by simp) _) (by simp) _)
      have c1 : Hid (C (((w7.drewN 1).setCell ⟨R1, 0, none⟩ (.slice a0 av.length ca0)).setCell ⟨R1, 1, none⟩ (.slice a1 am.length ca1))) := Lib.hid (MK.out _ ⟨S.out.fa.1.upd U1.out (by have := S.out.ne; simp; omega), S.out.fb.1.upd U1.out (by have := S.out.ne; simp; omega)⟩)
      go_wp2
      refine ⟨⟨⟨_, c1.out⟩, rfl⟩, ?_⟩
      refine anyL_last (by kernel_rfl) ?_
      simp only [List.getD_cons_succ, List.getD_cons_zero]
      go_wp2
      refine ⟨trivial, ?_⟩
      clear p0 p1 p2 p3 c0 c1 hne
      have HR : Hid (∀ W, Upd [R1, R2] (w7.drewN 1) W → RetTwo w p (.returned (.tuple #[.agg #[.slice a0 av.length ca0, .slice a1 am.length ca1], .agg #[.slice m0 md.vs.length cm0, .slice m1 md.ms.length cm1]])) W) := Lib.hid (fun W hu => by
        have k := S.out.keep hu
        exact ⟨_, _, _, _, _, _, _, _, rfl, k.1, ⟨WAV.out, WAM.out, WF.out.1, WF.out.2⟩, k.2.1, k.2.2⟩)
      go_wp2
      refine bodyPost_ret (v := .tuple #[.agg #[.slice a0 av.length ca0, .slice a1 am.length ca1], .agg #[.slice m0 md.vs.length cm0, .slice m1 md.ms.length cm1]]) ?_ rfl (HR.out _ ?_)
      · simp [results, Try.results77, go_sem, r0, r1, rz, rl, s0, s1, sz, sl, n1, n2] <;> omega
      · ((repeat (first | with_reducible exact Upd.refl _ _ | (with_reducible refine Upd.setCell ?_ (by simp) _))))
  have he3 : (x3 == 0) = false := by simpa using e3
  go_wp2_with fail
  refine (l01Below_any _ p 2 (by decide) S.out.d.cur).mono ?_
  rintro e w7 ⟨x7, rfl, h7a, h7b, -, hC, hU⟩
  have h7b := h7b (by decide)
  replace S := Lib.hid (S.out.call hC hU)
  clear hC hU
  by_cases e7 : x7 = 0
  · subst e7
    go_wp2_with fail
    replace S := Lib.hid (S.out.grow (Grow.drewN w7 1))
    obtain ⟨C, hC⟩ : ∃ C : World → Prop, C = fun W => Box W ba [.slice a0 av.length ca0, .slice a1 am.length ca1] ∧ Box W bb [.slice b0 bv.length cb0, .slice b1 bw.length cb1] := ⟨_, rfl⟩
    have CC : Hid (∀ W, C W → Box W ba [.slice a0 av.length ca0, .slice a1 am.length ca1] ∧ Box W bb [.slice b0 bv.length cb0, .slice b1 bw.length cb1]) := Lib.hid (fun W h => by rw [hC] at h; exact h)
    have MK : Hid (∀ W, Box W ba [.slice a0 av.length ca0, .slice a1 am.length ca1] ∧ Box W bb [.slice b0 bv.length cb0, .slice b1 bw.length cb1] → C W) := Lib.hid (fun W h => by rw [hC]; exact h)
    clear hC
    have c0 : Hid (C (w7.drewN 1)) := Lib.hid (MK.out _ ⟨S.out.fa.1, S.out.fb.1⟩)
    have hne : Nonempty (Cl C) := ⟨⟨_, c0.out⟩⟩
    have p0 : ∀ x : Cl C, x.w.cell? ⟨ba, 0, none⟩ = some (.slice a0 av.length ca0) := fun x => (CC.out x.w x.ok).1.two.1
    have p1 : ∀ x : Cl C, x.w.cell? ⟨ba, 1, none⟩ = some (.slice a1 am.length ca1) := fun x => (CC.out x.w x.ok).1.two.2
    have p2 : ∀ x : Cl C, x.w.cell? ⟨bb, 0, none⟩ = some (.slice b0 bv.length cb0) := fun x => (CC.out x.w x.ok).2.two.1
    have p3 : ∀ x : Cl C, x.w.cell? ⟨bb, 1, none⟩ = some (.slice b1 bw.length cb1) := fun x => (CC.out x.w x.ok).2.two.2
    refine wp_region_last (Cls C) 3 4 #[false, false, false, false] (by kernel_rfl) (by kernel_rfl) ?_
    refine anyL_seg [0, 1] #[true, true, false, false] (fuel := 2) rfl (by kernel_rfl) ⟨⟨_, c0.out⟩, rfl⟩ ?_
    simp only [pickOps, List.getD_cons_succ, List.getD_cons_zero]
    repeat (go_big_quiet_step (fail))
    refine wpQuiet_nil ?_
    refine anyL_sole 2 #[true, true, true, false] (fuel := 1) (by kernel_rfl) ?_
    simp only [List.getD_cons_succ, List.getD_cons_zero]
    have ⟨r0, r1⟩ := S.out.r1.1.two; have rz := S.out.r1.1.2.2; have rl := S.out.r1.1.1
    have ⟨s0, s1⟩ := S.out.r2.1.two; have sz := S.out.r2.1.2.2; have sl := S.out.r2.1.1
    have n1 : ¬ R1 = R2 := S.out.ne.1
    have n2 : ¬ R2 = R1 := fun h => S.out.ne.1 h.symm
    have U1 : Hid (Upd [R1] (w7.drewN 1) (((w7.drewN 1).setCell ⟨R1, 0, none⟩ (.slice b0 bv.length cb0)).setCell ⟨R1, 1, none⟩ (.slice b1 bw.length cb1))) := Lib.hid (Upd.setCell (p := ⟨R1, 1, none⟩) (Upd.setCell (p := ⟨R1, 0, none⟩) (Upd.refl [R1] (w7.drewN 1)) (by simp) _) (by simp) _)
    have c1 : Hid (C (((w7.drewN 1).setCell ⟨R1, 0, none⟩ (.slice b0 bv.length cb0)).setCell ⟨R1, 1, none⟩ (.slice b1 bw.length cb1))) := Lib.hid (MK.out _ ⟨S.out.fa.1.upd U1.out (by have := S.out.ne; simp; omega), S.out.fb.1.upd U1.out (by have := S.out.ne; simp; omega)⟩)
    go_wp2
    refine ⟨⟨⟨_, c1.out⟩, rfl⟩, ?_⟩
    refine anyL_last (by kernel_rfl) ?_
    simp only [List.getD_cons_succ, List.getD_cons_zero]
    go_wp2
    refine ⟨trivial, ?_⟩
    clear p0 p1 p2 p3 c0 c1 hne
    have HR : Hid (∀ W, Upd [R1, R2] (w7.drewN 1) W → RetTwo w p (.returned (.tuple #[.agg #[.slice b0 bv.length cb0, .slice b1 bw.length cb1], .agg #[.slice a0 av.length ca0, .slice a1 am.length ca1]])) W) := Lib.hid (fun W hu => by
      have k := S.out.keep hu
      exact ⟨_, _, _, _, _, _, _, _, rfl, ⟨k.1.2.2.1, k.1.2.2.2, k.1.1, k.1.2.1⟩, ⟨WBV.out, WBM.out, WAV.out, WAM.out⟩, k.2.1, k.2.2⟩)
    go_wp2
    refine bodyPost_ret (v := .tuple #[.agg #[.slice b0 bv.length cb0, .slice b1 bw.length cb1], .agg #[.slice a0 av.length ca0, .slice a1 am.length ca1]]) ?_ rfl (HR.out _ ?_)
    · simp [results, Try.results77, go_sem, r0, r1, rz, rl, s0, s1, sz, sl, n1, n2] <;> omega
    · ((repeat (first | with_reducible exact Upd.refl _ _ | (with_reducible refine Upd.setCell ?_ (by simp) _))))
  have he7 : (x7 == 0) = false := by simpa using e7
  go_wp2_with fail
  replace S := Lib.hid (S.out.grow (Grow.drewN w7 1))
  obtain ⟨C, hC⟩ : ∃ C : World → Prop, C = fun W => Box W ba [.slice a0 av.length ca0, .slice a1 am.length ca1] ∧ Box W bb [.slice b0 bv.length cb0, .slice b1 bw.length cb1] := ⟨_, rfl⟩
  have CC : Hid (∀ W, C W → Box W ba [.slice a0 av.length ca0, .slice a1 am.length ca1] ∧ Box W bb [.slice b0 bv.length cb0, .slice b1 bw.length cb1]) := Lib.hid (fun W h => by rw [hC] at h; exact h)
  have MK : Hid (∀ W, Box W ba [.slice a0 av.length ca0, .slice a1 am.length ca1] ∧ Box W bb [.slice b0 bv.length cb0, .slice b1 bw.length cb1] → C W) := Lib.hid (fun W h => by rw [hC]; exact h)
  clear hC
  have c0 : Hid (C (w7.drewN 1)) := Lib.hid (MK.out _ ⟨S.out.fa.1, S.out.fb.1⟩)
  have hne : Nonempty (Cl C) := ⟨⟨_, c0.out⟩⟩
  have p0 : ∀ x : Cl C, x.w.cell? ⟨ba, 0, none⟩ = some (.slice a0 av.length ca0) := fun x => (CC.out x.w x.ok).1.two.1
  have p1 : ∀ x : Cl C, x.w.cell? ⟨ba, 1, none⟩ = some (.slice a1 am.length ca1) := fun x => (CC.out x.w x.ok).1.two.2
  have p2 : ∀ x : Cl C, x.w.cell? ⟨bb, 0, none⟩ = some (.slice b0 bv.length cb0) := fun x => (CC.out x.w x.ok).2.two.1
  have p3 : ∀ x : Cl C, x.w.cell? ⟨bb, 1, none⟩ = some (.slice b1 bw.length cb1) := fun x => (CC.out x.w x.ok).2.two.2
  refine wp_region_last (Cls C) 3 4 #[false, false, false, false] (by kernel_rfl) (by kernel_rfl) ?_
  refine anyL_seg [0, 1] #[true, true, false, false] (fuel := 2) rfl (by kernel_rfl) ⟨⟨_, c0.out⟩, rfl⟩ ?_
  simp only [pickOps, List.getD_cons_succ, List.getD_cons_zero]
  repeat (go_big_quiet_step (fail))
  refine wpQuiet_nil ?_
  refine anyL_sole 2 #[true, true, true, false] (fuel := 1) (by kernel_rfl) ?_
  simp only [List.getD_cons_succ, List.getD_cons_zero]
  have ⟨r0, r1⟩ := S.out.r1.1.two; have rz := S.out.r1.1.2.2; have rl := S.out.r1.1.1
  have ⟨s0, s1⟩ := S.out.r2.1.two; have sz := S.out.r2.1.2.2; have sl := S.out.r2.1.1
  have n1 : ¬ R1 = R2 := S.out.ne.1
  have n2 : ¬ R2 = R1 := fun h => S.out.ne.1 h.symm
  have U1 : Hid (Upd [R1] (w7.drewN 1) (((w7.drewN 1).setCell ⟨R1, 0, none⟩ (.slice a0 av.length ca0)).setCell ⟨R1, 1, none⟩ (.slice a1 am.length ca1))) := Lib.hid (Upd.setCell (p := ⟨R1, 1, none⟩) (Upd.setCell (p := ⟨R1, 0, none⟩) (Upd.refl [R1] (w7.drewN 1)) (by simp) _) (by simp) _)
  have c1 : Hid (C (((w7.drewN 1).setCell ⟨R1, 0, none⟩ (.slice a0 av.length ca0)).setCell ⟨R1, 1, none⟩ (.slice a1 am.length ca1))) := Lib.hid (MK.out _ ⟨S.out.fa.1.upd U1.out (by have := S.out.ne; simp; omega), S.out.fb.1.upd U1.out (by have := S.out.ne; simp; omega)⟩)
  go_wp2
  refine ⟨⟨⟨_, c1.out⟩, rfl⟩, ?_⟩
  refine anyL_last (by kernel_rfl) ?_
  simp only [List.getD_cons_succ, List.getD_cons_zero]
  go_wp2
  refine ⟨trivial, ?_⟩
  clear p0 p1 p2 p3 c0 c1 hne
  have HR : Hid (∀ W, Upd [R1, R2] (w7.drewN 1) W → RetTwo w p (.returned (.tuple #[.agg #[.slice a0 av.length ca0, .slice a1 am.length ca1], .agg #[.slice b0 bv.length cb0, .slice b1 bw.length cb1]])) W) := Lib.hid (fun W hu => by
    have k := S.out.keep hu
    exact ⟨_, _, _, _, _, _, _, _, rfl, k.1, ⟨WAV.out, WAM.out, WBV.out, WBM.out⟩, k.2.1, k.2.2⟩)
  go_wp2
  refine bodyPost_ret (v := .tuple #[.agg #[.slice a0 av.length ca0, .slice a1 am.length ca1], .agg #[.slice b0 bv.length cb0, .slice b1 bw.length cb1]]) ?_ rfl (HR.out _ ?_)
  · simp [results, Try.results77, go_sem, r0, r1, rz, rl, s0, s1, sz, sl, n1, n2] <;> omega
  · ((repeat (first | with_reducible exact Upd.refl _ _ | (with_reducible refine Upd.setCell ?_ (by simp) _))))
--%
end Go.Proofs.Ytkkhkojojnebjaa
