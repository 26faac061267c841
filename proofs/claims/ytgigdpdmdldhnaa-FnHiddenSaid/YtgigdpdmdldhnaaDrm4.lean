/- The draw of a right match: a contract that tells only bounds (printed by gdm.py). -/
import Derived.Test.YtgigdpdmdldhnaaDrh
import Derived.Test.YtgigdpdmdldhnaaMfx
import Derived.WalkKit
import Derived.ProofKit
import Derived.Deep.QuietTactic
import Derived.BigQuiet
import Derived.Outline
import Derived.WalkSpells
namespace Go.Proofs.Ytgigdpdmdldhnaa
open Go.ChangeShapes Go.WideShapes Go.ChangeAt Go.RowKit
set_option linter.unusedVariables false
set_option linter.unusedSimpArgs false
--%
/-- What l05Match has in hand: a cursor, the slot of the result, the boxes of the match and of the head, the three rows. -/
structure MSt (w W : World) (p R bm bh gv gm gh cv cm ch : Nat) (vs ms hs : List Int) : Prop where
  d : DS w W p
  br : Bx w W R [.slice none 0 0, .slice none 0 0]
  fm : Bx w W bm [.slice (some ⟨gv, 0, none⟩) 8 cv, .slice (some ⟨gm, 0, none⟩) 8 cm]
  fh : Bx w W bh [.slice (some ⟨gh, 0, none⟩) 8 ch]
  ov : ON w W (.slice (some ⟨gv, 0, none⟩) 8 cv) vs
  om : ON w W (.slice (some ⟨gm, 0, none⟩) 8 cm) ms
  oh : ON w W (.slice (some ⟨gh, 0, none⟩) 8 ch) hs
  ne : R ≠ bm ∧ R ≠ bh ∧ R ≠ gv ∧ R ≠ gm ∧ R ≠ gh ∧ bm ≠ bh ∧ bm ≠ gv ∧ bm ≠ gm ∧ bm ≠ gh ∧ bh ≠ gv ∧ bh ≠ gm ∧ bh ≠ gh ∧ gv ≠ gm ∧ gv ≠ gh ∧ gm ≠ gh
theorem MSt.call {w W W' : World} {p R bm bh gv gm gh cv cm ch : Nat} {vs ms hs : List Int} (h : MSt w W p R bm bh gv gm gh cv cm ch vs ms hs) (hC : Cur W' p) (hU : Upd [p] W W') : MSt w W' p R bm bh gv gm gh cv cm ch vs ms hs :=
  ⟨h.d.call hC hU, h.br.call h.d hU, h.fm.call h.d hU, h.fh.call h.d hU, h.ov.call h.d hU, h.om.call h.d hU, h.oh.call h.d hU, h.ne⟩
theorem MSt.grow {w W W' : World} {p R bm bh gv gm gh cv cm ch : Nat} {vs ms hs : List Int} (h : MSt w W p R bm bh gv gm gh cv cm ch vs ms hs) (g : Grow W W') : MSt w W' p R bm bh gv gm gh cv cm ch vs ms hs :=
  ⟨h.d.grow g, h.br.grow g, h.fm.grow g, h.fh.grow g, h.ov.grow g, h.om.grow g, h.oh.grow g, h.ne⟩
theorem fp1 {g n c : Nat} : ∀ x ∈ fpOf (.slice (some ⟨g, 0, none⟩) n c), x = g := fun x hx => by simpa [fpOf, Value.ownBlock] using hx
theorem MSt.putV {w W : World} {p R bm bh gv gm gh cv cm ch : Nat} {vs ms hs : List Int} (h : MSt w W p R bm bh gv gm gh cv cm ch vs ms hs) (k : Nat) (hk : k < 8) (x : Int) : MSt w (W.setCell ⟨gv, k, none⟩ (.int .i64 x)) p R bm bh gv gm gh cv cm ch (vs.set k x) ms hs := by
  have n := h.ne
  have u : Upd [gv] W (W.setCell ⟨gv, k, none⟩ (.int .i64 x)) := Upd.setCell (p := ⟨gv, k, none⟩) (Upd.refl [gv] W) (by simp) _
  have nf : ∀ {g c : Nat}, g ≠ gv → ∀ y ∈ fpOf (.slice (some ⟨g, 0, none⟩) 8 c), y ∉ [gv] := fun hg y hy hm => by have := fp1 y hy; simp only [List.mem_cons, List.not_mem_nil, or_false] at hm; omega
  exact ⟨ON.set_ h.d h.ov k _, h.br.own u (by simp; omega), h.fm.own u (by simp; omega), h.fh.own u (by simp; omega), h.ov.put k (by have := h.ov.len; omega) x, own_apart h.om u (nf (by omega)), own_apart h.oh u (nf (by omega)), h.ne⟩
theorem MSt.putM {w W : World} {p R bm bh gv gm gh cv cm ch : Nat} {vs ms hs : List Int} (h : MSt w W p R bm bh gv gm gh cv cm ch vs ms hs) (k : Nat) (hk : k < 8) (x : Int) : MSt w (W.setCell ⟨gm, k, none⟩ (.int .i64 x)) p R bm bh gv gm gh cv cm ch vs (ms.set k x) hs := by
  have n := h.ne
  have u : Upd [gm] W (W.setCell ⟨gm, k, none⟩ (.int .i64 x)) := Upd.setCell (p := ⟨gm, k, none⟩) (Upd.refl [gm] W) (by simp) _
  have nf : ∀ {g c : Nat}, g ≠ gm → ∀ y ∈ fpOf (.slice (some ⟨g, 0, none⟩) 8 c), y ∉ [gm] := fun hg y hy hm => by have := fp1 y hy; simp only [List.mem_cons, List.not_mem_nil, or_false] at hm; omega
  exact ⟨ON.set_ h.d h.om k _, h.br.own u (by simp; omega), h.fm.own u (by simp; omega), h.fh.own u (by simp; omega), own_apart h.ov u (nf (by omega)), h.om.put k (by have := h.om.len; omega) x, own_apart h.oh u (nf (by omega)), h.ne⟩
theorem ON.at8 {w W : World} {g c : Nat} {zs : List Int} (h : ON w W (.slice (some ⟨g, 0, none⟩) 8 c) zs) (k : Nat) (hk : k < 8) : W.cell? ⟨g, k, none⟩ = some (.int .i64 (zs.getD k 0)) := h.cell k (by have := h.len; omega)
theorem ON.fz8 {w W : World} {g c : Nat} {zs : List Int} (h : ON w W (.slice (some ⟨g, 0, none⟩) 8 c) zs) : (∀ o, W.frozen? ⟨g, o, none⟩ = false) ∧ g < W.heap.size :=
  ⟨h.frz (by have := h.len; omega), (own_new_ h g (by simp [fpOf, Value.ownBlock])).2⟩
theorem ON.of {w W : World} {v : Value} {zs : List Int} {fp : List Nat} (h : OwnN W v zs fp) (hf : ∀ x ∈ fp, w.heap.size ≤ x) : ON w W v zs := by
  obtain ⟨⟨hl, h2 | ⟨g, cap, cur, rfl, -, r⟩⟩, rfl⟩ := h
  · exact ⟨hl, .inl h2⟩
  · exact ⟨hl, .inr ⟨g, cap, cur, rfl, hf g (by simp [fpOf, Value.ownBlock]), r⟩⟩
theorem bits_I64 (o : BinOp) (x y : Int) : I64 (bits o .i64 x y) := by
  have hw : ∀ n : Int, I64 (IntKind.i64.wrap n) := fun n => by rw [IntKind.wrap_i64]; unfold I64; omega
  unfold bits
  exact hw _
/-- A drawn match: two rows that stand apart. -/
def RetMt (n : Nat) (w : World) (p : Nat) (e : Ending) (w' : World) : Prop := ∃ v0 v1 vs ms, e = .returned (.agg #[v0, v1]) ∧ ON w w' v0 vs ∧ ON w w' v1 ms ∧ (∀ x ∈ fpOf v0, x ∉ fpOf v1) ∧ WfN vs ∧ WfN ms ∧ vs.length ≤ n ∧ ms.length ≤ n ∧ (n = 8 → vs.length = 8 ∧ ms.length = 8) ∧ Cur w' p ∧ Upd [p] w w'
theorem MSt.ret {w W W' : World} {p R bm bh gv gm gh cv cm ch : Nat} {vs ms hs : List Int} (h : MSt w W p R bm bh gv gm gh cv cm ch vs ms hs) (hv : WfN vs) (hm : WfN ms) (u : Upd [R] W W') : RetMt 8 w p (.returned (.agg #[.slice (some ⟨gv, 0, none⟩) 8 cv, .slice (some ⟨gm, 0, none⟩) 8 cm])) W' := by
  have n := h.ne
  have d := h.d.own u (fun x hx => by simp only [List.mem_cons, List.not_mem_nil, or_false] at hx; subst hx; exact h.br.2)
  have nf : ∀ {g c : Nat}, g ≠ R → ∀ y ∈ fpOf (.slice (some ⟨g, 0, none⟩) 8 c), y ∉ [R] := fun hg y hy hm => by have := fp1 y hy; simp only [List.mem_cons, List.not_mem_nil, or_false] at hm; omega
  have l1 := h.ov.len; have l2 := h.om.len
  exact ⟨_, _, vs, ms, rfl, own_apart h.ov u (nf (by omega)), own_apart h.om u (nf (by omega)), fun x hx hy => by have := fp1 x hx; have := fp1 x hy; omega, hv, hm, by omega, by omega, fun _ => ⟨by omega, by omega⟩, d.cur, d.upd⟩
theorem wf_allV : WfN (List.replicate 8 (0 : Int)) := fun x hx => by have := List.eq_of_mem_replicate hx; omega
--% l05Match 167
set_option maxRecDepth 20000 in
set_option maxHeartbeats 4000000 in
theorem l05Match_any (w : World) (p : Nat) (hc : Cur w p) : Calls Try.prog 167 #[.pointer (some ⟨p, 0, none⟩)] w (RetMt 8 w p) := by
  have D0 := Lib.hid (DS.start hc); clear hc
  go_enter Try.func167, Try.ntmps167
  go_wp2_with fail
  have D := Lib.hid (D0.out.grow (Grow.alloc w (.cells #[.slice none 0 0, .slice none 0 0] 66)))
  have BR : Hid (Bx w (w.alloc (.cells #[.slice none 0 0, .slice none 0 0] 66)) w.heap.size [.slice none 0 0, .slice none 0 0]) := Lib.hid (Bx.new D0.out [.slice none 0 0, .slice none 0 0] 66)
  clear D0
  generalize w.alloc (.cells #[.slice none 0 0, .slice none 0 0] 66) = W0 at *
  refine (matchAllS_any _).mono ?_
  rintro e w1 ⟨V, fp, rfl, ho, hf, hg⟩
  obtain ⟨gv, gm, cv, cm, rfl, o1, o2, n12, n1, n2, l1, l2⟩ := ownM_open ho hf
  have OV : Hid (ON w w1 (.slice (some ⟨gv, 0, none⟩) 8 cv) allM.vs) := Lib.hid (ON.of o1 (fun x hx => by have := D.out.size; simp only [List.mem_cons, List.not_mem_nil, or_false] at hx; omega))
  have OM : Hid (ON w w1 (.slice (some ⟨gm, 0, none⟩) 8 cm) allM.ms) := Lib.hid (ON.of o2 (fun x hx => by have := D.out.size; simp only [List.mem_cons, List.not_mem_nil, or_false] at hx; omega))
  have q1 := BR.out.1.1
  have ga := hg.trans (Grow.alloc w1 (.cells #[.slice (some ⟨gv, 0, none⟩) 8 cv, .slice (some ⟨gm, 0, none⟩) 8 cm] 66))
  have BM : Hid (Bx w (w1.alloc (.cells #[.slice (some ⟨gv, 0, none⟩) 8 cv, .slice (some ⟨gm, 0, none⟩) 8 cm] 66)) w1.heap.size [.slice (some ⟨gv, 0, none⟩) 8 cv, .slice (some ⟨gm, 0, none⟩) 8 cm]) := Lib.hid (Bx.new (D.out.grow hg) [.slice (some ⟨gv, 0, none⟩) 8 cv, .slice (some ⟨gm, 0, none⟩) 8 cm] 66)
  replace OV := Lib.hid (OV.out.grow (Grow.alloc w1 (.cells #[.slice (some ⟨gv, 0, none⟩) 8 cv, .slice (some ⟨gm, 0, none⟩) 8 cm] 66)))
  replace OM := Lib.hid (OM.out.grow (Grow.alloc w1 (.cells #[.slice (some ⟨gv, 0, none⟩) 8 cv, .slice (some ⟨gm, 0, none⟩) 8 cm] 66)))
  replace D := Lib.hid (D.out.grow ga)
  replace BR := Lib.hid (BR.out.grow ga)
  have NE : Hid (w.heap.size < gv ∧ w.heap.size < gm ∧ gv ≠ gm ∧ gv < w1.heap.size ∧ gm < w1.heap.size) := Lib.hid (by omega)
  clear ho hf hg o1 o2 n12 n1 n2 l1 l2 q1 ga
  go_wp2_with fail
  have sz : w1.heap.size < (w1.alloc (.cells #[.slice (some ⟨gv, 0, none⟩) 8 cv, .slice (some ⟨gm, 0, none⟩) 8 cm] 66)).heap.size := by simp only [World.alloc, Array.size_push]; omega
  generalize w1.alloc (.cells #[.slice (some ⟨gv, 0, none⟩) 8 cv, .slice (some ⟨gm, 0, none⟩) 8 cm] 66) = W1 at *
  generalize w1.heap.size = bm at *
  refine (l04Head_any _ p D.out.cur).mono ?_
  rintro e w2 ⟨v, hs, rfl, ho, hw, -, h8, hC, hU⟩
  obtain ⟨a, ch, rfl⟩ := own_shape ho
  obtain ⟨gh, rfl⟩ := own_some ho (by have := h8 rfl; omega)
  rw [h8 rfl] at ho ⊢
  have nh := own_new_ ho gh (by simp [fpOf, Value.ownBlock])
  have OH : Hid (ON w w2 (.slice (some ⟨gh, 0, none⟩) 8 ch) hs) := Lib.hid (own_mono ho D.out.size)
  replace BR := Lib.hid (BR.out.call D.out hU); replace BM := Lib.hid (BM.out.call D.out hU); replace OV := Lib.hid (OV.out.call D.out hU); replace OM := Lib.hid (OM.out.call D.out hU)
  replace D := Lib.hid (D.out.call hC hU)
  have S : Hid (MSt w (w2.alloc (.cells #[.slice (some ⟨gh, 0, none⟩) 8 ch] 42)) p w.heap.size bm w2.heap.size gv gm gh cv cm ch allM.vs allM.ms hs) := Lib.hid (by
    have g := Grow.alloc w2 (.cells #[.slice (some ⟨gh, 0, none⟩) 8 ch] 42)
    have n := NE.out
    refine ⟨D.out.grow g, BR.out.grow g, BM.out.grow g, Bx.new D.out [.slice (some ⟨gh, 0, none⟩) 8 ch] 42, OV.out.grow g, OM.out.grow g, OH.out.grow g, ?_⟩
    refine ⟨?_, ?_, ?_, ?_, ?_, ?_, ?_, ?_, ?_, ?_, ?_, ?_, ?_, ?_, ?_⟩ <;> omega)
  clear ho hw h8 hC hU nh OH BR BM OV OM D NE sz
  go_wp2_with fail
  generalize w2.alloc (.cells #[.slice (some ⟨gh, 0, none⟩) 8 ch] 42) = W2 at *
  generalize w2.heap.size = bh at *
  obtain ⟨R, hR⟩ : ∃ R, w.heap.size = R := ⟨_, rfl⟩
  rw [hR] at S ⊢
  refine (l01Below_any _ p 4 (by decide) S.out.d.cur).mono ?_
  rintro e w3 ⟨x3, rfl, h3a, h3b, -, hC, hU⟩
  have h3b := h3b (by decide)
  replace S := Lib.hid (S.out.call hC hU)
  clear hC hU
  obtain ⟨n, rfl⟩ := Int.eq_ofNat_of_zero_le h3a
  go_wp2
  go_loopw [5] (fun i wr => ∃ (m : Nat) (vs ms : List Int), m ≤ n ∧ i = .int .i64 m ∧ WfN vs ∧ WfN ms ∧ MSt w wr p R bm bh gv gm gh cv cm ch vs ms hs) (fun i _ => (intOf i).toNat)
  case atStart => exact ⟨n, _, _, Nat.le_refl _, by go_num, wf_allV, wf_allV, S.out⟩
  case round =>
    clear S
    obtain ⟨m, vs, ms, hm, rfl, hwv, hwm, hst⟩ := hrel
    rename World => wr
    have S := Lib.hid hst; have WV := Lib.hid hwv; have WM := Lib.hid hwm
    clear hst hwv hwm
    by_cases hlt : 0 < m
    · obtain ⟨m, rfl⟩ : ∃ m', m = m' + 1 := ⟨m - 1, by omega⟩
      go_wp2_with fail
      refine (l01Below_any _ p 8 (by decide) S.out.d.cur).mono ?_
      rintro e w4 ⟨x4, rfl, h4a, h4b, -, hC, hU⟩
      have h4b := h4b (by decide)
      replace S := Lib.hid (S.out.call hC hU)
      clear hC hU
      go_wp2_with fail
      refine (l01Below_any _ p 4 (by decide) S.out.d.cur).mono ?_
      rintro e w5 ⟨x5, rfl, h5a, h5b, -, hC, hU⟩
      have h5b := h5b (by decide)
      replace S := Lib.hid (S.out.call hC hU)
      clear hC hU
      by_cases c5 : x5 = 0
      · subst c5
        go_wp2_with fail
        refine (l01Below_any _ p 2 (by decide) S.out.d.cur).mono ?_
        rintro e w6 ⟨x6, rfl, h6a, h6b, -, hC, hU⟩
        have h6b := h6b (by decide)
        replace S := Lib.hid (S.out.call hC hU)
        clear hC hU
        obtain ⟨k, hk1⟩ : ∃ k : Nat, (1 : Int) + x6 = k := ⟨(1 + x6).toNat, by omega⟩
        have hk8 : k < 8 := by omega
        go_wp2_with fail
        try rw [hk1]
        clear hk1
        replace S := Lib.hid (S.out.grow (Grow.drewN w6 1))
        obtain ⟨C, hC⟩ : ∃ C : World → Prop, C = fun W => MSt w W p R bm bh gv gm gh cv cm ch vs ms hs := ⟨_, rfl⟩
        have CC : Hid (∀ W, C W → MSt w W p R bm bh gv gm gh cv cm ch vs ms hs) := Lib.hid (fun W h => by rw [hC] at h; exact h)
        have MK : Hid (∀ W, MSt w W p R bm bh gv gm gh cv cm ch vs ms hs → C W) := Lib.hid (fun W h => by rw [hC]; exact h)
        clear hC
        have c0 : Hid (C (w6.drewN 1)) := Lib.hid (MK.out _ S.out)
        have hne : Nonempty (Cl C) := ⟨⟨_, c0.out⟩⟩
        obtain ⟨mk, hmk⟩ : ∃ mk, ms.getD k 0 = mk := ⟨_, rfl⟩
        obtain ⟨hk_, hhk⟩ : ∃ z, hs.getD k 0 = z := ⟨_, rfl⟩
        have p0 : ∀ x : Cl C, x.w.cell? ⟨bm, 0, none⟩ = some (.slice (some ⟨gv, 0, none⟩) 8 cv) := fun x => (CC.out x.w x.ok).fm.1.two.1
        have p1 : ∀ x : Cl C, x.w.cell? ⟨bm, 1, none⟩ = some (.slice (some ⟨gm, 0, none⟩) 8 cm) := fun x => (CC.out x.w x.ok).fm.1.two.2
        have p2 : ∀ x : Cl C, x.w.cell? ⟨bh, 0, none⟩ = some (.slice (some ⟨gh, 0, none⟩) 8 ch) := fun x => (CC.out x.w x.ok).fh.1.one
        have p3 : ∀ x : Cl C, x.w.cell? ⟨gm, k, none⟩ = some (.int .i64 mk) := fun x => by rw [← hmk]; exact (CC.out x.w x.ok).om.at8 k hk8
        have p4 : ∀ x : Cl C, x.w.cell? ⟨gh, k, none⟩ = some (.int .i64 hk_) := fun x => by rw [← hhk]; exact (CC.out x.w x.ok).oh.at8 k hk8
        clear hmk hhk
        refine wp_region_last (Cls C) 6 7 #[false, false, false, false, false, false, false] (by kernel_rfl) (by kernel_rfl) ?_
        refine anyL_seg [0, 1, 2, 3] #[true, true, true, true, false, false, false] (fuel := 3) rfl (by kernel_rfl) ⟨⟨_, c0.out⟩, rfl⟩ ?_
        simp only [pickOps, List.getD_cons_succ, List.getD_cons_zero]
        repeat (go_big_quiet_step (fail))
        refine wpQuiet_nil ?_
        refine anyL_sole 4 #[true, true, true, true, true, false, false] (fuel := 2) (by kernel_rfl) ?_
        simp only [List.getD_cons_succ, List.getD_cons_zero]
        go_wp2_with fail
        refine (l05Full_any k hk8 _).mono ?_
        rintro e wf ⟨rfl, hg⟩
        replace S := Lib.hid (S.out.grow hg)
        clear hg
        have hfu := full_bd (k : Int)
        generalize full (k : Int) = fu at *
        have cf : Hid (C wf) := Lib.hid (MK.out _ S.out)
        go_wp2
        refine ⟨⟨⟨_, cf.out⟩, rfl⟩, ?_⟩
        refine anyL_seg [5] #[true, true, true, true, true, true, false] (fuel := 1) rfl (by kernel_rfl) ⟨⟨_, cf.out⟩, rfl⟩ ?_
        simp only [pickOps, List.getD_cons_succ, List.getD_cons_zero]
        repeat (go_big_quiet_step (fail))
        refine wpQuiet_nil ?_
        refine anyL_last (by kernel_rfl) ?_
        simp only [List.getD_cons_succ, List.getD_cons_zero]
        have og := S.out.om.at8 k hk8; have ⟨of, ol⟩ := S.out.om.fz8
        clear p0 p1 p2 p3 p4
        go_wp2
        replace S := Lib.hid (S.out.putM k hk8 (fu))
        clear og of ol
        generalize wf.setCell ⟨gm, k, none⟩ (.int .i64 (fu)) = wA at *
        refine ⟨trivial, ?_⟩
        clear CC MK c0 cf hne C
        replace WM := Lib.hid (WfN.set (k := k) (x := fu) WM.out (by unfold I64; omega))
        generalize ms.set k fu = ms at *
        go_wp2_with fail
        refine (l01Below_any _ p 6 (by decide) S.out.d.cur).mono ?_
        rintro e w40 ⟨x40, rfl, h40a, h40b, -, hC, hU⟩
        have h40b := h40b (by decide)
        replace S := Lib.hid (S.out.call hC hU)
        clear hC hU
        by_cases k0 : x40 = 0
        · subst k0
          go_wp2_with fail
          replace S := Lib.hid (S.out.grow (Grow.drewN w40 1))
          obtain ⟨C, hC⟩ : ∃ C : World → Prop, C = fun W => MSt w W p R bm bh gv gm gh cv cm ch vs ms hs := ⟨_, rfl⟩
          have CC : Hid (∀ W, C W → MSt w W p R bm bh gv gm gh cv cm ch vs ms hs) := Lib.hid (fun W h => by rw [hC] at h; exact h)
          have MK : Hid (∀ W, MSt w W p R bm bh gv gm gh cv cm ch vs ms hs → C W) := Lib.hid (fun W h => by rw [hC]; exact h)
          clear hC
          have c0 : Hid (C (w40.drewN 1)) := Lib.hid (MK.out _ S.out)
          have hne : Nonempty (Cl C) := ⟨⟨_, c0.out⟩⟩
          obtain ⟨mk, hmk⟩ : ∃ mk, ms.getD k 0 = mk := ⟨_, rfl⟩
          obtain ⟨hk_, hhk⟩ : ∃ z, hs.getD k 0 = z := ⟨_, rfl⟩
          have p0 : ∀ x : Cl C, x.w.cell? ⟨bm, 0, none⟩ = some (.slice (some ⟨gv, 0, none⟩) 8 cv) := fun x => (CC.out x.w x.ok).fm.1.two.1
          have p1 : ∀ x : Cl C, x.w.cell? ⟨bm, 1, none⟩ = some (.slice (some ⟨gm, 0, none⟩) 8 cm) := fun x => (CC.out x.w x.ok).fm.1.two.2
          have p2 : ∀ x : Cl C, x.w.cell? ⟨bh, 0, none⟩ = some (.slice (some ⟨gh, 0, none⟩) 8 ch) := fun x => (CC.out x.w x.ok).fh.1.one
          have p3 : ∀ x : Cl C, x.w.cell? ⟨gm, k, none⟩ = some (.int .i64 mk) := fun x => by rw [← hmk]; exact (CC.out x.w x.ok).om.at8 k hk8
          have p4 : ∀ x : Cl C, x.w.cell? ⟨gh, k, none⟩ = some (.int .i64 hk_) := fun x => by rw [← hhk]; exact (CC.out x.w x.ok).oh.at8 k hk8
          clear hmk hhk
          refine wp_region_last (Cls C) 12 13 #[false, false, false, false, false, false, false, false, false, false, false, false, false] (by kernel_rfl) (by kernel_rfl) ?_
          refine anyL_seg [0, 1, 2, 3, 4, 5, 6, 7, 8] #[true, true, true, true, true, true, true, true, true, false, false, false, false] (fuel := 4) rfl (by kernel_rfl) ⟨⟨_, c0.out⟩, rfl⟩ ?_
          simp only [pickOps, List.getD_cons_succ, List.getD_cons_zero]
          repeat (go_big_quiet_step (fail))
          refine wpQuiet_nil ?_
          refine anyL_sole 9 #[true, true, true, true, true, true, true, true, true, true, false, false, false] (fuel := 3) (by kernel_rfl) ?_
          simp only [List.getD_cons_succ, List.getD_cons_zero]
          go_wp2_with fail
          refine (l01Below_any _ p 8 (by decide) S.out.d.cur).mono ?_
          rintro e w41 ⟨x41, rfl, h41a, h41b, -, hC, hU⟩
          have h41b := h41b (by decide)
          replace S := Lib.hid (S.out.call hC hU)
          clear hC hU
          have c41 : Hid (C w41) := Lib.hid (MK.out _ S.out)
          go_wp2
          refine ⟨⟨⟨_, c41.out⟩, rfl⟩, ?_⟩
          refine anyL_seg [10, 11] #[true, true, true, true, true, true, true, true, true, true, true, true, false] (fuel := 1) rfl (by kernel_rfl) ⟨⟨_, c41.out⟩, rfl⟩ ?_
          simp only [pickOps, List.getD_cons_succ, List.getD_cons_zero]
          repeat (go_big_quiet_step (fail))
          refine wpQuiet_nil ?_
          refine anyL_last (by kernel_rfl) ?_
          simp only [List.getD_cons_succ, List.getD_cons_zero]
          have og := S.out.om.at8 k hk8; have ⟨of, ol⟩ := S.out.om.fz8
          clear p0 p1 p2 p3 p4
          go_wp2
          replace S := Lib.hid (S.out.putM k hk8 (wrap64 (mk - x41)))
          clear og of ol
          generalize w41.setCell ⟨gm, k, none⟩ (.int .i64 (wrap64 (mk - x41))) = wB at *
          refine ⟨trivial, ?_⟩
          clear CC MK c0 c41 hne C
          replace WM := Lib.hid (WfN.set (k := k) (x := wrap64 (mk - x41)) WM.out (wrap64_bd _))
          generalize ms.set k (wrap64 (mk - x41)) = ms at *
          go_wp2_with fail
          replace S := Lib.hid (S.out.grow (Grow.drewN wB 1))
          obtain ⟨C, hC⟩ : ∃ C : World → Prop, C = fun W => MSt w W p R bm bh gv gm gh cv cm ch vs ms hs := ⟨_, rfl⟩
          have CC : Hid (∀ W, C W → MSt w W p R bm bh gv gm gh cv cm ch vs ms hs) := Lib.hid (fun W h => by rw [hC] at h; exact h)
          have MK : Hid (∀ W, MSt w W p R bm bh gv gm gh cv cm ch vs ms hs → C W) := Lib.hid (fun W h => by rw [hC]; exact h)
          clear hC
          have c0 : Hid (C (wB.drewN 1)) := Lib.hid (MK.out _ S.out)
          have hne : Nonempty (Cl C) := ⟨⟨_, c0.out⟩⟩
          obtain ⟨mk, hmk⟩ : ∃ mk, ms.getD k 0 = mk := ⟨_, rfl⟩
          obtain ⟨hk_, hhk⟩ : ∃ z, hs.getD k 0 = z := ⟨_, rfl⟩
          have p0 : ∀ x : Cl C, x.w.cell? ⟨bm, 0, none⟩ = some (.slice (some ⟨gv, 0, none⟩) 8 cv) := fun x => (CC.out x.w x.ok).fm.1.two.1
          have p1 : ∀ x : Cl C, x.w.cell? ⟨bm, 1, none⟩ = some (.slice (some ⟨gm, 0, none⟩) 8 cm) := fun x => (CC.out x.w x.ok).fm.1.two.2
          have p2 : ∀ x : Cl C, x.w.cell? ⟨bh, 0, none⟩ = some (.slice (some ⟨gh, 0, none⟩) 8 ch) := fun x => (CC.out x.w x.ok).fh.1.one
          have p3 : ∀ x : Cl C, x.w.cell? ⟨gm, k, none⟩ = some (.int .i64 mk) := fun x => by rw [← hmk]; exact (CC.out x.w x.ok).om.at8 k hk8
          have p4 : ∀ x : Cl C, x.w.cell? ⟨gh, k, none⟩ = some (.int .i64 hk_) := fun x => by rw [← hhk]; exact (CC.out x.w x.ok).oh.at8 k hk8
          clear hmk hhk
          refine wp_region_last (Cls C) 15 16 #[false, false, false, false, false, false, false, false, false, false, false, false, false, false, false, false] (by kernel_rfl) (by kernel_rfl) ?_
          refine anyL_seg [0, 1, 2, 3, 4, 5, 6, 7, 8, 9, 10, 11, 12, 13, 14] #[true, true, true, true, true, true, true, true, true, true, true, true, true, true, true, false] (fuel := 1) rfl (by kernel_rfl) ⟨⟨_, c0.out⟩, rfl⟩ ?_
          simp only [pickOps, List.getD_cons_succ, List.getD_cons_zero]
          repeat (go_big_quiet_step (fail))
          refine wpQuiet_nil ?_
          refine anyL_last (by kernel_rfl) ?_
          simp only [List.getD_cons_succ, List.getD_cons_zero]
          have og := S.out.ov.at8 k hk8; have ⟨of, ol⟩ := S.out.ov.fz8
          clear p0 p1 p2 p3 p4
          go_wp2
          replace S := Lib.hid (S.out.putV k hk8 (bits .and .i64 hk_ mk))
          clear og of ol
          generalize (wB.drewN 1).setCell ⟨gv, k, none⟩ (.int .i64 (bits .and .i64 hk_ mk)) = wZ at *
          refine ⟨trivial, ?_⟩
          clear CC MK c0 hne C
          replace WV := Lib.hid (WfN.set (k := k) (x := bits .and .i64 hk_ mk) WV.out (bits_I64 _ _ _))
          generalize vs.set k (bits .and .i64 hk_ mk) = vs at *
          go_wp2
          go_roundw
          case rel => exact ⟨m, _, _, by omega, by go_num, WV.out, WM.out, S.out⟩
          case measure => simp [intOf] <;> omega
        by_cases k1 : x40 = 1
        · subst k1
          go_wp2_with fail
          replace S := Lib.hid (S.out.grow (Grow.drewN w40 1))
          obtain ⟨C, hC⟩ : ∃ C : World → Prop, C = fun W => MSt w W p R bm bh gv gm gh cv cm ch vs ms hs := ⟨_, rfl⟩
          have CC : Hid (∀ W, C W → MSt w W p R bm bh gv gm gh cv cm ch vs ms hs) := Lib.hid (fun W h => by rw [hC] at h; exact h)
          have MK : Hid (∀ W, MSt w W p R bm bh gv gm gh cv cm ch vs ms hs → C W) := Lib.hid (fun W h => by rw [hC]; exact h)
          clear hC
          have c0 : Hid (C (w40.drewN 1)) := Lib.hid (MK.out _ S.out)
          have hne : Nonempty (Cl C) := ⟨⟨_, c0.out⟩⟩
          obtain ⟨mk, hmk⟩ : ∃ mk, ms.getD k 0 = mk := ⟨_, rfl⟩
          obtain ⟨hk_, hhk⟩ : ∃ z, hs.getD k 0 = z := ⟨_, rfl⟩
          have p0 : ∀ x : Cl C, x.w.cell? ⟨bm, 0, none⟩ = some (.slice (some ⟨gv, 0, none⟩) 8 cv) := fun x => (CC.out x.w x.ok).fm.1.two.1
          have p1 : ∀ x : Cl C, x.w.cell? ⟨bm, 1, none⟩ = some (.slice (some ⟨gm, 0, none⟩) 8 cm) := fun x => (CC.out x.w x.ok).fm.1.two.2
          have p2 : ∀ x : Cl C, x.w.cell? ⟨bh, 0, none⟩ = some (.slice (some ⟨gh, 0, none⟩) 8 ch) := fun x => (CC.out x.w x.ok).fh.1.one
          have p3 : ∀ x : Cl C, x.w.cell? ⟨gm, k, none⟩ = some (.int .i64 mk) := fun x => by rw [← hmk]; exact (CC.out x.w x.ok).om.at8 k hk8
          have p4 : ∀ x : Cl C, x.w.cell? ⟨gh, k, none⟩ = some (.int .i64 hk_) := fun x => by rw [← hhk]; exact (CC.out x.w x.ok).oh.at8 k hk8
          clear hmk hhk
          refine wp_region_last (Cls C) 7 8 #[false, false, false, false, false, false, false, false] (by kernel_rfl) (by kernel_rfl) ?_
          refine anyL_seg [0, 1, 2, 3] #[true, true, true, true, false, false, false, false] (fuel := 4) rfl (by kernel_rfl) ⟨⟨_, c0.out⟩, rfl⟩ ?_
          simp only [pickOps, List.getD_cons_succ, List.getD_cons_zero]
          repeat (go_big_quiet_step (fail))
          refine wpQuiet_nil ?_
          refine anyL_sole 4 #[true, true, true, true, true, false, false, false] (fuel := 3) (by kernel_rfl) ?_
          simp only [List.getD_cons_succ, List.getD_cons_zero]
          go_wp2_with fail
          refine (l01Below_any _ p 3 (by decide) S.out.d.cur).mono ?_
          rintro e w41 ⟨x41, rfl, h41a, h41b, -, hC, hU⟩
          have h41b := h41b (by decide)
          obtain ⟨x41, rfl⟩ := Int.eq_ofNat_of_zero_le h41a
          replace S := Lib.hid (S.out.call hC hU)
          clear hC hU
          have c41 : Hid (C w41) := Lib.hid (MK.out _ S.out)
          go_wp2
          refine ⟨⟨⟨_, c41.out⟩, rfl⟩, ?_⟩
          refine anyL_seg [5, 6] #[true, true, true, true, true, true, true, false] (fuel := 1) rfl (by kernel_rfl) ⟨⟨_, c41.out⟩, rfl⟩ ?_
          simp only [pickOps, List.getD_cons_succ, List.getD_cons_zero]
          repeat (go_big_quiet_step (fail))
          refine wpQuiet_nil ?_
          refine anyL_last (by kernel_rfl) ?_
          simp only [List.getD_cons_succ, List.getD_cons_zero]
          have og := S.out.om.at8 k hk8; have ⟨of, ol⟩ := S.out.om.fz8
          clear p0 p1 p2 p3 p4
          go_wp2
          replace S := Lib.hid (S.out.putM k hk8 (wrap64 (2 ^ x41)))
          clear og of ol
          generalize w41.setCell ⟨gm, k, none⟩ (.int .i64 (wrap64 (2 ^ x41))) = wB at *
          refine ⟨trivial, ?_⟩
          clear CC MK c0 c41 hne C
          replace WM := Lib.hid (WfN.set (k := k) (x := wrap64 (2 ^ x41)) WM.out (wrap64_bd _))
          generalize ms.set k (wrap64 (2 ^ x41)) = ms at *
          go_wp2_with fail
          replace S := Lib.hid (S.out.grow (Grow.drewN wB 1))
          obtain ⟨C, hC⟩ : ∃ C : World → Prop, C = fun W => MSt w W p R bm bh gv gm gh cv cm ch vs ms hs := ⟨_, rfl⟩
          have CC : Hid (∀ W, C W → MSt w W p R bm bh gv gm gh cv cm ch vs ms hs) := Lib.hid (fun W h => by rw [hC] at h; exact h)
          have MK : Hid (∀ W, MSt w W p R bm bh gv gm gh cv cm ch vs ms hs → C W) := Lib.hid (fun W h => by rw [hC]; exact h)
          clear hC
          have c0 : Hid (C (wB.drewN 1)) := Lib.hid (MK.out _ S.out)
          have hne : Nonempty (Cl C) := ⟨⟨_, c0.out⟩⟩
          obtain ⟨mk, hmk⟩ : ∃ mk, ms.getD k 0 = mk := ⟨_, rfl⟩
          obtain ⟨hk_, hhk⟩ : ∃ z, hs.getD k 0 = z := ⟨_, rfl⟩
          have p0 : ∀ x : Cl C, x.w.cell? ⟨bm, 0, none⟩ = some (.slice (some ⟨gv, 0, none⟩) 8 cv) := fun x => (CC.out x.w x.ok).fm.1.two.1
          have p1 : ∀ x : Cl C, x.w.cell? ⟨bm, 1, none⟩ = some (.slice (some ⟨gm, 0, none⟩) 8 cm) := fun x => (CC.out x.w x.ok).fm.1.two.2
          have p2 : ∀ x : Cl C, x.w.cell? ⟨bh, 0, none⟩ = some (.slice (some ⟨gh, 0, none⟩) 8 ch) := fun x => (CC.out x.w x.ok).fh.1.one
          have p3 : ∀ x : Cl C, x.w.cell? ⟨gm, k, none⟩ = some (.int .i64 mk) := fun x => by rw [← hmk]; exact (CC.out x.w x.ok).om.at8 k hk8
          have p4 : ∀ x : Cl C, x.w.cell? ⟨gh, k, none⟩ = some (.int .i64 hk_) := fun x => by rw [← hhk]; exact (CC.out x.w x.ok).oh.at8 k hk8
          clear hmk hhk
          refine wp_region_last (Cls C) 15 16 #[false, false, false, false, false, false, false, false, false, false, false, false, false, false, false, false] (by kernel_rfl) (by kernel_rfl) ?_
          refine anyL_seg [0, 1, 2, 3, 4, 5, 6, 7, 8, 9, 10, 11, 12, 13, 14] #[true, true, true, true, true, true, true, true, true, true, true, true, true, true, true, false] (fuel := 1) rfl (by kernel_rfl) ⟨⟨_, c0.out⟩, rfl⟩ ?_
          simp only [pickOps, List.getD_cons_succ, List.getD_cons_zero]
          repeat (go_big_quiet_step (fail))
          refine wpQuiet_nil ?_
          refine anyL_last (by kernel_rfl) ?_
          simp only [List.getD_cons_succ, List.getD_cons_zero]
          have og := S.out.ov.at8 k hk8; have ⟨of, ol⟩ := S.out.ov.fz8
          clear p0 p1 p2 p3 p4
          go_wp2
          replace S := Lib.hid (S.out.putV k hk8 (bits .and .i64 hk_ mk))
          clear og of ol
          generalize (wB.drewN 1).setCell ⟨gv, k, none⟩ (.int .i64 (bits .and .i64 hk_ mk)) = wZ at *
          refine ⟨trivial, ?_⟩
          clear CC MK c0 hne C
          replace WV := Lib.hid (WfN.set (k := k) (x := bits .and .i64 hk_ mk) WV.out (bits_I64 _ _ _))
          generalize vs.set k (bits .and .i64 hk_ mk) = vs at *
          go_wp2
          go_roundw
          case rel => exact ⟨m, _, _, by omega, by go_num, WV.out, WM.out, S.out⟩
          case measure => simp [intOf] <;> omega
        have hk0 : (x40 == 0) = false := by simpa using k0
        have hk1 : (x40 == 1) = false := by simpa using k1
        go_wp2_with fail
        replace S := Lib.hid (S.out.grow (Grow.drewN w40 1))
        obtain ⟨C, hC⟩ : ∃ C : World → Prop, C = fun W => MSt w W p R bm bh gv gm gh cv cm ch vs ms hs := ⟨_, rfl⟩
        have CC : Hid (∀ W, C W → MSt w W p R bm bh gv gm gh cv cm ch vs ms hs) := Lib.hid (fun W h => by rw [hC] at h; exact h)
        have MK : Hid (∀ W, MSt w W p R bm bh gv gm gh cv cm ch vs ms hs → C W) := Lib.hid (fun W h => by rw [hC]; exact h)
        clear hC
        have c0 : Hid (C (w40.drewN 1)) := Lib.hid (MK.out _ S.out)
        have hne : Nonempty (Cl C) := ⟨⟨_, c0.out⟩⟩
        obtain ⟨mk, hmk⟩ : ∃ mk, ms.getD k 0 = mk := ⟨_, rfl⟩
        obtain ⟨hk_, hhk⟩ : ∃ z, hs.getD k 0 = z := ⟨_, rfl⟩
        have p0 : ∀ x : Cl C, x.w.cell? ⟨bm, 0, none⟩ = some (.slice (some ⟨gv, 0, none⟩) 8 cv) := fun x => (CC.out x.w x.ok).fm.1.two.1
        have p1 : ∀ x : Cl C, x.w.cell? ⟨bm, 1, none⟩ = some (.slice (some ⟨gm, 0, none⟩) 8 cm) := fun x => (CC.out x.w x.ok).fm.1.two.2
        have p2 : ∀ x : Cl C, x.w.cell? ⟨bh, 0, none⟩ = some (.slice (some ⟨gh, 0, none⟩) 8 ch) := fun x => (CC.out x.w x.ok).fh.1.one
        have p3 : ∀ x : Cl C, x.w.cell? ⟨gm, k, none⟩ = some (.int .i64 mk) := fun x => by rw [← hmk]; exact (CC.out x.w x.ok).om.at8 k hk8
        have p4 : ∀ x : Cl C, x.w.cell? ⟨gh, k, none⟩ = some (.int .i64 hk_) := fun x => by rw [← hhk]; exact (CC.out x.w x.ok).oh.at8 k hk8
        clear hmk hhk
        refine wp_region_last (Cls C) 15 16 #[false, false, false, false, false, false, false, false, false, false, false, false, false, false, false, false] (by kernel_rfl) (by kernel_rfl) ?_
        refine anyL_seg [0, 1, 2, 3, 4, 5, 6, 7, 8, 9, 10, 11, 12, 13, 14] #[true, true, true, true, true, true, true, true, true, true, true, true, true, true, true, false] (fuel := 1) rfl (by kernel_rfl) ⟨⟨_, c0.out⟩, rfl⟩ ?_
        simp only [pickOps, List.getD_cons_succ, List.getD_cons_zero]
        repeat (go_big_quiet_step (fail))
        refine wpQuiet_nil ?_
        refine anyL_last (by kernel_rfl) ?_
        simp only [List.getD_cons_succ, List.getD_cons_zero]
        have og := S.out.ov.at8 k hk8; have ⟨of, ol⟩ := S.out.ov.fz8
        clear p0 p1 p2 p3 p4
        go_wp2
        replace S := Lib.hid (S.out.putV k hk8 (bits .and .i64 hk_ mk))
        clear og of ol
        generalize (w40.drewN 1).setCell ⟨gv, k, none⟩ (.int .i64 (bits .and .i64 hk_ mk)) = wZ at *
        refine ⟨trivial, ?_⟩
        clear CC MK c0 hne C
        replace WV := Lib.hid (WfN.set (k := k) (x := bits .and .i64 hk_ mk) WV.out (bits_I64 _ _ _))
        generalize vs.set k (bits .and .i64 hk_ mk) = vs at *
        go_wp2
        go_roundw
        case rel => exact ⟨m, _, _, by omega, by go_num, WV.out, WM.out, S.out⟩
        case measure => simp [intOf] <;> omega
      have hb5 : (x5 == 0) = false := by simpa using c5
      obtain ⟨k, rfl⟩ := Int.eq_ofNat_of_zero_le h4a
      have hk8 : k < 8 := by omega
      go_wp2_with fail
      replace S := Lib.hid (S.out.grow (Grow.drewN w5 1))
      obtain ⟨C, hC⟩ : ∃ C : World → Prop, C = fun W => MSt w W p R bm bh gv gm gh cv cm ch vs ms hs := ⟨_, rfl⟩
      have CC : Hid (∀ W, C W → MSt w W p R bm bh gv gm gh cv cm ch vs ms hs) := Lib.hid (fun W h => by rw [hC] at h; exact h)
      have MK : Hid (∀ W, MSt w W p R bm bh gv gm gh cv cm ch vs ms hs → C W) := Lib.hid (fun W h => by rw [hC]; exact h)
      clear hC
      have c0 : Hid (C (w5.drewN 1)) := Lib.hid (MK.out _ S.out)
      have hne : Nonempty (Cl C) := ⟨⟨_, c0.out⟩⟩
      obtain ⟨mk, hmk⟩ : ∃ mk, ms.getD k 0 = mk := ⟨_, rfl⟩
      obtain ⟨hk_, hhk⟩ : ∃ z, hs.getD k 0 = z := ⟨_, rfl⟩
      have p0 : ∀ x : Cl C, x.w.cell? ⟨bm, 0, none⟩ = some (.slice (some ⟨gv, 0, none⟩) 8 cv) := fun x => (CC.out x.w x.ok).fm.1.two.1
      have p1 : ∀ x : Cl C, x.w.cell? ⟨bm, 1, none⟩ = some (.slice (some ⟨gm, 0, none⟩) 8 cm) := fun x => (CC.out x.w x.ok).fm.1.two.2
      have p2 : ∀ x : Cl C, x.w.cell? ⟨bh, 0, none⟩ = some (.slice (some ⟨gh, 0, none⟩) 8 ch) := fun x => (CC.out x.w x.ok).fh.1.one
      have p3 : ∀ x : Cl C, x.w.cell? ⟨gm, k, none⟩ = some (.int .i64 mk) := fun x => by rw [← hmk]; exact (CC.out x.w x.ok).om.at8 k hk8
      have p4 : ∀ x : Cl C, x.w.cell? ⟨gh, k, none⟩ = some (.int .i64 hk_) := fun x => by rw [← hhk]; exact (CC.out x.w x.ok).oh.at8 k hk8
      clear hmk hhk
      refine wp_region_last (Cls C) 6 7 #[false, false, false, false, false, false, false] (by kernel_rfl) (by kernel_rfl) ?_
      refine anyL_seg [0, 1, 2, 3] #[true, true, true, true, false, false, false] (fuel := 3) rfl (by kernel_rfl) ⟨⟨_, c0.out⟩, rfl⟩ ?_
      simp only [pickOps, List.getD_cons_succ, List.getD_cons_zero]
      repeat (go_big_quiet_step (fail))
      refine wpQuiet_nil ?_
      refine anyL_sole 4 #[true, true, true, true, true, false, false] (fuel := 2) (by kernel_rfl) ?_
      simp only [List.getD_cons_succ, List.getD_cons_zero]
      go_wp2_with fail
      refine (l05Full_any k hk8 _).mono ?_
      rintro e wf ⟨rfl, hg⟩
      replace S := Lib.hid (S.out.grow hg)
      clear hg
      have hfu := full_bd (k : Int)
      generalize full (k : Int) = fu at *
      have cf : Hid (C wf) := Lib.hid (MK.out _ S.out)
      go_wp2
      refine ⟨⟨⟨_, cf.out⟩, rfl⟩, ?_⟩
      refine anyL_seg [5] #[true, true, true, true, true, true, false] (fuel := 1) rfl (by kernel_rfl) ⟨⟨_, cf.out⟩, rfl⟩ ?_
      simp only [pickOps, List.getD_cons_succ, List.getD_cons_zero]
      repeat (go_big_quiet_step (fail))
      refine wpQuiet_nil ?_
      refine anyL_last (by kernel_rfl) ?_
      simp only [List.getD_cons_succ, List.getD_cons_zero]
      have og := S.out.om.at8 k hk8; have ⟨of, ol⟩ := S.out.om.fz8
      clear p0 p1 p2 p3 p4
      go_wp2
      replace S := Lib.hid (S.out.putM k hk8 (fu))
      clear og of ol
      generalize wf.setCell ⟨gm, k, none⟩ (.int .i64 (fu)) = wA at *
      refine ⟨trivial, ?_⟩
      clear CC MK c0 cf hne C
      replace WM := Lib.hid (WfN.set (k := k) (x := fu) WM.out (by unfold I64; omega))
      generalize ms.set k fu = ms at *
      go_wp2_with fail
      refine (l01Below_any _ p 6 (by decide) S.out.d.cur).mono ?_
      rintro e w40 ⟨x40, rfl, h40a, h40b, -, hC, hU⟩
      have h40b := h40b (by decide)
      replace S := Lib.hid (S.out.call hC hU)
      clear hC hU
      by_cases k0 : x40 = 0
      · subst k0
        go_wp2_with fail
        replace S := Lib.hid (S.out.grow (Grow.drewN w40 1))
        obtain ⟨C, hC⟩ : ∃ C : World → Prop, C = fun W => MSt w W p R bm bh gv gm gh cv cm ch vs ms hs := ⟨_, rfl⟩
        have CC : Hid (∀ W, C W → MSt w W p R bm bh gv gm gh cv cm ch vs ms hs) := Lib.hid (fun W h => by rw [hC] at h; exact h)
        have MK : Hid (∀ W, MSt w W p R bm bh gv gm gh cv cm ch vs ms hs → C W) := Lib.hid (fun W h => by rw [hC]; exact h)
        clear hC
        have c0 : Hid (C (w40.drewN 1)) := Lib.hid (MK.out _ S.out)
        have hne : Nonempty (Cl C) := ⟨⟨_, c0.out⟩⟩
        obtain ⟨mk, hmk⟩ : ∃ mk, ms.getD k 0 = mk := ⟨_, rfl⟩
        obtain ⟨hk_, hhk⟩ : ∃ z, hs.getD k 0 = z := ⟨_, rfl⟩
        have p0 : ∀ x : Cl C, x.w.cell? ⟨bm, 0, none⟩ = some (.slice (some ⟨gv, 0, none⟩) 8 cv) := fun x => (CC.out x.w x.ok).fm.1.two.1
        have p1 : ∀ x : Cl C, x.w.cell? ⟨bm, 1, none⟩ = some (.slice (some ⟨gm, 0, none⟩) 8 cm) := fun x => (CC.out x.w x.ok).fm.1.two.2
        have p2 : ∀ x : Cl C, x.w.cell? ⟨bh, 0, none⟩ = some (.slice (some ⟨gh, 0, none⟩) 8 ch) := fun x => (CC.out x.w x.ok).fh.1.one
        have p3 : ∀ x : Cl C, x.w.cell? ⟨gm, k, none⟩ = some (.int .i64 mk) := fun x => by rw [← hmk]; exact (CC.out x.w x.ok).om.at8 k hk8
        have p4 : ∀ x : Cl C, x.w.cell? ⟨gh, k, none⟩ = some (.int .i64 hk_) := fun x => by rw [← hhk]; exact (CC.out x.w x.ok).oh.at8 k hk8
        clear hmk hhk
        refine wp_region_last (Cls C) 12 13 #[false, false, false, false, false, false, false, false, false, false, false, false, false] (by kernel_rfl) (by kernel_rfl) ?_
        refine anyL_seg [0, 1, 2, 3, 4, 5, 6, 7, 8] #[true, true, true, true, true, true, true, true, true, false, false, false, false] (fuel := 4) rfl (by kernel_rfl) ⟨⟨_, c0.out⟩, rfl⟩ ?_
        simp only [pickOps, List.getD_cons_succ, List.getD_cons_zero]
        repeat (go_big_quiet_step (fail))
        refine wpQuiet_nil ?_
        refine anyL_sole 9 #[true, true, true, true, true, true, true, true, true, true, false, false, false] (fuel := 3) (by kernel_rfl) ?_
        simp only [List.getD_cons_succ, List.getD_cons_zero]
        go_wp2_with fail
        refine (l01Below_any _ p 8 (by decide) S.out.d.cur).mono ?_
        rintro e w41 ⟨x41, rfl, h41a, h41b, -, hC, hU⟩
        have h41b := h41b (by decide)
        replace S := Lib.hid (S.out.call hC hU)
        clear hC hU
        have c41 : Hid (C w41) := Lib.hid (MK.out _ S.out)
        go_wp2
        refine ⟨⟨⟨_, c41.out⟩, rfl⟩, ?_⟩
        refine anyL_seg [10, 11] #[true, true, true, true, true, true, true, true, true, true, true, true, false] (fuel := 1) rfl (by kernel_rfl) ⟨⟨_, c41.out⟩, rfl⟩ ?_
        simp only [pickOps, List.getD_cons_succ, List.getD_cons_zero]
        repeat (go_big_quiet_step (fail))
        refine wpQuiet_nil ?_
        refine anyL_last (by kernel_rfl) ?_
        simp only [List.getD_cons_succ, List.getD_cons_zero]
        have og := S.out.om.at8 k hk8; have ⟨of, ol⟩ := S.out.om.fz8
        clear p0 p1 p2 p3 p4
        go_wp2
        replace S := Lib.hid (S.out.putM k hk8 (wrap64 (mk - x41)))
        clear og of ol
        generalize w41.setCell ⟨gm, k, none⟩ (.int .i64 (wrap64 (mk - x41))) = wB at *
        refine ⟨trivial, ?_⟩
        clear CC MK c0 c41 hne C
        replace WM := Lib.hid (WfN.set (k := k) (x := wrap64 (mk - x41)) WM.out (wrap64_bd _))
        generalize ms.set k (wrap64 (mk - x41)) = ms at *
        go_wp2_with fail
        replace S := Lib.hid (S.out.grow (Grow.drewN wB 1))
        obtain ⟨C, hC⟩ : ∃ C : World → Prop, C = fun W => MSt w W p R bm bh gv gm gh cv cm ch vs ms hs := ⟨_, rfl⟩
        have CC : Hid (∀ W, C W → MSt w W p R bm bh gv gm gh cv cm ch vs ms hs) := Lib.hid (fun W h => by rw [hC] at h; exact h)
        have MK : Hid (∀ W, MSt w W p R bm bh gv gm gh cv cm ch vs ms hs → C W) := Lib.hid (fun W h => by rw [hC]; exact h)
        clear hC
        have c0 : Hid (C (wB.drewN 1)) := Lib.hid (MK.out _ S.out)
        have hne : Nonempty (Cl C) := ⟨⟨_, c0.out⟩⟩
        obtain ⟨mk, hmk⟩ : ∃ mk, ms.getD k 0 = mk := ⟨_, rfl⟩
        obtain ⟨hk_, hhk⟩ : ∃ z, hs.getD k 0 = z := ⟨_, rfl⟩
        have p0 : ∀ x : Cl C, x.w.cell? ⟨bm, 0, none⟩ = some (.slice (some ⟨gv, 0, none⟩) 8 cv) := fun x => (CC.out x.w x.ok).fm.1.two.1
        have p1 : ∀ x : Cl C, x.w.cell? ⟨bm, 1, none⟩ = some (.slice (some ⟨gm, 0, none⟩) 8 cm) := fun x => (CC.out x.w x.ok).fm.1.two.2
        have p2 : ∀ x : Cl C, x.w.cell? ⟨bh, 0, none⟩ = some (.slice (some ⟨gh, 0, none⟩) 8 ch) := fun x => (CC.out x.w x.ok).fh.1.one
        have p3 : ∀ x : Cl C, x.w.cell? ⟨gm, k, none⟩ = some (.int .i64 mk) := fun x => by rw [← hmk]; exact (CC.out x.w x.ok).om.at8 k hk8
        have p4 : ∀ x : Cl C, x.w.cell? ⟨gh, k, none⟩ = some (.int .i64 hk_) := fun x => by rw [← hhk]; exact (CC.out x.w x.ok).oh.at8 k hk8
        clear hmk hhk
        refine wp_region_last (Cls C) 15 16 #[false, false, false, false, false, false, false, false, false, false, false, false, false, false, false, false] (by kernel_rfl) (by kernel_rfl) ?_
        refine anyL_seg [0, 1, 2, 3, 4, 5, 6, 7, 8, 9, 10, 11, 12, 13, 14] #[true, true, true, true, true, true, true, true, true, true, true, true, true, true, true, false] (fuel := 1) rfl (by kernel_rfl) ⟨⟨_, c0.out⟩, rfl⟩ ?_
        simp only [pickOps, List.getD_cons_succ, List.getD_cons_zero]
        repeat (go_big_quiet_step (fail))
        refine wpQuiet_nil ?_
        refine anyL_last (by kernel_rfl) ?_
        simp only [List.getD_cons_succ, List.getD_cons_zero]
        have og := S.out.ov.at8 k hk8; have ⟨of, ol⟩ := S.out.ov.fz8
        clear p0 p1 p2 p3 p4
        go_wp2
        replace S := Lib.hid (S.out.putV k hk8 (bits .and .i64 hk_ mk))
        clear og of ol
        generalize (wB.drewN 1).setCell ⟨gv, k, none⟩ (.int .i64 (bits .and .i64 hk_ mk)) = wZ at *
        refine ⟨trivial, ?_⟩
        clear CC MK c0 hne C
        replace WV := Lib.hid (WfN.set (k := k) (x := bits .and .i64 hk_ mk) WV.out (bits_I64 _ _ _))
        generalize vs.set k (bits .and .i64 hk_ mk) = vs at *
        go_wp2
        go_roundw
        case rel => exact ⟨m, _, _, by omega, by go_num, WV.out, WM.out, S.out⟩
        case measure => simp [intOf] <;> omega
      by_cases k1 : x40 = 1
      · subst k1
        go_wp2_with fail
        replace S := Lib.hid (S.out.grow (Grow.drewN w40 1))
        obtain ⟨C, hC⟩ : ∃ C : World → Prop, C = fun W => MSt w W p R bm bh gv gm gh cv cm ch vs ms hs := ⟨_, rfl⟩
        have CC : Hid (∀ W, C W → MSt w W p R bm bh gv gm gh cv cm ch vs ms hs) := Lib.hid (fun W h => by rw [hC] at h; exact h)
        have MK : Hid (∀ W, MSt w W p R bm bh gv gm gh cv cm ch vs ms hs → C W) := Lib.hid (fun W h => by rw [hC]; exact h)
        clear hC
        have c0 : Hid (C (w40.drewN 1)) := Lib.hid (MK.out _ S.out)
        have hne : Nonempty (Cl C) := ⟨⟨_, c0.out⟩⟩
        obtain ⟨mk, hmk⟩ : ∃ mk, ms.getD k 0 = mk := ⟨_, rfl⟩
        obtain ⟨hk_, hhk⟩ : ∃ z, hs.getD k 0 = z := ⟨_, rfl⟩
        have p0 : ∀ x : Cl C, x.w.cell? ⟨bm, 0, none⟩ = some (.slice (some ⟨gv, 0, none⟩) 8 cv) := fun x => (CC.out x.w x.ok).fm.1.two.1
        have p1 : ∀ x : Cl C, x.w.cell? ⟨bm, 1, none⟩ = some (.slice (some ⟨gm, 0, none⟩) 8 cm) := fun x => (CC.out x.w x.ok).fm.1.two.2
        have p2 : ∀ x : Cl C, x.w.cell? ⟨bh, 0, none⟩ = some (.slice (some ⟨gh, 0, none⟩) 8 ch) := fun x => (CC.out x.w x.ok).fh.1.one
        have p3 : ∀ x : Cl C, x.w.cell? ⟨gm, k, none⟩ = some (.int .i64 mk) := fun x => by rw [← hmk]; exact (CC.out x.w x.ok).om.at8 k hk8
        have p4 : ∀ x : Cl C, x.w.cell? ⟨gh, k, none⟩ = some (.int .i64 hk_) := fun x => by rw [← hhk]; exact (CC.out x.w x.ok).oh.at8 k hk8
        clear hmk hhk
        refine wp_region_last (Cls C) 7 8 #[false, false, false, false, false, false, false, false] (by kernel_rfl) (by kernel_rfl) ?_
        refine anyL_seg [0, 1, 2, 3] #[true, true, true, true, false, false, false, false] (fuel := 4) rfl (by kernel_rfl) ⟨⟨_, c0.out⟩, rfl⟩ ?_
        simp only [pickOps, List.getD_cons_succ, List.getD_cons_zero]
        repeat (go_big_quiet_step (fail))
        refine wpQuiet_nil ?_
        refine anyL_sole 4 #[true, true, true, true, true, false, false, false] (fuel := 3) (by kernel_rfl) ?_
        simp only [List.getD_cons_succ, List.getD_cons_zero]
        go_wp2_with fail
        refine (l01Below_any _ p 3 (by decide) S.out.d.cur).mono ?_
        rintro e w41 ⟨x41, rfl, h41a, h41b, -, hC, hU⟩
        have h41b := h41b (by decide)
        obtain ⟨x41, rfl⟩ := Int.eq_ofNat_of_zero_le h41a
        replace S := Lib.hid (S.out.call hC hU)
        clear hC hU
        have c41 : Hid (C w41) := Lib.hid (MK.out _ S.out)
        go_wp2
        refine ⟨⟨⟨_, c41.out⟩, rfl⟩, ?_⟩
        refine anyL_seg [5, 6] #[true, true, true, true, true, true, true, false] (fuel := 1) rfl (by kernel_rfl) ⟨⟨_, c41.out⟩, rfl⟩ ?_
        simp only [pickOps, List.getD_cons_succ, List.getD_cons_zero]
        repeat (go_big_quiet_step (fail))
        refine wpQuiet_nil ?_
        refine anyL_last (by kernel_rfl) ?_
        simp only [List.getD_cons_succ, List.getD_cons_zero]
        have og := S.out.om.at8 k hk8; have ⟨of, ol⟩ := S.out.om.fz8
        clear p0 p1 p2 p3 p4
        go_wp2
        replace S := Lib.hid (S.out.putM k hk8 (wrap64 (2 ^ x41)))
        clear og of ol
        generalize w41.setCell ⟨gm, k, none⟩ (.int .i64 (wrap64 (2 ^ x41))) = wB at *
        refine ⟨trivial, ?_⟩
        clear CC MK c0 c41 hne C
        replace WM := Lib.hid (WfN.set (k := k) (x := wrap64 (2 ^ x41)) WM.out (wrap64_bd _))
        generalize ms.set k (wrap64 (2 ^ x41)) = ms at *
        go_wp2_with fail
        replace S := Lib.hid (S.out.grow (Grow.drewN wB 1))
        obtain ⟨C, hC⟩ : ∃ C : World → Prop, C = fun W => MSt w W p R bm bh gv gm gh cv cm ch vs ms hs := ⟨_, rfl⟩
        have CC : Hid (∀ W, C W → MSt w W p R bm bh gv gm gh cv cm ch vs ms hs) := Lib.hid (fun W h => by rw [hC] at h; exact h)
        have MK : Hid (∀ W, MSt w W p R bm bh gv gm gh cv cm ch vs ms hs → C W) := Lib.hid (fun W h => by rw [hC]; exact h)
        clear hC
        have c0 : Hid (C (wB.drewN 1)) := Lib.hid (MK.out _ S.out)
        have hne : Nonempty (Cl C) := ⟨⟨_, c0.out⟩⟩
        obtain ⟨mk, hmk⟩ : ∃ mk, ms.getD k 0 = mk := ⟨_, rfl⟩
        obtain ⟨hk_, hhk⟩ : ∃ z, hs.getD k 0 = z := ⟨_, rfl⟩
        have p0 : ∀ x : Cl C, x.w.cell? ⟨bm, 0, none⟩ = some (.slice (some ⟨gv, 0, none⟩) 8 cv) := fun x => (CC.out x.w x.ok).fm.1.two.1
        have p1 : ∀ x : Cl C, x.w.cell? ⟨bm, 1, none⟩ = some (.slice (some ⟨gm, 0, none⟩) 8 cm) := fun x => (CC.out x.w x.ok).fm.1.two.2
        have p2 : ∀ x : Cl C, x.w.cell? ⟨bh, 0, none⟩ = some (.slice (some ⟨gh, 0, none⟩) 8 ch) := fun x => (CC.out x.w x.ok).fh.1.one
        have p3 : ∀ x : Cl C, x.w.cell? ⟨gm, k, none⟩ = some (.int .i64 mk) := fun x => by rw [← hmk]; exact (CC.out x.w x.ok).om.at8 k hk8
        have p4 : ∀ x : Cl C, x.w.cell? ⟨gh, k, none⟩ = some (.int .i64 hk_) := fun x => by rw [← hhk]; exact (CC.out x.w x.ok).oh.at8 k hk8
        clear hmk hhk
        refine wp_region_last (Cls C) 15 16 #[false, false, false, false, false, false, false, false, false, false, false, false, false, false, false, false] (by kernel_rfl) (by kernel_rfl) ?_
        refine anyL_seg [0, 1, 2, 3, 4, 5, 6, 7, 8, 9, 10, 11, 12, 13, 14] #[true, true, true, true, true, true, true, true, true, true, true, true, true, true, true, false] (fuel := 1) rfl (by kernel_rfl) ⟨⟨_, c0.out⟩, rfl⟩ ?_
        simp only [pickOps, List.getD_cons_succ, List.getD_cons_zero]
        repeat (go_big_quiet_step (fail))
        refine wpQuiet_nil ?_
        refine anyL_last (by kernel_rfl) ?_
        simp only [List.getD_cons_succ, List.getD_cons_zero]
        have og := S.out.ov.at8 k hk8; have ⟨of, ol⟩ := S.out.ov.fz8
        clear p0 p1 p2 p3 p4
        go_wp2
        replace S := Lib.hid (S.out.putV k hk8 (bits .and .i64 hk_ mk))
        clear og of ol
        generalize (wB.drewN 1).setCell ⟨gv, k, none⟩ (.int .i64 (bits .and .i64 hk_ mk)) = wZ at *
        refine ⟨trivial, ?_⟩
        clear CC MK c0 hne C
        replace WV := Lib.hid (WfN.set (k := k) (x := bits .and .i64 hk_ mk) WV.out (bits_I64 _ _ _))
        generalize vs.set k (bits .and .i64 hk_ mk) = vs at *
        go_wp2
        go_roundw
        case rel => exact ⟨m, _, _, by omega, by go_num, WV.out, WM.out, S.out⟩
        case measure => simp [intOf] <;> omega
      have hk0 : (x40 == 0) = false := by simpa using k0
      have hk1 : (x40 == 1) = false := by simpa using k1
      go_wp2_with fail
      replace S := Lib.hid (S.out.grow (Grow.drewN w40 1))
      obtain ⟨C, hC⟩ : ∃ C : World → Prop, C = fun W => MSt w W p R bm bh gv gm gh cv cm ch vs ms hs := ⟨_, rfl⟩
      have CC : Hid (∀ W, C W → MSt w W p R bm bh gv gm gh cv cm ch vs ms hs) := Lib.hid (fun W h => by rw [hC] at h; exact h)
      have MK : Hid (∀ W, MSt w W p R bm bh gv gm gh cv cm ch vs ms hs → C W) := Lib.hid (fun W h => by rw [hC]; exact h)
      clear hC
      have c0 : Hid (C (w40.drewN 1)) := Lib.hid (MK.out _ S.out)
      have hne : Nonempty (Cl C) := ⟨⟨_, c0.out⟩⟩
      obtain ⟨mk, hmk⟩ : ∃ mk, ms.getD k 0 = mk := ⟨_, rfl⟩
      obtain ⟨hk_, hhk⟩ : ∃ z, hs.getD k 0 = z := ⟨_, rfl⟩
      have p0 : ∀ x : Cl C, x.w.cell? ⟨bm, 0, none⟩ = some (.slice (some ⟨gv, 0, none⟩) 8 cv) := fun x => (CC.out x.w x.ok).fm.1.two.1
      have p1 : ∀ x : Cl C, x.w.cell? ⟨bm, 1, none⟩ = some (.slice (some ⟨gm, 0, none⟩) 8 cm) := fun x => (CC.out x.w x.ok).fm.1.two.2
      have p2 : ∀ x : Cl C, x.w.cell? ⟨bh, 0, none⟩ = some (.slice (some ⟨gh, 0, none⟩) 8 ch) := fun x => (CC.out x.w x.ok).fh.1.one
      have p3 : ∀ x : Cl C, x.w.cell? ⟨gm, k, none⟩ = some (.int .i64 mk) := fun x => by rw [← hmk]; exact (CC.out x.w x.ok).om.at8 k hk8
      have p4 : ∀ x : Cl C, x.w.cell? ⟨gh, k, none⟩ = some (.int .i64 hk_) := fun x => by rw [← hhk]; exact (CC.out x.w x.ok).oh.at8 k hk8
      clear hmk hhk
      refine wp_region_last (Cls C) 15 16 #[false, false, false, false, false, false, false, false, false, false, false, false, false, false, false, false] (by kernel_rfl) (by kernel_rfl) ?_
      refine anyL_seg [0, 1, 2, 3, 4, 5, 6, 7, 8, 9, 10, 11, 12, 13, 14] #[true, true, true, true, true, true, true, true, true, true, true, true, true, true, true, false] (fuel := 1) rfl (by kernel_rfl) ⟨⟨_, c0.out⟩, rfl⟩ ?_
      simp only [pickOps, List.getD_cons_succ, List.getD_cons_zero]
      repeat (go_big_quiet_step (fail))
      refine wpQuiet_nil ?_
      refine anyL_last (by kernel_rfl) ?_
      simp only [List.getD_cons_succ, List.getD_cons_zero]
      have og := S.out.ov.at8 k hk8; have ⟨of, ol⟩ := S.out.ov.fz8
      clear p0 p1 p2 p3 p4
      go_wp2
      replace S := Lib.hid (S.out.putV k hk8 (bits .and .i64 hk_ mk))
      clear og of ol
      generalize (w40.drewN 1).setCell ⟨gv, k, none⟩ (.int .i64 (bits .and .i64 hk_ mk)) = wZ at *
      refine ⟨trivial, ?_⟩
      clear CC MK c0 hne C
      replace WV := Lib.hid (WfN.set (k := k) (x := bits .and .i64 hk_ mk) WV.out (bits_I64 _ _ _))
      generalize vs.set k (bits .and .i64 hk_ mk) = vs at *
      go_wp2
      go_roundw
      case rel => exact ⟨m, _, _, by omega, by go_num, WV.out, WM.out, S.out⟩
      case measure => simp [intOf] <;> omega
    · obtain rfl : m = 0 := by omega
      have ⟨q0, q1⟩ := S.out.fm.1.two; have qz := S.out.fm.1.2.2; have ql := S.out.fm.1.1
      have ⟨r0, r1⟩ := S.out.br.1.two; have rz := S.out.br.1.2.2; have rl := S.out.br.1.1
      have n1 : ¬ bm = R := by have := S.out.ne; omega
      have n2 : ¬ R = bm := by omega
      go_wp2
      have HR : Hid (∀ W, Upd [R] wr W → RetMt 8 w p (.returned (.agg #[.slice (some ⟨gv, 0, none⟩) 8 cv, .slice (some ⟨gm, 0, none⟩) 8 cm])) W) := Lib.hid (fun W hu => S.out.ret WV.out WM.out hu)
      refine bodyPost_ret (v := .agg #[.slice (some ⟨gv, 0, none⟩) 8 cv, .slice (some ⟨gm, 0, none⟩) 8 cm]) ?_ rfl (HR.out _ ?_)
      · simp [results, Try.results167, go_sem, q0, q1, qz, ql, r0, r1, rz, rl, n1, n2] <;> omega
      · ((repeat (first | (with_reducible refine Upd.setCell ?_ (by simp) _) | with_reducible exact Upd.refl _ _)))
--%
end Go.Proofs.Ytgigdpdmdldhnaa
