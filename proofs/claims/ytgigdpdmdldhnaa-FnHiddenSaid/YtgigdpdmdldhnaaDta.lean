/- TableAdd of the reference: a contract that tells only bounds (printed by gta.py). -/
import Derived.Test.YtgigdpdmdldhnaaDrt
import Derived.Test.YtgigdpdmdldhnaaToks
import Derived.WalkKit
import Derived.ProofKit
import Derived.Deep.QuietTactic
import Derived.BigQuiet
import Derived.Outline
import Derived.WalkSpells
namespace Go.Proofs.Ytgigdpdmdldhnaa
open Go.ChangeShapes Go.WideShapes Go.ChangeAt Go.RowKit
set_option linter.unusedVariables false
set_option linter.unusedSimpArgs false
--%
theorem moved_from {W : World} {v v' : Value} {B : Nat} {c : Array Value} {t : TypeId} (hf : ∀ x ∈ fpOf v, B ≤ x) (hs : B ≤ W.heap.size) (hmv : Moved (W.alloc (.cells c t)) v v') : ∀ x ∈ fpOf v', B ≤ x := fun x hx => by
  rcases hmv x (by simpa [fpOf] using hx) with k | k
  · exact hf x (by simpa [fpOf] using k)
  · simp only [World.alloc, Array.size_push] at k; omega
/-- A table made: its entries, at most n, and a code. -/
def RetTA (n : Nat) (w : World) (e : Ending) (w' : World) : Prop := ∃ cap q es cs code, e = .returned (.tuple #[.agg #[.int .i64 cap, q], .int .i64 code]) ∧ ET w w' [] q es cs ∧ GoodS es ∧ es.length ≤ n ∧ I64 cap ∧ Grow w w'
/-- What TableAdd has in hand: the boxes of its arguments, of its result, and of the copy. -/
structure TA (w W : World) (be R bo : Nat) (tc ec : List Value) (cap : Int) (q : Value) (es : List EntryD) (cs : List Value) : Prop where
  g : Grow w W
  bt : Box W w.heap.size tc
  fe : Box W be ec
  fr : Box W R [.int .i64 0, .slice none 0 0]
  fo : Box W bo [.int .i64 cap, q]
  et : ET w W [w.heap.size, be, R, bo] q es cs
  lo : w.heap.size < be ∧ be < R ∧ R < bo
theorem TA.grow {w W W' : World} {be R bo : Nat} {tc ec : List Value} {cap : Int} {q : Value} {es : List EntryD} {cs : List Value} (h : TA w W be R bo tc ec cap q es cs) (g : Grow W W') : TA w W' be R bo tc ec cap q es cs :=
  ⟨h.g.trans g, h.bt.grow g, h.fe.grow g, h.fr.grow g, h.fo.grow g, h.et.grow g, h.lo⟩
theorem TA.inN {w W : World} {be R bo : Nat} {tc ec : List Value} {cap : Int} {q : Value} {es : List EntryD} {cs : List Value} (h : TA w W be R bo tc ec cap q es cs) : ∀ x ∈ [w.heap.size, be, R, bo], x < W.heap.size := fun x hx => by
  have h1 := h.fo.1; have h2 := h.lo
  simp only [List.mem_cons, List.not_mem_nil, or_false] at hx; omega
theorem retTA {w W W' : World} {R n : Nat} {N : List Nat} {cap code : Int} {q : Value} {es : List EntryD} {cs : List Value} (g : Grow w W) (et : ET w W N q es cs) (hR : R ∈ N) (hr : w.heap.size ≤ R) (gs : GoodS es) (hl : es.length ≤ n) (hc : I64 cap) (u : Upd [R] W W') : RetTA n w (.returned (.tuple #[.agg #[.int .i64 cap, q], .int .i64 code])) W' :=
  ⟨cap, q, es, cs, code, rfl, (et.upd u (fun x hx => .inl (by simp only [List.mem_cons, List.not_mem_nil, or_false] at hx; subst hx; exact hR))).more (by simp), gs, hl, hc, g.then_upd u (fun x hx => by simp only [List.mem_cons, List.not_mem_nil, or_false] at hx; subst hx; exact hr)⟩
--% spec.TableAdd 159
set_option maxRecDepth 20000 in
set_option maxHeartbeats 8000000 in
theorem tableAddS_any (w : World) (tv U : Value) (cap : Int) (es : List EntryD) (e : EntryD) (h : RdES w tv es) (hg : GoodS es) (hl : es.length ≤ 600) (hcap : I64 cap) (h2 : RdE w U e) (he : GoodE e) :
    Calls Try.prog 159 #[.agg #[.int .i64 cap, tv], U] w (RetTA (2 * es.length + 1) w) := by
  have GS := Lib.hid hg; have GE := Lib.hid he; have HC := Lib.hid hcap; have HE := Lib.hid h2
  obtain ⟨a, c, rfl, hlc, hm, -, -⟩ := id h
  have HT : Hid (RdT w (.agg #[.int .i64 cap, .slice a es.length c]) ⟨cap, es⟩) := Lib.hid ⟨_, rfl, h⟩
  obtain ⟨a3, k3, a4, k4, a5, k5, rfl⟩ := h2.shape
  clear h hg he hcap h2
  unfold maxLen at hm
  go_enter Try.func159, Try.ntmps159
  go_wp2_with fail
  have BT : Hid (Box (((w.alloc (.cells #[Value.int .i64 cap, .slice a es.length c] 79)).alloc (.cells #[Value.int .i64 e.epoch, .int .i64 e.prio, .slice a3 e.m.vs.length k3, .slice a4 e.m.ms.length k4, .slice a5 e.acts.length k5, .int .i64 e.hits] 68)).alloc (.cells #[Value.int .i64 0, .slice none 0 0] 79)) w.heap.size [Value.int .i64 cap, .slice a es.length c]) := Lib.hid ((Box.alloc w [Value.int .i64 cap, .slice a es.length c] 79).grow ((Grow.alloc _ _).trans (Grow.alloc _ _)))
  have BE : Hid (Box (((w.alloc (.cells #[Value.int .i64 cap, .slice a es.length c] 79)).alloc (.cells #[Value.int .i64 e.epoch, .int .i64 e.prio, .slice a3 e.m.vs.length k3, .slice a4 e.m.ms.length k4, .slice a5 e.acts.length k5, .int .i64 e.hits] 68)).alloc (.cells #[Value.int .i64 0, .slice none 0 0] 79)) (w.heap.size + 1) [Value.int .i64 e.epoch, .int .i64 e.prio, .slice a3 e.m.vs.length k3, .slice a4 e.m.ms.length k4, .slice a5 e.acts.length k5, .int .i64 e.hits]) := Lib.hid (((Box.alloc (w.alloc (.cells #[Value.int .i64 cap, .slice a es.length c] 79)) [Value.int .i64 e.epoch, .int .i64 e.prio, .slice a3 e.m.vs.length k3, .slice a4 e.m.ms.length k4, .slice a5 e.acts.length k5, .int .i64 e.hits] 68).at_ (by simp only [World.alloc, Array.size_push])).grow (Grow.alloc _ _))
  have BR : Hid (Box (((w.alloc (.cells #[Value.int .i64 cap, .slice a es.length c] 79)).alloc (.cells #[Value.int .i64 e.epoch, .int .i64 e.prio, .slice a3 e.m.vs.length k3, .slice a4 e.m.ms.length k4, .slice a5 e.acts.length k5, .int .i64 e.hits] 68)).alloc (.cells #[Value.int .i64 0, .slice none 0 0] 79)) (w.heap.size + 1 + 1) [Value.int .i64 0, .slice none 0 0]) := Lib.hid ((Box.alloc ((w.alloc (.cells #[Value.int .i64 cap, .slice a es.length c] 79)).alloc (.cells #[Value.int .i64 e.epoch, .int .i64 e.prio, .slice a3 e.m.vs.length k3, .slice a4 e.m.ms.length k4, .slice a5 e.acts.length k5, .int .i64 e.hits] 68)) [Value.int .i64 0, .slice none 0 0] 79).at_ (by simp only [World.alloc, Array.size_push]))
  have G0 : Hid (Grow w (((w.alloc (.cells #[Value.int .i64 cap, .slice a es.length c] 79)).alloc (.cells #[Value.int .i64 e.epoch, .int .i64 e.prio, .slice a3 e.m.vs.length k3, .slice a4 e.m.ms.length k4, .slice a5 e.acts.length k5, .int .i64 e.hits] 68)).alloc (.cells #[Value.int .i64 0, .slice none 0 0] 79))) := Lib.hid ((Grow.alloc _ _).trans ((Grow.alloc _ _).trans (Grow.alloc _ _)))
  generalize (((w.alloc (.cells #[Value.int .i64 cap, .slice a es.length c] 79)).alloc (.cells #[Value.int .i64 e.epoch, .int .i64 e.prio, .slice a3 e.m.vs.length k3, .slice a4 e.m.ms.length k4, .slice a5 e.acts.length k5, .int .i64 e.hits] 68)).alloc (.cells #[Value.int .i64 0, .slice none 0 0] 79)) = W0 at *
  refine (tableOkS_any _ _ ⟨cap, es⟩ (HT.out.grow G0.out) ⟨HC.out, GS.out.wf⟩).mono ?_
  rintro _ w1 ⟨rfl, hg⟩
  replace BT := Lib.hid (BT.out.grow hg); replace BE := Lib.hid (BE.out.grow hg); replace BR := Lib.hid (BR.out.grow hg); replace G0 := Lib.hid (G0.out.trans hg)
  clear hg
  cases htb : tbB ⟨cap, es⟩
  · have ⟨r0, r1⟩ := BR.out.two; have rz := BR.out.2.2; have rl := BR.out.1
    have HR : Hid (∀ W, Upd [w.heap.size + 1 + 1] w1 W → RetTA (2 * es.length + 1) w (.returned (.tuple #[.agg #[.int .i64 0, .slice none 0 0], .int .i64 1])) W) := Lib.hid (fun W hu => retTA (N := [w.heap.size + 1 + 1]) G0.out (ET.nil w w1 _) (by simp) (by omega) goodS_nil (by simp) (by unfold I64; omega) hu)
    go_wp2
    refine bodyPost_ret (v := .tuple #[.agg #[.int .i64 0, .slice none 0 0], .int .i64 1]) ?_ rfl (HR.out _ ?_)
    · simp [results, Try.results159, go_sem, r0, r1, rz, rl]
    · ((repeat (first | with_reducible exact Upd.refl _ _ | (with_reducible refine Upd.setCell ?_ (by simp) _))))
  have ⟨b0, b1, b2, b3, b4, b5⟩ := BE.out.six
  have bl := BE.out.1
  go_wp2_with fail
  clear b0 b1 b2 b3 b4 b5 bl htb
  refine (entryOkS_any _ _ e (HE.out.grow G0.out) GE.out.1).mono ?_
  rintro _ w2 ⟨rfl, hg⟩
  replace BT := Lib.hid (BT.out.grow hg); replace BE := Lib.hid (BE.out.grow hg); replace BR := Lib.hid (BR.out.grow hg); replace G0 := Lib.hid (G0.out.trans hg)
  clear hg
  cases heo : enOk e
  · have ⟨r0, r1⟩ := BR.out.two; have rz := BR.out.2.2; have rl := BR.out.1
    have HR : Hid (∀ W, Upd [w.heap.size + 1 + 1] w2 W → RetTA (2 * es.length + 1) w (.returned (.tuple #[.agg #[.int .i64 0, .slice none 0 0], .int .i64 1])) W) := Lib.hid (fun W hu => retTA (N := [w.heap.size + 1 + 1]) G0.out (ET.nil w w2 _) (by simp) (by omega) goodS_nil (by simp) (by unfold I64; omega) hu)
    go_wp2
    refine bodyPost_ret (v := .tuple #[.agg #[.int .i64 0, .slice none 0 0], .int .i64 1]) ?_ rfl (HR.out _ ?_)
    · simp [results, Try.results159, go_sem, r0, r1, rz, rl]
    · ((repeat (first | with_reducible exact Upd.refl _ _ | (with_reducible refine Upd.setCell ?_ (by simp) _))))
  clear heo
  have ⟨t0, t1⟩ := BT.out.two
  have tl := BT.out.1
  go_wp2_with fail
  clear t0 t1 tl
  refine (l07Copy_any _ _ ⟨cap, es⟩ (HT.out.grow G0.out) (GS.out.sm (by omega))).mono ?_
  rintro _ w3 ⟨V, fp, rfl, ⟨zv, rfl, ho⟩, hf, hg⟩
  simp only at ho
  obtain ⟨qa, qc_, rfl, -⟩ := ho.rd
  have NB := BR.out.1
  have FO : ∀ x ∈ fp, w.heap.size + 1 + 1 < x ∧ x < w3.heap.size := fun x hx => ⟨by have := hf x hx; omega, ho.here x hx⟩
  obtain ⟨cs, het⟩ := ET.of (w := w) ho (fun x hx => by have := FO x hx; omega) [w.heap.size, (w.heap.size + 1), (w.heap.size + 1 + 1), w3.heap.size] (fun x hx hm => by
    have := FO x hx
    simp only [List.mem_cons, List.not_mem_nil, or_false] at hm; omega)
  have gb := Grow.alloc w3 (.cells #[.int .i64 cap, .slice qa es.length qc_] 79)
  have S : Hid (TA w (w3.alloc (.cells #[.int .i64 cap, .slice qa es.length qc_] 79)) (w.heap.size + 1) (w.heap.size + 1 + 1) w3.heap.size [Value.int .i64 cap, .slice a es.length c] [Value.int .i64 e.epoch, .int .i64 e.prio, .slice a3 e.m.vs.length k3, .slice a4 e.m.ms.length k4, .slice a5 e.acts.length k5, .int .i64 e.hits] cap (.slice qa es.length qc_) es cs) := Lib.hid ⟨G0.out.trans (hg.trans gb), BT.out.grow (hg.trans gb), BE.out.grow (hg.trans gb), BR.out.grow (hg.trans gb), Box.alloc w3 [.int .i64 cap, .slice qa es.length qc_] 79, het.grow gb, by have := (BR.out.grow hg).1; omega⟩
  clear ho hf hg NB FO het gb BT BE BR G0
  have ⟨o0, o1⟩ := S.out.fo.two
  have ol := S.out.fo.1
  go_wp2
  clear o0 o1 ol
  generalize w3.alloc (.cells #[.int .i64 cap, .slice qa es.length qc_] 79) = W1 at *
  generalize w3.heap.size = bo at *
  go_loopw [25] (fun i wr => ∃ k : Nat, k ≤ es.length ∧ i = .int .i64 k ∧ Grow W1 wr) (fun i _ => es.length - (intOf i).toNat)
  case atStart => exact ⟨0, Nat.zero_le _, rfl, Grow.refl _⟩
  case round =>
    obtain ⟨k, hk, rfl, hgr⟩ := hrel
    rename World => wr
    have SR := Lib.hid (S.out.grow hgr); have HG := Lib.hid hgr; clear hgr
    by_cases hlt : k < es.length
    · obtain ⟨g, rfl⟩ := own_some SR.out.et.1 (by omega)
      obtain ⟨x0, x1, x2, hec, hsub⟩ := SR.out.et.2.2 k hlt
      obtain ⟨y0, z0, rfl⟩ := own_shape hsub.1
      obtain ⟨y1, z1, rfl⟩ := own_shape hsub.2.1
      obtain ⟨y2, z2, rfl⟩ := own_shape hsub.2.2.1
      have SUB := Lib.hid hsub; clear hsub
      have GD := Lib.hid (GS.out.at hlt)
      generalize hd : es[k] = d at *
      clear hd
      have hne : Nonempty (Cl (Grow wr)) := ⟨⟨wr, Grow.refl _⟩⟩
      have ⟨po0, po1⟩ := SR.out.fo.two_
      have ⟨pe0, pe1, pe2, pe3, pe4, pe5⟩ := SR.out.fe.six_
      have qc := SR.out.et.cells hlt hec
      have pd0 : ∀ x : Cl (Grow wr), x.w.cell? ⟨g, k * 6, none⟩ = some (.int .i64 d.epoch) := fun x => x.ok.cell qc.1
      have pd1 : ∀ x : Cl (Grow wr), x.w.cell? ⟨g, k * 6 + 1, none⟩ = some (.int .i64 d.prio) := fun x => x.ok.cell qc.2.1
      have pd2 : ∀ x : Cl (Grow wr), x.w.cell? ⟨g, k * 6 + 2, none⟩ = some (.slice y0 d.m.vs.length z0) := fun x => x.ok.cell qc.2.2.1
      have pd3 : ∀ x : Cl (Grow wr), x.w.cell? ⟨g, k * 6 + 3, none⟩ = some (.slice y1 d.m.ms.length z1) := fun x => x.ok.cell qc.2.2.2.1
      have pd4 : ∀ x : Cl (Grow wr), x.w.cell? ⟨g, k * 6 + 4, none⟩ = some (.slice y2 d.acts.length z2) := fun x => x.ok.cell qc.2.2.2.2.1
      have pd5 : ∀ x : Cl (Grow wr), x.w.cell? ⟨g, k * 6 + 5, none⟩ = some (.int .i64 d.hits) := fun x => x.ok.cell qc.2.2.2.2.2
      clear qc
      go_wp2_with fail
      refine wp_region_mix (Cls (Grow wr)) 7 #[false, false, false, false, false, false, false] (by kernel_rfl) (by kernel_rfl) ⟨⟨_, Grow.drewN _ 1⟩, rfl⟩ ?_
      refine anyC_seg [0, 1, 2, 3, 4, 5] #[true, true, true, true, true, true, false] (fuel := 1) rfl (by kernel_rfl) ⟨⟨_, Grow.drewN _ 1⟩, rfl⟩ ?_
      simp only [pickOps, List.getD_cons_succ, List.getD_cons_zero]
      repeat (go_big_quiet_step (fail))
      refine wpQuiet_nil ?_
      refine anyC_sole 6 #[true, true, true, true, true, true, true] (fuel := 0) (by kernel_rfl) ?_
      simp only [List.getD_cons_succ, List.getD_cons_zero]
      go_wp2_with fail
      refine (keyS_any _ _ _ d e (SUB.out.rd.grow (Grow.drewN wr 1)) (HE.out.grow (SR.out.g.trans (Grow.drewN wr 1))) GD.out.1 GE.out.1).mono ?_
      rintro _ u1 ⟨rfl, hg⟩
      have E1 := Lib.hid ((Grow.drewN wr 1).trans hg); clear hg
      go_wp2
      refine ⟨⟨⟨_, E1.out⟩, rfl⟩, ?_⟩
      refine anyC_done (by kernel_rfl) ?_
      clear po0 po1 pe0 pe1 pe2 pe3 pe4 pe5 pd0 pd1 pd2 pd3 pd4 pd5 hne
      replace SR := Lib.hid (SR.out.grow E1.out)
      replace SUB := Lib.hid (SUB.out.grow E1.out)
      generalize keyB d e = kb at *
      cases kb
      · go_wp2
        go_roundw
        case rel => exact ⟨k + 1, by omega, by go_num, HG.out.trans E1.out⟩
        case measure => simp [intOf]; omega
      go_wp2_with fail
      have hne : Nonempty (Cl (Grow u1)) := ⟨⟨u1, Grow.refl _⟩⟩
      have ⟨po0, po1⟩ := SR.out.fo.two_
      have ⟨pe0, pe1, pe2, pe3, pe4, pe5⟩ := SR.out.fe.six_
      have qc := SR.out.et.cells hlt hec
      have pd0 : ∀ x : Cl (Grow u1), x.w.cell? ⟨g, k * 6, none⟩ = some (.int .i64 d.epoch) := fun x => x.ok.cell qc.1
      have pd1 : ∀ x : Cl (Grow u1), x.w.cell? ⟨g, k * 6 + 1, none⟩ = some (.int .i64 d.prio) := fun x => x.ok.cell qc.2.1
      have pd2 : ∀ x : Cl (Grow u1), x.w.cell? ⟨g, k * 6 + 2, none⟩ = some (.slice y0 d.m.vs.length z0) := fun x => x.ok.cell qc.2.2.1
      have pd3 : ∀ x : Cl (Grow u1), x.w.cell? ⟨g, k * 6 + 3, none⟩ = some (.slice y1 d.m.ms.length z1) := fun x => x.ok.cell qc.2.2.2.1
      have pd4 : ∀ x : Cl (Grow u1), x.w.cell? ⟨g, k * 6 + 4, none⟩ = some (.slice y2 d.acts.length z2) := fun x => x.ok.cell qc.2.2.2.2.1
      have pd5 : ∀ x : Cl (Grow u1), x.w.cell? ⟨g, k * 6 + 5, none⟩ = some (.int .i64 d.hits) := fun x => x.ok.cell qc.2.2.2.2.2
      clear qc
      refine wp_region_last (Cls (Grow u1)) 6 7 #[false, false, false, false, false, false, false] (by kernel_rfl) (by kernel_rfl) ?_
      refine anyL_seg [0, 1, 2, 3] #[true, true, true, true, false, false, false] (fuel := 3) rfl (by kernel_rfl) ⟨⟨_, Grow.drewN _ 1⟩, rfl⟩ ?_
      simp only [pickOps, List.getD_cons_succ, List.getD_cons_zero]
      repeat (go_big_quiet_step (fail))
      refine wpQuiet_nil ?_
      refine anyL_sole 4 #[true, true, true, true, true, false, false] (fuel := 2) (by kernel_rfl) ?_
      simp only [List.getD_cons_succ, List.getD_cons_zero]
      go_wp2_with fail
      refine (l07Entry_any _ _ e (HE.out.grow (SR.out.g.trans (Grow.drewN u1 1))) GE.out.sm).mono ?_
      rintro _ u2 ⟨V, fe, rfl, ho, hf, hg⟩
      obtain ⟨v0, v1, v2, f0, f1, f2, rfl, q0, q1, q2, -⟩ := id ho
      obtain ⟨n0, m0, rfl⟩ := own_shape q0.1
      obtain ⟨n1, m1, rfl⟩ := own_shape q1.1
      obtain ⟨n2, m2, rfl⟩ := own_shape q2.1
      clear q0 q1 q2
      have E2 := Lib.hid ((Grow.drewN u1 1).trans hg)
      have SE : Hid (SubOK w u2 (g :: [w.heap.size, (w.heap.size + 1), (w.heap.size + 1 + 1), bo]) (.slice n0 e.m.vs.length m0) (.slice n1 e.m.ms.length m1) (.slice n2 e.acts.length m2) e) := Lib.hid (SubOK.of ho (fun x hx => Nat.le_trans (SR.out.g.trans (Grow.drewN u1 1)).size (hf x hx)) _ (fun x hx hm => by
        have h1 := hf x hx
        rcases List.mem_cons.1 hm with k | k
        · have h2 := (SR.out.grow (Grow.drewN u1 1)).et.frz.2; omega
        · have h2 := (SR.out.grow (Grow.drewN u1 1)).inN x k; omega))
      clear ho hf hg
      go_wp2
      refine ⟨⟨⟨_, E2.out⟩, rfl⟩, ?_⟩
      refine anyL_seg [5] #[true, true, true, true, true, true, false] (fuel := 1) rfl (by kernel_rfl) ⟨⟨_, E2.out⟩, rfl⟩ ?_
      simp only [pickOps, List.getD_cons_succ, List.getD_cons_zero]
      repeat (go_big_quiet_step (fail))
      refine wpQuiet_nil ?_
      refine anyL_last (by kernel_rfl) ?_
      simp only [List.getD_cons_succ, List.getD_cons_zero]
      replace SR := Lib.hid (SR.out.grow E2.out)
      have ⟨c0, c1, c2, c3, c4, c5⟩ := SR.out.et.cells hlt hec
      have ⟨cz, cl⟩ := SR.out.et.frz
      clear po0 po1 pe0 pe1 pe2 pe3 pe4 pe5 pd0 pd1 pd2 pd3 pd4 pd5 hne
      go_wp2
      have ES := Lib.hid (SR.out.et.setAll hlt SE.out)
      have UP : Hid (Upd [g] u2 (put6 u2 g (k * 6) e (.slice n0 e.m.vs.length m0) (.slice n1 e.m.ms.length m1) (.slice n2 e.acts.length m2))) := Lib.hid ((Upd.refl [g] u2).put6 (by simp))
      clear c0 c1 c2 c3 c4 c5 cz cl
      have hw : World.setCell (World.setCell (World.setCell (World.setCell (World.setCell (World.setCell u2 ⟨g, k * 6, none⟩ (.int .i64 e.epoch)) ⟨g, k * 6 + 1, none⟩ (.int .i64 e.prio)) ⟨g, k * 6 + 2, none⟩ (.slice n0 e.m.vs.length m0)) ⟨g, k * 6 + 3, none⟩ (.slice n1 e.m.ms.length m1)) ⟨g, k * 6 + 4, none⟩ (.slice n2 e.acts.length m2)) ⟨g, k * 6 + 5, none⟩ (.int .i64 e.hits) = put6 u2 g (k * 6) e (.slice n0 e.m.vs.length m0) (.slice n1 e.m.ms.length m1) (.slice n2 e.acts.length m2) := rfl
      rw [hw]
      clear hw
      generalize put6 u2 g (k * 6) e (.slice n0 e.m.vs.length m0) (.slice n1 e.m.ms.length m1) (.slice n2 e.acts.length m2) = u3 at *
      refine ⟨trivial, ?_⟩
      have GS2 := Lib.hid (GS.out.set (j := k) GE.out)
      have NG := Lib.hid SR.out.et.own
      have BO := Lib.hid (SR.out.fo.upd UP.out (fun hm => by have := NG.out.2; simp only [List.mem_cons, List.not_mem_nil, or_false] at hm; subst hm; simp at this))
      have BR2 := Lib.hid (SR.out.fr.upd UP.out (fun hm => by have := NG.out.2; simp only [List.mem_cons, List.not_mem_nil, or_false] at hm; subst hm; simp at this))
      have G3 := Lib.hid (SR.out.g.then_upd UP.out (fun x hx => by have := NG.out.1; simp only [List.mem_cons, List.not_mem_nil, or_false] at hx; omega))
      have ⟨o0, o1⟩ := BO.out.two; have oz := BO.out.2.2; have ol := BO.out.1
      have ⟨r0, r1⟩ := BR2.out.two; have rz := BR2.out.2.2; have rl := BR2.out.1
      have n1 : ¬ bo = (w.heap.size + 1 + 1) := by have := S.out.lo; omega
      have n2 : ¬ (w.heap.size + 1 + 1) = bo := by omega
      have HR : Hid (∀ W, Upd [(w.heap.size + 1 + 1)] u3 W → RetTA (2 * es.length + 1) w (.returned (.tuple #[.agg #[.int .i64 cap, .slice (some ⟨g, 0, none⟩) es.length qc_], .int .i64 0])) W) := Lib.hid (fun W hu => retTA G3.out ES.out (by simp) (by omega) GS2.out (by simp; omega) HC.out hu)
      go_wp2
      refine bodyPost_ret (v := .tuple #[.agg #[.int .i64 cap, .slice (some ⟨g, 0, none⟩) es.length qc_], .int .i64 0]) ?_ rfl (HR.out _ ?_)
      · simp [results, Try.results159, go_sem, o0, o1, oz, ol, r0, r1, rz, rl, n1, n2]
      · ((repeat (first | with_reducible exact Upd.refl _ _ | (with_reducible refine Upd.setCell ?_ (by simp) _))))
    · obtain rfl : k = es.length := by omega
      obtain ⟨W2, hW2⟩ : ∃ W2 : World, W2 = wr := ⟨_, rfl⟩
      subst hW2
      have ⟨o0, o1⟩ := SR.out.fo.two; have ol := SR.out.fo.1
      have ⟨t0, t1⟩ := SR.out.bt.two; have tl := SR.out.bt.1
      by_cases hcp : (es.length : Int) = cap
      · have hb : ((es.length : Int) == cap) = true := by simpa using hcp
        have BR := Lib.hid SR.out.fr
        have GZ := Lib.hid SR.out.g
        clear hcp
        have ⟨r0, r1⟩ := BR.out.two; have rz := BR.out.2.2; have rl := BR.out.1
        have HR : Hid (∀ W, Upd [w.heap.size + 1 + 1] W2 W → RetTA (2 * es.length + 1) w (.returned (.tuple #[.agg #[.int .i64 0, .slice none 0 0], .int .i64 2])) W) := Lib.hid (fun W hu => retTA (N := [w.heap.size + 1 + 1]) GZ.out (ET.nil w W2 _) (by simp) (by omega) goodS_nil (by simp) (by unfold I64; omega) hu)
        go_wp2
        refine bodyPost_ret (v := .tuple #[.agg #[.int .i64 0, .slice none 0 0], .int .i64 2]) ?_ rfl (HR.out _ ?_)
        · simp [results, Try.results159, go_sem, r0, r1, rz, rl]
        · ((repeat (first | with_reducible exact Upd.refl _ _ | (with_reducible refine Upd.setCell ?_ (by simp) _))))
      have hb : ((es.length : Int) == cap) = false := by simpa using hcp
      clear hcp
      go_wp2
      have LE0 : Hid (ET w (W2.alloc (.cells #[] 68)) [w.heap.size, (w.heap.size + 1), (w.heap.size + 1 + 1), bo] (.slice (some ⟨W2.heap.size, 0, none⟩) 0 0) [] []) := Lib.hid ⟨own_mono (litA_at 68 6 rfl) SR.out.g.size, fun x hx hm => by
        have h1 := fp1 x hx; have h2 := SR.out.inN x hm; omega, fun j hj => absurd hj (Nat.not_lt_zero _)⟩
      have SW := SR
      have LF0 : Hid (∀ x ∈ fpOf (.slice (some ⟨W2.heap.size, 0, none⟩) 0 0), W2.heap.size ≤ x) := Lib.hid (fun x hx => by have := fp1 x hx; omega)
      have LG0 : Hid (Grow W2 (W2.alloc (.cells #[] 68))) := Lib.hid (Grow.alloc _ _)
      clear o0 o1 ol t0 t1 tl SR HG
      go_loopw [8, 54] (fun q i wr => ∃ (k : Nat) (ls : List EntryD) (cl : List Value), k ≤ es.length ∧ i = .int .i64 k ∧ Grow W2 wr ∧ ET w wr [w.heap.size, (w.heap.size + 1), (w.heap.size + 1 + 1), bo] q ls cl ∧ (∀ x ∈ fpOf q, W2.heap.size ≤ x) ∧ GoodS ls ∧ ls.length ≤ k) (fun _ i _ => es.length - (intOf i).toNat)
      case atStart => exact ⟨0, _, _, Nat.zero_le _, rfl, LG0.out, LE0.out, LF0.out, goodS_nil, Nat.le_refl _⟩
      case round =>
        clear LG0 LE0 LF0
        obtain ⟨k, ls, cl, hk, rfl, hg2, het, hfr, hgs, hll⟩ := hrel
        rename World => wr
        have SR := Lib.hid (SW.out.grow hg2); have LG := Lib.hid hg2; have LE := Lib.hid het; have LF := Lib.hid hfr; have LS := Lib.hid hgs; have LK := Lib.hid hll
        have LB : Hid (ls.length ≤ 2000) := Lib.hid (by omega)
        obtain ⟨la, lc, rfl⟩ := own_shape het.1
        clear hg2 het hfr hgs hll
        by_cases hlt : k < es.length
        · obtain ⟨g, rfl⟩ := own_some SW.out.et.1 (by omega)
          obtain ⟨x0, x1, x2, hec, hsub⟩ := SW.out.et.2.2 k hlt
          obtain ⟨y0, z0, rfl⟩ := own_shape hsub.1
          obtain ⟨y1, z1, rfl⟩ := own_shape hsub.2.1
          obtain ⟨y2, z2, rfl⟩ := own_shape hsub.2.2.1
          have SUB := Lib.hid hsub; clear hsub
          have GD := Lib.hid (GS.out.at hlt)
          generalize hd : es[k] = d at *
          clear hd
          have SUB0 := SUB
          replace SUB := Lib.hid (SUB.out.grow LG.out)
          have hne : Nonempty (Cl (Grow wr)) := ⟨⟨wr, Grow.refl _⟩⟩
          have ⟨po0, po1⟩ := SR.out.fo.two_
          have ⟨pe0, pe1, pe2, pe3, pe4, pe5⟩ := SR.out.fe.six_
          have qc := SR.out.et.cells hlt hec
          have pd0 : ∀ x : Cl (Grow wr), x.w.cell? ⟨g, k * 6, none⟩ = some (.int .i64 d.epoch) := fun x => x.ok.cell qc.1
          have pd1 : ∀ x : Cl (Grow wr), x.w.cell? ⟨g, k * 6 + 1, none⟩ = some (.int .i64 d.prio) := fun x => x.ok.cell qc.2.1
          have pd2 : ∀ x : Cl (Grow wr), x.w.cell? ⟨g, k * 6 + 2, none⟩ = some (.slice y0 d.m.vs.length z0) := fun x => x.ok.cell qc.2.2.1
          have pd3 : ∀ x : Cl (Grow wr), x.w.cell? ⟨g, k * 6 + 3, none⟩ = some (.slice y1 d.m.ms.length z1) := fun x => x.ok.cell qc.2.2.2.1
          have pd4 : ∀ x : Cl (Grow wr), x.w.cell? ⟨g, k * 6 + 4, none⟩ = some (.slice y2 d.acts.length z2) := fun x => x.ok.cell qc.2.2.2.2.1
          have pd5 : ∀ x : Cl (Grow wr), x.w.cell? ⟨g, k * 6 + 5, none⟩ = some (.int .i64 d.hits) := fun x => x.ok.cell qc.2.2.2.2.2
          clear qc
          go_wp2_with fail
          refine wp_region_mix (Cls (Grow wr)) 8 #[false, false, false, false, false, false, false, false] (by kernel_rfl) (by kernel_rfl) ⟨⟨_, Grow.drewN _ 1⟩, rfl⟩ ?_
          refine anyC_seg [0, 1, 2, 3, 4, 5] #[true, true, true, true, true, true, false, false] (fuel := 2) rfl (by kernel_rfl) ⟨⟨_, Grow.drewN _ 1⟩, rfl⟩ ?_
          simp only [pickOps, List.getD_cons_succ, List.getD_cons_zero]
          repeat (go_big_quiet_step (fail))
          refine wpQuiet_nil ?_
          refine anyC_sole 6 #[true, true, true, true, true, true, true, false] (fuel := 1) (by kernel_rfl) ?_
          simp only [List.getD_cons_succ, List.getD_cons_zero]
          go_wp2_with fail
          refine (befS_any _ _ _ e d (HE.out.grow (SR.out.g.trans (Grow.drewN wr 1))) (SUB.out.rd.grow (Grow.drewN wr 1))).mono ?_
          rintro _ u1 ⟨rfl, hg⟩
          have E1 := Lib.hid ((Grow.drewN wr 1).trans hg); clear hg
          go_wp2
          refine ⟨⟨⟨_, E1.out⟩, rfl⟩, ?_⟩
          refine anyC_seg [7] #[true, true, true, true, true, true, true, true] (fuel := 0) rfl (by kernel_rfl) ⟨⟨_, E1.out⟩, rfl⟩ ?_
          simp only [pickOps, List.getD_cons_succ, List.getD_cons_zero]
          repeat (go_big_quiet_step (fail))
          refine wpQuiet_nil ?_
          refine anyC_done (by kernel_rfl) ?_
          clear po0 po1 pe0 pe1 pe2 pe3 pe4 pe5 pd0 pd1 pd2 pd3 pd4 pd5 hne
          replace SR := Lib.hid (SR.out.grow E1.out)
          replace LE := Lib.hid (LE.out.grow E1.out); replace LG := Lib.hid (LG.out.trans E1.out)
          have SUL : Hid (SubOK w u1 (fpOf (.slice la ls.length lc) ++ [w.heap.size, (w.heap.size + 1), (w.heap.size + 1 + 1), bo]) (.slice y0 d.m.vs.length z0) (.slice y1 d.m.ms.length z1) (.slice y2 d.acts.length z2) d) := Lib.hid (SubOK.grow (SUB0.out.more (fun x hx => by
            rcases List.mem_append.1 hx with k | k
            · exact .inr (.inl (LF.out x k))
            · exact .inl (List.mem_append_right _ k))) LG.out)
          generalize hbb : (decide (Bef e d)) = bb at *
          clear hbb
          cases bb
          · have ⟨o0, o1⟩ := SR.out.fo.two; have ol := SR.out.fo.1
            have ⟨c0, c1, c2, c3, c4, c5⟩ := SR.out.et.cells hlt hec
            go_wp2_with (at_builtin; go_loud (refine wpl_append Try.elemEnt rfl _ _ rfl w.heap.size rfl (own_grow LE.out.1 (Grow.alloc _ _)) 1 rfl (rd_built _ _ 6 1 (entC d (.slice y0 d.m.vs.length z0) (.slice y1 d.m.ms.length z1) (.slice y2 d.acts.length z2)) rfl (by decide)) rfl (entC_one _ _ _ _ _ _ _ _ _ _) (by have := LB.out; omega) (by have := LB.out; unfold maxLen; omega) (by have := SW.out.g.size; have := LG.out.size; simp only [World.alloc, Array.size_push]; omega) ?_); intro v9 w9 hown hgr hmv; go_loud (have EL := Lib.hid (LE.out.app SUL.out (fun x hx => Nat.lt_of_lt_of_le (SW.out.inN x hx) LG.out.size) hown hgr hmv)); go_loud (have FL := Lib.hid (moved_from LF.out LG.out.size hmv)); go_loud (have GL := Lib.hid ((LG.out.trans (Grow.alloc _ _)).then_upd (Upd.of_grown hgr) LF.out)); go_loud (have SL := Lib.hid (LS.out.onto GD.out)); go_loud (clear hown hgr hmv; clear LE LF LG LS))
            clear o0 o1 ol c0 c1 c2 c3 c4 c5
            go_roundw
            case rel => exact ⟨k + 1, _, _, by omega, by go_num, GL.out, EL.out, FL.out, SL.out, by have := LK.out; simp; omega⟩
            case measure => simp [intOf]; omega
          · go_wp2
            go_roundw
            case rel => exact ⟨k + 1, _, _, by omega, by go_num, LG.out, LE.out, LF.out, LS.out, by have := LK.out; omega⟩
            case measure => simp [intOf]; omega
        · obtain rfl : k = es.length := by omega
          have ⟨b0, b1, b2, b3, b4, b5⟩ := SR.out.fe.six
          have bl := SR.out.fe.1
          go_wp2_with fail
          clear b0 b1 b2 b3 b4 b5 bl
          refine (l07Entry_any _ _ e (HE.out.grow SR.out.g) GE.out.sm).mono ?_
          rintro _ u2 ⟨V, fe, rfl, ho, hf, hg⟩
          obtain ⟨v0, v1, v2, f0, f1, f2, rfl, q0, q1, q2, -⟩ := id ho
          obtain ⟨n0, m0, rfl⟩ := own_shape q0.1
          obtain ⟨n1, m1, rfl⟩ := own_shape q1.1
          obtain ⟨n2, m2, rfl⟩ := own_shape q2.1
          clear q0 q1 q2
          have SUL : Hid (SubOK w u2 (fpOf (.slice la ls.length lc) ++ [w.heap.size, (w.heap.size + 1), (w.heap.size + 1 + 1), bo]) (.slice n0 e.m.vs.length m0) (.slice n1 e.m.ms.length m1) (.slice n2 e.acts.length m2) e) := Lib.hid (SubOK.of ho (fun x hx => Nat.le_trans SR.out.g.size (hf x hx)) _ (fun x hx hm => by
            have h1 := hf x hx
            rcases List.mem_append.1 hm with k | k
            · have h2 := (own_new_ LE.out.1 x k).2; omega
            · have h2 := SR.out.inN x k; omega))
          replace SR := Lib.hid (SR.out.grow hg); replace LE := Lib.hid (LE.out.grow hg); replace LG := Lib.hid (LG.out.trans hg)
          clear ho hf hg
          have ⟨o0, o1⟩ := (SR.out.grow (Grow.alloc u2 (.cells (entC e (.slice n0 e.m.vs.length m0) (.slice n1 e.m.ms.length m1) (.slice n2 e.acts.length m2)).toArray 68))).fo.two
          clear o0 o1
          go_wp2_with (at_builtin; go_loud (refine wpl_append Try.elemEnt rfl _ _ rfl w.heap.size rfl (own_grow LE.out.1 (Grow.alloc _ _)) 1 rfl (rd_built _ _ 6 1 (entC e (.slice n0 e.m.vs.length m0) (.slice n1 e.m.ms.length m1) (.slice n2 e.acts.length m2)) rfl (by decide)) rfl (entC_one _ _ _ _ _ _ _ _ _ _) (by have := LB.out; omega) (by have := LB.out; unfold maxLen; omega) (by have := SW.out.g.size; have := LG.out.size; simp only [World.alloc, Array.size_push]; omega) ?_); intro v9 w9 hown hgr hmv; go_loud (have EL := Lib.hid (LE.out.app SUL.out (fun x hx => Nat.lt_of_lt_of_le (SW.out.inN x hx) LG.out.size) hown hgr hmv)); go_loud (have FL := Lib.hid (moved_from LF.out LG.out.size hmv)); go_loud (have GL := Lib.hid ((LG.out.trans (Grow.alloc _ _)).then_upd (Upd.of_grown hgr) LF.out)); go_loud (have SL := Lib.hid (LS.out.onto GE.out)); go_loud (clear hown hgr hmv; clear LE LF LG LS); have ⟨o0, o1⟩ := (SW.out.grow GL.out).fo.two; have ol := (SW.out.grow GL.out).fo.1)
          clear o0 o1 ol
          go_loopw [8, 82] (fun q i wr => ∃ (k : Nat) (ls : List EntryD) (cl : List Value), k ≤ es.length ∧ i = .int .i64 k ∧ Grow W2 wr ∧ ET w wr [w.heap.size, (w.heap.size + 1), (w.heap.size + 1 + 1), bo] q ls cl ∧ (∀ x ∈ fpOf q, W2.heap.size ≤ x) ∧ GoodS ls ∧ ls.length ≤ es.length + 1 + k) (fun _ i _ => es.length - (intOf i).toNat)
          case atStart => exact ⟨0, _, _, Nat.zero_le _, rfl, GL.out, EL.out, FL.out, SL.out, by have := LK.out; simp; omega⟩
          case round =>
            clear GL EL FL SL LK
            obtain ⟨k, ls, cl, hk, rfl, hg2, het, hfr, hgs, hll⟩ := hrel
            rename World => wr
            have SR := Lib.hid (SW.out.grow hg2); have LG := Lib.hid hg2; have LE := Lib.hid het; have LF := Lib.hid hfr; have LS := Lib.hid hgs; have LK := Lib.hid hll
            have LB : Hid (ls.length ≤ 2000) := Lib.hid (by omega)
            obtain ⟨la, lc, rfl⟩ := own_shape het.1
            clear hg2 het hfr hgs hll
            by_cases hlt : k < es.length
            · obtain ⟨g, rfl⟩ := own_some SW.out.et.1 (by omega)
              obtain ⟨x0, x1, x2, hec, hsub⟩ := SW.out.et.2.2 k hlt
              obtain ⟨y0, z0, rfl⟩ := own_shape hsub.1
              obtain ⟨y1, z1, rfl⟩ := own_shape hsub.2.1
              obtain ⟨y2, z2, rfl⟩ := own_shape hsub.2.2.1
              have SUB := Lib.hid hsub; clear hsub
              have GD := Lib.hid (GS.out.at hlt)
              generalize hd : es[k] = d at *
              clear hd
              have SUB0 := SUB
              replace SUB := Lib.hid (SUB.out.grow LG.out)
              have hne : Nonempty (Cl (Grow wr)) := ⟨⟨wr, Grow.refl _⟩⟩
              have ⟨po0, po1⟩ := SR.out.fo.two_
              have ⟨pe0, pe1, pe2, pe3, pe4, pe5⟩ := SR.out.fe.six_
              have qc := SR.out.et.cells hlt hec
              have pd0 : ∀ x : Cl (Grow wr), x.w.cell? ⟨g, k * 6, none⟩ = some (.int .i64 d.epoch) := fun x => x.ok.cell qc.1
              have pd1 : ∀ x : Cl (Grow wr), x.w.cell? ⟨g, k * 6 + 1, none⟩ = some (.int .i64 d.prio) := fun x => x.ok.cell qc.2.1
              have pd2 : ∀ x : Cl (Grow wr), x.w.cell? ⟨g, k * 6 + 2, none⟩ = some (.slice y0 d.m.vs.length z0) := fun x => x.ok.cell qc.2.2.1
              have pd3 : ∀ x : Cl (Grow wr), x.w.cell? ⟨g, k * 6 + 3, none⟩ = some (.slice y1 d.m.ms.length z1) := fun x => x.ok.cell qc.2.2.2.1
              have pd4 : ∀ x : Cl (Grow wr), x.w.cell? ⟨g, k * 6 + 4, none⟩ = some (.slice y2 d.acts.length z2) := fun x => x.ok.cell qc.2.2.2.2.1
              have pd5 : ∀ x : Cl (Grow wr), x.w.cell? ⟨g, k * 6 + 5, none⟩ = some (.int .i64 d.hits) := fun x => x.ok.cell qc.2.2.2.2.2
              clear qc
              go_wp2_with fail
              refine wp_region_mix (Cls (Grow wr)) 7 #[false, false, false, false, false, false, false] (by kernel_rfl) (by kernel_rfl) ⟨⟨_, Grow.drewN _ 1⟩, rfl⟩ ?_
              refine anyC_seg [0, 1, 2, 3, 4, 5] #[true, true, true, true, true, true, false] (fuel := 1) rfl (by kernel_rfl) ⟨⟨_, Grow.drewN _ 1⟩, rfl⟩ ?_
              simp only [pickOps, List.getD_cons_succ, List.getD_cons_zero]
              repeat (go_big_quiet_step (fail))
              refine wpQuiet_nil ?_
              refine anyC_sole 6 #[true, true, true, true, true, true, true] (fuel := 0) (by kernel_rfl) ?_
              simp only [List.getD_cons_succ, List.getD_cons_zero]
              go_wp2_with fail
              refine (befS_any _ _ _ e d (HE.out.grow (SR.out.g.trans (Grow.drewN wr 1))) (SUB.out.rd.grow (Grow.drewN wr 1))).mono ?_
              rintro _ u1 ⟨rfl, hg⟩
              have E1 := Lib.hid ((Grow.drewN wr 1).trans hg); clear hg
              go_wp2
              refine ⟨⟨⟨_, E1.out⟩, rfl⟩, ?_⟩
              refine anyC_done (by kernel_rfl) ?_
              clear po0 po1 pe0 pe1 pe2 pe3 pe4 pe5 pd0 pd1 pd2 pd3 pd4 pd5 hne
              replace SR := Lib.hid (SR.out.grow E1.out)
              replace LE := Lib.hid (LE.out.grow E1.out); replace LG := Lib.hid (LG.out.trans E1.out)
              have SUL : Hid (SubOK w u1 (fpOf (.slice la ls.length lc) ++ [w.heap.size, (w.heap.size + 1), (w.heap.size + 1 + 1), bo]) (.slice y0 d.m.vs.length z0) (.slice y1 d.m.ms.length z1) (.slice y2 d.acts.length z2) d) := Lib.hid (SubOK.grow (SUB0.out.more (fun x hx => by
                rcases List.mem_append.1 hx with k | k
                · exact .inr (.inl (LF.out x k))
                · exact .inl (List.mem_append_right _ k))) LG.out)
              generalize hbb : (decide (Bef e d)) = bb at *
              clear hbb
              cases bb
              · go_wp2
                go_roundw
                case rel => exact ⟨k + 1, _, _, by omega, by go_num, LG.out, LE.out, LF.out, LS.out, by have := LK.out; omega⟩
                case measure => simp [intOf]; omega
              · have ⟨o0, o1⟩ := SR.out.fo.two; have ol := SR.out.fo.1
                have ⟨c0, c1, c2, c3, c4, c5⟩ := SR.out.et.cells hlt hec
                go_wp2_with (at_builtin; go_loud (refine wpl_append Try.elemEnt rfl _ _ rfl w.heap.size rfl (own_grow LE.out.1 (Grow.alloc _ _)) 1 rfl (rd_built _ _ 6 1 (entC d (.slice y0 d.m.vs.length z0) (.slice y1 d.m.ms.length z1) (.slice y2 d.acts.length z2)) rfl (by decide)) rfl (entC_one _ _ _ _ _ _ _ _ _ _) (by have := LB.out; omega) (by have := LB.out; unfold maxLen; omega) (by have := SW.out.g.size; have := LG.out.size; simp only [World.alloc, Array.size_push]; omega) ?_); intro v9 w9 hown hgr hmv; go_loud (have EL := Lib.hid (LE.out.app SUL.out (fun x hx => Nat.lt_of_lt_of_le (SW.out.inN x hx) LG.out.size) hown hgr hmv)); go_loud (have FL := Lib.hid (moved_from LF.out LG.out.size hmv)); go_loud (have GL := Lib.hid ((LG.out.trans (Grow.alloc _ _)).then_upd (Upd.of_grown hgr) LF.out)); go_loud (have SL := Lib.hid (LS.out.onto GD.out)); go_loud (clear hown hgr hmv; clear LE LF LG LS))
                clear o0 o1 ol c0 c1 c2 c3 c4 c5
                go_roundw
                case rel => exact ⟨k + 1, _, _, by omega, by go_num, GL.out, EL.out, FL.out, SL.out, by have := LK.out; simp; omega⟩
                case measure => simp [intOf]; omega
            · obtain rfl : k = es.length := by omega
              have ⟨o0, o1⟩ := SR.out.fo.two; have oz := SR.out.fo.2.2; have ol := SR.out.fo.1
              have ⟨r0, r1⟩ := SR.out.fr.two; have rz := SR.out.fr.2.2; have rl := SR.out.fr.1
              have n1 : ¬ bo = (w.heap.size + 1 + 1) := by have := S.out.lo; omega
              have n2 : ¬ (w.heap.size + 1 + 1) = bo := by omega
              have UB : Hid (Upd [bo] wr (wr.setCell ⟨bo, 1, none⟩ (.slice la ls.length lc))) := Lib.hid (Upd.setCell (p := ⟨bo, 1, none⟩) (Upd.refl [bo] wr) (by simp) _)
              have HR : Hid (∀ W, Upd [(w.heap.size + 1 + 1)] (wr.setCell ⟨bo, 1, none⟩ (.slice la ls.length lc)) W → RetTA (2 * es.length + 1) w (.returned (.tuple #[.agg #[.int .i64 cap, .slice la ls.length lc], .int .i64 0])) W) := Lib.hid (fun W hu => retTA (SR.out.g.then_upd UB.out (fun x hx => by have := S.out.lo; simp only [List.mem_cons, List.not_mem_nil, or_false] at hx; omega)) (LE.out.upd UB.out (fun x hx => .inl (by simp only [List.mem_cons, List.not_mem_nil, or_false] at hx; subst hx; simp))) (by simp) (by omega) LS.out (by have := LK.out; omega) HC.out hu)
              go_wp2
              refine bodyPost_ret (v := .tuple #[.agg #[.int .i64 cap, .slice la ls.length lc], .int .i64 0]) ?_ rfl (HR.out _ ?_)
              · simp [results, Try.results159, go_sem, o0, o1, oz, ol, r0, r1, rz, rl, n1, n2]
              · ((repeat (first | with_reducible exact Upd.refl _ _ | (with_reducible refine Upd.setCell ?_ (by simp) _))))
--%
end Go.Proofs.Ytgigdpdmdldhnaa
