/- Copies of tables: contracts (printed by gcp3.py). -/
import Derived.Test.YtgigdpdmdldhnaaCp2
import Derived.WalkKit
import Derived.ProofKit
import Derived.Deep.QuietTactic
import Derived.BigQuiet
import Derived.Outline
import Derived.WalkSpells
namespace Go.Proofs.Ytgigdpdmdldhnaa
open Go.ChangeShapes Go.WideShapes Go.ChangeAt Go.RowKit
set_option linter.unusedVariables false
set_option linter.unusedSimpArgs false
--%
theorem AccEF.nil {w W : World} (g : Grow w W) : AccEF w W (.slice none 0 0) [] [] (fun _ => []) :=
  ⟨g, ⟨World.ownsRow_nil _ _ _ _, fun j hj => absurd hj (Nat.not_lt_zero _), fun j hj => absurd hj (Nat.not_lt_zero _), fun i j _ hj => absurd hj (Nat.not_lt_zero _)⟩, by simp [Fresh, allF, fpOf, Value.ownBlock], World.ownsRow_nil _ _ _ _⟩
/-- A table under construction: the entries gathered, and the boxes around, none of them touched by an append. -/
structure CpT (w W : World) (bp br bo : Nat) (tc rc : List Value) (cap : Int) (q : Value) (es : List EntryD) (cs : List Value) (F : Nat → List Nat) : Prop where
  acc : AccEF w W q es cs F
  out : Box W bo [.int .i64 cap, q]
  par : Box W bp tc
  res : Box W br rc
  off : ∀ b ∈ [bp, br, bo], b ∉ allF q F es.length
  apart : bp ≠ bo ∧ br ≠ bo ∧ w.heap.size ≤ bo
theorem CpT.grow {w W W' : World} {bp br bo : Nat} {tc rc : List Value} {cap : Int} {q : Value} {es : List EntryD} {cs : List Value} {F : Nat → List Nat} (h : CpT w W bp br bo tc rc cap q es cs F) (g : Grow W W') : CpT w W' bp br bo tc rc cap q es cs F :=
  ⟨h.acc.grow g, h.out.grow g, h.par.grow g, h.res.grow g, h.off, h.apart⟩
theorem CpT.onto {w W W' : World} {bp br bo : Nat} {tc rc : List Value} {cap : Int} {q q' : Value} {es : List EntryD} {cs : List Value} {F : Nat → List Nat} {e : EntryD} {x0 x1 x2 : Value} {fe : List Nat} (h : CpT w W bp br bo tc rc cap q es cs F)
    (he : OwnE2 W (.agg #[.int .i64 e.epoch, .int .i64 e.prio, x0, x1, x2, .int .i64 e.hits]) e fe) {W1 : World} (hfe : Fresh W1 fe) (h1 : CpT w W1 bp br bo tc rc cap q es cs F)
    (ho : W'.ownsRow w.heap.size 68 6 q' (es.length + 1) (cs ++ entC e x0 x1 x2)) (hg : W.grownBy W' q.ownBlock) (hm : Moved W q q') :
    CpT w (W'.setCell ⟨bo, 1, none⟩ q') bp br bo tc rc cap q' (es ++ [e]) (cs ++ entC e x0 x1 x2) (fun j => if j = es.length then fe else F j) := by
  have hall : ∀ x ∈ allF q F es.length, x < W1.heap.size := fun x hx => h1.acc.here x hx
  have hd : ∀ x ∈ allF q F es.length, x ∉ fe := fun x hx hm => by have h2 := hall x hx; have h3 := hfe x hm; omega
  have a := h.acc.onto_ he (fun x hx => Nat.le_trans h1.acc.1.size (hfe x hx)) hd ho hg hm
  have u := Upd.of_grown hg
  have hl : (es ++ [e]).length = es.length + 1 := by simp
  have nf : ∀ b, b ∈ [bp, br, bo] → b < W1.heap.size → b < W.heap.size → b ∉ allF q' (fun j => if j = es.length then fe else F j) (es ++ [e]).length := fun b hb h2 h3 hx => by
    rw [hl] at hx
    rcases allF_onto hm hx with h4 | h4 | h4
    · exact h.off b hb h4
    · have := hfe b h4; omega
    · omega
  have fq : ∀ b, b ∈ [bp, br, bo] → b ∉ fpOf q := fun b hb hx => h.off b hb (mem_allF.2 (.inl hx))
  have u2 : Upd [bo] W' (W'.setCell ⟨bo, 1, none⟩ q') := Upd.setCell (p := ⟨bo, 1, none⟩) (Upd.refl [bo] W') (by simp) q'
  refine ⟨a.upd u2 (fun x hx => ?_) (fun x hx hm => ?_), (h.out.upd u (fq bo (by simp))).set 1 q' (by simp), (h.par.upd u (fq bp (by simp))).upd u2 (fun hm => ?_), (h.res.upd u (fq br (by simp))).upd u2 (fun hm => ?_), fun b hb => ?_, h.apart⟩
  · simp only [List.mem_cons, List.not_mem_nil, or_false] at hx; subst hx; exact h.apart.2.2
  · simp only [List.mem_cons, List.not_mem_nil, or_false] at hm; subst hm; exact nf _ (by simp) h1.out.1 h.out.1 hx
  · simp only [List.mem_cons, List.not_mem_nil, or_false] at hm; exact h.apart.1 hm
  · simp only [List.mem_cons, List.not_mem_nil, or_false] at hm; exact h.apart.2.1 hm
  · have hb' := hb
    simp only [List.mem_cons, List.not_mem_nil, or_false] at hb
    rcases hb with rfl | rfl | rfl
    · exact nf _ hb' h1.par.1 h.par.1
    · exact nf _ hb' h1.res.1 h.res.1
    · exact nf _ hb' h1.out.1 h.out.1
theorem CpT.ret {w W W' : World} {bp br bo : Nat} {tc rc : List Value} {cap : Int} {q : Value} {es : List EntryD} {cs : List Value} {F : Nat → List Nat} (h : CpT w W bp br bo tc rc cap q es cs F) (u : Upd [br] W W') (hb : w.heap.size ≤ br) : RetNew OwnT2 ⟨cap, es⟩ w (.returned (.agg #[.int .i64 cap, q])) W' := by
  have a := h.acc.upd u (fun x hx => by simp only [List.mem_cons, List.not_mem_nil, or_false] at hx; omega) (fun x hx hm => by simp only [List.mem_cons, List.not_mem_nil, or_false] at hm; subst hm; exact h.off x (by simp) hx)
  exact ⟨_, _, rfl, ⟨_, rfl, cs, F, a.2.1, rfl⟩, a.2.2.1, a.1⟩
--% copyTable 113
set_option maxHeartbeats 2000000 in
theorem copyTable_any (w : World) (V : Value) (d : TableD) (h : RdT w V d) (sm : SmT d) : Calls Try.prog 113 #[V] w (RetNew OwnT2 d w) := by
  obtain ⟨v0, rfl, hv⟩ := h
  obtain ⟨a, c, rfl, hlc, hm, hn, hel⟩ := hv
  have H := Lib.hid hel
  clear hel hn
  obtain ⟨cap, es⟩ := d
  simp only at hlc hm H ⊢
  have HS : Hid (SmES es) := Lib.hid sm
  have hdl : es.length ≤ 1048576 := by have := sumE_nn es; unfold SmT sizeT sizeES at sm; simp only at sm; omega
  clear sm
  unfold maxLen at hm
  go_enter Try.func113, Try.ntmps113
  go_wp2
  have ST : Hid (CpT w (((w.alloc (.cells #[Value.int .i64 cap, .slice a es.length c] 79)).alloc (.cells #[Value.int .i64 0, .slice none 0 0] 79)).alloc (.cells #[Value.int .i64 cap, .slice none 0 0] 79)) w.heap.size (w.heap.size + 1) (w.heap.size + 1 + 1) [Value.int .i64 cap, .slice a es.length c] [Value.int .i64 0, .slice none 0 0] cap (.slice none 0 0) [] [] (fun _ => [])) := Lib.hid (by
    have b0 := (Box.alloc w [Value.int .i64 cap, .slice a es.length c] 79).grow (W' := (((w.alloc (.cells #[Value.int .i64 cap, .slice a es.length c] 79)).alloc (.cells #[Value.int .i64 0, .slice none 0 0] 79)).alloc (.cells #[Value.int .i64 cap, .slice none 0 0] 79))) ((Grow.alloc _ _).trans (Grow.alloc _ _))
    have b1 := ((Box.alloc (w.alloc (.cells #[Value.int .i64 cap, .slice a es.length c] 79)) [Value.int .i64 0, .slice none 0 0] 79).at_ (b' := w.heap.size + 1) (by simp only [World.alloc, Array.size_push])).grow (W' := (((w.alloc (.cells #[Value.int .i64 cap, .slice a es.length c] 79)).alloc (.cells #[Value.int .i64 0, .slice none 0 0] 79)).alloc (.cells #[Value.int .i64 cap, .slice none 0 0] 79))) (Grow.alloc _ _)
    have b2 := (Box.alloc ((w.alloc (.cells #[Value.int .i64 cap, .slice a es.length c] 79)).alloc (.cells #[Value.int .i64 0, .slice none 0 0] 79)) [Value.int .i64 cap, .slice none 0 0] 79).at_ (b' := (w.heap.size + 1 + 1)) (by simp only [World.alloc, Array.size_push])
    refine ⟨AccEF.nil ((Grow.alloc _ _).trans ((Grow.alloc _ _).trans (Grow.alloc _ _))), b2, b0, b1, by simp [allF, fpOf, Value.ownBlock], by omega, by omega, by omega⟩)
  generalize (((w.alloc (.cells #[Value.int .i64 cap, .slice a es.length c] 79)).alloc (.cells #[Value.int .i64 0, .slice none 0 0] 79)).alloc (.cells #[Value.int .i64 cap, .slice none 0 0] 79)) = W0 at *
  generalize hbo : (w.heap.size + 1 + 1) = bo at *
  clear hbo
  go_loopw [12] (fun i wr => ∃ (k : Nat) (q : Value) (cs : List Value) (F : Nat → List Nat), k ≤ es.length ∧ i = .int .i64 k ∧ CpT w wr w.heap.size (w.heap.size + 1) bo [Value.int .i64 cap, .slice a es.length c] [Value.int .i64 0, .slice none 0 0] cap q (es.take k) cs F) (fun i _ => es.length - (intOf i).toNat)
  case atStart => exact ⟨0, _, _, _, Nat.zero_le _, rfl, ST.out⟩
  case round =>
    obtain ⟨k, q, cs, F, hk, rfl, hst⟩ := hrel
    rename World => wr
    have ST := Lib.hid hst
    have HG := Lib.hid hst.acc.1
    by_cases hlt : k < es.length
    · obtain ⟨b, off, v0, v1, v2, rfl, he⟩ := H.out k hlt
      have SM := Lib.hid (HS.out.at hlt)
      have HT1 : Hid (es.take (k + 1) = es.take k ++ [es[k]]) := Lib.hid (List.take_succ_eq_append_getElem hlt)
      have hkl : (es.take k).length ≤ 1048576 := by simp; omega
      have HE := Lib.hid (he.grow HG.out)
      obtain ⟨a3, k3, rfl⟩ := RdN.sh he.2.2.2.2.2.2.1
      obtain ⟨a4, k4, rfl⟩ := RdN.sh he.2.2.2.2.2.2.2.1
      obtain ⟨a5, k5, rfl⟩ := RdA.sh he.2.2.2.2.2.2.2.2
      generalize es[k] = e at *
      generalize es.take k = ek at *
      obtain ⟨qa, qc, rfl⟩ := own_shape hst.acc.2.2.2
      have s0 := HE.out.1; have s1 := HE.out.2.1; have s2 := HE.out.2.2.1; have s3 := HE.out.2.2.2.1; have s4 := HE.out.2.2.2.2.1; have s5 := HE.out.2.2.2.2.2.1
      clear he hst
      go_wp2_with fail
      have BE := Lib.hid (Box.alloc wr [Value.int .i64 e.epoch, .int .i64 e.prio, .slice a3 e.m.vs.length k3, .slice a4 e.m.ms.length k4, .slice a5 e.acts.length k5, .int .i64 e.hits] 68)
      have GE := Lib.hid (Grow.alloc wr (.cells #[Value.int .i64 e.epoch, .int .i64 e.prio, .slice a3 e.m.vs.length k3, .slice a4 e.m.ms.length k4, .slice a5 e.acts.length k5, .int .i64 e.hits] 68))
      generalize wr.alloc (.cells #[Value.int .i64 e.epoch, .int .i64 e.prio, .slice a3 e.m.vs.length k3, .slice a4 e.m.ms.length k4, .slice a5 e.acts.length k5, .int .i64 e.hits] 68) = wE at *
      have BE : Hid (Box wE wr.heap.size [Value.int .i64 e.epoch, .int .i64 e.prio, .slice a3 e.m.vs.length k3, .slice a4 e.m.ms.length k4, .slice a5 e.acts.length k5, .int .i64 e.hits]) := BE
      have BL : Hid (wr.heap.size ≤ wr.heap.size) := Lib.hid (Nat.le_refl _)
      generalize hbe : wr.heap.size = be at *
      have BL : Hid (wr.heap.size ≤ be) := Lib.hid (Nat.le_of_eq hbe)
      clear hbe
      obtain ⟨C, hC⟩ : ∃ C : World → Prop, C = fun W => Box W bo [.int .i64 cap, .slice qa ek.length qc] ∧ Box W be [Value.int .i64 e.epoch, .int .i64 e.prio, .slice a3 e.m.vs.length k3, .slice a4 e.m.ms.length k4, .slice a5 e.acts.length k5, .int .i64 e.hits] ∧ Grow w W := ⟨_, rfl⟩
      have CC : Hid (∀ W, C W → Box W bo [.int .i64 cap, .slice qa ek.length qc] ∧ Box W be [Value.int .i64 e.epoch, .int .i64 e.prio, .slice a3 e.m.vs.length k3, .slice a4 e.m.ms.length k4, .slice a5 e.acts.length k5, .int .i64 e.hits] ∧ Grow w W) := Lib.hid (fun W h => by rw [hC] at h; exact h)
      have MK : Hid (∀ W, (Box W bo [.int .i64 cap, .slice qa ek.length qc] ∧ Box W be [Value.int .i64 e.epoch, .int .i64 e.prio, .slice a3 e.m.vs.length k3, .slice a4 e.m.ms.length k4, .slice a5 e.acts.length k5, .int .i64 e.hits] ∧ Grow w W) → C W) := Lib.hid (fun W h => by rw [hC]; exact h)
      clear hC
      have c0 : Hid (C (wE.drewN 1)) := Lib.hid (MK.out _ ⟨(ST.out.grow (GE.out.trans (Grow.drewN _ 1))).out, BE.out.grow (Grow.drewN _ 1), HG.out.trans (GE.out.trans (Grow.drewN _ 1))⟩)
      have hne : Nonempty (Cl C) := ⟨⟨_, c0.out⟩⟩
      have p1 : ∀ x : Cl C, x.w.cell? ⟨bo, 1, none⟩ = some (.slice qa ek.length qc) := fun x => (CC.out x.w x.ok).1.two.2
      have e0 : ∀ x : Cl C, x.w.cell? ⟨be, 0, none⟩ = some (.int .i64 e.epoch) := fun x => (CC.out x.w x.ok).2.1.six.1
      have e1 : ∀ x : Cl C, x.w.cell? ⟨be, 1, none⟩ = some (.int .i64 e.prio) := fun x => (CC.out x.w x.ok).2.1.six.2.1
      have e2 : ∀ x : Cl C, x.w.cell? ⟨be, 2, none⟩ = some (.slice a3 e.m.vs.length k3) := fun x => (CC.out x.w x.ok).2.1.six.2.2.1
      have e3 : ∀ x : Cl C, x.w.cell? ⟨be, 3, none⟩ = some (.slice a4 e.m.ms.length k4) := fun x => (CC.out x.w x.ok).2.1.six.2.2.2.1
      have e4 : ∀ x : Cl C, x.w.cell? ⟨be, 4, none⟩ = some (.slice a5 e.acts.length k5) := fun x => (CC.out x.w x.ok).2.1.six.2.2.2.2.1
      have e5 : ∀ x : Cl C, x.w.cell? ⟨be, 5, none⟩ = some (.int .i64 e.hits) := fun x => (CC.out x.w x.ok).2.1.six.2.2.2.2.2
      clear s0 s1 s2 s3 s4 s5
      refine wp_region_last (Cls C) 7 8 #[false, false, false, false, false, false, false, false] (by kernel_rfl) (by kernel_rfl) ?_
      refine anyL_seg [0, 1, 2] #[true, true, true, false, false, false, false, false] (fuel := 5) rfl (by kernel_rfl) ⟨⟨_, c0.out⟩, rfl⟩ ?_
      simp only [pickOps, List.getD_cons_succ, List.getD_cons_zero]
      repeat (go_big_quiet_step (fail))
      refine wpQuiet_nil ?_
      refine anyL_sole 3 #[true, true, true, true, false, false, false, false] (fuel := 4) (by kernel_rfl) ?_
      simp only [List.getD_cons_succ, List.getD_cons_zero]
      go_wp2_with fail
      refine (copyEntry_any _ _ e (HE.out.rd.grow (GE.out.trans (Grow.drewN wE 1))) SM.out).mono ?_
      rintro _ w1 ⟨V, fe, rfl, ho, hf, hg⟩
      have ho' := ho
      obtain ⟨u0, u1, u2, f0, f1, f2, rfl, o0, o1, o2, -⟩ := ho'
      obtain ⟨n0, m0, rfl⟩ := own_shape o0.1
      obtain ⟨n1, m1, rfl⟩ := own_shape o1.1
      obtain ⟨n2, m2, rfl⟩ := own_shape o2.1
      have OE := Lib.hid ho; have FE := Lib.hid hf
      have T1 := Lib.hid ((ST.out.grow (GE.out.trans (Grow.drewN wE 1))).grow hg)
      have TF := Lib.hid (ST.out.grow (GE.out.trans (Grow.drewN wE 1)))
      have c1 : Hid (C w1) := Lib.hid (have := CC.out _ c0.out; MK.out _ ⟨this.1.grow hg, this.2.1.grow hg, this.2.2.trans hg⟩)
      clear ho hf hg o0 o1 o2
      go_wp2
      refine ⟨⟨⟨_, c1.out⟩, rfl⟩, ?_⟩
      refine anyL_sole 4 #[true, true, true, true, true, false, false, false] (fuel := 3) (by kernel_rfl) ?_
      simp only [List.getD_cons_succ, List.getD_cons_zero]
      go_wp2
      have T2 := Lib.hid (T1.out.grow (Grow.alloc w1 (.cells (entC e (.slice n0 e.m.vs.length m0) (.slice n1 e.m.ms.length m1) (.slice n2 e.acts.length m2)).toArray 68)))
      have OE2 := Lib.hid (OE.out.grow (Grow.alloc w1 (.cells (entC e (.slice n0 e.m.vs.length m0) (.slice n1 e.m.ms.length m1) (.slice n2 e.acts.length m2)).toArray 68)))
      have c2 : Hid (C (w1.alloc (.cells (entC e (.slice n0 e.m.vs.length m0) (.slice n1 e.m.ms.length m1) (.slice n2 e.acts.length m2)).toArray 68))) := Lib.hid (have := CC.out _ c1.out; MK.out _ ⟨this.1.grow (Grow.alloc _ _), this.2.1.grow (Grow.alloc _ _), this.2.2.trans (Grow.alloc _ _)⟩)
      refine ⟨⟨⟨_, c2.out⟩, rfl⟩, ?_⟩
      refine anyL_sole 5 #[true, true, true, true, true, true, false, false] (fuel := 2) (by kernel_rfl) ?_
      simp only [List.getD_cons_succ, List.getD_cons_zero]
      go_wp2_with (at_builtin; refine wpl_append Try.elemEnt rfl _ _ rfl w.heap.size rfl T2.out.acc.2.2.2 1 rfl (rd_built _ _ 6 1 (entC e (.slice n0 e.m.vs.length m0) (.slice n1 e.m.ms.length m1) (.slice n2 e.acts.length m2)) rfl (by decide)) rfl (entC_one e _ _ _ _ _ _ _ _ _) (by omega) (by unfold maxLen; omega) T2.out.acc.1.size ?_; intro v5 w5 hown hgr hmv)
      have TZ := Lib.hid (T2.out.onto OE2.out FE.out TF.out hown hgr hmv)
      obtain ⟨za, zc, rfl⟩ := own_shape hown
      have BZ := Lib.hid (T2.out.out.upd (Upd.of_grown hgr) (fun hx => T2.out.off bo (by simp) (mem_allF.2 (.inl hx))))
      have c3 : Hid (C w5) := Lib.hid (by
        have := CC.out _ c2.out
        exact MK.out _ ⟨BZ.out, this.2.1.upd (Upd.of_grown hgr) (fun hx => by have h1 := ST.out.acc.here be (mem_allF.2 (.inl hx)); have h2 := BL.out; omega), T2.out.acc.1.then_upd (Upd.of_grown hgr) (fun x hx => T2.out.acc.2.2.1 x (mem_allF.2 (.inl hx)))⟩)
      clear hown hgr hmv
      refine ⟨⟨⟨_, c3.out⟩, rfl⟩, ?_⟩
      refine anyL_seg [6] #[true, true, true, true, true, true, true, false] (fuel := 1) rfl (by kernel_rfl) ⟨⟨_, c3.out⟩, rfl⟩ ?_
      simp only [pickOps, List.getD_cons_succ, List.getD_cons_zero]
      repeat (go_big_quiet_step (fail))
      refine wpQuiet_nil ?_
      refine anyL_last (by kernel_rfl) ?_
      simp only [List.getD_cons_succ, List.getD_cons_zero]
      have ⟨y0, y1⟩ := BZ.out.two
      have yl := BZ.out.1
      have yz := BZ.out.2.2
      clear p1 e0 e1 e2 e3 e4 e5
      go_wp2
      refine ⟨trivial, ?_⟩
      go_wp2
      go_roundw
      case rel => exact ⟨k + 1, _, _, _, by omega, by go_num, by rw [HT1.out]; exact TZ.out⟩
      case measure => simp [intOf]; omega
    · obtain rfl : k = es.length := by omega
      have TZ : Hid (CpT w wr w.heap.size (w.heap.size + 1) bo [Value.int .i64 cap, .slice a es.length c] [Value.int .i64 0, .slice none 0 0] cap q es cs F) := Lib.hid (by have := ST.out; rwa [List.take_of_length_le (Nat.le_refl _)] at this)
      obtain ⟨qa, qc, rfl⟩ := own_shape TZ.out.acc.2.2.2
      have ⟨o0, o1⟩ := TZ.out.out.two
      have ol := TZ.out.out.1
      have oz := TZ.out.out.2.2
      have ⟨r0, r1⟩ := TZ.out.res.two
      have rl := TZ.out.res.1
      have rz := TZ.out.res.2.2
      clear hst
      go_wp2
      refine bodyPost_ret (v := .agg #[.int .i64 cap, .slice qa es.length qc]) ?_ rfl (TZ.out.ret ?_ (by omega))
      · simp [results, Try.results113, go_sem, o0, o1, ol, oz, r0, r1, rl, rz]
      · ((repeat (first | with_reducible exact Upd.refl _ _ | (with_reducible refine Upd.setCell ?_ (by simp) _))))
--% l07Copy 112
set_option maxHeartbeats 2000000 in
theorem l07Copy_any (w : World) (V : Value) (d : TableD) (h : RdT w V d) (sm : SmT d) : Calls Try.prog 112 #[V] w (RetNew OwnT2 d w) := by
  obtain ⟨v0, rfl, hv⟩ := h
  obtain ⟨a, c, rfl, hlc, hm, hn, hel⟩ := hv
  have H := Lib.hid hel
  clear hel hn
  obtain ⟨cap, es⟩ := d
  simp only at hlc hm H ⊢
  have HS : Hid (SmES es) := Lib.hid sm
  have hdl : es.length ≤ 1048576 := by have := sumE_nn es; unfold SmT sizeT sizeES at sm; simp only at sm; omega
  clear sm
  unfold maxLen at hm
  go_enter Try.func112, Try.ntmps112
  go_wp2
  have ST : Hid (CpT w ((((w.alloc (.cells #[Value.int .i64 cap, .slice a es.length c] 79)).alloc (.cells #[Value.int .i64 0, .slice none 0 0] 79)).alloc (.cells #[] 68)).alloc (.cells #[Value.int .i64 cap, .slice (some ⟨w.heap.size + 1 + 1, 0, none⟩) 0 0] 79)) w.heap.size (w.heap.size + 1) (w.heap.size + 1 + 1 + 1) [Value.int .i64 cap, .slice a es.length c] [Value.int .i64 0, .slice none 0 0] cap (.slice (some ⟨w.heap.size + 1 + 1, 0, none⟩) 0 0) [] [] (fun _ => [])) := Lib.hid (by
    have b0 := (Box.alloc w [Value.int .i64 cap, .slice a es.length c] 79).grow (W' := ((((w.alloc (.cells #[Value.int .i64 cap, .slice a es.length c] 79)).alloc (.cells #[Value.int .i64 0, .slice none 0 0] 79)).alloc (.cells #[] 68)).alloc (.cells #[Value.int .i64 cap, .slice (some ⟨w.heap.size + 1 + 1, 0, none⟩) 0 0] 79))) ((Grow.alloc _ _).trans ((Grow.alloc _ _).trans (Grow.alloc _ _)))
    have b1 := ((Box.alloc (w.alloc (.cells #[Value.int .i64 cap, .slice a es.length c] 79)) [Value.int .i64 0, .slice none 0 0] 79).at_ (b' := w.heap.size + 1) (by simp only [World.alloc, Array.size_push])).grow (W' := ((((w.alloc (.cells #[Value.int .i64 cap, .slice a es.length c] 79)).alloc (.cells #[Value.int .i64 0, .slice none 0 0] 79)).alloc (.cells #[] 68)).alloc (.cells #[Value.int .i64 cap, .slice (some ⟨w.heap.size + 1 + 1, 0, none⟩) 0 0] 79))) ((Grow.alloc _ _).trans (Grow.alloc _ _))
    have b2 := (Box.alloc (((w.alloc (.cells #[Value.int .i64 cap, .slice a es.length c] 79)).alloc (.cells #[Value.int .i64 0, .slice none 0 0] 79)).alloc (.cells #[] 68)) [Value.int .i64 cap, .slice (some ⟨w.heap.size + 1 + 1, 0, none⟩) 0 0] 79).at_ (b' := (w.heap.size + 1 + 1 + 1)) (by simp only [World.alloc, Array.size_push])
    have hl : ((w.alloc (.cells #[Value.int .i64 cap, .slice a es.length c] 79)).alloc (.cells #[Value.int .i64 0, .slice none 0 0] 79)).heap.size = w.heap.size + 1 + 1 := by simp only [World.alloc, Array.size_push]
    have own : (((w.alloc (.cells #[Value.int .i64 cap, .slice a es.length c] 79)).alloc (.cells #[Value.int .i64 0, .slice none 0 0] 79)).alloc (.cells #[] 68)).ownsRow (w.heap.size + 1 + 1) 68 6 (.slice (some ⟨w.heap.size + 1 + 1, 0, none⟩) 0 0) 0 [] := litA_at _ 6 hl
    have o2 := own_grow (own_mono own (show w.heap.size ≤ w.heap.size + 1 + 1 by omega)) (Grow.alloc _ (.cells #[Value.int .i64 cap, .slice (some ⟨w.heap.size + 1 + 1, 0, none⟩) 0 0] 79))
    refine ⟨⟨((Grow.alloc _ _).trans ((Grow.alloc _ _).trans ((Grow.alloc _ _).trans (Grow.alloc _ _)))), ⟨own_mono o2 (Nat.zero_le _), fun j hj => absurd hj (Nat.not_lt_zero _), fun j hj => absurd hj (Nat.not_lt_zero _), fun i j _ hj => absurd hj (Nat.not_lt_zero _)⟩, by simp [Fresh, allF, fpOf, Value.ownBlock]; omega, o2⟩, b2, b0, b1, by simp [allF, fpOf, Value.ownBlock]; try omega, by omega, by omega, by omega⟩)
  generalize ((((w.alloc (.cells #[Value.int .i64 cap, .slice a es.length c] 79)).alloc (.cells #[Value.int .i64 0, .slice none 0 0] 79)).alloc (.cells #[] 68)).alloc (.cells #[Value.int .i64 cap, .slice (some ⟨w.heap.size + 1 + 1, 0, none⟩) 0 0] 79)) = W0 at *
  generalize hbo : (w.heap.size + 1 + 1 + 1) = bo at *
  clear hbo
  go_loopw [12] (fun i wr => ∃ (k : Nat) (q : Value) (cs : List Value) (F : Nat → List Nat), k ≤ es.length ∧ i = .int .i64 k ∧ CpT w wr w.heap.size (w.heap.size + 1) bo [Value.int .i64 cap, .slice a es.length c] [Value.int .i64 0, .slice none 0 0] cap q (es.take k) cs F) (fun i _ => es.length - (intOf i).toNat)
  case atStart => exact ⟨0, _, _, _, Nat.zero_le _, rfl, ST.out⟩
  case round =>
    obtain ⟨k, q, cs, F, hk, rfl, hst⟩ := hrel
    rename World => wr
    have ST := Lib.hid hst
    have HG := Lib.hid hst.acc.1
    by_cases hlt : k < es.length
    · obtain ⟨b, off, v0, v1, v2, rfl, he⟩ := H.out k hlt
      have SM := Lib.hid (HS.out.at hlt)
      have HT1 : Hid (es.take (k + 1) = es.take k ++ [es[k]]) := Lib.hid (List.take_succ_eq_append_getElem hlt)
      have hkl : (es.take k).length ≤ 1048576 := by simp; omega
      have HE := Lib.hid (he.grow HG.out)
      have HE0 := Lib.hid he
      obtain ⟨a3, k3, rfl⟩ := RdN.sh he.2.2.2.2.2.2.1
      obtain ⟨a4, k4, rfl⟩ := RdN.sh he.2.2.2.2.2.2.2.1
      obtain ⟨a5, k5, rfl⟩ := RdA.sh he.2.2.2.2.2.2.2.2
      generalize es[k] = e at *
      generalize es.take k = ek at *
      obtain ⟨qa, qc, rfl⟩ := own_shape hst.acc.2.2.2
      have s0 := HE.out.1; have s1 := HE.out.2.1; have s2 := HE.out.2.2.1; have s3 := HE.out.2.2.2.1; have s4 := HE.out.2.2.2.2.1; have s5 := HE.out.2.2.2.2.2.1
      clear he hst
      go_wp2_with fail
      obtain ⟨C, hC⟩ : ∃ C : World → Prop, C = fun W => Box W bo [.int .i64 cap, .slice qa ek.length qc] ∧ Box W w.heap.size [.int .i64 cap, .slice (some ⟨b, off, none⟩) es.length c] ∧ Grow w W := ⟨_, rfl⟩
      have CC : Hid (∀ W, C W → Box W bo [.int .i64 cap, .slice qa ek.length qc] ∧ Box W w.heap.size [.int .i64 cap, .slice (some ⟨b, off, none⟩) es.length c] ∧ Grow w W) := Lib.hid (fun W h => by rw [hC] at h; exact h)
      have MK : Hid (∀ W, (Box W bo [.int .i64 cap, .slice qa ek.length qc] ∧ Box W w.heap.size [.int .i64 cap, .slice (some ⟨b, off, none⟩) es.length c] ∧ Grow w W) → C W) := Lib.hid (fun W h => by rw [hC]; exact h)
      clear hC
      have c0 : Hid (C (wr.drewN 1)) := Lib.hid (MK.out _ ⟨(ST.out.grow (Grow.drewN _ 1)).out, (ST.out.grow (Grow.drewN _ 1)).par, HG.out.trans (Grow.drewN _ 1)⟩)
      have hne : Nonempty (Cl C) := ⟨⟨_, c0.out⟩⟩
      have p1 : ∀ x : Cl C, x.w.cell? ⟨bo, 1, none⟩ = some (.slice qa ek.length qc) := fun x => (CC.out x.w x.ok).1.two.2
      have p2 : ∀ x : Cl C, x.w.cell? ⟨w.heap.size, 1, none⟩ = some (.slice (some ⟨b, off, none⟩) es.length c) := fun x => (CC.out x.w x.ok).2.1.two.2
      have e0 : ∀ x : Cl C, x.w.cell? ⟨b, off + k * 6, none⟩ = some (.int .i64 e.epoch) := fun x => (CC.out x.w x.ok).2.2.cell HE0.out.1
      have e1 : ∀ x : Cl C, x.w.cell? ⟨b, off + k * 6 + 1, none⟩ = some (.int .i64 e.prio) := fun x => (CC.out x.w x.ok).2.2.cell HE0.out.2.1
      have e2 : ∀ x : Cl C, x.w.cell? ⟨b, off + k * 6 + 2, none⟩ = some (.slice a3 e.m.vs.length k3) := fun x => (CC.out x.w x.ok).2.2.cell HE0.out.2.2.1
      have e3 : ∀ x : Cl C, x.w.cell? ⟨b, off + k * 6 + 3, none⟩ = some (.slice a4 e.m.ms.length k4) := fun x => (CC.out x.w x.ok).2.2.cell HE0.out.2.2.2.1
      have e4 : ∀ x : Cl C, x.w.cell? ⟨b, off + k * 6 + 4, none⟩ = some (.slice a5 e.acts.length k5) := fun x => (CC.out x.w x.ok).2.2.cell HE0.out.2.2.2.2.1
      have e5 : ∀ x : Cl C, x.w.cell? ⟨b, off + k * 6 + 5, none⟩ = some (.int .i64 e.hits) := fun x => (CC.out x.w x.ok).2.2.cell HE0.out.2.2.2.2.2.1
      clear s0 s1 s2 s3 s4 s5
      refine wp_region_last (Cls C) 11 12 #[false, false, false, false, false, false, false, false, false, false, false, false] (by kernel_rfl) (by kernel_rfl) ?_
      refine anyL_seg [0, 1, 2, 3, 4, 5, 6] #[true, true, true, true, true, true, true, false, false, false, false, false] (fuel := 5) rfl (by kernel_rfl) ⟨⟨_, c0.out⟩, rfl⟩ ?_
      simp only [pickOps, List.getD_cons_succ, List.getD_cons_zero]
      repeat (go_big_quiet_step (fail))
      refine wpQuiet_nil ?_
      refine anyL_sole 7 #[true, true, true, true, true, true, true, true, false, false, false, false] (fuel := 4) (by kernel_rfl) ?_
      simp only [List.getD_cons_succ, List.getD_cons_zero]
      go_wp2_with fail
      refine (l07Entry_any _ _ e (HE.out.rd.grow (Grow.drewN wr 1)) SM.out).mono ?_
      rintro _ w1 ⟨V, fe, rfl, ho, hf, hg⟩
      have ho' := ho
      obtain ⟨u0, u1, u2, f0, f1, f2, rfl, o0, o1, o2, -⟩ := ho'
      obtain ⟨n0, m0, rfl⟩ := own_shape o0.1
      obtain ⟨n1, m1, rfl⟩ := own_shape o1.1
      obtain ⟨n2, m2, rfl⟩ := own_shape o2.1
      have OE := Lib.hid ho; have FE := Lib.hid hf
      have T1 := Lib.hid ((ST.out.grow (Grow.drewN wr 1)).grow hg)
      have TF := Lib.hid (ST.out.grow (Grow.drewN wr 1))
      have c1 : Hid (C w1) := Lib.hid (have := CC.out _ c0.out; MK.out _ ⟨this.1.grow hg, this.2.1.grow hg, this.2.2.trans hg⟩)
      clear ho hf hg o0 o1 o2
      go_wp2
      refine ⟨⟨⟨_, c1.out⟩, rfl⟩, ?_⟩
      refine anyL_sole 8 #[true, true, true, true, true, true, true, true, true, false, false, false] (fuel := 3) (by kernel_rfl) ?_
      simp only [List.getD_cons_succ, List.getD_cons_zero]
      go_wp2
      have T2 := Lib.hid (T1.out.grow (Grow.alloc w1 (.cells (entC e (.slice n0 e.m.vs.length m0) (.slice n1 e.m.ms.length m1) (.slice n2 e.acts.length m2)).toArray 68)))
      have OE2 := Lib.hid (OE.out.grow (Grow.alloc w1 (.cells (entC e (.slice n0 e.m.vs.length m0) (.slice n1 e.m.ms.length m1) (.slice n2 e.acts.length m2)).toArray 68)))
      have c2 : Hid (C (w1.alloc (.cells (entC e (.slice n0 e.m.vs.length m0) (.slice n1 e.m.ms.length m1) (.slice n2 e.acts.length m2)).toArray 68))) := Lib.hid (have := CC.out _ c1.out; MK.out _ ⟨this.1.grow (Grow.alloc _ _), this.2.1.grow (Grow.alloc _ _), this.2.2.trans (Grow.alloc _ _)⟩)
      refine ⟨⟨⟨_, c2.out⟩, rfl⟩, ?_⟩
      refine anyL_sole 9 #[true, true, true, true, true, true, true, true, true, true, false, false] (fuel := 2) (by kernel_rfl) ?_
      simp only [List.getD_cons_succ, List.getD_cons_zero]
      go_wp2_with (at_builtin; refine wpl_append Try.elemEnt rfl _ _ rfl w.heap.size rfl T2.out.acc.2.2.2 1 rfl (rd_built _ _ 6 1 (entC e (.slice n0 e.m.vs.length m0) (.slice n1 e.m.ms.length m1) (.slice n2 e.acts.length m2)) rfl (by decide)) rfl (entC_one e _ _ _ _ _ _ _ _ _) (by omega) (by unfold maxLen; omega) T2.out.acc.1.size ?_; intro v5 w5 hown hgr hmv)
      have TZ := Lib.hid (T2.out.onto OE2.out FE.out TF.out hown hgr hmv)
      obtain ⟨za, zc, rfl⟩ := own_shape hown
      have BZ := Lib.hid (T2.out.out.upd (Upd.of_grown hgr) (fun hx => T2.out.off bo (by simp) (mem_allF.2 (.inl hx))))
      have c3 : Hid (C w5) := Lib.hid (by
        have := CC.out _ c2.out
        exact MK.out _ ⟨BZ.out, this.2.1.upd (Upd.of_grown hgr) (fun hx => T2.out.off w.heap.size (by simp) (mem_allF.2 (.inl hx))), T2.out.acc.1.then_upd (Upd.of_grown hgr) (fun x hx => T2.out.acc.2.2.1 x (mem_allF.2 (.inl hx)))⟩)
      clear hown hgr hmv
      refine ⟨⟨⟨_, c3.out⟩, rfl⟩, ?_⟩
      refine anyL_seg [10] #[true, true, true, true, true, true, true, true, true, true, true, false] (fuel := 1) rfl (by kernel_rfl) ⟨⟨_, c3.out⟩, rfl⟩ ?_
      simp only [pickOps, List.getD_cons_succ, List.getD_cons_zero]
      repeat (go_big_quiet_step (fail))
      refine wpQuiet_nil ?_
      refine anyL_last (by kernel_rfl) ?_
      simp only [List.getD_cons_succ, List.getD_cons_zero]
      have ⟨y0, y1⟩ := BZ.out.two
      have yl := BZ.out.1
      have yz := BZ.out.2.2
      clear p1 p2 e0 e1 e2 e3 e4 e5
      go_wp2
      refine ⟨trivial, ?_⟩
      go_wp2
      go_roundw
      case rel => exact ⟨k + 1, _, _, _, by omega, by go_num, by rw [HT1.out]; exact TZ.out⟩
      case measure => simp [intOf]; omega
    · obtain rfl : k = es.length := by omega
      have TZ : Hid (CpT w wr w.heap.size (w.heap.size + 1) bo [Value.int .i64 cap, .slice a es.length c] [Value.int .i64 0, .slice none 0 0] cap q es cs F) := Lib.hid (by have := ST.out; rwa [List.take_of_length_le (Nat.le_refl _)] at this)
      obtain ⟨qa, qc, rfl⟩ := own_shape TZ.out.acc.2.2.2
      have ⟨o0, o1⟩ := TZ.out.out.two
      have ol := TZ.out.out.1
      have oz := TZ.out.out.2.2
      have ⟨r0, r1⟩ := TZ.out.res.two
      have rl := TZ.out.res.1
      have rz := TZ.out.res.2.2
      clear hst
      go_wp2
      refine bodyPost_ret (v := .agg #[.int .i64 cap, .slice qa es.length qc]) ?_ rfl (TZ.out.ret ?_ (by omega))
      · simp [results, Try.results112, go_sem, o0, o1, ol, oz, r0, r1, rl, rz]
      · ((repeat (first | with_reducible exact Upd.refl _ _ | (with_reducible refine Upd.setCell ?_ (by simp) _))))
--%
end Go.Proofs.Ytgigdpdmdldhnaa
