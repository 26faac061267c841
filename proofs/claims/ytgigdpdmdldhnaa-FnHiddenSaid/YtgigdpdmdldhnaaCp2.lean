/- Copies of entries: contracts (printed by gcp2.py). -/
import Derived.Test.YtgigdpdmdldhnaaCp
import Derived.WalkKit
import Derived.ProofKit
import Derived.Deep.QuietTactic
import Derived.BigQuiet
import Derived.Outline
import Derived.WalkSpells
namespace Go.Proofs.Ytgigdpdmdldhnaa
open Go.ChangeShapes Go.WideShapes Go.ChangeAt Go.RowKit
set_option linter.unusedVariables false
set_option linter.unusedSimpArgs false
--% copyEntry 134
set_option maxHeartbeats 1000000 in
theorem copyEntry_any (w : World) (V : Value) (d : EntryD) (h : RdE w V d) (hs : SmE d) : Calls Try.prog 134 #[V] w (RetNew OwnE2 d w) := by
  obtain ⟨v0, v1, v2, rfl, h0, h1, h2⟩ := h
  obtain ⟨b0, k0, rfl⟩ := RdN.sh h0
  obtain ⟨b1, k1, rfl⟩ := RdN.sh h1
  obtain ⟨b2, k2, rfl⟩ := RdA.sh h2
  have HM := Lib.hid (RdE.mOf h0 h1); have HA := Lib.hid h2; clear h0 h1 h2
  have SM := Lib.hid hs.m; have SA := Lib.hid hs.acts; clear hs
  go_enter Try.func134, Try.ntmps134
  go_wp2_with fail
  have BP0 := Lib.hid ((Box.alloc w [Value.int .i64 d.epoch, .int .i64 d.prio, .slice b0 d.m.vs.length k0, .slice b1 d.m.ms.length k1, .slice b2 d.acts.length k2, .int .i64 d.hits] 68).grow (Grow.alloc _ (.cells #[Value.int .i64 0, .int .i64 0, .slice none 0 0, .slice none 0 0, .slice none 0 0, .int .i64 0] 68)))
  have BR0 : Hid (Box _ (w.heap.size + 1) [Value.int .i64 0, .int .i64 0, .slice none 0 0, .slice none 0 0, .slice none 0 0, .int .i64 0]) := Lib.hid ((Box.alloc (w.alloc (.cells #[Value.int .i64 d.epoch, .int .i64 d.prio, .slice b0 d.m.vs.length k0, .slice b1 d.m.ms.length k1, .slice b2 d.acts.length k2, .int .i64 d.hits] 68)) [Value.int .i64 0, .int .i64 0, .slice none 0 0, .slice none 0 0, .slice none 0 0, .int .i64 0] 68).at_ (b' := w.heap.size + 1) (by simp only [World.alloc, Array.size_push]))
  have G0 := Lib.hid ((Grow.alloc w (.cells #[Value.int .i64 d.epoch, .int .i64 d.prio, .slice b0 d.m.vs.length k0, .slice b1 d.m.ms.length k1, .slice b2 d.acts.length k2, .int .i64 d.hits] 68)).trans (Grow.alloc _ (.cells #[Value.int .i64 0, .int .i64 0, .slice none 0 0, .slice none 0 0, .slice none 0 0, .int .i64 0] 68)))
  have hsz0 : ((w.alloc (.cells #[Value.int .i64 d.epoch, .int .i64 d.prio, .slice b0 d.m.vs.length k0, .slice b1 d.m.ms.length k1, .slice b2 d.acts.length k2, .int .i64 d.hits] 68)).alloc (.cells #[Value.int .i64 0, .int .i64 0, .slice none 0 0, .slice none 0 0, .slice none 0 0, .int .i64 0] 68)).heap.size = w.heap.size + 1 + 1 := by simp only [World.alloc, Array.size_push]
  generalize (w.alloc (.cells #[Value.int .i64 d.epoch, .int .i64 d.prio, .slice b0 d.m.vs.length k0, .slice b1 d.m.ms.length k1, .slice b2 d.acts.length k2, .int .i64 d.hits] 68)).alloc (.cells #[Value.int .i64 0, .int .i64 0, .slice none 0 0, .slice none 0 0, .slice none 0 0, .int .i64 0] 68) = W0 at *
  have SZ := Lib.hid hsz0; clear hsz0
  refine (copyMatch_any _ _ d.m (HM.out.grow G0.out) SM.out).mono ?_
  rintro e w1 ⟨vm, fp1, rfl, ho, hf, hg⟩
  obtain ⟨a0, c0, a1, c1, rfl⟩ := ho.rd.shape
  have G1 := Lib.hid (G0.out.trans hg)
  have HO := Lib.hid ho
  have HF1 : Hid (∀ x ∈ fp1, w.heap.size + 1 < x) := Lib.hid (fun x hx => by have h1 := hf x hx; have h2 := SZ.out; omega)
  have BP := Lib.hid (BP0.out.grow hg); have BR := Lib.hid (BR0.out.grow hg)
  clear ho hf hg
  have ⟨p0, p1, p2, p3, p4, p5⟩ := BP.out.six
  have pl := BP.out.1
  have pz := BP.out.2.2
  have U1 := Lib.hid (Upd.setCell (Upd.one_cell w1 w.heap.size 2 (.slice a0 d.m.vs.length c0)) (p := ⟨w.heap.size, 3, none⟩) (by simp) (.slice a1 d.m.ms.length c1))
  have BPS := Lib.hid ((BP.out.set 2 (.slice a0 d.m.vs.length c0) (by simp)).set 3 (.slice a1 d.m.ms.length c1) (by simp))
  have hsz1 : ((w1.setCell ⟨w.heap.size, 2, none⟩ (.slice a0 d.m.vs.length c0)).setCell ⟨w.heap.size, 3, none⟩ (.slice a1 d.m.ms.length c1)).heap.size = w1.heap.size := by simp [World.setCell]
  have SZ1 := Lib.hid hsz1; clear hsz1
  go_wp2_with fail
  refine (clone_A _ _ d.acts (HA.out.grow (G1.out.then_upd U1.out (by simp [Fresh]))) SA.out).mono ?_
  rintro e w2 ⟨va, fp2, rfl, ho2, hf2, hg⟩
  obtain ⟨a2, c2, rfl⟩ := ho2.rd.sh
  have HO2 := Lib.hid ho2; have HF2 := Lib.hid hf2; have HG2 := Lib.hid hg
  clear ho2 hf2 hg
  clear p0 p1 p2 p3 p4 p5 pl pz
  have BP2 := Lib.hid (BPS.out.grow HG2.out)
  have ⟨p0, p1, p2, p3, p4, p5⟩ := BP2.out.six
  have pl := BP2.out.1
  have pz := BP2.out.2.2
  have BR2 := Lib.hid ((BR.out.upd U1.out (by simp)).grow HG2.out)
  have ⟨r0, r1, r2, r3, r4, r5⟩ := BR2.out.six
  have rl := BR2.out.1
  have rz := BR2.out.2.2
  go_wp2
  have HE : Hid (∀ W, Upd [w.heap.size, w.heap.size + 1] w2 W → RetNew OwnE2 d w (.returned (.agg #[.int .i64 d.epoch, .int .i64 d.prio, .slice a0 d.m.vs.length c0, .slice a1 d.m.ms.length c1, .slice a2 d.acts.length c2, .int .i64 d.hits])) W) := Lib.hid (fun W hu => by
    have hs1 := SZ1.out; have hs0 := G1.out.size
    have HO1 := (HO.out.upd U1.out (fun x hx hm => by have := HF1.out x hx; simp only [List.mem_cons, List.not_mem_nil, or_false] at hm; omega)).grow HG2.out
    have o1 := HO1.upd hu (fun x hx hm => by have := HF1.out x hx; simp only [List.mem_cons, List.not_mem_nil, or_false] at hm; omega)
    have hx2 : ∀ x ∈ fp2, w.heap.size + 1 < x := fun x hx => by have h1 := HF2.out x hx; have h2 := BR.out.1; omega
    have o2 := HO2.out.upd hu (fun x hx hm => by have := hx2 x hx; simp only [List.mem_cons, List.not_mem_nil, or_false] at hm; omega)
    obtain ⟨u0, u1, f0, f1, e, ef, hd, k0, k1⟩ := o1
    obtain ⟨rfl, rfl⟩ : Value.slice a0 d.m.vs.length c0 = u0 ∧ Value.slice a1 d.m.ms.length c1 = u1 := by simpa using e
    subst ef
    refine ⟨_, (f0 ++ f1) ++ fp2, rfl, ⟨_, _, _, f0, f1, fp2, rfl, k0, k1, o2, rfl, hd, fun x hx hm => ?_⟩, fun x hx => ?_, ((G1.out.then_upd U1.out (by simp [Fresh])).trans HG2.out).box_end hu (by intro b hb; simp only [List.mem_cons, List.not_mem_nil, or_false] at hb; omega)⟩
    · have h1 := HO.out.here x hx; have h2 := HF2.out x hm; omega
    · rcases List.mem_append.1 hx with h | h
      · have := HF1.out x h; omega
      · have := hx2 x h; omega)
  refine bodyPost_ret (v := .agg #[.int .i64 d.epoch, .int .i64 d.prio, .slice a0 d.m.vs.length c0, .slice a1 d.m.ms.length c1, .slice a2 d.acts.length c2, .int .i64 d.hits]) ?_ rfl (HE.out _ ?_)
  · simp [results, Try.results134, go_sem, p0, p1, p2, p3, p4, p5, pl, pz, r0, r1, r2, r3, r4, r5, rz, rl]
  · ((repeat (first | with_reducible exact Upd.refl _ _ | (with_reducible refine Upd.setCell ?_ (by simp) _))))
--% l07Entry 115
set_option maxHeartbeats 1000000 in
theorem l07Entry_any (w : World) (V : Value) (d : EntryD) (h : RdE w V d) (hs : SmE d) : Calls Try.prog 115 #[V] w (RetNew OwnE2 d w) := by
  obtain ⟨v0, v1, v2, rfl, h0, h1, h2⟩ := h
  obtain ⟨b0, k0, rfl⟩ := RdN.sh h0
  obtain ⟨b1, k1, rfl⟩ := RdN.sh h1
  obtain ⟨b2, k2, rfl⟩ := RdA.sh h2
  have HM := Lib.hid (RdE.mOf h0 h1); have HA := Lib.hid h2; clear h0 h1 h2
  have SM := Lib.hid hs.m; have SA := Lib.hid hs.acts; clear hs
  go_enter Try.func115, Try.ntmps115
  go_wp2_with fail
  have BP0 := Lib.hid ((Box.alloc w [Value.int .i64 d.epoch, .int .i64 d.prio, .slice b0 d.m.vs.length k0, .slice b1 d.m.ms.length k1, .slice b2 d.acts.length k2, .int .i64 d.hits] 68).grow (Grow.alloc _ (.cells #[Value.int .i64 0, .int .i64 0, .slice none 0 0, .slice none 0 0, .slice none 0 0, .int .i64 0] 68)))
  have BR0 : Hid (Box _ (w.heap.size + 1) [Value.int .i64 0, .int .i64 0, .slice none 0 0, .slice none 0 0, .slice none 0 0, .int .i64 0]) := Lib.hid ((Box.alloc (w.alloc (.cells #[Value.int .i64 d.epoch, .int .i64 d.prio, .slice b0 d.m.vs.length k0, .slice b1 d.m.ms.length k1, .slice b2 d.acts.length k2, .int .i64 d.hits] 68)) [Value.int .i64 0, .int .i64 0, .slice none 0 0, .slice none 0 0, .slice none 0 0, .int .i64 0] 68).at_ (b' := w.heap.size + 1) (by simp only [World.alloc, Array.size_push]))
  have G0 := Lib.hid ((Grow.alloc w (.cells #[Value.int .i64 d.epoch, .int .i64 d.prio, .slice b0 d.m.vs.length k0, .slice b1 d.m.ms.length k1, .slice b2 d.acts.length k2, .int .i64 d.hits] 68)).trans (Grow.alloc _ (.cells #[Value.int .i64 0, .int .i64 0, .slice none 0 0, .slice none 0 0, .slice none 0 0, .int .i64 0] 68)))
  have hsz0 : ((w.alloc (.cells #[Value.int .i64 d.epoch, .int .i64 d.prio, .slice b0 d.m.vs.length k0, .slice b1 d.m.ms.length k1, .slice b2 d.acts.length k2, .int .i64 d.hits] 68)).alloc (.cells #[Value.int .i64 0, .int .i64 0, .slice none 0 0, .slice none 0 0, .slice none 0 0, .int .i64 0] 68)).heap.size = w.heap.size + 1 + 1 := by simp only [World.alloc, Array.size_push]
  generalize (w.alloc (.cells #[Value.int .i64 d.epoch, .int .i64 d.prio, .slice b0 d.m.vs.length k0, .slice b1 d.m.ms.length k1, .slice b2 d.acts.length k2, .int .i64 d.hits] 68)).alloc (.cells #[Value.int .i64 0, .int .i64 0, .slice none 0 0, .slice none 0 0, .slice none 0 0, .int .i64 0] 68) = W0 at *
  have SZ := Lib.hid hsz0; clear hsz0
  refine (l07Match_any _ _ d.m (HM.out.grow G0.out) SM.out).mono ?_
  rintro e w1 ⟨vm, fp1, rfl, ho, hf, hg⟩
  obtain ⟨a0, c0, a1, c1, rfl⟩ := ho.rd.shape
  have G1 := Lib.hid (G0.out.trans hg)
  have HO := Lib.hid ho
  have HF1 : Hid (∀ x ∈ fp1, w.heap.size + 1 < x) := Lib.hid (fun x hx => by have h1 := hf x hx; have h2 := SZ.out; omega)
  have BP := Lib.hid (BP0.out.grow hg); have BR := Lib.hid (BR0.out.grow hg)
  clear ho hf hg
  have ⟨p0, p1, p2, p3, p4, p5⟩ := BP.out.six
  have pl := BP.out.1
  have pz := BP.out.2.2
  have U1 := Lib.hid (Upd.setCell (Upd.one_cell w1 w.heap.size 2 (.slice a0 d.m.vs.length c0)) (p := ⟨w.heap.size, 3, none⟩) (by simp) (.slice a1 d.m.ms.length c1))
  have BPS := Lib.hid ((BP.out.set 2 (.slice a0 d.m.vs.length c0) (by simp)).set 3 (.slice a1 d.m.ms.length c1) (by simp))
  have hsz1 : ((w1.setCell ⟨w.heap.size, 2, none⟩ (.slice a0 d.m.vs.length c0)).setCell ⟨w.heap.size, 3, none⟩ (.slice a1 d.m.ms.length c1)).heap.size = w1.heap.size := by simp [World.setCell]
  have SZ1 := Lib.hid hsz1; clear hsz1
  have hal := SA.out
  unfold SmA sizeA at hal
  go_wp2_with (at_builtin; refine wpl_append Try.elemAct rfl _ _ rfl w1.heap.size rfl (litA_at _ 3 SZ1.out) d.acts.length rfl (HA.out.grow ((G1.out.then_upd U1.out (by simp [Fresh])).trans (Grow.alloc _ _))) (actsC_len _) (oneCell_acts _) (by omega) (by unfold maxLen; omega) (by simp only [World.alloc, Array.size_push]; have := SZ1.out; omega) ?_; intro va w2 hown hgr hmv; have HC := Lib.hid (copiedA (n := w1.heap.size) SZ1.out hown hgr); clear hown hgr hmv; obtain ⟨fp2, ho2, hf2, hg⟩ := HC.out; obtain ⟨a2, c2, rfl⟩ := ho2.rd.sh; have HO2 := Lib.hid ho2; have HF2 := Lib.hid hf2; have HG2 := Lib.hid hg; clear ho2 hf2 hg HC hal p0 p1 p2 p3 p4 p5 pl pz; have BP2 := Lib.hid (BPS.out.grow HG2.out); have ⟨p0, p1, p2, p3, p4, p5⟩ := BP2.out.six; have pl := BP2.out.1; have pz := BP2.out.2.2; have BR2 := Lib.hid ((BR.out.upd U1.out (by simp)).grow HG2.out); have ⟨r0, r1, r2, r3, r4, r5⟩ := BR2.out.six; have rl := BR2.out.1; have rz := BR2.out.2.2)
  have HE : Hid (∀ W, Upd [w.heap.size, w.heap.size + 1] w2 W → RetNew OwnE2 d w (.returned (.agg #[.int .i64 d.epoch, .int .i64 d.prio, .slice a0 d.m.vs.length c0, .slice a1 d.m.ms.length c1, .slice a2 d.acts.length c2, .int .i64 d.hits])) W) := Lib.hid (fun W hu => by
    have hs1 := SZ1.out; have hs0 := G1.out.size
    have HO1 := (HO.out.upd U1.out (fun x hx hm => by have := HF1.out x hx; simp only [List.mem_cons, List.not_mem_nil, or_false] at hm; omega)).grow HG2.out
    have o1 := HO1.upd hu (fun x hx hm => by have := HF1.out x hx; simp only [List.mem_cons, List.not_mem_nil, or_false] at hm; omega)
    have hx2 : ∀ x ∈ fp2, w.heap.size + 1 < x := fun x hx => by have h1 := HF2.out x hx; have h2 := BR.out.1; omega
    have o2 := HO2.out.upd hu (fun x hx hm => by have := hx2 x hx; simp only [List.mem_cons, List.not_mem_nil, or_false] at hm; omega)
    obtain ⟨u0, u1, f0, f1, e, ef, hd, k0, k1⟩ := o1
    obtain ⟨rfl, rfl⟩ : Value.slice a0 d.m.vs.length c0 = u0 ∧ Value.slice a1 d.m.ms.length c1 = u1 := by simpa using e
    subst ef
    refine ⟨_, (f0 ++ f1) ++ fp2, rfl, ⟨_, _, _, f0, f1, fp2, rfl, k0, k1, o2, rfl, hd, fun x hx hm => ?_⟩, fun x hx => ?_, ((G1.out.then_upd U1.out (by simp [Fresh])).trans HG2.out).box_end hu (by intro b hb; simp only [List.mem_cons, List.not_mem_nil, or_false] at hb; omega)⟩
    · have h1 := HO.out.here x hx; have h2 := HF2.out x hm; omega
    · rcases List.mem_append.1 hx with h | h
      · have := HF1.out x h; omega
      · have := hx2 x h; omega)
  refine bodyPost_ret (v := .agg #[.int .i64 d.epoch, .int .i64 d.prio, .slice a0 d.m.vs.length c0, .slice a1 d.m.ms.length c1, .slice a2 d.acts.length c2, .int .i64 d.hits]) ?_ rfl (HE.out _ ?_)
  · simp [results, Try.results115, go_sem, p0, p1, p2, p3, p4, p5, pl, pz, r0, r1, r2, r3, r4, r5, rz, rl]
  · ((repeat (first | with_reducible exact Upd.refl _ _ | (with_reducible refine Upd.setCell ?_ (by simp) _))))
--%
end Go.Proofs.Ytgigdpdmdldhnaa
