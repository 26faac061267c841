/- A table among a law's arguments, opened (printed by gopnt.py). -/
import Derived.Test.YtgigdpdmdldhnaaOpnE
import Derived.Test.YtgigdpdmdldhnaaTab2
import Derived.Deep.Slices
namespace Go.Proofs.Ytgigdpdmdldhnaa
open Go.ChangeShapes Go.WideShapes Go.ChangeAt Go.RowKit
set_option linter.unusedVariables false
--% EntryF 63 61
set_option maxRecDepth 100000 in
theorem open_EntryF {H : Type} {enc : TypeId × Value → H} {w : World} {base : Nat} {l : List Value} {x : DataW H × List MemPlace} {fuel : Nat}
    (hlen : l.length = 6) (hf : DataW.trod enc Try.prog w base (fun _ => true) true fuel 63 l = some x) : ∃ (v0 v1 v2 : Value) (e : EntryD), l = [.int .i64 e.epoch, .int .i64 e.prio, v0, v1, v2, .int .i64 e.hits] ∧ RdN w v0 e.m.vs ∧ RdN w v1 e.m.ms ∧ RdA w v2 e.acts ∧ WfE e := by
  obtain ⟨xs, n, _, hx, _, hxl, hg⟩ := DataW.trod_struct Try.underlying63 hf
  have key : ∀ (j : Nat) (f : Field) (hj : j < xs.length), DataW.trod enc Try.prog w base (fun _ => true) true n f.type ((l.drop f.offset).take (Try.prog.cellsOf f.type)) = xs[j]? → ∃ y, DataW.trod enc Try.prog w base (fun _ => true) true n f.type ((l.drop f.offset).take (Try.prog.cellsOf f.type)) = some y := fun j f hj h => ⟨xs[j], h.trans (List.getElem?_eq_getElem hj)⟩
  have hx5 : xs.length = 5 := hxl
  have ci : Try.prog.cellsOf 3 = 1 := by kernel_rfl
  have cm : Try.prog.cellsOf 61 = 2 := by kernel_rfl
  have ca : Try.prog.cellsOf 26 = 1 := by kernel_rfl
  match l, hlen with
  | [c0, c1, c2, c3, c4, c5], _ =>
    obtain ⟨y0, t0⟩ := key 0 _ (by omega) (hg 0 _ rfl)
    obtain ⟨y1, t1⟩ := key 1 _ (by omega) (hg 1 _ rfl)
    obtain ⟨y2, t2⟩ := key 2 _ (by omega) (hg 2 _ rfl)
    obtain ⟨y3, t3⟩ := key 3 _ (by omega) (hg 3 _ rfl)
    obtain ⟨y4, t4⟩ := key 4 _ (by omega) (hg 4 _ rfl)
    have t0 : DataW.trod enc Try.prog w base (fun _ => true) true n 3 (([c0, c1, c2, c3, c4, c5].drop 0).take (Try.prog.cellsOf 3)) = some y0 := t0
    rw [ci] at t0
    have t0 : DataW.trod enc Try.prog w base (fun _ => true) true n 3 [c0] = some y0 := t0
    have t1 : DataW.trod enc Try.prog w base (fun _ => true) true n 3 (([c0, c1, c2, c3, c4, c5].drop 1).take (Try.prog.cellsOf 3)) = some y1 := t1
    rw [ci] at t1
    have t1 : DataW.trod enc Try.prog w base (fun _ => true) true n 3 [c1] = some y1 := t1
    have t2 : DataW.trod enc Try.prog w base (fun _ => true) true n 61 (([c0, c1, c2, c3, c4, c5].drop 2).take (Try.prog.cellsOf 61)) = some y2 := t2
    rw [cm] at t2
    have t2 : DataW.trod enc Try.prog w base (fun _ => true) true n 61 [c2, c3] = some y2 := t2
    have t3 : DataW.trod enc Try.prog w base (fun _ => true) true n 26 (([c0, c1, c2, c3, c4, c5].drop 4).take (Try.prog.cellsOf 26)) = some y3 := t3
    rw [ca] at t3
    have t3 : DataW.trod enc Try.prog w base (fun _ => true) true n 26 [c4] = some y3 := t3
    have t4 : DataW.trod enc Try.prog w base (fun _ => true) true n 3 (([c0, c1, c2, c3, c4, c5].drop 5).take (Try.prog.cellsOf 3)) = some y4 := t4
    rw [ci] at t4
    have t4 : DataW.trod enc Try.prog w base (fun _ => true) true n 3 [c5] = some y4 := t4
    obtain ⟨a0, rfl, w0⟩ := open_intF Try.underlying3 t0
    obtain ⟨a1, rfl, w1⟩ := open_intF Try.underlying3 t1
    obtain ⟨a5, rfl, w5⟩ := open_intF Try.underlying3 t4
    obtain ⟨_, hfs⟩ := open_fieldsF Try.underlying61 (by kernel_rfl) (by kernel_rfl) t2
    obtain ⟨_, z0, m0, e0, s0⟩ := hfs 0 _ rfl
    obtain rfl := by simpa using e0
    obtain ⟨a2, r2, w2⟩ := open_IntsF Try.underlying22 Try.underlying3 (by kernel_rfl) s0
    obtain ⟨_, z1, m1, e1, s1⟩ := hfs 1 _ rfl
    obtain rfl := by simpa using e1
    obtain ⟨a3, r3, w3⟩ := open_IntsF Try.underlying22 Try.underlying3 (by kernel_rfl) s1
    obtain ⟨v4, a4, e4, r4, w4⟩ := open_SliceActF t3
    obtain rfl := by simpa using e4
    exact ⟨_, _, _, ⟨a0, a1, ⟨a2, a3⟩, a4, a5⟩, rfl, r2, r3, r4, ⟨w0, w1, ⟨w2, w3⟩, w4, w5⟩⟩
--% entries 72 63
set_option maxRecDepth 100000 in
theorem open_SliceEntryF {H : Type} {enc : TypeId × Value → H} {w : World} {base : Nat} {cs : List Value} {x : DataW H × List MemPlace} {fuel : Nat}
    (hf : DataW.trod enc Try.prog w base (fun _ => true) true fuel 72 cs = some x) : ∃ v ds, cs = [v] ∧ RdES w v ds ∧ WfES ds := by
  rcases Go.Deep.open_slice Try.underlying72 hf with ⟨hcs, _⟩ | ⟨a, len, cap, m, n, D, Pl, hcs, _, hl, hm, hmm, _, hel⟩
  · exact ⟨_, [], hcs, RdES.nil _, fun d hd => by cases hd⟩
  · have hC : Try.prog.cellsOf 63 = 6 := by kernel_rfl
    rw [hC] at hel
    obtain ⟨f, hff⟩ := Go.Deep.choose_lt (α := EntryD × Value × Value × Value) (n := len) (p := fun i x => (w.cell? (a.add (i * 6)) = some (.int .i64 x.1.epoch) ∧ w.cell? ((a.add (i * 6)).add 1) = some (.int .i64 x.1.prio) ∧ w.cell? ((a.add (i * 6)).add 2) = some x.2.1 ∧ w.cell? ((a.add (i * 6)).add 3) = some x.2.2.1 ∧ w.cell? ((a.add (i * 6)).add 4) = some x.2.2.2 ∧ w.cell? ((a.add (i * 6)).add 5) = some (.int .i64 x.1.hits)) ∧
        RdN w x.2.1 x.1.m.vs ∧ RdN w x.2.2.1 x.1.m.ms ∧ RdA w x.2.2.2 x.1.acts ∧ WfE x.1) (fun i hi => by
      obtain ⟨cs', h1, h2⟩ := hel i (by rw [hmm]; simp; omega)
      obtain ⟨_, hlen, hc⟩ := World.cells?_some h1
      obtain ⟨v0, v1, v2, e, rfl, r0, r1, r2, we⟩ := open_EntryF hlen h2
      have c0 := hc 0 (by decide)
      rw [show (a.add (i * 6)).add 0 = a.add (i * 6) from by unfold Addr.add; simp] at c0
      exact ⟨⟨e, v0, v1, v2⟩, ⟨c0, hc 1 (by decide), hc 2 (by decide), hc 3 (by decide), hc 4 (by decide), hc 5 (by decide)⟩, r0, r1, r2, we⟩)
    refine ⟨_, (List.range len).map (fun i => (f i).1), hcs, ⟨some a, cap, by simp, by simpa using hl, hm, (fun e => by cases e), fun j hj => ?_⟩, fun d hd => ?_⟩
    · have hjl : j < len := by simpa using hj
      obtain ⟨⟨c0, c1, c2, c3, c4, c5⟩, r0, r1, r2, _⟩ := hff j hjl
      obtain ⟨b, off, spot⟩ := a
      have hspot : spot = none := by
        have h0 := (hff 0 (by omega)).1.1
        simpa [Addr.add] using World.cell?_spot h0
      subst hspot
      simp only [add_off] at c0 c1 c2 c3 c4 c5
      refine ⟨b, off, (f j).2.1, (f j).2.2.1, (f j).2.2.2, rfl, ?_⟩
      simp only [List.getElem_map, List.getElem_range]
      exact ⟨c0, c1, c2, c3, c4, c5, r0, r1, r2⟩
    · obtain ⟨i, hi, rfl⟩ := List.mem_map.1 hd
      exact (hff i (List.mem_range.1 hi)).2.2.2.2
--% Table 74
set_option maxRecDepth 100000 in
theorem open_Table {H : Type} {enc : TypeId × Value → H} {w : World} {r : Reach} {base b0 : Nat} {v : Value} {d : DataW H} {ps : List MemPlace}
    (hv : Value.okWide Try.prog w r b0 74 v) (h : DataW.Trod enc Try.prog w base (fun _ => true) true 74 v d ps) : ∃ x : DatT, RdT w v x ∧ WfT x := by
  obtain ⟨cs, rfl, hsz⟩ := okWide_struct Try.underlying74 hv
  obtain ⟨l⟩ := cs
  have hC : Try.prog.cellsOf 74 = 2 := by kernel_rfl
  have hlen : l.length = 2 := by simpa using hsz.trans hC
  obtain ⟨fuel, hf⟩ := h
  match l, hlen with
  | [c0, c1], _ =>
    obtain ⟨_, hfs⟩ := open_fieldsF Try.underlying74 (by kernel_rfl) (by kernel_rfl) hf
    obtain ⟨_, z0, m0, e0, s0⟩ := hfs 0 _ rfl
    obtain rfl := by simpa [Value.cells] using e0
    obtain ⟨a0, rfl, w0⟩ := open_intF Try.underlying3 s0
    obtain ⟨_, z1, m1, e1, s1⟩ := hfs 1 _ rfl
    obtain rfl := by simpa [Value.cells] using e1
    obtain ⟨v1, ds, e2, r1, w1⟩ := open_SliceEntryF s1
    obtain rfl := by simpa using e2
    exact ⟨⟨a0, ds⟩, ⟨_, rfl, r1⟩, w0, w1⟩
--%
end Go.Proofs.Ytgigdpdmdldhnaa
