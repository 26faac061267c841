/- An entry among a law's arguments, opened. -/
import Derived.Test.YtgigdpdmdldhnaaOpnA
import Derived.Test.YtgigdpdmdldhnaaEnt
import Derived.Deep.Slices
namespace Go.Proofs.Ytgigdpdmdldhnaa
open Go.ChangeShapes Go.WideShapes Go.ChangeAt Go.RowKit
set_option linter.unusedVariables false
--% acts 26 98
set_option maxRecDepth 100000 in
theorem open_SliceActF {H : Type} {enc : TypeId × Value → H} {w : World} {base : Nat} {cs : List Value} {x : DataW H × List MemPlace} {fuel : Nat}
    (hf : DataW.trod enc Try.prog w base (fun _ => true) true fuel 26 cs = some x) : ∃ v ds, cs = [v] ∧ RdA w v ds ∧ WfA ds := by
  rcases Go.Deep.open_slice Try.underlying26 hf with ⟨hcs, _⟩ | ⟨a, len, cap, m, n, D, Pl, hcs, _, hl, hm, hmm, _, hel⟩
  · exact ⟨_, [], hcs, Rd.nil _ _, fun d hd => by cases hd⟩
  · have hC : Try.prog.cellsOf 98 = 3 := by kernel_rfl
    rw [hC] at hel
    obtain ⟨f, hff⟩ := Go.Deep.choose_lt (α := ActD) (n := len) (p := fun i x => (w.cell? (a.add (i * 3)) = some (.int .i64 x.kind) ∧ w.cell? ((a.add (i * 3)).add 1) = some (.int .i64 x.a) ∧ w.cell? ((a.add (i * 3)).add 2) = some (.int .i64 x.b)) ∧
        (-9223372036854775808 ≤ x.kind ∧ x.kind ≤ 9223372036854775807) ∧ (-9223372036854775808 ≤ x.a ∧ x.a ≤ 9223372036854775807) ∧ (-9223372036854775808 ≤ x.b ∧ x.b ≤ 9223372036854775807)) (fun i hi => by
      obtain ⟨cs', h1, h2⟩ := hel i (by rw [hmm]; simp; omega)
      obtain ⟨_, hlen, hc⟩ := World.cells?_some h1
      obtain ⟨_, hfs⟩ := open_fieldsF Try.underlying98 (by kernel_rfl) (by kernel_rfl) h2
      match cs', hlen with
      | [x0, x1, x2], _ =>
        obtain ⟨_, y0, m0, e0, t0⟩ := hfs 0 _ rfl
        obtain rfl := by simpa using e0
        obtain ⟨n0, rfl, w0⟩ := open_intF Try.underlying3 t0
        obtain ⟨_, y1, m1, e1, t1⟩ := hfs 1 _ rfl
        obtain rfl := by simpa using e1
        obtain ⟨n1, rfl, w1⟩ := open_intF Try.underlying3 t1
        obtain ⟨_, y2, m2, e2, t2⟩ := hfs 2 _ rfl
        obtain rfl := by simpa using e2
        obtain ⟨n2, rfl, w2⟩ := open_intF Try.underlying3 t2
        have c0 := hc 0 (by decide)
        rw [show (a.add (i * 3)).add 0 = a.add (i * 3) from by unfold Addr.add; simp] at c0
        exact ⟨⟨n0, n1, n2⟩, ⟨c0, hc 1 (by decide), hc 2 (by decide)⟩, w0, w1, w2⟩)
    refine ⟨_, (List.range len).map f, hcs, rdA_of f hl hm (fun i hi => (hff i hi).1), fun d hd => ?_⟩
    obtain ⟨i, hi, rfl⟩ := List.mem_map.1 hd
    exact (hff i (List.mem_range.1 hi)).2
--% Entry 63 61
set_option maxRecDepth 100000 in
theorem open_Entry {H : Type} {enc : TypeId × Value → H} {w : World} {r : Reach} {base b0 : Nat} {v : Value} {d : DataW H} {ps : List MemPlace}
    (hv : Value.okWide Try.prog w r b0 63 v) (h : DataW.Trod enc Try.prog w base (fun _ => true) true 63 v d ps) : ∃ x : DatE, RdE w v x ∧ WfE x := by
  obtain ⟨cs, rfl, hsz⟩ := okWide_struct Try.underlying63 hv
  obtain ⟨l⟩ := cs
  have hC : Try.prog.cellsOf 63 = 6 := by kernel_rfl
  have hlen : l.length = 6 := by simpa using hsz.trans hC
  obtain ⟨fuel, hf⟩ := h
  obtain ⟨xs, n, _, hx, _, hxl, hg⟩ := DataW.trod_struct Try.underlying63 hf
  have key : ∀ (j : Nat) (f : Field) (hj : j < xs.length), DataW.trod enc Try.prog w base (fun _ => true) true n f.type ((l.drop f.offset).take (Try.prog.cellsOf f.type)) = xs[j]? → ∃ y, DataW.trod enc Try.prog w base (fun _ => true) true n f.type ((l.drop f.offset).take (Try.prog.cellsOf f.type)) = some y := fun j f hj h => ⟨xs[j], h.trans (List.getElem?_eq_getElem hj)⟩
  have hx5 : xs.length = 5 := hxl
  have ci : Try.prog.cellsOf 3 = 1 := by kernel_rfl
  have cm : Try.prog.cellsOf 61 = 2 := by kernel_rfl
  have ca : Try.prog.cellsOf 26 = 1 := by kernel_rfl
  match l, hlen with
  | [c0, c1, c2, c3, c4, c5], _ =>
    obtain ⟨y0, t0⟩ := key 0 _ (by omega) (hg 0 _ rfl)
    obtain ⟨y1, t1⟩ := key 1 _ (by omega) (hg 1 _ rfl)
    obtain ⟨y2, t2⟩ := key 2 _ (by omega) (hg 2 _ rfl)
    obtain ⟨y3, t3⟩ := key 3 _ (by omega) (hg 3 _ rfl)
    obtain ⟨y4, t4⟩ := key 4 _ (by omega) (hg 4 _ rfl)
    have t0 : DataW.trod enc Try.prog w base (fun _ => true) true n 3 (([c0, c1, c2, c3, c4, c5].drop 0).take (Try.prog.cellsOf 3)) = some y0 := t0
    rw [ci] at t0
    have t0 : DataW.trod enc Try.prog w base (fun _ => true) true n 3 [c0] = some y0 := t0
    have t1 : DataW.trod enc Try.prog w base (fun _ => true) true n 3 (([c0, c1, c2, c3, c4, c5].drop 1).take (Try.prog.cellsOf 3)) = some y1 := t1
    rw [ci] at t1
    have t1 : DataW.trod enc Try.prog w base (fun _ => true) true n 3 [c1] = some y1 := t1
    have t2 : DataW.trod enc Try.prog w base (fun _ => true) true n 61 (([c0, c1, c2, c3, c4, c5].drop 2).take (Try.prog.cellsOf 61)) = some y2 := t2
    rw [cm] at t2
    have t2 : DataW.trod enc Try.prog w base (fun _ => true) true n 61 [c2, c3] = some y2 := t2
    have t3 : DataW.trod enc Try.prog w base (fun _ => true) true n 26 (([c0, c1, c2, c3, c4, c5].drop 4).take (Try.prog.cellsOf 26)) = some y3 := t3
    rw [ca] at t3
    have t3 : DataW.trod enc Try.prog w base (fun _ => true) true n 26 [c4] = some y3 := t3
    have t4 : DataW.trod enc Try.prog w base (fun _ => true) true n 3 (([c0, c1, c2, c3, c4, c5].drop 5).take (Try.prog.cellsOf 3)) = some y4 := t4
    rw [ci] at t4
    have t4 : DataW.trod enc Try.prog w base (fun _ => true) true n 3 [c5] = some y4 := t4
    obtain ⟨a0, rfl, w0⟩ := open_intF Try.underlying3 t0
    obtain ⟨a1, rfl, w1⟩ := open_intF Try.underlying3 t1
    obtain ⟨a5, rfl, w5⟩ := open_intF Try.underlying3 t4
    obtain ⟨_, hfs⟩ := open_fieldsF Try.underlying61 (by kernel_rfl) (by kernel_rfl) t2
    obtain ⟨_, z0, m0, e0, s0⟩ := hfs 0 _ rfl
    obtain rfl := by simpa using e0
    obtain ⟨a2, r2, w2⟩ := open_IntsF Try.underlying22 Try.underlying3 (by kernel_rfl) s0
    obtain ⟨_, z1, m1, e1, s1⟩ := hfs 1 _ rfl
    obtain rfl := by simpa using e1
    obtain ⟨a3, r3, w3⟩ := open_IntsF Try.underlying22 Try.underlying3 (by kernel_rfl) s1
    obtain ⟨v4, a4, e4, r4, w4⟩ := open_SliceActF t3
    obtain rfl := by simpa using e4
    exact ⟨⟨a0, a1, ⟨a2, a3⟩, a4, a5⟩, ⟨_, _, _, rfl, r2, r3, r4⟩, ⟨w0, w1, ⟨w2, w3⟩, w4, w5⟩⟩
--%
end Go.Proofs.Ytgigdpdmdldhnaa
