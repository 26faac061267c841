/- Slices of acts among a law's arguments, opened. -/
import Derived.Test.YtgigdpdmdldhnaaOpn
import Derived.Test.YtgigdpdmdldhnaaAc
import Derived.Deep.Slices
namespace Go.Proofs.Ytgigdpdmdldhnaa
open Go.ChangeShapes Go.WideShapes Go.ChangeAt Go.RowKit
set_option linter.unusedVariables false
--%
theorem open_fieldsF {H : Type} {enc : TypeId × Value → H} {P : Program} {w : World} {base : Nat} {t : TypeId} {fs : Array Field} (hs : P.underlying t = some (.struct fs)) (hone : Go.Deep.oneCellFields P fs = true) (hC : P.cellsOf t = fs.size) {l : List Value} {x : DataW H × List MemPlace} {fuel : Nat}
    (hf : DataW.trod enc P w base (fun _ => true) true fuel t l = some x) :
    l.length = fs.size ∧ ∀ (j : Nat) (f : Field), fs[j]? = some f → ∃ c y n, l[j]? = some c ∧ DataW.trod enc P w base (fun _ => true) true n f.type [c] = some y := by
  obtain ⟨xs, n, _, hx, hll, hxl, hg⟩ := DataW.trod_struct hs hf
  have hlen : l.length = fs.size := hll.trans hC
  refine ⟨hlen, fun j f hj => ?_⟩
  obtain ⟨ho, hk⟩ := Go.Deep.hone_of hone j f hj
  have hjl : j < fs.size := (Array.getElem?_eq_some_iff.1 hj).1
  have h1 := hg j f hj
  rw [ho, hk] at h1
  have h2 : (l.drop j).take 1 = [l[j]'(by omega)] := by
    rw [List.drop_eq_getElem_cons (by omega)]
    rfl
  rw [h2] at h1
  exact ⟨l[j]'(by omega), xs[j]'(by omega), n, List.getElem?_eq_getElem (by omega), h1.trans (List.getElem?_eq_getElem (by omega))⟩
theorem add_off (b o k : Nat) : (⟨b, o, none⟩ : Addr).add k = ⟨b, o + k, none⟩ := by unfold Addr.add; split <;> simp_all
theorem rdA_of {w : World} {a : Addr} {len cap : Nat} (f : Nat → ActD) (hl : len ≤ cap) (hm : cap ≤ maxLen)
    (h : ∀ i, i < len → w.cell? (a.add (i * 3)) = some (.int .i64 (f i).kind) ∧ w.cell? ((a.add (i * 3)).add 1) = some (.int .i64 (f i).a) ∧ w.cell? ((a.add (i * 3)).add 2) = some (.int .i64 (f i).b)) :
    RdA w (.slice (some a) len cap) ((List.range len).map f) := by
  refine ⟨some a, len, cap, rfl, by rw [actsC_len]; simp, hl, hm, (fun e => by cases e), fun j x hx => ?_⟩
  have hj : j < len * 3 := by have := (List.getElem?_eq_some_iff.1 hx).1; rw [actsC_len] at this; simpa using this
  have hi : j / 3 < len := by omega
  obtain ⟨b, off, spot⟩ := a
  have hspot : spot = none := by
    have h0 := (h 0 (by omega)).1
    simpa [Addr.add] using World.cell?_spot h0
  subst hspot
  refine ⟨b, off, rfl, ?_⟩
  obtain ⟨c0, c1, c2⟩ := h (j / 3) hi
  simp only [add_off] at c0 c1 c2
  have key := fun k v hv => actsC_at ((List.range len).map f) (j / 3) (by simpa using hi) k v hv
  simp only [List.getElem_map, List.getElem_range] at key
  have h3 : j % 3 = 0 ∨ j % 3 = 1 ∨ j % 3 = 2 := by omega
  rcases h3 with e | e | e
  · have := key 0 _ rfl
    rw [show j / 3 * 3 + 0 = j by omega, hx] at this
    rw [Option.some.inj this, show off + j = off + j / 3 * 3 by omega]; exact c0
  · have := key 1 _ rfl
    rw [show j / 3 * 3 + 1 = j by omega, hx] at this
    rw [Option.some.inj this, show off + j = off + j / 3 * 3 + 1 by omega]; exact c1
  · have := key 2 _ rfl
    rw [show j / 3 * 3 + 2 = j by omega, hx] at this
    rw [Option.some.inj this, show off + j = off + j / 3 * 3 + 2 by omega]; exact c2
--% open Acts 26 98
set_option maxRecDepth 100000 in
theorem open_SliceAct {H : Type} {enc : TypeId × Value → H} {w : World} {r : Reach} {base b0 : Nat} {v : Value} {d : DataW H} {ps : List MemPlace}
    (hv : Value.okWide Try.prog w r b0 26 v) (h : DataW.Trod enc Try.prog w base (fun _ => true) true 26 v d ps) : ∃ x : DatA, RdA w v x ∧ WfA x := by
  obtain ⟨a0, len0, cap0, rfl⟩ := okWide_slice Try.underlying26 hv
  obtain ⟨fuel, hf⟩ := h
  rcases Go.Deep.open_slice Try.underlying26 hf with ⟨hcs, _⟩ | ⟨a, len, cap, m, n, D, Pl, hcs, _, hl, hm, hmm, _, hel⟩
  · simp [Value.cells] at hcs
    obtain ⟨rfl, rfl, rfl⟩ := hcs
    exact ⟨[], Rd.nil _ _, fun d hd => by cases hd⟩
  · simp [Value.cells] at hcs
    obtain ⟨rfl, rfl, rfl⟩ := hcs
    have hC : Try.prog.cellsOf 98 = 3 := by kernel_rfl
    rw [hC] at hel
    obtain ⟨f, hff⟩ := Go.Deep.choose_lt (α := ActD) (n := len0) (p := fun i x => (w.cell? (a.add (i * 3)) = some (.int .i64 x.kind) ∧ w.cell? ((a.add (i * 3)).add 1) = some (.int .i64 x.a) ∧ w.cell? ((a.add (i * 3)).add 2) = some (.int .i64 x.b)) ∧
        (-9223372036854775808 ≤ x.kind ∧ x.kind ≤ 9223372036854775807) ∧ (-9223372036854775808 ≤ x.a ∧ x.a ≤ 9223372036854775807) ∧ (-9223372036854775808 ≤ x.b ∧ x.b ≤ 9223372036854775807)) (fun i hi => by
      obtain ⟨cs', h1, h2⟩ := hel i (by rw [hmm]; simp; omega)
      obtain ⟨_, hlen, hc⟩ := World.cells?_some h1
      obtain ⟨_, hfs⟩ := open_fieldsF Try.underlying98 (by kernel_rfl) (by kernel_rfl) h2
      match cs', hlen with
      | [x0, x1, x2], _ =>
        obtain ⟨_, y0, m0, e0, t0⟩ := hfs 0 _ rfl
        obtain rfl := by simpa using e0
        obtain ⟨n0, rfl, w0⟩ := open_intF Try.underlying3 t0
        obtain ⟨_, y1, m1, e1, t1⟩ := hfs 1 _ rfl
        obtain rfl := by simpa using e1
        obtain ⟨n1, rfl, w1⟩ := open_intF Try.underlying3 t1
        obtain ⟨_, y2, m2, e2, t2⟩ := hfs 2 _ rfl
        obtain rfl := by simpa using e2
        obtain ⟨n2, rfl, w2⟩ := open_intF Try.underlying3 t2
        have c0 := hc 0 (by decide)
        rw [show (a.add (i * 3)).add 0 = a.add (i * 3) from by unfold Addr.add; simp] at c0
        exact ⟨⟨n0, n1, n2⟩, ⟨c0, hc 1 (by decide), hc 2 (by decide)⟩, w0, w1, w2⟩)
    refine ⟨(List.range len0).map f, rdA_of f hl hm (fun i hi => (hff i hi).1), fun d hd => ?_⟩
    obtain ⟨i, hi, rfl⟩ := List.mem_map.1 hd
    exact (hff i (List.mem_range.1 hi)).2
--%
end Go.Proofs.Ytgigdpdmdldhnaa
