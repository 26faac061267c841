/- Lemmas for the frames of the laws: how arguments are opened. -/
import Derived.Test.YtgbaaapneddcoaaNum
import Derived.WalkKit
import Derived.ProofKit
import Derived.OpenShut
import Derived.ShutString
import Derived.ChangeOld
import Derived.Below
import Derived.SizedLaws
import Derived.Deep.Fields
namespace Go.Proofs.Ytgbaaapneddcoaa
open Go.ChangeShapes Go.WideShapes Go.ChangeAt Go.RowKit
theorem own : ownKnob Try.prog.godebug = none := by kernel_rfl
theorem laidOut : laidOutB Try.prog = true := by kernel_rfl
theorem IntWalk_wf {n : Int} (h : (Lit.int .i64 n).wf = true) : -9223372036854775808 ≤ n ∧ n ≤ 9223372036854775807 := by
  simpa [Lit.wf, IntKind.min, IntKind.max, IntKind.signed, IntKind.bits] using h
theorem byte_wf {n : Int} (h : (Lit.int .u8 n).wf = true) : 0 ≤ n ∧ n < 256 := by
  have : 0 ≤ n ∧ n ≤ 255 := by simpa [Lit.wf, IntKind.min, IntKind.max, IntKind.signed, IntKind.bits] using h
  omega
section
variable {H : Type} {enc : TypeId × Value → H} {P : Program} {w : World} {r : Reach} {base b0 : Nat}
theorem rd_of_open {k : IntKind} {a : Addr} {len cap : Nat} {zs : List Int} (hl : len ≤ cap) (hm : cap ≤ maxLen) (hz : zs.length = cap) (hcell : ∀ i, i < zs.length → w.cell? (a.add i) = some (.int k (zs.getD i 0))) :
    Rd w 1 (.slice (some a) len cap) ((zs.take len).map (Value.int k)) := by
  refine ⟨some a, len, cap, rfl, by simp; omega, hl, hm, (fun e => by cases e), fun j x hx => ?_⟩
  have hj : j < len := by
    have := (List.getElem?_eq_some_iff.1 hx).1
    simp at this; omega
  have hc := hcell j (by omega)
  obtain ⟨b, off, spot⟩ := a
  have hspot : spot = none := by
    have h0 := hcell 0 (by omega)
    simpa [Addr.add] using World.cell?_spot h0
  subst hspot
  refine ⟨b, off, rfl, ?_⟩
  have e : (⟨b, off, none⟩ : Addr).add j = ⟨b, off + j, none⟩ := by unfold Addr.add; split <;> simp_all
  rw [e] at hc
  rw [hc]
  simp only [List.getElem?_map, List.getElem?_take, if_pos hj] at hx
  rw [List.getD_eq_getElem?_getD]
  cases hq : zs[j]? with
  | none => rw [hq] at hx; simp at hx
  | some y => rw [hq] at hx; simpa using hx
theorem open_Bytes {t e : TypeId} (ht : P.underlying t = some (.slice e)) (he : P.underlying e = some (.int .u8)) (hC : P.cellsOf e = 1) {v : Value} {d : DataW H} {ps : List MemPlace}
    (hv : Value.okWide P w r b0 t v) (h : DataW.Trod enc P w base (fun _ => true) true t v d ps) : ∃ zs : List Int, Rd w 1 v (zs.map (Value.int .u8)) ∧ ∀ x ∈ zs, 0 ≤ x ∧ x < 256 := by
  obtain ⟨a0, len0, cap0, rfl⟩ := okWide_slice ht hv
  obtain ⟨fuel, hf⟩ := h
  rcases open_ints ht he hC hf with ⟨hcs, _⟩ | ⟨x, l, c, zs, hcs, _, hl, hm, hz, _, hcell, hwz⟩
  · simp [Value.cells] at hcs
    obtain ⟨rfl, rfl, rfl⟩ := hcs
    exact ⟨[], Rd.nil _ _, by simp⟩
  · simp [Value.cells] at hcs
    obtain ⟨rfl, rfl, rfl⟩ := hcs
    exact ⟨zs.take len0, rd_of_open hl hm (by simpa using hz) hcell, fun y hy => byte_wf (hwz y (List.mem_of_mem_take hy))⟩
theorem open_Ints {t e : TypeId} (ht : P.underlying t = some (.slice e)) (he : P.underlying e = some (.int .i64)) (hC : P.cellsOf e = 1) {v : Value} {d : DataW H} {ps : List MemPlace}
    (hv : Value.okWide P w r b0 t v) (h : DataW.Trod enc P w base (fun _ => true) true t v d ps) : ∃ zs : List Int, Rd w 1 v (zs.map (Value.int .i64)) ∧ ∀ x ∈ zs, -9223372036854775808 ≤ x ∧ x ≤ 9223372036854775807 := by
  obtain ⟨a0, len0, cap0, rfl⟩ := okWide_slice ht hv
  obtain ⟨fuel, hf⟩ := h
  rcases open_ints ht he hC hf with ⟨hcs, _⟩ | ⟨x, l, c, zs, hcs, _, hl, hm, hz, _, hcell, hwz⟩
  · simp [Value.cells] at hcs
    obtain ⟨rfl, rfl, rfl⟩ := hcs
    exact ⟨[], Rd.nil _ _, by simp⟩
  · simp [Value.cells] at hcs
    obtain ⟨rfl, rfl, rfl⟩ := hcs
    exact ⟨zs.take len0, rd_of_open hl hm (by simpa using hz) hcell, fun y hy => IntWalk_wf (hwz y (List.mem_of_mem_take hy))⟩
theorem open_BytesF {t e : TypeId} (ht : P.underlying t = some (.slice e)) (he : P.underlying e = some (.int .u8)) (hC : P.cellsOf e = 1) {v : Value} {x : DataW H × List MemPlace} {fuel : Nat}
    (hf : DataW.trod enc P w base (fun _ => true) true fuel t [v] = some x) : ∃ zs : List Int, Rd w 1 v (zs.map (Value.int .u8)) ∧ ∀ x ∈ zs, 0 ≤ x ∧ x < 256 := by
  rcases open_ints ht he hC hf with ⟨hcs, _⟩ | ⟨x, l, c, zs, hcs, _, hl, hm, hz, _, hcell, hwz⟩
  · obtain rfl := by simpa using hcs
    exact ⟨[], Rd.nil _ _, by simp⟩
  · obtain rfl := by simpa using hcs
    exact ⟨zs.take l, rd_of_open hl hm (by simpa using hz) hcell, fun y hy => byte_wf (hwz y (List.mem_of_mem_take hy))⟩
theorem open_IntsF {t e : TypeId} (ht : P.underlying t = some (.slice e)) (he : P.underlying e = some (.int .i64)) (hC : P.cellsOf e = 1) {v : Value} {x : DataW H × List MemPlace} {fuel : Nat}
    (hf : DataW.trod enc P w base (fun _ => true) true fuel t [v] = some x) : ∃ zs : List Int, Rd w 1 v (zs.map (Value.int .i64)) ∧ ∀ x ∈ zs, -9223372036854775808 ≤ x ∧ x ≤ 9223372036854775807 := by
  rcases open_ints ht he hC hf with ⟨hcs, _⟩ | ⟨x, l, c, zs, hcs, _, hl, hm, hz, _, hcell, hwz⟩
  · obtain rfl := by simpa using hcs
    exact ⟨[], Rd.nil _ _, by simp⟩
  · obtain rfl := by simpa using hcs
    exact ⟨zs.take l, rd_of_open hl hm (by simpa using hz) hcell, fun y hy => IntWalk_wf (hwz y (List.mem_of_mem_take hy))⟩
theorem open_intF {t : TypeId} (ht : P.underlying t = some (.int .i64)) {v : Value} {x : DataW H × List MemPlace} {fuel : Nat}
    (hf : DataW.trod enc P w base (fun _ => true) true fuel t [v] = some x) : ∃ n, v = .int .i64 n ∧ -9223372036854775808 ≤ n ∧ n ≤ 9223372036854775807 := by
  obtain ⟨n, hcs, _, hw⟩ := DataW.trod_int ht hf
  obtain rfl := by simpa using hcs
  exact ⟨n, rfl, IntWalk_wf hw⟩
/-- A struct of one-cell fields: its cells, and each field's reading. -/
theorem open_fields {t : TypeId} {fs : Array Field} (hs : P.underlying t = some (.struct fs)) (hone : Go.Deep.oneCellFields P fs = true) (hC : P.cellsOf t = fs.size) {v : Value} {d : DataW H} {ps : List MemPlace}
    (hv : Value.okWide P w r b0 t v) (h : DataW.Trod enc P w base (fun _ => true) true t v d ps) :
    ∃ cs : List Value, v = .agg cs.toArray ∧ cs.length = fs.size ∧ ∀ (j : Nat) (f : Field), fs[j]? = some f → ∃ c y n, cs[j]? = some c ∧ DataW.trod enc P w base (fun _ => true) true n f.type [c] = some y := by
  obtain ⟨cs, rfl, hsz⟩ := okWide_struct hs hv
  obtain ⟨l⟩ := cs
  have hlen : l.length = fs.size := by simpa using hsz.trans hC
  obtain ⟨fuel, hf⟩ := h
  obtain ⟨xs, n, _, hx, _, hxl, hg⟩ := DataW.trod_struct hs hf
  refine ⟨l, rfl, hlen, fun j f hj => ?_⟩
  obtain ⟨ho, hk⟩ := Go.Deep.hone_of hone j f hj
  have hjl : j < fs.size := (Array.getElem?_eq_some_iff.1 hj).1
  have h1 := hg j f hj
  rw [ho, hk] at h1
  have h2 : (l.drop j).take 1 = [l[j]'(by omega)] := by
    rw [List.drop_eq_getElem_cons (by omega)]
    rfl
  simp only [Value.cells] at h1
  rw [h2] at h1
  exact ⟨l[j]'(by omega), xs[j]'(by omega), n, List.getElem?_eq_getElem (by omega), h1.trans (List.getElem?_eq_getElem (by omega))⟩
end
end Go.Proofs.Ytgbaaapneddcoaa
