/- The laws' draws: what is kept while a function draws (a cursor, boxes, rows of its own). -/
import Derived.Test.YtgigdpdmdldhnaaDwx
import Derived.WalkKit
import Derived.ProofKit
namespace Go.Proofs.Ytgigdpdmdldhnaa
open Go.ChangeShapes Go.WideShapes Go.ChangeAt Go.RowKit
set_option linter.unusedVariables false
set_option linter.unusedSimpArgs false
--%
/-- A cursor at p; since w only it and newer blocks have turned. -/
structure DS (w W : World) (p : Nat) : Prop where
  cur : Cur W p
  upd : Upd [p] w W
  lt : p < w.heap.size
theorem DS.start {w : World} {p : Nat} (h : Cur w p) : DS w w p := ⟨h, Upd.refl _ _, h.lt⟩
theorem DS.call {w W W' : World} {p : Nat} (h : DS w W p) (hC : Cur W' p) (hU : Upd [p] W W') : DS w W' p := ⟨hC, h.upd.same hU, h.lt⟩
theorem DS.grow {w W W' : World} {p : Nat} (h : DS w W p) (g : Grow W W') : DS w W' p := ⟨h.cur.grow g, h.upd.grow_ g, h.lt⟩
theorem DS.own {w W W' : World} {p : Nat} {fq : List Nat} (h : DS w W p) (u : Upd fq W W') (hf : ∀ x ∈ fq, w.heap.size ≤ x) : DS w W' p :=
  ⟨h.cur.upd u (fun x hx => Nat.lt_of_lt_of_le h.lt (hf x hx)), h.upd.fresh_ u hf, h.lt⟩
theorem DS.size {w W : World} {p : Nat} (h : DS w W p) : w.heap.size ≤ W.heap.size := h.upd.size
/-- A box made since w. -/
def Bx (w W : World) (b : Nat) (cs : List Value) : Prop := Box W b cs ∧ w.heap.size ≤ b
theorem Bx.call {w W0 W W' : World} {b p : Nat} {cs : List Value} (h : Bx w W b cs) (d : DS w W0 p) (hU : Upd [p] W W') : Bx w W' b cs :=
  ⟨h.1.upd hU (by have h1 := d.lt; have h2 := h.2; simp; omega), h.2⟩
theorem Bx.grow {w W W' : World} {b : Nat} {cs : List Value} (h : Bx w W b cs) (g : Grow W W') : Bx w W' b cs := ⟨h.1.grow g, h.2⟩
theorem Bx.own {w W W' : World} {b : Nat} {cs : List Value} {fq : List Nat} (h : Bx w W b cs) (u : Upd fq W W') (hn : b ∉ fq) : Bx w W' b cs := ⟨h.1.upd u hn, h.2⟩
theorem Bx.set {w W : World} {b : Nat} {cs : List Value} (h : Bx w W b cs) (j : Nat) (x : Value) (hj : j < cs.length) : Bx w (W.setCell ⟨b, j, none⟩ x) b (cs.set j x) := ⟨h.1.set j x hj, h.2⟩
theorem Bx.new {w W : World} {p : Nat} (d : DS w W p) (cs : List Value) (t : TypeId) : Bx w (W.alloc (.cells cs.toArray t)) W.heap.size cs := ⟨Box.alloc W cs t, d.size⟩
/-- A store into a box of one's own. -/
theorem DS.box {w W : World} {p b j : Nat} {cs : List Value} (h : DS w W p) (hb : Bx w W b cs) (x : Value) : DS w (W.setCell ⟨b, j, none⟩ x) p :=
  h.own (Upd.setCell (p := ⟨b, j, none⟩) (Upd.refl [b] W) (by simp) x) (fun y hy => by simp only [List.mem_cons, List.not_mem_nil, or_false] at hy; subst hy; exact hb.2)
theorem Bx.apart {w W : World} {b c j : Nat} {cs : List Value} (h : Bx w W b cs) (hn : b ≠ c) (x : Value) : Bx w (W.setCell ⟨c, j, none⟩ x) b cs :=
  h.own (Upd.setCell (p := ⟨c, j, none⟩) (Upd.refl [c] W) (by simp) x) (by simpa using hn)
/-- A row made since w. -/
theorem own_apart {w w' : World} {B : Nat} {e : TypeId} {size : Nat} {v : Value} {n : Nat} {xs : List Value} {fq : List Nat} (h : w.ownsRow B e size v n xs) (u : Upd fq w w') (ha : ∀ x ∈ fpOf v, x ∉ fq) : w'.ownsRow B e size v n xs := by
  obtain ⟨hl, h | ⟨g, cap, cur, rfl, hb, hg, r⟩⟩ := h
  · exact ⟨hl, .inl h⟩
  · refine ⟨hl, .inr ⟨g, cap, cur, rfl, hb, ?_, r⟩⟩
    rw [u.block g (Array.getElem?_eq_some_iff.1 hg).1 (ha g (by simp [fpOf, Value.ownBlock]))]
    exact hg
theorem own_box {w w' : World} {B b j : Nat} {e : TypeId} {size : Nat} {v x : Value} {n : Nat} {xs : List Value} (h : w.ownsRow B e size v n xs) (ha : ∀ x ∈ fpOf v, x ≠ b) : (w.setCell ⟨b, j, none⟩ x).ownsRow B e size v n xs :=
  own_apart h (Upd.setCell (p := ⟨b, j, none⟩) (Upd.refl [b] w) (by simp) x) (fun y hy hm => by simp only [List.mem_cons, List.not_mem_nil, or_false] at hm; exact ha y hy hm)
theorem own_call {w W W' : World} {p : Nat} {e : TypeId} {size : Nat} {v : Value} {n : Nat} {xs : List Value} (h : W.ownsRow w.heap.size e size v n xs) (d : DS w W p) (hU : Upd [p] W W') : W'.ownsRow w.heap.size e size v n xs := own_upd h hU d.lt
theorem own_new_ {w : World} {B : Nat} {e : TypeId} {size : Nat} {v : Value} {n : Nat} {xs : List Value} (h : w.ownsRow B e size v n xs) : ∀ x ∈ fpOf v, B ≤ x ∧ x < w.heap.size := fun x hx => own_block h (by simpa [fpOf] using hx)
/-- The first elements of a row. -/
theorem own_take {w : World} {B : Nat} {e : TypeId} {size : Nat} {a : Option Addr} {n c k : Nat} {xs : List Value} (h : w.ownsRow B e size (.slice a n c) n xs) (hk : k ≤ n) (h0 : 0 < n) : w.ownsRow B e size (.slice a k c) k (xs.take (k * size)) := by
  obtain ⟨hl, h | ⟨g, cap, cur, e0, hb, hg, hnc, hcm, hcs, ht⟩⟩ := h
  · have := h.1
    simp only [Value.slice.injEq] at this
    omega
  · simp only [Value.slice.injEq] at e0
    obtain ⟨rfl, -, rfl⟩ := e0
    refine ⟨by rw [List.length_take, hl, Nat.min_eq_left (Nat.mul_le_mul_right _ hk)], .inr ⟨g, c, cur, rfl, hb, hg, by omega, hcm, hcs, ?_⟩⟩
    rw [← ht, List.take_take, Nat.min_eq_left (Nat.mul_le_mul_right _ hk)]
--% ints
/-- A row of ints made since w. -/
def ON (w W : World) (v : Value) (zs : List Int) : Prop := W.ownsRow w.heap.size 3 1 v zs.length (zs.map (Value.int .i64))
theorem ON.call {w W0 W W' : World} {p : Nat} {v : Value} {zs : List Int} (h : ON w W v zs) (d : DS w W0 p) (hU : Upd [p] W W') : ON w W' v zs := own_upd h hU d.lt
theorem ON.grow {w W W' : World} {v : Value} {zs : List Int} (h : ON w W v zs) (g : Grow W W') : ON w W' v zs := own_grow h g
theorem ON.box {w W : World} {b j : Nat} {v x : Value} {zs : List Int} (h : ON w W v zs) (ha : ∀ x ∈ fpOf v, x ≠ b) : ON w (W.setCell ⟨b, j, none⟩ x) v zs := own_box (w' := W) h ha
theorem ON.own {w W : World} {v : Value} {zs : List Int} (h : ON w W v zs) : OwnN W v zs (fpOf v) := (OwnR.of h).1
theorem ON.rd {w W : World} {v : Value} {zs : List Int} (h : ON w W v zs) : RdN W v zs := h.own.rd
theorem ON.len {w W : World} {a : Option Addr} {n c : Nat} {zs : List Int} (h : ON w W (.slice a n c) zs) : n = zs.length := by
  obtain ⟨a', c', e⟩ := own_shape h
  simp only [Value.slice.injEq] at e
  exact e.2.1
theorem ON.put {w W : World} {g n c : Nat} {zs : List Int} (h : ON w W (.slice (some ⟨g, 0, none⟩) n c) zs) (k : Nat) (hk : k < zs.length) (x : Int) :
    ON w (W.setCell ⟨g, k, none⟩ (.int .i64 x)) (.slice (some ⟨g, 0, none⟩) n c) (zs.set k x) := by
  obtain rfl := h.len
  have h1 := (h.own.put k hk x).1
  obtain ⟨hl, h2 | ⟨g', cap, cur, e0, hb, hg, r⟩⟩ := h1
  · obtain ⟨h3, -⟩ := h2; cases h3
  · refine ⟨hl, .inr ⟨g', cap, cur, e0, ?_, hg, r⟩⟩
    have := own_new_ h g (by simp [fpOf, Value.ownBlock])
    simp only [Value.slice.injEq, Option.some.injEq, Addr.mk.injEq] at e0
    obtain ⟨⟨rfl, -, -⟩, -, -⟩ := e0
    exact this.1
theorem ON.set_ {w W : World} {p g n c : Nat} {zs : List Int} (d : DS w W p) (h : ON w W (.slice (some ⟨g, 0, none⟩) n c) zs) (k : Nat) (x : Value) : DS w (W.setCell ⟨g, k, none⟩ x) p :=
  d.own (Upd.setCell (p := ⟨g, k, none⟩) (Upd.refl [g] W) (by simp) x) (fun y hy => by
    simp only [List.mem_cons, List.not_mem_nil, or_false] at hy; subst hy
    exact (own_new_ h y (by simp [fpOf, Value.ownBlock])).1)
theorem ON.cell {w W : World} {g n c : Nat} {zs : List Int} (h : ON w W (.slice (some ⟨g, 0, none⟩) n c) zs) (k : Nat) (hk : k < zs.length) : W.cell? ⟨g, k, none⟩ = some (.int .i64 (zs.getD k 0)) := by
  obtain rfl := h.len
  obtain ⟨g', c', e, -, hc, -, -⟩ := h.own.set k hk 0
  simp only [Value.slice.injEq, Option.some.injEq, Addr.mk.injEq] at e
  obtain ⟨⟨rfl, -, -⟩, -, -⟩ := e
  rw [hc, List.getD_eq_getElem?_getD, List.getElem?_eq_getElem hk]; rfl
theorem ON.frz {w W : World} {g n c : Nat} {zs : List Int} (h : ON w W (.slice (some ⟨g, 0, none⟩) n c) zs) (hk : 0 < zs.length) : ∀ o, W.frozen? ⟨g, o, none⟩ = false := by
  obtain rfl := h.len
  obtain ⟨g', c', e, -, -, hz, -⟩ := h.own.set 0 hk 0
  simp only [Value.slice.injEq, Option.some.injEq, Addr.mk.injEq] at e
  obtain ⟨⟨rfl, -, -⟩, -, -⟩ := e
  exact hz
theorem ON.take {w W : World} {a : Option Addr} {n c k : Nat} {zs : List Int} (h : ON w W (.slice a n c) zs) (hk : k ≤ zs.length) (h0 : 0 < zs.length) : ON w W (.slice a k c) (zs.take k) := by
  obtain rfl := h.len
  have := own_take h hk h0
  have e : (zs.take k).length = k := by simp; omega
  unfold ON
  rw [e, List.map_take]
  simpa using this
/-- A row of ints, drawn; of at most n, all of them machine ints. -/
def RetON (n : Nat) (w : World) (p : Nat) (e : Ending) (w' : World) : Prop := ∃ v zs, e = .returned v ∧ ON w w' v zs ∧ WfN zs ∧ zs.length ≤ n ∧ Cur w' p ∧ Upd [p] w w'
theorem WfN.onto {zs : List Int} {x : Int} (h : WfN zs) (hx : I64 x) : WfN (zs ++ [x]) := fun y hy => by
  rcases List.mem_append.1 hy with h1 | h1
  · exact h y h1
  · simp only [List.mem_cons, List.not_mem_nil, or_false] at h1; subst h1; exact hx
theorem WfN.set {zs : List Int} {k : Nat} {x : Int} (h : WfN zs) (hx : I64 x) : WfN (zs.set k x) := fun y hy => by
  rcases List.mem_or_eq_of_mem_set hy with h1 | h1
  · exact h y h1
  · subst h1; exact hx
theorem WfN.take {zs : List Int} {k : Nat} (h : WfN zs) : WfN (zs.take k) := fun y hy => h y (List.mem_of_mem_take hy)
theorem wfN_nil : WfN [] := fun y hy => by cases hy
theorem wf_row8 {a b c d e f g h : Int} (h1 : I64 a) (h2 : I64 b) (h3 : I64 c) (h4 : I64 d) (h5 : I64 e) (h6 : I64 f) (h7 : I64 g) (h8 : I64 h) : WfN [a, b, c, d, e, f, g, h] := fun y hy => by
  simp only [List.mem_cons, List.not_mem_nil, or_false] at hy
  rcases hy with rfl | rfl | rfl | rfl | rfl | rfl | rfl | rfl <;> assumption
--%
end Go.Proofs.Ytgigdpdmdldhnaa
