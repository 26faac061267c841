/- The draws of tables: what is kept of a table while it is drawn. -/
import Derived.Test.YtgigdpdmdldhnaaDra
import Derived.Test.YtgigdpdmdldhnaaDrm4
import Derived.Test.YtgigdpdmdldhnaaCp3
import Derived.WalkKit
import Derived.ProofKit
namespace Go.Proofs.Ytgigdpdmdldhnaa
open Go.ChangeShapes Go.WideShapes Go.ChangeAt Go.RowKit
set_option linter.unusedVariables false
set_option linter.unusedSimpArgs false
--%
/-- The rows of an entry, made since w, in none of the blocks L. -/
def SubOK (w W : World) (L : List Nat) (x0 x1 x2 : Value) (e : EntryD) : Prop :=
  ON w W x0 e.m.vs ∧ ON w W x1 e.m.ms ∧ OA w W x2 e.acts ∧ ∀ x, (x ∈ fpOf x0 ∨ x ∈ fpOf x1 ∨ x ∈ fpOf x2) → x ∉ L
theorem SubOK.here {w W : World} {L : List Nat} {x0 x1 x2 : Value} {e : EntryD} (h : SubOK w W L x0 x1 x2 e) : ∀ x, (x ∈ fpOf x0 ∨ x ∈ fpOf x1 ∨ x ∈ fpOf x2) → w.heap.size ≤ x ∧ x < W.heap.size := fun x hx => by
  rcases hx with k | k | k
  · exact own_new_ h.1 x k
  · exact own_new_ h.2.1 x k
  · exact own_new_ h.2.2.1 x k
theorem SubOK.upd {w W W' : World} {L fq : List Nat} {x0 x1 x2 : Value} {e : EntryD} (h : SubOK w W L x0 x1 x2 e) (u : Upd fq W W') (hf : ∀ x ∈ fq, x ∈ L ∨ x < w.heap.size) : SubOK w W' L x0 x1 x2 e := by
  obtain ⟨o0, o1, o2, n⟩ := h
  have k : ∀ {t : TypeId} {k : Nat} {v : Value} {n' : Nat} {xs : List Value}, W.ownsRow w.heap.size t k v n' xs → (∀ x ∈ fpOf v, x ∉ L) → W'.ownsRow w.heap.size t k v n' xs := fun o hn => own_apart o u (fun x hx hm => by
    have h1 := (own_new_ o x hx).1
    rcases hf x hm with h2 | h2
    · exact hn x hx h2
    · omega)
  exact ⟨k o0 (fun x hx => n x (.inl hx)), k o1 (fun x hx => n x (.inr (.inl hx))), k o2 (fun x hx => n x (.inr (.inr hx))), n⟩
theorem SubOK.grow {w W W' : World} {L : List Nat} {x0 x1 x2 : Value} {e : EntryD} (h : SubOK w W L x0 x1 x2 e) (g : Grow W W') : SubOK w W' L x0 x1 x2 e := h.upd (g.upd []) (by simp)
theorem SubOK.more {w W : World} {L L' : List Nat} {x0 x1 x2 : Value} {e : EntryD} (h : SubOK w W L x0 x1 x2 e) (hl : ∀ x ∈ L', x ∈ L ∨ W.heap.size ≤ x ∨ x < w.heap.size) : SubOK w W L' x0 x1 x2 e :=
  ⟨h.1, h.2.1, h.2.2.1, fun x hx hm => by
    have h1 := h.here x hx
    rcases hl x hm with k | k | k
    · exact h.2.2.2 x hx k
    · omega
    · omega⟩
theorem SubOK.older {w w1 W : World} {L : List Nat} {x0 x1 x2 : Value} {e : EntryD} (h : SubOK w1 W L x0 x1 x2 e) (hs : w.heap.size ≤ w1.heap.size) : SubOK w W L x0 x1 x2 e :=
  ⟨own_mono h.1 hs, own_mono h.2.1 hs, own_mono h.2.2.1 hs, h.2.2.2⟩
theorem SubOK.rd {w W : World} {L : List Nat} {x0 x1 x2 : Value} {e : EntryD} (h : SubOK w W L x0 x1 x2 e) : RdE W (.agg #[.int .i64 e.epoch, .int .i64 e.prio, x0, x1, x2, .int .i64 e.hits]) e :=
  ⟨x0, x1, x2, rfl, h.1.rd, h.2.1.rd, h.2.2.1.own.rd⟩
theorem SubOK.num {w W : World} {L : List Nat} {x0 x1 x2 : Value} {e e' : EntryD} (h : SubOK w W L x0 x1 x2 e) (h1 : e'.m = e.m) (h2 : e'.acts = e.acts) : SubOK w W L x0 x1 x2 e' := by
  unfold SubOK at h ⊢; rw [h1, h2]; exact h
theorem SubOK.of {w W : World} {e : EntryD} {fp : List Nat} {x0 x1 x2 : Value} (h : OwnE2 W (.agg #[.int .i64 e.epoch, .int .i64 e.prio, x0, x1, x2, .int .i64 e.hits]) e fp) (hf : ∀ x ∈ fp, w.heap.size ≤ x) (L : List Nat) (hl : ∀ x ∈ fp, x ∉ L) : SubOK w W L x0 x1 x2 e := by
  obtain ⟨v0, v1, v2, f0, f1, f2, e1, o0, o1, o2, rfl, -, -⟩ := h
  obtain ⟨rfl, rfl, rfl⟩ : x0 = v0 ∧ x1 = v1 ∧ x2 = v2 := by simpa using e1
  have q0 := o0.2; have q1 := o1.2; have q2 := o2.2
  refine ⟨ON.of o0 (fun x hx => hf x (by simp [hx])), ON.of o1 (fun x hx => hf x (by simp [hx])), ?_, fun x hx => hl x ?_⟩
  · exact own_from o2.1 (fun x hx => hf x (by rw [q2]; simp [hx]))
  · rcases hx with k | k | k
    · rw [q0]; simp [k]
    · rw [q1]; simp [k]
    · rw [q2]; simp [k]
def ECell (cs : List Value) (j : Nat) (e : EntryD) (x0 x1 x2 : Value) : Prop := ∀ i, i < 6 → cs[j * 6 + i]? = (entC e x0 x1 x2)[i]?
/-- A table's entries: their row, made since w, in none of the blocks N, and the rows of each. -/
def ET (w W : World) (N : List Nat) (v : Value) (es : List EntryD) (cs : List Value) : Prop :=
  W.ownsRow w.heap.size 68 6 v es.length cs ∧ (∀ x ∈ fpOf v, x ∉ N) ∧ ∀ j (hj : j < es.length), ∃ x0 x1 x2, ECell cs j es[j] x0 x1 x2 ∧ SubOK w W (fpOf v ++ N) x0 x1 x2 es[j]
theorem ET.len {w W : World} {N : List Nat} {a : Option Addr} {n c : Nat} {es : List EntryD} {cs : List Value} (h : ET w W N (.slice a n c) es cs) : n = es.length := by
  obtain ⟨a', c', e⟩ := own_shape h.1
  simp only [Value.slice.injEq] at e
  exact e.2.1
theorem ET.upd {w W W' : World} {N fq : List Nat} {v : Value} {es : List EntryD} {cs : List Value} (h : ET w W N v es cs) (u : Upd fq W W') (hf : ∀ x ∈ fq, x ∈ N ∨ x < w.heap.size) : ET w W' N v es cs := by
  refine ⟨own_apart h.1 u (fun x hx hm => ?_), h.2.1, fun j hj => ?_⟩
  · have h1 := (own_new_ h.1 x hx).1
    rcases hf x hm with k | k
    · exact h.2.1 x hx k
    · omega
  · obtain ⟨x0, x1, x2, hc, hs⟩ := h.2.2 j hj
    exact ⟨x0, x1, x2, hc, hs.upd u (fun x hx => (hf x hx).imp (fun k => List.mem_append_right _ k) id)⟩
theorem ET.grow {w W W' : World} {N : List Nat} {v : Value} {es : List EntryD} {cs : List Value} (h : ET w W N v es cs) (g : Grow W W') : ET w W' N v es cs := h.upd (g.upd []) (by simp)
theorem ET.call {w W0 W W' : World} {N : List Nat} {v : Value} {es : List EntryD} {cs : List Value} {p : Nat} (h : ET w W N v es cs) (d : DS w W0 p) (hU : Upd [p] W W') : ET w W' N v es cs :=
  h.upd hU (fun x hx => .inr (by have := d.lt; simp only [List.mem_cons, List.not_mem_nil, or_false] at hx; omega))
theorem ET.more {w W : World} {N N' : List Nat} {v : Value} {es : List EntryD} {cs : List Value} (h : ET w W N v es cs) (hl : ∀ x ∈ N', x ∈ N ∨ W.heap.size ≤ x ∨ x < w.heap.size) : ET w W N' v es cs := by
  refine ⟨h.1, fun x hx hm => ?_, fun j hj => ?_⟩
  · have h1 := own_new_ h.1 x hx
    rcases hl x hm with k | k | k
    · exact h.2.1 x hx k
    · omega
    · omega
  · obtain ⟨x0, x1, x2, hc, hs⟩ := h.2.2 j hj
    refine ⟨x0, x1, x2, hc, hs.more (fun x hx => ?_)⟩
    rcases List.mem_append.1 hx with k | k
    · exact .inl (List.mem_append_left _ k)
    · exact (hl x k).imp (fun k => List.mem_append_right _ k) id
theorem ET.older {w w1 W : World} {N : List Nat} {v : Value} {es : List EntryD} {cs : List Value} (h : ET w1 W N v es cs) (hs : w.heap.size ≤ w1.heap.size) : ET w W N v es cs :=
  ⟨own_mono h.1 hs, h.2.1, fun j hj => by obtain ⟨x0, x1, x2, hc, hs'⟩ := h.2.2 j hj; exact ⟨x0, x1, x2, hc, hs'.older hs⟩⟩
theorem ET.nil (w W : World) (N : List Nat) : ET w W N (.slice none 0 0) [] [] := ⟨World.ownsRow_nil _ _ _ _, by simp [fpOf, Value.ownBlock], fun j hj => absurd hj (Nat.not_lt_zero _)⟩
theorem ET.cell {w W : World} {N : List Nat} {g n c : Nat} {es : List EntryD} {cs : List Value} (h : ET w W N (.slice (some ⟨g, 0, none⟩) n c) es cs) (i : Nat) (hi : i < es.length * 6) : W.cell? ⟨g, i, none⟩ = cs[i]? := by
  obtain rfl := h.len
  exact World.ownsRow.cellAt h.1 i hi
theorem ET.cells {w W : World} {N : List Nat} {g n c j : Nat} {es : List EntryD} {cs : List Value} {e : EntryD} {x0 x1 x2 : Value} (h : ET w W N (.slice (some ⟨g, 0, none⟩) n c) es cs) (hj : j < es.length) (hc : ECell cs j e x0 x1 x2) :
    W.cell? ⟨g, j * 6, none⟩ = some (.int .i64 e.epoch) ∧ W.cell? ⟨g, j * 6 + 1, none⟩ = some (.int .i64 e.prio) ∧ W.cell? ⟨g, j * 6 + 2, none⟩ = some x0 ∧ W.cell? ⟨g, j * 6 + 3, none⟩ = some x1 ∧ W.cell? ⟨g, j * 6 + 4, none⟩ = some x2 ∧ W.cell? ⟨g, j * 6 + 5, none⟩ = some (.int .i64 e.hits) :=
  ⟨(h.cell (j * 6) (by omega)).trans (hc 0 (by decide)), (h.cell (j * 6 + 1) (by omega)).trans (hc 1 (by decide)), (h.cell (j * 6 + 2) (by omega)).trans (hc 2 (by decide)), (h.cell (j * 6 + 3) (by omega)).trans (hc 3 (by decide)), (h.cell (j * 6 + 4) (by omega)).trans (hc 4 (by decide)), (h.cell (j * 6 + 5) (by omega)).trans (hc 5 (by decide))⟩
theorem ET.frz {w W : World} {N : List Nat} {g n c : Nat} {es : List EntryD} {cs : List Value} (h : ET w W N (.slice (some ⟨g, 0, none⟩) n c) es cs) : (∀ o, W.frozen? ⟨g, o, none⟩ = false) ∧ g < W.heap.size := by
  obtain rfl := h.len
  exact ⟨fun o => World.ownsRow.frozenAt h.1 o, (own_new_ h.1 g (by simp [fpOf, Value.ownBlock])).2⟩
theorem ET.own {w W : World} {N : List Nat} {g n c : Nat} {es : List EntryD} {cs : List Value} (h : ET w W N (.slice (some ⟨g, 0, none⟩) n c) es cs) : w.heap.size ≤ g ∧ g ∉ N :=
  ⟨(own_new_ h.1 g (by simp [fpOf, Value.ownBlock])).1, h.2.1 g (by simp [fpOf, Value.ownBlock])⟩
theorem ET.rd {w W : World} {N : List Nat} {v : Value} {es : List EntryD} {cs : List Value} (h : ET w W N v es cs) : RdES W v es := by
  obtain ⟨a, c, rfl⟩ := own_shape h.1
  obtain ⟨a', n', c', e, hl, h1, h2, h3, h4⟩ := (OwnR.of h.1).1.rd
  simp only [Value.slice.injEq] at e
  obtain ⟨rfl, rfl, rfl⟩ := e
  refine ⟨a, c, rfl, h1, h2, h3, fun j hj => ?_⟩
  obtain ⟨g, rfl⟩ := own_some h.1 (by omega)
  obtain ⟨x0, x1, x2, hc, hs⟩ := h.2.2 j hj
  have q := h.cells hj hc
  refine ⟨g, 0, x0, x1, x2, rfl, ?_⟩
  rw [Nat.zero_add]
  exact ⟨q.1, q.2.1, q.2.2.1, q.2.2.2.1, q.2.2.2.2.1, q.2.2.2.2.2, hs.1.rd, hs.2.1.rd, hs.2.2.1.own.rd⟩
/-- An entry is laid anew. -/
theorem ET.put {w W W' : World} {N : List Nat} {g n c j : Nat} {es : List EntryD} {cs cs' : List Value} {e : EntryD} {x0 x1 x2 : Value} (h : ET w W N (.slice (some ⟨g, 0, none⟩) n c) es cs) (hj : j < es.length) (s : SubOK w W (g :: N) x0 x1 x2 e)
    (hrow : W'.ownsRow w.heap.size 68 6 (.slice (some ⟨g, 0, none⟩) n c) es.length cs') (u : Upd [g] W W') (hc : ECell cs' j e x0 x1 x2) (ho : ∀ i, i ≠ j → ∀ k, k < 6 → cs'[i * 6 + k]? = cs[i * 6 + k]?) : ET w W' N (.slice (some ⟨g, 0, none⟩) n c) (es.set j e) cs' := by
  have hfp : fpOf (.slice (some ⟨g, 0, none⟩) n c) ++ N = g :: N := by simp [fpOf, Value.ownBlock]
  refine ⟨by rw [List.length_set]; exact hrow, h.2.1, fun i hi => ?_⟩
  rw [List.length_set] at hi
  rw [hfp]
  by_cases hij : i = j
  · subst hij
    rw [List.getElem_set_self]
    exact ⟨x0, x1, x2, hc, s.upd u (by simp)⟩
  · obtain ⟨y0, y1, y2, yc, ys⟩ := h.2.2 i hi
    rw [hfp] at ys
    rw [List.getElem_set_ne (Ne.symm hij)]
    exact ⟨y0, y1, y2, fun k hk => (ho i hij k hk).trans (yc k hk), ys.upd u (by simp)⟩
theorem ET.stored {w W : World} {N : List Nat} {g n c : Nat} {es : List EntryD} {cs : List Value} (h : ET w W N (.slice (some ⟨g, 0, none⟩) n c) es cs) (i : Nat) (x : Value) : (W.setCell ⟨g, i, none⟩ x).ownsRow w.heap.size 68 6 (.slice (some ⟨g, 0, none⟩) n c) es.length (cs.set i x) := by
  obtain rfl := h.len
  exact (World.ownsRow.stored h.1 i x).1
theorem set_at {cs : List Value} {i k : Nat} {x : Value} (h : i ≠ k) : (cs.set i x)[k]? = cs[k]? := List.getElem?_set_ne h
theorem set_is {cs : List Value} {i : Nat} {x : Value} (h : i < cs.length) : (cs.set i x)[i]? = some x := List.getElem?_set_self h
theorem ET.setEpoch {w W : World} {N : List Nat} {g n c j : Nat} {es : List EntryD} {cs : List Value} (h : ET w W N (.slice (some ⟨g, 0, none⟩) n c) es cs) (hj : j < es.length) (y : Int) :
    ET w (W.setCell ⟨g, j * 6, none⟩ (.int .i64 y)) N (.slice (some ⟨g, 0, none⟩) n c) (es.set j { es[j] with epoch := y }) (cs.set (j * 6) (.int .i64 y)) := by
  obtain ⟨x0, x1, x2, hc, hs⟩ := h.2.2 j hj
  have hl : cs.length = es.length * 6 := h.1.1
  refine h.put hj (SubOK.num (e' := { es[j] with epoch := y }) (hs.more (fun x hx => .inl (by simpa [fpOf, Value.ownBlock] using hx))) rfl rfl) (h.stored _ _) (Upd.setCell (p := ⟨g, j * 6, none⟩) (Upd.refl [g] W) (by simp) _) (fun i hi => ?_) (fun i hij k hk => set_at (by omega))
  rcases (by omega : i = 0 ∨ i ≠ 0) with rfl | h0
  · rw [Nat.add_zero, set_is (by omega)]; rfl
  · rw [set_at (by omega), hc i hi]
    rcases (by omega : i = 1 ∨ i = 2 ∨ i = 3 ∨ i = 4 ∨ i = 5) with rfl | rfl | rfl | rfl | rfl <;> rfl
theorem ET.setPrio {w W : World} {N : List Nat} {g n c j : Nat} {es : List EntryD} {cs : List Value} (h : ET w W N (.slice (some ⟨g, 0, none⟩) n c) es cs) (hj : j < es.length) (y : Int) :
    ET w (W.setCell ⟨g, j * 6 + 1, none⟩ (.int .i64 y)) N (.slice (some ⟨g, 0, none⟩) n c) (es.set j { es[j] with prio := y }) (cs.set (j * 6 + 1) (.int .i64 y)) := by
  obtain ⟨x0, x1, x2, hc, hs⟩ := h.2.2 j hj
  have hl : cs.length = es.length * 6 := h.1.1
  refine h.put hj (SubOK.num (e' := { es[j] with prio := y }) (hs.more (fun x hx => .inl (by simpa [fpOf, Value.ownBlock] using hx))) rfl rfl) (h.stored _ _) (Upd.setCell (p := ⟨g, j * 6 + 1, none⟩) (Upd.refl [g] W) (by simp) _) (fun i hi => ?_) (fun i hij k hk => set_at (by omega))
  rcases (by omega : i = 1 ∨ i ≠ 1) with rfl | h0
  · rw [set_is (by omega)]; rfl
  · rw [set_at (by omega), hc i hi]
    rcases (by omega : i = 0 ∨ i = 2 ∨ i = 3 ∨ i = 4 ∨ i = 5) with rfl | rfl | rfl | rfl | rfl <;> rfl
def put6 (W : World) (g o : Nat) (e : EntryD) (x0 x1 x2 : Value) : World :=
  (((((W.setCell ⟨g, o, none⟩ (.int .i64 e.epoch)).setCell ⟨g, o + 1, none⟩ (.int .i64 e.prio)).setCell ⟨g, o + 2, none⟩ x0).setCell ⟨g, o + 3, none⟩ x1).setCell ⟨g, o + 4, none⟩ x2).setCell ⟨g, o + 5, none⟩ (.int .i64 e.hits)
def cput6 (cs : List Value) (o : Nat) (e : EntryD) (x0 x1 x2 : Value) : List Value :=
  (((((cs.set o (.int .i64 e.epoch)).set (o + 1) (.int .i64 e.prio)).set (o + 2) x0).set (o + 3) x1).set (o + 4) x2).set (o + 5) (.int .i64 e.hits)
theorem cput6_is {cs : List Value} {o : Nat} {e : EntryD} {x0 x1 x2 : Value} (h : o + 6 ≤ cs.length) : ∀ i, i < 6 → (cput6 cs o e x0 x1 x2)[o + i]? = (entC e x0 x1 x2)[i]? := fun i hi => by
  unfold cput6
  have l : ∀ (l : List Value) (k : Nat) (x : Value), (l.set k x).length = l.length := fun l k x => List.length_set
  rcases (by omega : i = 0 ∨ i = 1 ∨ i = 2 ∨ i = 3 ∨ i = 4 ∨ i = 5) with rfl | rfl | rfl | rfl | rfl | rfl
  · show (_ : List Value)[o]? = _
    rw [set_at (by omega), set_at (by omega), set_at (by omega), set_at (by omega), set_at (by omega), set_is (by omega)]; rfl
  · rw [set_at (by omega), set_at (by omega), set_at (by omega), set_at (by omega), set_is (by simp only [l]; omega)]; rfl
  · rw [set_at (by omega), set_at (by omega), set_at (by omega), set_is (by simp only [l]; omega)]; rfl
  · rw [set_at (by omega), set_at (by omega), set_is (by simp only [l]; omega)]; rfl
  · rw [set_at (by omega), set_is (by simp only [l]; omega)]; rfl
  · rw [set_is (by simp only [l]; omega)]; rfl
theorem cput6_ne {cs : List Value} {o k : Nat} {e : EntryD} {x0 x1 x2 : Value} (h : k < o ∨ o + 6 ≤ k) : (cput6 cs o e x0 x1 x2)[k]? = cs[k]? := by
  unfold cput6
  rw [set_at (by omega), set_at (by omega), set_at (by omega), set_at (by omega), set_at (by omega), set_at (by omega)]
theorem Upd.put6 {fp : List Nat} {w W : World} {g o : Nat} {e : EntryD} {x0 x1 x2 : Value} (u : Upd fp w W) (hg : g ∈ fp) : Upd fp w (put6 W g o e x0 x1 x2) := by
  unfold Go.Proofs.Ytgigdpdmdldhnaa.put6
  exact Upd.setCell (p := ⟨g, o + 5, none⟩) (Upd.setCell (p := ⟨g, o + 4, none⟩) (Upd.setCell (p := ⟨g, o + 3, none⟩) (Upd.setCell (p := ⟨g, o + 2, none⟩) (Upd.setCell (p := ⟨g, o + 1, none⟩) (Upd.setCell (p := ⟨g, o, none⟩) u hg _) hg _) hg _) hg _) hg _) hg _
theorem ET.setAll {w W : World} {N : List Nat} {g n c j : Nat} {es : List EntryD} {cs : List Value} {e : EntryD} {x0 x1 x2 : Value} (h : ET w W N (.slice (some ⟨g, 0, none⟩) n c) es cs) (hj : j < es.length) (s : SubOK w W (g :: N) x0 x1 x2 e) :
    ET w (put6 W g (j * 6) e x0 x1 x2) N (.slice (some ⟨g, 0, none⟩) n c) (es.set j e) (cput6 cs (j * 6) e x0 x1 x2) := by
  obtain rfl := h.len
  have hl : cs.length = es.length * 6 := h.1.1
  have r0 := (World.ownsRow.stored h.1 (j * 6) (.int .i64 e.epoch)).1
  have r1 := (World.ownsRow.stored r0 (j * 6 + 1) (.int .i64 e.prio)).1
  have r2 := (World.ownsRow.stored r1 (j * 6 + 2) x0).1
  have r3 := (World.ownsRow.stored r2 (j * 6 + 3) x1).1
  have r4 := (World.ownsRow.stored r3 (j * 6 + 4) x2).1
  have r5 := (World.ownsRow.stored r4 (j * 6 + 5) (.int .i64 e.hits)).1
  exact h.put hj s r5 ((Upd.refl [g] W).put6 (by simp)) (cput6_is (by omega)) (fun i hij k hk => cput6_ne (by omega))
/-- One entry more. -/
theorem ET.app {w W W' : World} {N : List Nat} {v v' : Value} {es : List EntryD} {cs : List Value} {e : EntryD} {x0 x1 x2 : Value} {c : Array Value} {t : TypeId} (h : ET w W N v es cs) (s : SubOK w W (fpOf v ++ N) x0 x1 x2 e) (hn : ∀ x ∈ N, x < W.heap.size)
    (hown : W'.ownsRow w.heap.size 68 6 v' (es.length + 1) (cs ++ entC e x0 x1 x2)) (hgr : (W.alloc (.cells c t)).grownBy W' v.ownBlock) (hmv : Moved (W.alloc (.cells c t)) v v') : ET w W' N v' (es ++ [e]) (cs ++ entC e x0 x1 x2) := by
  have u := Upd.of_grown hgr
  have g := Grow.alloc W (.cells c t)
  have hl : cs.length = es.length * 6 := h.1.1
  have mv : ∀ x ∈ fpOf v', x ∈ fpOf v ∨ W.heap.size ≤ x := fun x hx => (hmv x (by simpa [fpOf] using hx)).imp (fun k => by simpa [fpOf] using k) (fun k => Nat.le_trans g.size k)
  have ml : ∀ x ∈ fpOf v' ++ N, x ∈ fpOf v ++ N ∨ W.heap.size ≤ x ∨ x < w.heap.size := fun x hx => by
    rcases List.mem_append.1 hx with k | k
    · exact (mv x k).imp (fun k => List.mem_append_left _ k) .inl
    · exact .inl (List.mem_append_right _ k)
  have su : ∀ {y0 y1 y2 : Value} {d : EntryD}, SubOK w W (fpOf v ++ N) y0 y1 y2 d → SubOK w W' (fpOf v' ++ N) y0 y1 y2 d := fun k => by
    have k1 := (k.grow g).upd u (fun x hx => .inl (List.mem_append_left _ hx))
    exact ⟨k1.1, k1.2.1, k1.2.2.1, (k.more ml).2.2.2⟩
  refine ⟨by rw [List.length_append]; exact hown, fun x hx hm => ?_, fun j hj => ?_⟩
  · rcases mv x hx with k | k
    · exact h.2.1 x k hm
    · have := hn x hm; omega
  · rw [List.length_append] at hj
    by_cases hjl : j < es.length
    · obtain ⟨y0, y1, y2, yc, ys⟩ := h.2.2 j hjl
      rw [List.getElem_append_left hjl]
      exact ⟨y0, y1, y2, fun i hi => (cells_left hl (by omega)).trans (yc i hi), su ys⟩
    · obtain rfl : j = es.length := by simp at hj; omega
      have hee : (es ++ [e])[es.length]'(by simp) = e := by simp
      rw [hee]
      exact ⟨x0, x1, x2, fun i hi => cells_right hl, su s⟩
/-- What l07Copy hands back. -/
theorem ET.of {w W : World} {v : Value} {es : List EntryD} {fp : List Nat} (h : OwnES2 W v es fp) (hf : ∀ x ∈ fp, w.heap.size ≤ x) (N : List Nat) (hn : ∀ x ∈ fp, x ∉ N) : ∃ cs, ET w W N v es cs := by
  obtain ⟨cs, F, ⟨h1, h2, h3, h4⟩, rfl⟩ := h
  refine ⟨cs, own_from h1 (fun x hx => hf x (mem_allF.2 (.inl hx))), fun x hx => hn x (mem_allF.2 (.inl hx)), fun j hj => ?_⟩
  obtain ⟨x0, x1, x2, f0, f1, f2, c0, c1, c2, c3, c4, c5, o0, o1, o2, hF, d0, d1⟩ := h2 j hj
  refine ⟨x0, x1, x2, fun i hi => ?_, SubOK.of (fp := F j) ⟨x0, x1, x2, f0, f1, f2, rfl, o0, o1, o2, hF, d0, d1⟩ (fun x hx => hf x (mem_allF.2 (.inr ⟨j, hj, hx⟩))) _ (fun x hx hm => ?_)⟩
  · rcases (by omega : i = 0 ∨ i = 1 ∨ i = 2 ∨ i = 3 ∨ i = 4 ∨ i = 5) with rfl | rfl | rfl | rfl | rfl | rfl
    · rw [Nat.add_zero, c0]; rfl
    · rw [c1]; rfl
    · rw [c2]; rfl
    · rw [c3]; rfl
    · rw [c4]; rfl
    · rw [c5]; rfl
  · rcases List.mem_append.1 hm with k | k
    · exact h3 j hj x k hx
    · exact hn x (mem_allF.2 (.inr ⟨j, hj, hx⟩)) k
/-- Entries as they are drawn: machine ints, and short. -/
def GoodE (e : EntryD) : Prop := WfE e ∧ e.m.vs.length ≤ 9 ∧ e.m.ms.length ≤ 9 ∧ e.acts.length ≤ 13
def GoodS (es : List EntryD) : Prop := ∀ e ∈ es, GoodE e
theorem GoodE.sm {e : EntryD} (h : GoodE e) : SmE e := by obtain ⟨-, h1, h2, h3⟩ := h; unfold SmE sizeE sizeM sizeA; omega
theorem GoodS.wf {es : List EntryD} (h : GoodS es) : WfES es := fun e he => (h e he).1
theorem GoodS.sum {es : List EntryD} (h : GoodS es) : sumE es ≤ 31 * es.length := by
  induction es with
  | nil => simp [sumE]
  | cons e es ih =>
    have h1 := ih (fun d hd => h d (by simp [hd]))
    obtain ⟨-, h2, h3, h4⟩ := h e (by simp)
    simp only [sumE, List.length_cons]
    unfold sizeE sizeM sizeA
    omega
theorem GoodS.sm {cap : Int} {es : List EntryD} (h : GoodS es) (hl : es.length ≤ 1000) : SmT ⟨cap, es⟩ := by
  have := h.sum
  unfold SmT sizeT sizeES
  simp only
  omega
theorem GoodS.onto {es : List EntryD} {e : EntryD} (h : GoodS es) (he : GoodE e) : GoodS (es ++ [e]) := fun d hd => by
  rcases List.mem_append.1 hd with k | k
  · exact h d k
  · simp only [List.mem_cons, List.not_mem_nil, or_false] at k; subst k; exact he
theorem GoodS.set {es : List EntryD} {j : Nat} {e : EntryD} (h : GoodS es) (he : GoodE e) : GoodS (es.set j e) := fun d hd => by
  rcases List.mem_or_eq_of_mem_set hd with k | k
  · exact h d k
  · subst k; exact he
theorem GoodS.at {es : List EntryD} {j : Nat} (h : GoodS es) (hj : j < es.length) : GoodE es[j] := h _ (List.getElem_mem hj)
theorem goodS_nil : GoodS [] := fun e he => by cases he
--%
end Go.Proofs.Ytgigdpdmdldhnaa
