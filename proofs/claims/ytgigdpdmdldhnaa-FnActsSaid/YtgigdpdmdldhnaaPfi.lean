/- Perform: what is kept while it gathers; no walk here. -/
import Derived.Test.YtgigdpdmdldhnaaPfl
import Derived.Test.YtgigdpdmdldhnaaSn2
import Derived.WalkKit
import Derived.ProofKit
namespace Go.Proofs.Ytgigdpdmdldhnaa
open Go.ChangeShapes Go.WideShapes Go.ChangeAt Go.RowKit
set_option linter.unusedVariables false
set_option linter.unusedSimpArgs false
--%
/-- The blocks behind a value are there, and none is of fp. -/
def Off (W : World) (v : Value) (fp : List Nat) : Prop := ∀ b, v.ownBlock = some b → b < W.heap.size ∧ b ∉ fp
theorem RdN.off {W W' : World} {v : Value} {zs : List Int} {fp fq : List Nat} (h : RdN W v zs) (o : Off W v fp) (u : Upd fq W W') (hs : ∀ x ∈ fq, x ∈ fp ∨ W.heap.size ≤ x) : RdN W' v zs :=
  Rd.frame h (fun b hb hlt => u.block b hlt (fun hm => by
    have h1 := o b hb
    rcases hs b hm with h | h
    · exact h1.2 h
    · omega))
/-- Sends gathered, the head in its box. -/
structure PfS (w W : World) (bx : Nat) (hv q : Value) (zs : List Int) (es : List SentD) (cs : List Value) (F : Nat → List Nat) : Prop where
  acc : AccSF w W q es cs F
  box : Box W bx [hv]
  nb : w.heap.size ≤ bx
  off : bx ∉ allS q F es.length
  rd : RdN W hv zs
  hoff : Off W hv (allS q F es.length)
  hne : ∀ b, hv.ownBlock = some b → b ≠ bx
theorem Off.later {W W' : World} {v : Value} {fp : List Nat} (h : Off W v fp) (hs : W.heap.size ≤ W'.heap.size) : Off W' v fp := fun b hb => ⟨Nat.lt_of_lt_of_le (h b hb).1 hs, (h b hb).2⟩
theorem PfS.grow {w W W' : World} {bx : Nat} {hv q : Value} {zs : List Int} {es : List SentD} {cs : List Value} {F : Nat → List Nat} (h : PfS w W bx hv q zs es cs F) (g : Grow W W') : PfS w W' bx hv q zs es cs F :=
  ⟨h.acc.grow g, h.box.grow g, h.nb, h.off, h.rd.grow g, h.hoff.later g.size, h.hne⟩
theorem PfS.set {w W : World} {bx : Nat} {hv q : Value} {zs : List Int} {es : List SentD} {cs : List Value} {F : Nat → List Nat} (h : PfS w W bx hv q zs es cs F) {hv' : Value} {zs' : List Int} {fh : List Nat}
    (ho : OwnN W hv' zs' fh) (hf : ∀ x ∈ fh, x ∉ allS q F es.length ∧ x ≠ bx) : PfS w (W.setCell ⟨bx, 0, none⟩ hv') bx hv' q zs' es cs F := by
  have u : Upd [bx] W (W.setCell ⟨bx, 0, none⟩ hv') := Upd.setCell (p := ⟨bx, 0, none⟩) (Upd.refl [bx] W) (by simp) hv'
  have hb : ∀ b, hv'.ownBlock = some b → b ∈ fh ∧ b < W.heap.size := fun b hb => by
    obtain ⟨h1, rfl⟩ := ho
    exact ⟨by simp [fpOf, hb], (own_block h1 hb).2⟩
  refine ⟨h.acc.upd u (fun x hx => ?_) (fun x hx hm => ?_), h.box.set 0 hv' (by simp), h.nb, h.off, (ho.upd u (fun x hx hm => ?_)).rd, fun b hb' => ?_, fun b hb' => (hf b (hb b hb').1).2⟩
  · simp only [List.mem_cons, List.not_mem_nil, or_false] at hx; subst hx; exact h.nb
  · simp only [List.mem_cons, List.not_mem_nil, or_false] at hm; subst hm; exact h.off hx
  · simp only [List.mem_cons, List.not_mem_nil, or_false] at hm; exact (hf x hx).2 hm
  · exact ⟨Nat.lt_of_lt_of_le (hb b hb').2 u.size, (hf b (hb b hb').1).1⟩
theorem allS_onto {W : World} {v v' : Value} {F : Nat → List Nat} {n x : Nat} {fe : List Nat} (hm : Moved W v v') (hx : x ∈ allS v' (fun j => if j = n then fe else F j) (n + 1)) : x ∈ allS v F n ∨ x ∈ fe ∨ W.heap.size ≤ x := by
  rcases mem_allS.1 hx with hx | ⟨j, hj, hx⟩
  · have hb : v'.ownBlock = some x := by simpa [fpOf] using hx
    rcases hm x hb with h | h
    · exact .inl (mem_allS.2 (.inl (by simp [fpOf, h])))
    · exact .inr (.inr h)
  · change x ∈ (if j = n then fe else F j) at hx
    by_cases e : j = n
    · rw [if_pos e] at hx; exact .inr (.inl hx)
    · rw [if_neg e] at hx; exact .inl (mem_allS.2 (.inr ⟨j, by omega, hx⟩))
theorem PfS.onto {w W W' : World} {bx : Nat} {hv q q' : Value} {zs : List Int} {es : List SentD} {cs : List Value} {F : Nat → List Nat} (h : PfS w W bx hv q zs es cs F) {e : SentD} {x0 : Value} {fe : List Nat}
    (he : OwnN W x0 e.vs fe) (hfe : Fresh w fe) (hd : ∀ x ∈ fe, x ∉ allS q F es.length) (hbe : bx ∉ fe) (hve : ∀ b, hv.ownBlock = some b → b ∉ fe)
    (ho : W'.ownsRow w.heap.size 56 2 q' (es.length + 1) (cs ++ [.int .i64 e.port, x0])) (hg : W.grownBy W' q.ownBlock) (hm : Moved W q q') :
    PfS w W' bx hv q' zs (es ++ [e]) (cs ++ [.int .i64 e.port, x0]) (fun j => if j = es.length then fe else F j) := by
  have u := Upd.of_grown hg
  have hq : ∀ x ∈ fpOf q, x ∈ allS q F es.length := fun x hx => mem_allS.2 (.inl hx)
  have hlen : (es ++ [e]).length = es.length + 1 := by simp
  refine ⟨h.acc.onto_ he hfe (fun x hx hm => hd x hm hx) ho hg hm, h.box.upd u (fun hx => h.off (hq _ hx)), h.nb, fun hx => ?_, h.rd.off h.hoff u (fun x hx => .inl (hq x hx)), fun b hb => ⟨Nat.lt_of_lt_of_le (h.hoff b hb).1 u.size, fun hx => ?_⟩, h.hne⟩
  · rw [hlen] at hx
    rcases allS_onto hm hx with h1 | h1 | h1
    · exact h.off h1
    · exact hbe h1
    · have := h.box.1; omega
  · rw [hlen] at hx
    rcases allS_onto hm hx with h1 | h1 | h1
    · exact (h.hoff b hb).2 h1
    · exact hve b hb h1
    · have := (h.hoff b hb).1; omega
theorem allS_lt {w W : World} {v : Value} {es : List SentD} {cs : List Value} {F : Nat → List Nat} (h : AccSF w W v es cs F) {x : Nat} (hx : x ∈ allS v F es.length) : x < W.heap.size := h.here x hx
theorem not_onto {W : World} {v v' : Value} {F : Nat → List Nat} {n x : Nat} {fe : List Nat} (hm : Moved W v v') (h1 : x ∉ allS v F n) (h2 : x ∉ fe) (h3 : x < W.heap.size) : x ∉ allS v' (fun j => if j = n then fe else F j) (n + 1) := fun hx => by
  rcases allS_onto hm hx with h | h | h
  · exact h1 h
  · exact h2 h
  · omega
theorem snt_one (p : Int) (a : Option Addr) (n c : Nat) : ∀ y ∈ [Value.int .i64 p, .slice a n c], y.oneCell' = true := by
  intro y hy
  simp only [List.mem_cons, List.not_mem_nil, or_false] at hy
  rcases hy with rfl | rfl <;> rfl
theorem PfS.ret {w W : World} {bx : Nat} {hv q : Value} {zs : List Int} {es : List SentD} {cs : List Value} {F : Nat → List Nat} (h : PfS w W bx hv q zs es cs F) : ∃ fp, OwnS W q es fp ∧ Fresh w fp ∧ Grow w W :=
  ⟨_, ⟨cs, F, h.acc.2.1, rfl⟩, h.acc.2.2.1, h.acc.1⟩
--% spec side
theorem lit_at {W : World} {n : Nat} (t : TypeId) (size : Nat) (h : W.heap.size = n) : (W.alloc (.cells #[] t)).ownsRow n t size (.slice (some ⟨n, 0, none⟩) 0 0) 0 [] := by
  subst h; exact World.ownsRow_lit W #[] 0 (Nat.le_refl _) (by decide) (by simp)
theorem copiedN_at {w w' : World} {n : Nat} {v' : Value} {zs : List Int} (h : w.heap.size = n) (ho : w'.ownsRow n 3 1 v' (0 + zs.length) ([] ++ zs.map (Value.int .i64)))
    (hg : (w.alloc (.cells #[] 3)).grownBy w' (Value.slice (some ⟨n, 0, none⟩) 0 0).ownBlock) : ∃ fp, OwnN w' v' zs fp ∧ Fresh w fp ∧ Grow w w' := by
  subst h; exact copiedN ho hg
/-- Sends gathered, the head's numbers in a row of the call's own. -/
structure PfT (w W : World) (nv q : Value) (zs : List Int) (es : List SentD) (cs : List Value) (F : Nat → List Nat) (fn : List Nat) : Prop where
  acc : AccSF w W q es cs F
  own : OwnN W nv zs fn
  fresh : Fresh w fn
  dis : ∀ x ∈ fn, x ∉ allS q F es.length
theorem PfT.grow {w W W' : World} {nv q : Value} {zs : List Int} {es : List SentD} {cs : List Value} {F : Nat → List Nat} {fn : List Nat} (h : PfT w W nv q zs es cs F fn) (g : Grow W W') : PfT w W' nv q zs es cs F fn :=
  ⟨h.acc.grow g, h.own.grow g, h.fresh, h.dis⟩
theorem PfT.put {w W : World} {g n c : Nat} {q : Value} {zs : List Int} {es : List SentD} {cs : List Value} {F : Nat → List Nat} {fn : List Nat} (h : PfT w W (.slice (some ⟨g, 0, none⟩) n c) q zs es cs F fn) (k : Nat) (hk : k < zs.length) (x : Int) :
    PfT w (W.setCell ⟨g, k, none⟩ (.int .i64 x)) (.slice (some ⟨g, 0, none⟩) n c) q (zs.set k x) es cs F fn := by
  have hg : g ∈ fn := by
    obtain ⟨h1, rfl⟩ := h.own
    simp [fpOf, Value.ownBlock]
  refine ⟨h.acc.upd (Upd.setCell (p := ⟨g, k, none⟩) (Upd.refl [g] W) (by simp) _) (fun x hx => ?_) (fun x hx hm => ?_), h.own.put k hk x, h.fresh, h.dis⟩
  · simp only [List.mem_cons, List.not_mem_nil, or_false] at hx; subst hx; exact h.fresh _ hg
  · simp only [List.mem_cons, List.not_mem_nil, or_false] at hm; subst hm; exact h.dis _ hg hx
theorem PfT.onto {w W W' : World} {nv q q' : Value} {zs : List Int} {es : List SentD} {cs : List Value} {F : Nat → List Nat} {fn : List Nat} (h : PfT w W nv q zs es cs F fn) {e : SentD} {x0 : Value} {fe : List Nat}
    (he : OwnN W x0 e.vs fe) (hfe : Fresh w fe) (hd : ∀ x ∈ fe, x ∉ allS q F es.length) (hde : ∀ x ∈ fe, x ∉ fn)
    (ho : W'.ownsRow w.heap.size 56 2 q' (es.length + 1) (cs ++ [.int .i64 e.port, x0])) (hg : W.grownBy W' q.ownBlock) (hm : Moved W q q') :
    PfT w W' nv q' zs (es ++ [e]) (cs ++ [.int .i64 e.port, x0]) (fun j => if j = es.length then fe else F j) fn := by
  have u := Upd.of_grown hg
  have hlen : (es ++ [e]).length = es.length + 1 := by simp
  refine ⟨h.acc.onto_ he hfe (fun x hx hm => hd x hm hx) ho hg hm, h.own.upd u (fun x hx hm => h.dis x hx (mem_allS.2 (.inl hm))), h.fresh, fun x hx => ?_⟩
  rw [hlen]
  exact not_onto hm (h.dis x hx) (fun hm => hde x hm hx) (h.own.here x hx)
theorem PfT.ret {w W : World} {nv q : Value} {zs : List Int} {es : List SentD} {cs : List Value} {F : Nat → List Nat} {fn : List Nat} (h : PfT w W nv q zs es cs F fn) : ∃ fp, OwnS W q es fp ∧ Fresh w fp ∧ Grow w W :=
  ⟨_, ⟨cs, F, h.acc.2.1, rfl⟩, h.acc.2.2.1, h.acc.1⟩
/-- A box that none of it touches. -/
def Away (W : World) (b : Nat) (cells : List Value) (q : Value) (F : Nat → List Nat) (n : Nat) (fn : List Nat) : Prop := Box W b cells ∧ b ∉ allS q F n ∧ b ∉ fn
--%
end Go.Proofs.Ytgigdpdmdldhnaa
