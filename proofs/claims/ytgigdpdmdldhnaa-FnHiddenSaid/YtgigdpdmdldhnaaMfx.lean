/- MatchOf, MatchBits: contracts of the code. -/
import Derived.Test.YtgigdpdmdldhnaaMa
import Derived.Test.YtgigdpdmdldhnaaHs
import Derived.WalkKit
import Derived.ProofKit
import Derived.Deep.QuietTactic
import Derived.BigQuiet
import Derived.Outline
import Derived.WalkSpells
namespace Go.Proofs.Ytgigdpdmdldhnaa
open Go.ChangeShapes Go.WideShapes Go.ChangeAt Go.RowKit
set_option linter.unusedVariables false
set_option linter.unusedSimpArgs false
--%
theorem mtOf_no {zs : List Int} (h : hdOk zs = false) : mtOf zs = zeroM := by simp [mtOf, h]
theorem mtOf_yes {zs : List Int} (h : hdOk zs = true) : mtOf zs = ⟨zs, fulls⟩ := by simp [mtOf, h]
theorem ownM_nil (w : World) : OwnM w (.agg #[.slice none 0 0, .slice none 0 0]) zeroM [] := ⟨_, _, [], [], rfl, rfl, by simp, ownN_nil _, ownN_nil _⟩
theorem fulls_at (k : Nat) (h : k < 8) : fulls.take (k + 1) = fulls.take k ++ [full (k : Nat)] := by
  obtain rfl | rfl | rfl | rfl | rfl | rfl | rfl | rfl : k = 0 ∨ k = 1 ∨ k = 2 ∨ k = 3 ∨ k = 4 ∨ k = 5 ∨ k = 6 ∨ k = 7 := by omega
  all_goals rfl
--% Bld
/-- A match under construction: a box with two rows of the call's own. -/
structure Bld (w0 W : World) (bx g1 g2 c1 c2 : Nat) (d : MatchD) : Prop where
  grow : Grow w0 W
  box : Box W bx [.slice (some ⟨g1, 0, none⟩) 8 c1, .slice (some ⟨g2, 0, none⟩) 8 c2]
  vs : OwnN W (.slice (some ⟨g1, 0, none⟩) 8 c1) d.vs [g1]
  ms : OwnN W (.slice (some ⟨g2, 0, none⟩) 8 c2) d.ms [g2]
  lv : d.vs.length = 8
  lm : d.ms.length = 8
  n1 : w0.heap.size ≤ g1
  n2 : w0.heap.size ≤ g2
  nb : w0.heap.size ≤ bx
  d1 : g1 ≠ g2
  d2 : bx ≠ g1
  d3 : bx ≠ g2
theorem Bld.later {w0 W W' : World} {bx g1 g2 c1 c2 : Nat} {d : MatchD} (h : Bld w0 W bx g1 g2 c1 c2 d) (g : Grow W W') : Bld w0 W' bx g1 g2 c1 c2 d :=
  ⟨h.grow.trans g, h.box.grow g, h.vs.grow g, h.ms.grow g, h.lv, h.lm, h.n1, h.n2, h.nb, h.d1, h.d2, h.d3⟩
theorem Upd.one_cell (W : World) (b o : Nat) (x : Value) : Upd [b] W (W.setCell ⟨b, o, none⟩ x) := Upd.setCell (Upd.refl _ _) (by simp) _
theorem Bld.setV {w0 W : World} {bx g1 g2 c1 c2 : Nat} {d : MatchD} (h : Bld w0 W bx g1 g2 c1 c2 d) (k : Nat) (hk : k < 8) (x : Int) : Bld w0 (W.setCell ⟨g1, k, none⟩ (.int .i64 x)) bx g1 g2 c1 c2 ⟨d.vs.set k x, d.ms⟩ :=
  ⟨h.grow.setCell_ h.n1 _, h.box.upd (Upd.one_cell _ _ _ _) (by simpa using h.d2), h.vs.put k (by rw [h.lv]; exact hk) x, h.ms.upd (Upd.one_cell _ _ _ _) (by have := h.d1; simp; omega), by simp [h.lv], h.lm, h.n1, h.n2, h.nb, h.d1, h.d2, h.d3⟩
theorem Bld.setM {w0 W : World} {bx g1 g2 c1 c2 : Nat} {d : MatchD} (h : Bld w0 W bx g1 g2 c1 c2 d) (k : Nat) (hk : k < 8) (x : Int) : Bld w0 (W.setCell ⟨g2, k, none⟩ (.int .i64 x)) bx g1 g2 c1 c2 ⟨d.vs, d.ms.set k x⟩ :=
  ⟨h.grow.setCell_ h.n2 _, h.box.upd (Upd.one_cell _ _ _ _) (by simpa using h.d3), h.vs.upd (Upd.one_cell _ _ _ _) (by have := h.d1; simp; omega), h.ms.put k (by rw [h.lm]; exact hk) x, h.lv, by simp [h.lm], h.n1, h.n2, h.nb, h.d1, h.d2, h.d3⟩
theorem OwnN.cell_at {w : World} {g n c : Nat} {zs : List Int} {fp : List Nat} (h : OwnN w (.slice (some ⟨g, 0, none⟩) n c) zs fp) (k : Nat) (hk : k < zs.length) : w.cell? ⟨g, k, none⟩ = some (.int .i64 zs[k]) ∧ ∀ o, w.frozen? ⟨g, o, none⟩ = false := by
  obtain ⟨g', c', e, _, h1, h2, _⟩ := h.set k hk 0
  simp only [Value.slice.injEq, Option.some.injEq, Addr.mk.injEq] at e
  obtain ⟨⟨rfl, _, _⟩, rfl, rfl⟩ := e
  exact ⟨h1, h2⟩
theorem Bld.ret {w0 W W' : World} {bx g1 g2 c1 c2 r : Nat} {d : MatchD} (h : Bld w0 W bx g1 g2 c1 c2 d) (u : Upd [r] W W') (hr : r < w0.heap.size) : OwnM W' (.agg #[.slice (some ⟨g1, 0, none⟩) 8 c1, .slice (some ⟨g2, 0, none⟩) 8 c2]) d [g1, g2] :=
  ownM_mk (h.vs.upd u (by have := h.n1; simp; omega)) (h.ms.upd u (by have := h.n2; simp; omega)) h.d1
/-- What MatchAll has handed back. -/
theorem ownM_open {w0 w : World} {V : Value} {fp : List Nat} (h : OwnM w V allM fp) (hf : Fresh w0 fp) : ∃ g1 g2 c1 c2, V = .agg #[.slice (some ⟨g1, 0, none⟩) 8 c1, .slice (some ⟨g2, 0, none⟩) 8 c2] ∧
    OwnN w (.slice (some ⟨g1, 0, none⟩) 8 c1) allM.vs [g1] ∧ OwnN w (.slice (some ⟨g2, 0, none⟩) 8 c2) allM.ms [g2] ∧ g1 ≠ g2 ∧ w0.heap.size ≤ g1 ∧ w0.heap.size ≤ g2 ∧ g1 < w.heap.size ∧ g2 < w.heap.size := by
  obtain ⟨v0, v1, fp0, fp1, rfl, rfl, hd, h0, h1⟩ := h
  obtain ⟨g1, c1, rfl, rfl, _⟩ := h0.set 0 (by decide) 0
  obtain ⟨g2, c2, rfl, rfl, _⟩ := h1.set 0 (by decide) 0
  exact ⟨g1, g2, c1, c2, rfl, h0, h1, by simpa using hd g1 (by simp), hf g1 (by simp), hf g2 (by simp), h0.here g1 (by simp), h1.here g2 (by simp)⟩
/-- .. laid into a box. -/
theorem Bld.start {w0 w : World} {g1 g2 c1 c2 : Nat} (hG : Grow w0 w) (t : TypeId) (h0 : OwnN w (.slice (some ⟨g1, 0, none⟩) 8 c1) allM.vs [g1]) (h1 : OwnN w (.slice (some ⟨g2, 0, none⟩) 8 c2) allM.ms [g2]) (hd : g1 ≠ g2) (n1 : w0.heap.size ≤ g1) (n2 : w0.heap.size ≤ g2) (l1 : g1 < w.heap.size) (l2 : g2 < w.heap.size) :
    Bld w0 (w.alloc (.cells #[.slice (some ⟨g1, 0, none⟩) 8 c1, .slice (some ⟨g2, 0, none⟩) 8 c2] t)) w.heap.size g1 g2 c1 c2 allM :=
  ⟨hG.trans (Grow.alloc _ _), Box.alloc w [.slice (some ⟨g1, 0, none⟩) 8 c1, .slice (some ⟨g2, 0, none⟩) 8 c2] t, h0.grow (Grow.alloc _ _), h1.grow (Grow.alloc _ _), rfl, rfl, n1, n2, hG.size, hd, by omega, by omega⟩
--% l05Full 170
theorem l05Full_any (k : Nat) (hk : k < 8) (w : World) : Calls Try.prog 170 #[.int .i64 k] w (RetV (.int .i64 (full (k : Nat))) w) := by
  have e1 : p256 1 = 256 := by decide
  have e2 : p256 2 = 65536 := by decide
  have e4 : p256 4 = 4294967296 := by decide
  have e6 : p256 6 = 281474976710656 := by decide
  rcases bits_full (k : Int) with ⟨h1, h2, _⟩ | ⟨h1, h2, _⟩ | ⟨h1, h2, _⟩ | ⟨h1, h2, _⟩ | ⟨_, _, h3⟩
  all_goals first | omega | (
    have H1 := Lib.hid h1; have H2 := Lib.hid h2; clear h1 h2
    go_enter Try.func170, Try.ntmps170
    go_wp2_with fail
    refine (fieldBitsS_any _ _).mono ?_
    rintro e w1 ⟨rfl, hg⟩
    rw [H1.out]
    have HG := Lib.hid hg; clear hg
    go_wp2_with fail
    refine (pow_any _ _ (by decide) (by decide)).mono ?_
    rintro e w' ⟨rfl, rfl⟩
    first | rw [show (Int.toNat 1) = 1 from rfl, e1] | rw [show (Int.toNat 2) = 2 from rfl, e2] | rw [show (Int.toNat 4) = 4 from rfl, e4] | rw [show (Int.toNat 6) = 6 from rfl, e6]
    go_wp2
    go_ret
    exact ⟨ret_int H2.out.symm, HG.out⟩)
--%
end Go.Proofs.Ytgigdpdmdldhnaa
