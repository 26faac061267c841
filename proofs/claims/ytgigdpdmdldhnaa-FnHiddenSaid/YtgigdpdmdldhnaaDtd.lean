/- The draws of entries and of tables: contracts that tell only bounds (printed by gtd.py). -/
import Derived.Test.YtgigdpdmdldhnaaDta
import Derived.Test.YtgigdpdmdldhnaaFk
import Derived.WalkKit
import Derived.ProofKit
import Derived.Deep.QuietTactic
import Derived.BigQuiet
import Derived.Outline
import Derived.WalkSpells
namespace Go.Proofs.Ytgigdpdmdldhnaa
open Go.ChangeShapes Go.WideShapes Go.ChangeAt Go.RowKit
set_option linter.unusedVariables false
set_option linter.unusedSimpArgs false
--%
/-- A drawn entry: its rows, and what it reads as. -/
def RetDE (w : World) (p : Nat) (e : Ending) (w' : World) : Prop := ∃ x0 x1 x2 d, e = .returned (.agg #[.int .i64 d.epoch, .int .i64 d.prio, x0, x1, x2, .int .i64 d.hits]) ∧ SubOK w w' [] x0 x1 x2 d ∧ GoodE d ∧ Cur w' p ∧ Upd [p] w w'
/-- An entry in hand. -/
structure DE (w W : World) (p R be : Nat) (x0 x1 x2 : Value) (en : EntryD) : Prop where
  d : DS w W p
  br : Bx w W R [.int .i64 0, .int .i64 0, .slice none 0 0, .slice none 0 0, .slice none 0 0, .int .i64 0]
  fe : Bx w W be [.int .i64 en.epoch, .int .i64 en.prio, x0, x1, x2, .int .i64 en.hits]
  sub : SubOK w W [R, be] x0 x1 x2 en
  ne : R ≠ be
theorem SubOK.call {w W0 W W' : World} {L : List Nat} {x0 x1 x2 : Value} {e : EntryD} {p : Nat} (h : SubOK w W L x0 x1 x2 e) (d : DS w W0 p) (hU : Upd [p] W W') : SubOK w W' L x0 x1 x2 e :=
  h.upd hU (fun x hx => .inr (by have := d.lt; simp only [List.mem_cons, List.not_mem_nil, or_false] at hx; omega))
theorem DE.call {w W W' : World} {p R be : Nat} {x0 x1 x2 : Value} {d : EntryD} (h : DE w W p R be x0 x1 x2 d) (hC : Cur W' p) (hU : Upd [p] W W') : DE w W' p R be x0 x1 x2 d :=
  ⟨h.d.call hC hU, h.br.call h.d hU, h.fe.call h.d hU, h.sub.call h.d hU, h.ne⟩
theorem DE.sto {w W : World} {p R be : Nat} {x0 x1 x2 : Value} {d : EntryD} (h : DE w W p R be x0 x1 x2 d) (j : Nat) (x : Value) : DS w (W.setCell ⟨be, j, none⟩ x) p ∧ Bx w (W.setCell ⟨be, j, none⟩ x) R [.int .i64 0, .int .i64 0, .slice none 0 0, .slice none 0 0, .slice none 0 0, .int .i64 0] ∧ SubOK w (W.setCell ⟨be, j, none⟩ x) [R, be] x0 x1 x2 d :=
  ⟨h.d.box h.fe x, h.br.apart h.ne x, h.sub.upd (Upd.setCell (p := ⟨be, j, none⟩) (Upd.refl [be] W) (by simp) x) (by simp)⟩
theorem DE.setP {w W : World} {p R be : Nat} {x0 x1 x2 : Value} {d : EntryD} (h : DE w W p R be x0 x1 x2 d) (y : Int) : DE w (W.setCell ⟨be, 1, none⟩ (.int .i64 y)) p R be x0 x1 x2 { d with prio := y } := by
  obtain ⟨a, b, c⟩ := h.sto 1 (.int .i64 y)
  exact ⟨a, b, h.fe.set 1 (.int .i64 y) (by simp), c.num rfl rfl, h.ne⟩
theorem DE.setH {w W : World} {p R be : Nat} {x0 x1 x2 : Value} {d : EntryD} (h : DE w W p R be x0 x1 x2 d) (y : Int) : DE w (W.setCell ⟨be, 5, none⟩ (.int .i64 y)) p R be x0 x1 x2 { d with hits := y } := by
  obtain ⟨a, b, c⟩ := h.sto 5 (.int .i64 y)
  exact ⟨a, b, h.fe.set 5 (.int .i64 y) (by simp), c.num rfl rfl, h.ne⟩
theorem DE.noA {w W : World} {p R be : Nat} {x0 x1 x2 : Value} {d : EntryD} (h : DE w W p R be x0 x1 x2 d) : DE w (W.setCell ⟨be, 4, none⟩ (.slice none 0 0)) p R be x0 x1 (.slice none 0 0) { d with acts := [] } := by
  obtain ⟨a, b, c⟩ := h.sto 4 (.slice none 0 0)
  refine ⟨a, b, h.fe.set 4 (.slice none 0 0) (by simp), ⟨c.1, c.2.1, World.ownsRow_nil _ _ _ _, fun x hx => ?_⟩, h.ne⟩
  rcases hx with k | k | k
  · exact c.2.2.2 x (.inl k)
  · exact c.2.2.2 x (.inr (.inl k))
  · simp [fpOf, Value.ownBlock] at k
theorem DE.ret {w W W' : World} {p R be : Nat} {x0 x1 x2 : Value} {d : EntryD} (h : DE w W p R be x0 x1 x2 d) (hg : GoodE d) (u : Upd [R] W W') : RetDE w p (.returned (.agg #[.int .i64 d.epoch, .int .i64 d.prio, x0, x1, x2, .int .i64 d.hits])) W' := by
  have a := h.d.own u (fun x hx => by simp only [List.mem_cons, List.not_mem_nil, or_false] at hx; subst hx; exact h.br.2)
  exact ⟨x0, x1, x2, d, rfl, SubOK.more (L' := []) (h.sub.upd u (fun x hx => .inl (by simp only [List.mem_cons, List.not_mem_nil, or_false] at hx ⊢; exact .inl hx))) (by simp), hg, a.cur, a.upd⟩
/-- A table in hand. -/
structure DT (w W : World) (p R bt : Nat) (cap : Int) (q : Value) (es : List EntryD) (cs : List Value) : Prop where
  d : DS w W p
  br : Bx w W R [.int .i64 0, .slice none 0 0]
  ft : Bx w W bt [.int .i64 cap, q]
  et : ET w W [R, bt] q es cs
  ne : R ≠ bt
theorem DT.call {w W W' : World} {p R bt : Nat} {cap : Int} {q : Value} {es : List EntryD} {cs : List Value} (h : DT w W p R bt cap q es cs) (hC : Cur W' p) (hU : Upd [p] W W') : DT w W' p R bt cap q es cs :=
  ⟨h.d.call hC hU, h.br.call h.d hU, h.ft.call h.d hU, h.et.call h.d hU, h.ne⟩
theorem DT.grow {w W W' : World} {p R bt : Nat} {cap : Int} {q : Value} {es : List EntryD} {cs : List Value} (h : DT w W p R bt cap q es cs) (g : Grow W W') : DT w W' p R bt cap q es cs :=
  ⟨h.d.grow g, h.br.grow g, h.ft.grow g, h.et.grow g, h.ne⟩
theorem DT.upd {w W W' : World} {p R bt b : Nat} {cap : Int} {q : Value} {es : List EntryD} {cs : List Value} (h : DT w W p R bt cap q es cs) (e : ET w W [R, bt, b] q es cs) (u : Upd [b] W W') (hb : w.heap.size ≤ b) (n1 : R ≠ b) (n2 : bt ≠ b) : DT w W' p R bt cap q es cs :=
  ⟨h.d.own u (fun x hx => by simp only [List.mem_cons, List.not_mem_nil, or_false] at hx; omega), h.br.own u (by simp; omega), h.ft.own u (by simp; omega), (e.upd u (fun x hx => .inl (by simp only [List.mem_cons, List.not_mem_nil, or_false] at hx ⊢; omega))).more (fun x hx => .inl (by simp only [List.mem_cons, List.not_mem_nil, or_false] at hx ⊢; omega)), h.ne⟩
/-- Another table is laid into the box. -/
theorem DT.lay {w W : World} {p R bt : Nat} {cap cap' : Int} {q q' : Value} {es es' : List EntryD} {cs cs' : List Value} (h : DT w W p R bt cap q es cs) (e : ET w W [R, bt] q' es' cs') : DT w ((W.setCell ⟨bt, 0, none⟩ (.int .i64 cap')).setCell ⟨bt, 1, none⟩ q') p R bt cap' q' es' cs' := by
  have u : Upd [bt] W ((W.setCell ⟨bt, 0, none⟩ (.int .i64 cap')).setCell ⟨bt, 1, none⟩ q') := Upd.setCell (p := ⟨bt, 1, none⟩) (Upd.setCell (p := ⟨bt, 0, none⟩) (Upd.refl [bt] W) (by simp) _) (by simp) _
  exact ⟨h.d.own u (fun x hx => by simp only [List.mem_cons, List.not_mem_nil, or_false] at hx; subst hx; exact h.ft.2), h.br.own u (by simp; exact h.ne), (h.ft.set 0 _ (by simp)).set 1 _ (by simp), e.upd u (by simp), h.ne⟩
theorem DT.setCap {w W : World} {p R bt : Nat} {cap : Int} {q : Value} {es : List EntryD} {cs : List Value} (h : DT w W p R bt cap q es cs) (y : Int) : DT w (W.setCell ⟨bt, 0, none⟩ (.int .i64 y)) p R bt y q es cs :=
  ⟨h.d.box h.ft _, h.br.apart h.ne _, h.ft.set 0 _ (by simp), h.et.upd (Upd.setCell (p := ⟨bt, 0, none⟩) (Upd.refl [bt] W) (by simp) _) (by simp), h.ne⟩
/-- The row of the entries has been written. -/
theorem DT.row {w W W' : World} {p R bt g n c : Nat} {cap : Int} {es es' : List EntryD} {cs cs' : List Value} (h : DT w W p R bt cap (.slice (some ⟨g, 0, none⟩) n c) es cs) (u : Upd [g] W W') (e : ET w W' [R, bt] (.slice (some ⟨g, 0, none⟩) n c) es' cs') : DT w W' p R bt cap (.slice (some ⟨g, 0, none⟩) n c) es' cs' := by
  have o := h.et.own
  have o2 := o.2
  simp only [List.mem_cons, List.not_mem_nil, or_false, not_or] at o2
  exact ⟨h.d.own u (fun x hx => by simp only [List.mem_cons, List.not_mem_nil, or_false] at hx; omega), h.br.own u (by simp; omega), h.ft.own u (by simp; omega), e, h.ne⟩
/-- A drawn table. -/
def RetTb (w : World) (p : Nat) (e : Ending) (w' : World) : Prop := ∃ cap q es cs, e = .returned (.agg #[.int .i64 cap, q]) ∧ ET w w' [] q es cs ∧ GoodS es ∧ es.length ≤ 600 ∧ I64 cap ∧ Cur w' p ∧ Upd [p] w w'
theorem DT.ret {w W W' : World} {p R bt : Nat} {cap : Int} {q : Value} {es : List EntryD} {cs : List Value} (h : DT w W p R bt cap q es cs) (hg : GoodS es) (hl : es.length ≤ 600) (hc : I64 cap) (u : Upd [R] W W') : RetTb w p (.returned (.agg #[.int .i64 cap, q])) W' := by
  have a := h.d.own u (fun x hx => by simp only [List.mem_cons, List.not_mem_nil, or_false] at hx; subst hx; exact h.br.2)
  exact ⟨cap, q, es, cs, rfl, ET.more (N' := []) (h.et.upd u (fun x hx => .inl (by simp only [List.mem_cons, List.not_mem_nil, or_false] at hx ⊢; exact .inl hx))) (by simp), hg, hl, hc, a.cur, a.upd⟩
theorem viaT {G : Prop} {F : Int → Int → Value → Value → Value → Int → Int → Value → Int → Nat → World → Prop} (Facts : Int → Int → Value → Value → Value → Int → Int → Value → Int → Nat → World → Prop)
    (h1 : (∀ ep pr x0 x1 x2 hi cap q code b W, Facts ep pr x0 x1 x2 hi cap q code b W → F ep pr x0 x1 x2 hi cap q code b W) → G) (h2 : ∀ ep pr x0 x1 x2 hi cap q code b W, Facts ep pr x0 x1 x2 hi cap q code b W → F ep pr x0 x1 x2 hi cap q code b W) : G := h1 h2
theorem pow_step {n m : Nat} (h : m < n) : 2 ^ (n - m) = 2 * 2 ^ (n - (m + 1)) := by
  rw [show n - m = (n - (m + 1)) + 1 by omega, Nat.pow_succ]; omega
theorem pow_512 {n m : Nat} (h : n ≤ 9) : 2 ^ (n - m) ≤ 512 := Nat.le_trans (Nat.pow_le_pow_right (by decide) (show n - m ≤ 9 by omega)) (by decide)
--% l07DrawEntry 160
set_option maxRecDepth 20000 in
set_option maxHeartbeats 8000000 in
theorem l07DrawEntry_any (w : World) (p : Nat) (hc : Cur w p) : Calls Try.prog 160 #[.pointer (some ⟨p, 0, none⟩)] w (RetDE w p) := by
  have D0 := Lib.hid (DS.start hc); clear hc
  go_enter Try.func160, Try.ntmps160
  go_wp2_with fail
  have D := Lib.hid (D0.out.grow (Grow.alloc w (.cells #[.int .i64 0, .int .i64 0, .slice none 0 0, .slice none 0 0, .slice none 0 0, .int .i64 0] 68)))
  have BR : Hid (Bx w (w.alloc (.cells #[.int .i64 0, .int .i64 0, .slice none 0 0, .slice none 0 0, .slice none 0 0, .int .i64 0] 68)) w.heap.size [.int .i64 0, .int .i64 0, .slice none 0 0, .slice none 0 0, .slice none 0 0, .int .i64 0]) := Lib.hid (Bx.new D0.out [.int .i64 0, .int .i64 0, .slice none 0 0, .slice none 0 0, .slice none 0 0, .int .i64 0] 68)
  clear D0
  generalize w.alloc (.cells #[.int .i64 0, .int .i64 0, .slice none 0 0, .slice none 0 0, .slice none 0 0, .int .i64 0] 68) = W0 at *
  refine (l01Below_any _ p 3 (by decide) D.out.cur).mono ?_
  rintro e w1 ⟨x1, rfl, h1a, h1b, -, hC, hU⟩
  have h1b := h1b (by decide)
  replace BR := Lib.hid (BR.out.call D.out hU)
  replace D := Lib.hid (D.out.call hC hU)
  clear hC hU
  go_wp2_with fail
  refine (l01Below_any _ p 4 (by decide) D.out.cur).mono ?_
  rintro e w2 ⟨x2, rfl, h2a, h2b, -, hC, hU⟩
  have h2b := h2b (by decide)
  replace BR := Lib.hid (BR.out.call D.out hU)
  replace D := Lib.hid (D.out.call hC hU)
  clear hC hU
  go_wp2_with fail
  refine (l05Match_any _ p D.out.cur).mono ?_
  rintro e w3 ⟨v0, v1, vs, ms, rfl, o0, o1, -, hv, hm, -, -, h8, hC, hU⟩
  have WV := Lib.hid hv; have WM := Lib.hid hm; have L8 := Lib.hid (h8 rfl)
  have nR := BR.out.1.1
  have N0 : Hid (∀ x, x ∈ fpOf v0 ∨ x ∈ fpOf v1 → w.heap.size < x) := Lib.hid (fun x hx => by
    rcases hx with k | k
    · have := own_new_ o0 x k; omega
    · have := own_new_ o1 x k; omega)
  have OV : Hid (ON w w3 v0 vs) := Lib.hid (own_mono o0 D.out.size)
  have OM : Hid (ON w w3 v1 ms) := Lib.hid (own_mono o1 D.out.size)
  replace BR := Lib.hid (BR.out.call D.out hU); replace D := Lib.hid (D.out.call hC hU)
  obtain ⟨y0, z0, rfl⟩ := own_shape o0
  obtain ⟨y1, z1, rfl⟩ := own_shape o1
  clear o0 o1 hv hm h8 hC hU nR
  go_wp2_with fail
  refine (l06Acts_any _ p D.out.cur).mono ?_
  rintro e w4 ⟨v2, ac, rfl, o2, ha, hl, hC, hU⟩
  have WA := Lib.hid ha; have LA := Lib.hid hl
  have nR := BR.out.1.1
  have N1 : Hid (∀ x ∈ fpOf v2, w.heap.size < x) := Lib.hid (fun x k => by have := own_new_ o2 x k; omega)
  have OC : Hid (OA w w4 v2 ac) := Lib.hid (own_mono o2 D.out.size)
  replace BR := Lib.hid (BR.out.call D.out hU); replace OV := Lib.hid (OV.out.call D.out hU); replace OM := Lib.hid (OM.out.call D.out hU); replace D := Lib.hid (D.out.call hC hU)
  obtain ⟨y2, z2, rfl⟩ := own_shape o2
  clear o2 ha hl hC hU nR
  go_wp2_with fail
  refine (l01Below_any _ p 3 (by decide) D.out.cur).mono ?_
  rintro e w5 ⟨x5, rfl, h5a, h5b, -, hC, hU⟩
  have h5b := h5b (by decide)
  replace BR := Lib.hid (BR.out.call D.out hU)
  replace OV := Lib.hid (OV.out.call D.out hU)
  replace OM := Lib.hid (OM.out.call D.out hU)
  replace OC := Lib.hid (OC.out.call D.out hU)
  replace D := Lib.hid (D.out.call hC hU)
  clear hC hU
  have S : Hid (DE w (w5.alloc (.cells #[.int .i64 x1, .int .i64 x2, .slice y0 vs.length z0, .slice y1 ms.length z1, .slice y2 ac.length z2, .int .i64 x5] 68)) p w.heap.size w5.heap.size (.slice y0 vs.length z0) (.slice y1 ms.length z1) (.slice y2 ac.length z2) ⟨x1, x2, ⟨vs, ms⟩, ac, x5⟩) := Lib.hid (by
    have g := Grow.alloc w5 (.cells #[.int .i64 x1, .int .i64 x2, .slice y0 vs.length z0, .slice y1 ms.length z1, .slice y2 ac.length z2, .int .i64 x5] 68)
    have nR := BR.out.1.1
    refine ⟨D.out.grow g, BR.out.grow g, Bx.new D.out [.int .i64 x1, .int .i64 x2, .slice y0 vs.length z0, .slice y1 ms.length z1, .slice y2 ac.length z2, .int .i64 x5] 68, ⟨OV.out.grow g, OM.out.grow g, OA.grow (OC.out) g, fun x hx hm => ?_⟩, by omega⟩
    have h1 : w.heap.size < x ∧ x < w5.heap.size := by
      rcases hx with k | k | k
      · exact ⟨N0.out x (.inl k), (own_new_ OV.out x k).2⟩
      · exact ⟨N0.out x (.inr k), (own_new_ OM.out x k).2⟩
      · exact ⟨N1.out x k, (own_new_ OC.out x k).2⟩
    simp only [List.mem_cons, List.not_mem_nil, or_false] at hm; omega)
  have GD : Hid (GoodE ⟨x1, x2, ⟨vs, ms⟩, ac, x5⟩) := Lib.hid ⟨⟨by simp only; omega, by simp only; omega, ⟨WV.out, WM.out⟩, WA.out, by simp only; omega⟩, by have := L8.out.1; simp only; omega, by have := L8.out.2; simp only; omega, LA.out⟩
  have ⟨q0, q1, q2, q3, q4, q5⟩ := S.out.fe.1.six; have qz := S.out.fe.1.2.2; have ql := S.out.fe.1.1
  have hla := LA.out
  by_cases h12 : 12 < ac.length
  · go_wp2_with fail
    clear q0 q1 q2 q3 q4 q5 qz ql
    clear S
    have S : Hid (DE w (w5.alloc (.cells #[.int .i64 x1, .int .i64 x2, .slice y0 vs.length z0, .slice y1 ms.length z1, .slice none 0 0, .int .i64 x5] 68)) p w.heap.size w5.heap.size (.slice y0 vs.length z0) (.slice y1 ms.length z1) (.slice none 0 0) ⟨x1, x2, ⟨vs, ms⟩, [], x5⟩) := Lib.hid (by
      have g := Grow.alloc w5 (.cells #[.int .i64 x1, .int .i64 x2, .slice y0 vs.length z0, .slice y1 ms.length z1, .slice none 0 0, .int .i64 x5] 68)
      have nR := BR.out.1.1
      refine ⟨D.out.grow g, BR.out.grow g, Bx.new D.out [.int .i64 x1, .int .i64 x2, .slice y0 vs.length z0, .slice y1 ms.length z1, .slice none 0 0, .int .i64 x5] 68, ⟨OV.out.grow g, OM.out.grow g, OA.grow ((World.ownsRow_nil _ _ _ _ : OA w w5 (.slice none 0 0) [])) g, fun x hx hm => ?_⟩, by omega⟩
      have h1 : w.heap.size < x ∧ x < w5.heap.size := by
        rcases hx with k | k | k
        · exact ⟨N0.out x (.inl k), (own_new_ OV.out x k).2⟩
        · exact ⟨N0.out x (.inr k), (own_new_ OM.out x k).2⟩
        · simp [fpOf, Value.ownBlock] at k
      simp only [List.mem_cons, List.not_mem_nil, or_false] at hm; omega)
    generalize hW6 : w5.alloc (.cells #[.int .i64 x1, .int .i64 x2, .slice y0 vs.length z0, .slice y1 ms.length z1, .slice none 0 0, .int .i64 x5] 68) = W7 at *
    clear hW6 D BR OV OM OC N0 N1 WV WM WA L8
    generalize w5.heap.size = be at *
    obtain ⟨R, hR⟩ : ∃ R, w.heap.size = R := ⟨_, rfl⟩
    rw [hR] at S ⊢
    replace GD : Hid (GoodE ⟨x1, x2, ⟨vs, ms⟩, [], x5⟩) := Lib.hid ⟨⟨GD.out.1.1, GD.out.1.2.1, GD.out.1.2.2.1, wfA_nil, GD.out.1.2.2.2.2⟩, GD.out.2.1, GD.out.2.2.1, by simp⟩
    refine (l01Below_any _ p 9 (by omega) S.out.d.cur).mono ?_
    rintro e w6 ⟨x6, rfl, h6a, h6b, -, hC, hU⟩
    have h6b := h6b (by omega)
    replace S := Lib.hid (S.out.call hC hU)
    clear hC hU
    by_cases c6 : x6 = 0
    rotate_left
    · have hb6 : (x6 == 0) = false := by simpa using c6
      have ⟨q0, q1, q2, q3, q4, q5⟩ := S.out.fe.1.six; have qz := S.out.fe.1.2.2; have ql := S.out.fe.1.1
      have ⟨r0, r1, r2, r3, r4, r5⟩ := S.out.br.1.six; have rz := S.out.br.1.2.2; have rl := S.out.br.1.1
      have n1 : ¬ be = R := by have := S.out.ne; omega
      have n2 : ¬ R = be := by omega
      go_wp2
      have HR : Hid (∀ W, Upd [R] w6 W → RetDE w p (.returned (.agg #[.int .i64 x1, .int .i64 x2, .slice y0 vs.length z0, .slice y1 ms.length z1, .slice none 0 0, .int .i64 x5])) W) := Lib.hid (fun W hu => S.out.ret GD.out hu)
      refine bodyPost_ret (v := .agg #[.int .i64 x1, .int .i64 x2, .slice y0 vs.length z0, .slice y1 ms.length z1, .slice none 0 0, .int .i64 x5]) ?_ rfl (HR.out _ ?_)
      · simp [results, Try.results160, go_sem, q0, q1, q2, q3, q4, q5, qz, ql, r0, r1, r2, r3, r4, r5, rz, rl, n1, n2] <;> omega
      · ((repeat (first | with_reducible exact Upd.refl _ _ | (with_reducible refine Upd.setCell ?_ (by simp) _))))
    subst c6
    have ⟨q0, q1, q2, q3, q4, q5⟩ := S.out.fe.1.six; have qz := S.out.fe.1.2.2; have ql := S.out.fe.1.1
    go_wp2_with fail
    clear q0 q1 q2 q3 q4 q5 qz ql
    refine (l01Below_any _ p 2 (by omega) S.out.d.cur).mono ?_
    rintro e w7 ⟨x7, rfl, h7a, h7b, -, hC, hU⟩
    have h7b := h7b (by omega)
    replace S := Lib.hid (S.out.call hC hU)
    clear hC hU
    have ⟨q0, q1, q2, q3, q4, q5⟩ := S.out.fe.1.six; have qz := S.out.fe.1.2.2; have ql := S.out.fe.1.1
    replace S := Lib.hid ((S.out.setH (1000000000 - x7)).setP 65535)
    have ⟨r0, r1, r2, r3, r4, r5⟩ := S.out.br.1.six; have rz := S.out.br.1.2.2; have rl := S.out.br.1.1
    have n1 : ¬ be = R := by have := S.out.ne; omega
    have n2 : ¬ R = be := by omega
    go_wp2
    have HR : Hid (∀ W, Upd [R] ((w7.setCell ⟨be, 5, none⟩ (.int .i64 (1000000000 - x7))).setCell ⟨be, 1, none⟩ (.int .i64 65535)) W → RetDE w p (.returned (.agg #[.int .i64 x1, .int .i64 65535, .slice y0 vs.length z0, .slice y1 ms.length z1, .slice none 0 0, .int .i64 (1000000000 - x7)])) W) := Lib.hid (fun W hu => S.out.ret ⟨⟨GD.out.1.1, (by simp only; omega), GD.out.1.2.2.1, GD.out.1.2.2.2.1, (by simp only; omega)⟩, GD.out.2⟩ hu)
    refine bodyPost_ret (v := .agg #[.int .i64 x1, .int .i64 65535, .slice y0 vs.length z0, .slice y1 ms.length z1, .slice none 0 0, .int .i64 (1000000000 - x7)]) ?_ rfl (HR.out _ ?_)
    · simp [results, Try.results160, go_sem, q0, q1, q2, q3, q4, q5, qz, ql, r0, r1, r2, r3, r4, r5, rz, rl, n1, n2] <;> omega
    · ((repeat (first | with_reducible exact Upd.refl _ _ | (with_reducible refine Upd.setCell ?_ (by simp) _))))
  go_wp2_with fail
  clear q0 q1 q2 q3 q4 q5 qz ql
  generalize hW6 : w5.alloc (.cells #[.int .i64 x1, .int .i64 x2, .slice y0 vs.length z0, .slice y1 ms.length z1, .slice y2 ac.length z2, .int .i64 x5] 68) = W7 at *
  clear hW6 D BR OV OM OC N0 N1 WV WM WA L8
  generalize w5.heap.size = be at *
  obtain ⟨R, hR⟩ : ∃ R, w.heap.size = R := ⟨_, rfl⟩
  rw [hR] at S ⊢
  refine (l01Below_any _ p 9 (by omega) S.out.d.cur).mono ?_
  rintro e w6 ⟨x6, rfl, h6a, h6b, -, hC, hU⟩
  have h6b := h6b (by omega)
  replace S := Lib.hid (S.out.call hC hU)
  clear hC hU
  by_cases c6 : x6 = 0
  rotate_left
  · have hb6 : (x6 == 0) = false := by simpa using c6
    have ⟨q0, q1, q2, q3, q4, q5⟩ := S.out.fe.1.six; have qz := S.out.fe.1.2.2; have ql := S.out.fe.1.1
    have ⟨r0, r1, r2, r3, r4, r5⟩ := S.out.br.1.six; have rz := S.out.br.1.2.2; have rl := S.out.br.1.1
    have n1 : ¬ be = R := by have := S.out.ne; omega
    have n2 : ¬ R = be := by omega
    go_wp2
    have HR : Hid (∀ W, Upd [R] w6 W → RetDE w p (.returned (.agg #[.int .i64 x1, .int .i64 x2, .slice y0 vs.length z0, .slice y1 ms.length z1, .slice y2 ac.length z2, .int .i64 x5])) W) := Lib.hid (fun W hu => S.out.ret GD.out hu)
    refine bodyPost_ret (v := .agg #[.int .i64 x1, .int .i64 x2, .slice y0 vs.length z0, .slice y1 ms.length z1, .slice y2 ac.length z2, .int .i64 x5]) ?_ rfl (HR.out _ ?_)
    · simp [results, Try.results160, go_sem, q0, q1, q2, q3, q4, q5, qz, ql, r0, r1, r2, r3, r4, r5, rz, rl, n1, n2] <;> omega
    · ((repeat (first | with_reducible exact Upd.refl _ _ | (with_reducible refine Upd.setCell ?_ (by simp) _))))
  subst c6
  have ⟨q0, q1, q2, q3, q4, q5⟩ := S.out.fe.1.six; have qz := S.out.fe.1.2.2; have ql := S.out.fe.1.1
  go_wp2_with fail
  clear q0 q1 q2 q3 q4 q5 qz ql
  refine (l01Below_any _ p 2 (by omega) S.out.d.cur).mono ?_
  rintro e w7 ⟨x7, rfl, h7a, h7b, -, hC, hU⟩
  have h7b := h7b (by omega)
  replace S := Lib.hid (S.out.call hC hU)
  clear hC hU
  have ⟨q0, q1, q2, q3, q4, q5⟩ := S.out.fe.1.six; have qz := S.out.fe.1.2.2; have ql := S.out.fe.1.1
  replace S := Lib.hid ((S.out.setH (1000000000 - x7)).setP 65535)
  have ⟨r0, r1, r2, r3, r4, r5⟩ := S.out.br.1.six; have rz := S.out.br.1.2.2; have rl := S.out.br.1.1
  have n1 : ¬ be = R := by have := S.out.ne; omega
  have n2 : ¬ R = be := by omega
  go_wp2
  have HR : Hid (∀ W, Upd [R] ((w7.setCell ⟨be, 5, none⟩ (.int .i64 (1000000000 - x7))).setCell ⟨be, 1, none⟩ (.int .i64 65535)) W → RetDE w p (.returned (.agg #[.int .i64 x1, .int .i64 65535, .slice y0 vs.length z0, .slice y1 ms.length z1, .slice y2 ac.length z2, .int .i64 (1000000000 - x7)])) W) := Lib.hid (fun W hu => S.out.ret ⟨⟨GD.out.1.1, (by simp only; omega), GD.out.1.2.2.1, GD.out.1.2.2.2.1, (by simp only; omega)⟩, GD.out.2⟩ hu)
  refine bodyPost_ret (v := .agg #[.int .i64 x1, .int .i64 65535, .slice y0 vs.length z0, .slice y1 ms.length z1, .slice y2 ac.length z2, .int .i64 (1000000000 - x7)]) ?_ rfl (HR.out _ ?_)
  · simp [results, Try.results160, go_sem, q0, q1, q2, q3, q4, q5, qz, ql, r0, r1, r2, r3, r4, r5, rz, rl, n1, n2] <;> omega
  · ((repeat (first | with_reducible exact Upd.refl _ _ | (with_reducible refine Upd.setCell ?_ (by simp) _))))
--%
def B5P (w W : World) (R bt b : Nat) (q : Value) (es : List EntryD) (cs : List Value) : Prop := Box W b [.int .i64 0, .slice none 0 0] ∧ w.heap.size ≤ b ∧ b ≠ R ∧ b ≠ bt ∧ ET w W [R, bt, b] q es cs
theorem bkeep {w W0 W W' : World} {b p R bt : Nat} {q : Value} {es : List EntryD} {cs : List Value} (h : B5P w W R bt b q es cs) (d : DS w W0 p) (hU : Upd [p] W W') : B5P w W' R bt b q es cs := ⟨h.1.upd hU (by have := d.lt; have := h.2.1; simp; omega), h.2.1, h.2.2.1, h.2.2.2.1, h.2.2.2.2.call d hU⟩
theorem bgrow {w W W' : World} {b R bt : Nat} {q : Value} {es : List EntryD} {cs : List Value} (h : B5P w W R bt b q es cs) (g : Grow W W') : B5P w W' R bt b q es cs := ⟨h.1.grow g, h.2.1, h.2.2.1, h.2.2.2.1, h.2.2.2.2.grow g⟩
theorem bnew {w W : World} {p R bt : Nat} {cap : Int} {q : Value} {es : List EntryD} {cs : List Value} (S : DT w W p R bt cap q es cs) : B5P w (W.alloc (.cells #[.int .i64 0, .slice none 0 0] 79)) R bt W.heap.size q es cs := by
  have h1 := S.br.1.1; have h2 := S.ft.1.1
  exact ⟨Box.alloc W [.int .i64 0, .slice none 0 0] 79, S.d.size, by omega, by omega, (S.et.more (fun x hx => by simp only [List.mem_cons, List.not_mem_nil, or_false] at hx ⊢; omega)).grow (Grow.alloc _ _)⟩
--% l07Draw 138
set_option maxRecDepth 20000 in
set_option maxHeartbeats 8000000 in
theorem l07Draw_any (w : World) (p : Nat) (hc : Cur w p) : Calls Try.prog 138 #[.pointer (some ⟨p, 0, none⟩)] w (RetTb w p) := by
  have D0 := Lib.hid (DS.start hc); clear hc
  go_enter Try.func138, Try.ntmps138
  go_wp2_with fail
  have D := Lib.hid (D0.out.grow (Grow.alloc w (.cells #[.int .i64 0, .slice none 0 0] 79)))
  have BR : Hid (Bx w (w.alloc (.cells #[.int .i64 0, .slice none 0 0] 79)) w.heap.size [.int .i64 0, .slice none 0 0]) := Lib.hid (Bx.new D0.out [.int .i64 0, .slice none 0 0] 79)
  clear D0
  generalize w.alloc (.cells #[.int .i64 0, .slice none 0 0] 79) = W0 at *
  refine (l01Below_any _ p 10 (by decide) D.out.cur).mono ?_
  rintro e w1 ⟨x1, rfl, h1a, h1b, -, hC, hU⟩
  have h1b := h1b (by decide)
  replace BR := Lib.hid (BR.out.call D.out hU)
  replace D := Lib.hid (D.out.call hC hU)
  clear hC hU
  have S : Hid (DT w (w1.alloc (.cells #[.int .i64 (1 + x1), .slice none 0 0] 79)) p w.heap.size w1.heap.size (1 + x1) (.slice none 0 0) [] []) := Lib.hid (by
    have g := Grow.alloc w1 (.cells #[.int .i64 (1 + x1), .slice none 0 0] 79)
    have := BR.out.1.1
    exact ⟨D.out.grow g, BR.out.grow g, Bx.new D.out [.int .i64 (1 + x1), .slice none 0 0] 79, ET.nil _ _ _, by omega⟩)
  clear D BR
  go_wp2_with fail
  generalize w1.alloc (.cells #[.int .i64 (1 + x1), .slice none 0 0] 79) = W1 at *
  generalize w1.heap.size = bt at *
  obtain ⟨R, hR⟩ : ∃ R, w.heap.size = R := ⟨_, rfl⟩
  rw [hR] at S ⊢
  clear hR
  refine (l01Below_any _ p 8 (by omega) S.out.d.cur).mono ?_
  rintro e w2 ⟨x2, rfl, h2a, h2b, -, hC, hU⟩
  have h2b := h2b (by omega)
  replace S := Lib.hid (S.out.call hC hU)
  clear hC hU
  by_cases c2 : x2 = 0
  · subst c2
    have ⟨q0, q1⟩ := S.out.ft.1.two; have qz := S.out.ft.1.2.2; have ql := S.out.ft.1.1
    go_wp2_with fail
    replace S := Lib.hid (S.out.setCap 400)
    clear q0 q1 qz ql
    generalize w2.setCell ⟨bt, 0, none⟩ (.int .i64 400) = W2 at *
    refine (l01Below_any _ p 10 (by omega) S.out.d.cur).mono ?_
    rintro e w3 ⟨x3, rfl, h3a, h3b, -, hC, hU⟩
    have h3b := h3b (by omega)
    replace S := Lib.hid (S.out.call hC hU)
    clear hC hU
    obtain ⟨n, rfl⟩ := Int.eq_ofNat_of_zero_le h3a
    go_wp2
    go_loopw [4] (fun i wr => ∃ (m : Nat) (cap : Int) (q : Value) (es : List EntryD) (cs : List Value), m ≤ n ∧ i = .int .i64 m ∧ I64 cap ∧ GoodS es ∧ es.length + 1 ≤ 2 ^ (n - m) ∧ DT w wr p R bt cap q es cs) (fun i _ => (intOf i).toNat)
    case atStart => exact ⟨n, _, _, _, _, Nat.le_refl _, by go_num, by unfold I64; omega, goodS_nil, by simp, S.out⟩
    case round =>
      clear S
      obtain ⟨m, cap, q, es, cs, hm, rfl, hcp, hgs, hlp, hst⟩ := hrel
      rename World => wr
      have S := Lib.hid hst; have HC := Lib.hid hcp; have GS := Lib.hid hgs; have LP := Lib.hid hlp
      have LB : Hid (es.length ≤ 600) := Lib.hid (by have := pow_512 (n := n) (m := m) (by omega); omega)
      obtain ⟨qa, qc, rfl⟩ := own_shape hst.et.1
      clear hst hcp hgs hlp
      by_cases hlt : 0 < m
      · obtain ⟨m, rfl⟩ : ∃ m', m = m' + 1 := ⟨m - 1, by omega⟩
        go_wp2_with fail
        replace S := Lib.hid (S.out.grow (Grow.drewN wr 1))
        obtain ⟨C, hC⟩ : ∃ C : World → Prop, C = fun W => Box W bt [.int .i64 cap, .slice qa es.length qc] := ⟨_, rfl⟩
        have CC : Hid (∀ W, C W → Box W bt [.int .i64 cap, .slice qa es.length qc]) := Lib.hid (fun W h => by rw [hC] at h; exact h)
        have MK : Hid (∀ W, Box W bt [.int .i64 cap, .slice qa es.length qc] → C W) := Lib.hid (fun W h => by rw [hC]; exact h)
        clear hC
        have c0 : Hid (C (wr.drewN 1)) := Lib.hid (MK.out _ S.out.ft.1)
        have hne : Nonempty (Cl C) := ⟨⟨_, c0.out⟩⟩
        have p0 : ∀ x : Cl C, x.w.cell? ⟨bt, 0, none⟩ = some (.int .i64 cap) := fun x => (CC.out x.w x.ok).two.1
        have p1 : ∀ x : Cl C, x.w.cell? ⟨bt, 1, none⟩ = some (.slice qa es.length qc) := fun x => (CC.out x.w x.ok).two.2
        refine wp_region_mix (Cls C) 10 #[false, false, false, false, false, false, false, false, false, false] (by kernel_rfl) (by kernel_rfl) ⟨⟨_, c0.out⟩, rfl⟩ ?_
        refine anyC_seg [0, 1] #[true, true, false, false, false, false, false, false, false, false] (fuel := 8) rfl (by kernel_rfl) ⟨⟨_, c0.out⟩, rfl⟩ ?_
        simp only [pickOps, List.getD_cons_succ, List.getD_cons_zero]
        repeat (go_big_quiet_step (fail))
        refine wpQuiet_nil ?_
        clear p0 p1
        apply viaT (fun ep pr x0 x1 x2 hi cap2 q2 code b W => DT w W p R bt cap (.slice qa es.length qc) es cs ∧ B5P w W R bt b (.slice qa es.length qc) es cs ∧ ∃ es2 cs2, ET w W [R, bt, b] q2 es2 cs2 ∧ GoodS es2 ∧ es2.length ≤ 2 * es.length + 1 ∧ I64 cap2)
        · intro J
          refine anyC_two_ 2 7 #[true, true, true, false, false, false, false, false, false, false] #[true, true, false, false, false, false, false, true, false, false] (fuel := 7) (by kernel_rfl) ?_ ?_
          · simp only [List.getD_cons_succ, List.getD_cons_zero]
            go_wp2
            have ga := Lib.hid (Grow.alloc (wr.drewN 1) (.cells #[.int .i64 0, .slice none 0 0] 79))
            have B5 : Hid (B5P w ((wr.drewN 1).alloc (.cells #[.int .i64 0, .slice none 0 0] 79)) R bt wr.heap.size (.slice qa es.length qc) es cs) := Lib.hid (bnew S.out)
            replace S := Lib.hid (S.out.grow ga.out)
            clear ga
            have cN := MK.out _ S.out.ft.1
            refine ⟨⟨⟨_, cN⟩, rfl⟩, ?_⟩
            clear cN
            generalize (wr.drewN 1).alloc (.cells #[.int .i64 0, .slice none 0 0] 79) = v1 at *
            generalize wr.heap.size = b5 at *
            refine anyC_sole 2 #[true, true, true, false, false, false, false, true, false, false] (fuel := 6) (by kernel_rfl) ?_
            simp only [List.getD_cons_succ, List.getD_cons_zero]
            go_wp2_with fail
            refine (l07DrawEntry_any _ p S.out.d.cur).mono ?_
            rintro e v2 ⟨x0, x1, x2, d, rfl, hsub, hgd, hC, hU⟩
            have SUB := Lib.hid (hsub.older S.out.d.size); have GD := Lib.hid hgd
            replace B5 := Lib.hid (bkeep B5.out S.out.d hU)
            replace S := Lib.hid (S.out.call hC hU)
            clear hsub hgd hC hU
            go_wp2
            refine ⟨⟨⟨_, MK.out _ S.out.ft.1⟩, rfl⟩, ?_⟩
            refine anyC_sole 3 #[true, true, true, true, false, false, false, true, false, false] (fuel := 5) (by kernel_rfl) ?_
            simp only [List.getD_cons_succ, List.getD_cons_zero]
            go_wp2_with fail
            refine (tableAddS_any _ _ _ cap es d S.out.et.rd GS.out LB.out HC.out SUB.out.rd GD.out).mono ?_
            rintro e v3 ⟨cap2, q2, es2, cs2, code2, rfl, het, hgs, hl, hcp, hg⟩
            have z1 := S.out.br.1.1; have z2 := S.out.ft.1.1; have z3 := B5.out.1.1
            have ET2 : Hid (ET w v3 [R, bt, b5] q2 es2 cs2) := Lib.hid ((het.more (fun x hx => .inr (.inr (by simp only [List.mem_cons, List.not_mem_nil, or_false] at hx; omega)))).older S.out.d.size)
            have GS2 := Lib.hid hgs; have GL2 := Lib.hid hl; have GC2 := Lib.hid hcp
            replace B5 := Lib.hid (bgrow B5.out hg)
            replace S := Lib.hid (S.out.grow hg)
            clear het hgs hl hcp hg z1 z2 z3
            go_wp2
            refine ⟨⟨⟨_, MK.out _ S.out.ft.1⟩, rfl⟩, ?_⟩
            refine anyC_seg [4, 5, 6] #[true, true, true, true, true, true, true, true, false, false] (fuel := 2) rfl (by kernel_rfl) ⟨⟨_, MK.out _ S.out.ft.1⟩, rfl⟩ ?_
            simp only [pickOps, List.getD_cons_succ, List.getD_cons_zero]
            repeat (go_big_quiet_step (fail))
            refine wpQuiet_nil ?_
            generalize d.epoch = ep
            generalize d.prio = pr
            generalize d.hits = hi
            exact J ep pr x0 x1 x2 hi cap2 q2 code2 b5 v3 ⟨S.out, B5.out, _, _, ET2.out, GS2.out, GL2.out, GC2.out⟩
          · simp only [List.getD_cons_succ, List.getD_cons_zero]
            go_wp2_with fail
            refine (l07DrawEntry_any _ p S.out.d.cur).mono ?_
            rintro e v4 ⟨x0, x1, x2, d, rfl, hsub, hgd, hC, hU⟩
            have SUB := Lib.hid (hsub.older S.out.d.size); have GD := Lib.hid hgd
            replace S := Lib.hid (S.out.call hC hU)
            clear hsub hgd hC hU
            go_wp2
            refine ⟨⟨⟨_, MK.out _ S.out.ft.1⟩, rfl⟩, ?_⟩
            refine anyC_two_ 3 7 #[true, true, true, true, false, false, false, false, false, false] #[true, true, true, false, false, false, false, true, false, false] (fuel := 6) (by kernel_rfl) ?_ ?_
            · simp only [List.getD_cons_succ, List.getD_cons_zero]
              go_wp2
              have ga := Lib.hid (Grow.alloc v4 (.cells #[.int .i64 0, .slice none 0 0] 79))
              have B5 : Hid (B5P w (v4.alloc (.cells #[.int .i64 0, .slice none 0 0] 79)) R bt v4.heap.size (.slice qa es.length qc) es cs) := Lib.hid (bnew S.out)
              replace SUB := Lib.hid (SUB.out.grow ga.out)
              replace S := Lib.hid (S.out.grow ga.out)
              clear ga
              have cN := MK.out _ S.out.ft.1
              refine ⟨⟨⟨_, cN⟩, rfl⟩, ?_⟩
              clear cN
              generalize v4.alloc (.cells #[.int .i64 0, .slice none 0 0] 79) = v5 at *
              generalize v4.heap.size = b5 at *
              refine anyC_sole 3 #[true, true, true, true, false, false, false, true, false, false] (fuel := 5) (by kernel_rfl) ?_
              simp only [List.getD_cons_succ, List.getD_cons_zero]
              go_wp2_with fail
              refine (tableAddS_any _ _ _ cap es d S.out.et.rd GS.out LB.out HC.out SUB.out.rd GD.out).mono ?_
              rintro e v6 ⟨cap2, q2, es2, cs2, code2, rfl, het, hgs, hl, hcp, hg⟩
              have z1 := S.out.br.1.1; have z2 := S.out.ft.1.1; have z3 := B5.out.1.1
              have ET2 : Hid (ET w v6 [R, bt, b5] q2 es2 cs2) := Lib.hid ((het.more (fun x hx => .inr (.inr (by simp only [List.mem_cons, List.not_mem_nil, or_false] at hx; omega)))).older S.out.d.size)
              have GS2 := Lib.hid hgs; have GL2 := Lib.hid hl; have GC2 := Lib.hid hcp
              replace B5 := Lib.hid (bgrow B5.out hg)
              replace S := Lib.hid (S.out.grow hg)
              clear het hgs hl hcp hg z1 z2 z3
              go_wp2
              refine ⟨⟨⟨_, MK.out _ S.out.ft.1⟩, rfl⟩, ?_⟩
              refine anyC_seg [4, 5, 6] #[true, true, true, true, true, true, true, true, false, false] (fuel := 2) rfl (by kernel_rfl) ⟨⟨_, MK.out _ S.out.ft.1⟩, rfl⟩ ?_
              simp only [pickOps, List.getD_cons_succ, List.getD_cons_zero]
              repeat (go_big_quiet_step (fail))
              refine wpQuiet_nil ?_
              generalize d.epoch = ep
              generalize d.prio = pr
              generalize d.hits = hi
              exact J ep pr x0 x1 x2 hi cap2 q2 code2 b5 v6 ⟨S.out, B5.out, _, _, ET2.out, GS2.out, GL2.out, GC2.out⟩
            · simp only [List.getD_cons_succ, List.getD_cons_zero]
              go_wp2_with fail
              refine (tableAddS_any _ _ _ cap es d S.out.et.rd GS.out LB.out HC.out SUB.out.rd GD.out).mono ?_
              rintro e v7 ⟨cap2, q2, es2, cs2, code2, rfl, het, hgs, hl, hcp, hg⟩
              have z1 := S.out.br.1.1; have z2 := S.out.ft.1.1
              have ET2 : Hid (ET w v7 [R, bt] q2 es2 cs2) := Lib.hid ((het.more (fun x hx => .inr (.inr (by simp only [List.mem_cons, List.not_mem_nil, or_false] at hx; omega)))).older S.out.d.size)
              have GS2 := Lib.hid hgs; have GL2 := Lib.hid hl; have GC2 := Lib.hid hcp
              replace S := Lib.hid (S.out.grow hg)
              clear het hgs hl hcp hg z1 z2
              go_wp2
              refine ⟨⟨⟨_, MK.out _ S.out.ft.1⟩, rfl⟩, ?_⟩
              refine anyC_seg [4, 5, 6] #[true, true, true, true, true, true, true, false, false, false] (fuel := 3) rfl (by kernel_rfl) ⟨⟨_, MK.out _ S.out.ft.1⟩, rfl⟩ ?_
              simp only [pickOps, List.getD_cons_succ, List.getD_cons_zero]
              repeat (go_big_quiet_step (fail))
              refine wpQuiet_nil ?_
              refine anyC_sole 7 #[true, true, true, true, true, true, true, true, false, false] (fuel := 2) (by kernel_rfl) ?_
              simp only [List.getD_cons_succ, List.getD_cons_zero]
              go_wp2
              have ga := Lib.hid (Grow.alloc v7 (.cells #[.int .i64 0, .slice none 0 0] 79))
              have B5 : Hid (B5P w (v7.alloc (.cells #[.int .i64 0, .slice none 0 0] 79)) R bt v7.heap.size (.slice qa es.length qc) es cs) := Lib.hid (bnew S.out)
              replace ET2 : Hid (ET w (v7.alloc (.cells #[.int .i64 0, .slice none 0 0] 79)) [R, bt, v7.heap.size] q2 es2 cs2) := Lib.hid ((ET2.out.more (fun x hx => by simp only [List.mem_cons, List.not_mem_nil, or_false] at hx ⊢; omega)).grow ga.out)
              replace S := Lib.hid (S.out.grow ga.out)
              clear ga
              have cN := MK.out _ S.out.ft.1
              refine ⟨⟨⟨_, cN⟩, rfl⟩, ?_⟩
              clear cN
              generalize v7.alloc (.cells #[.int .i64 0, .slice none 0 0] 79) = v8 at *
              generalize v7.heap.size = b5 at *
              generalize d.epoch = ep
              generalize d.prio = pr
              generalize d.hits = hi
              exact J ep pr x0 x1 x2 hi cap2 q2 code2 b5 v8 ⟨S.out, B5.out, _, _, ET2.out, GS2.out, GL2.out, GC2.out⟩
        clear S
        intro ep pr x0 x1 x2 hi cap2 q2 code b W ⟨hS, hB5, es2, cs2, hE, hG2, hl2, hc2⟩
        obtain ⟨q2a, q2c, rfl⟩ := own_shape hE.1
        have S := Lib.hid hS; have ET2 := Lib.hid hE; have GS2 := Lib.hid hG2; have GL2 := Lib.hid hl2; have GC2 := Lib.hid hc2; have NB := Lib.hid hB5
        clear hS hE hG2 hl2 hc2
        have ⟨s0, s1⟩ := hB5.1.two; have sz := hB5.1.2.2; have sl := hB5.1.1
        clear hB5
        refine anyC_sole 8 #[true, true, true, true, true, true, true, true, true, false] (fuel := 1) (by kernel_rfl) ?_
        simp only [List.getD_cons_succ, List.getD_cons_zero]
        go_wp2
        have U8 : Hid (Upd [b] W (World.setCell (World.setCell W ⟨b, 0, none⟩ (.int .i64 cap2)) ⟨b, 1, none⟩ (.slice q2a es2.length q2c))) := Lib.hid (Upd.setCell (p := ⟨b, 1, none⟩) (Upd.setCell (p := ⟨b, 0, none⟩) (Upd.refl [b] W) (by simp) _) (by simp) _)
        have B8 : Hid (Box (World.setCell (World.setCell W ⟨b, 0, none⟩ (.int .i64 cap2)) ⟨b, 1, none⟩ (.slice q2a es2.length q2c)) b [.int .i64 cap2, .slice q2a es2.length q2c]) := Lib.hid ((NB.out.1.set 0 (.int .i64 cap2) (by simp)).set 1 (.slice q2a es2.length q2c) (by simp))
        replace S := Lib.hid (S.out.upd NB.out.2.2.2.2 U8.out NB.out.2.1 (fun h => NB.out.2.2.1 h.symm) (fun h => NB.out.2.2.2.1 h.symm))
        replace ET2 : Hid (ET w (World.setCell (World.setCell W ⟨b, 0, none⟩ (.int .i64 cap2)) ⟨b, 1, none⟩ (.slice q2a es2.length q2c)) [R, bt] (.slice q2a es2.length q2c) es2 cs2) := Lib.hid ((ET2.out.upd U8.out (by simp)).more (fun x hx => .inl (by simp only [List.mem_cons, List.not_mem_nil, or_false] at hx ⊢; omega)))
        clear s0 s1 sz sl U8
        generalize World.setCell (World.setCell W ⟨b, 0, none⟩ (.int .i64 cap2)) ⟨b, 1, none⟩ (.slice q2a es2.length q2c) = v9 at *
        refine ⟨⟨⟨_, MK.out _ S.out.ft.1⟩, rfl⟩, ?_⟩
        refine anyC_seg [9] #[true, true, true, true, true, true, true, true, true, true] (fuel := 0) rfl (by kernel_rfl) ⟨⟨_, MK.out _ S.out.ft.1⟩, rfl⟩ ?_
        simp only [pickOps, List.getD_cons_succ, List.getD_cons_zero]
        repeat (go_big_quiet_step (fail))
        refine wpQuiet_nil ?_
        refine anyC_done (by kernel_rfl) ?_
        clear CC MK c0 hne C NB
        by_cases hcode : code = 0
        rotate_left
        · have hb : (code == 0) = false := by simpa using hcode
          go_wp2
          go_roundw
          case rel => exact ⟨m, _, _, _, _, by omega, by go_num, HC.out, GS.out, Nat.le_trans LP.out (Nat.pow_le_pow_right (by decide) (by omega)), S.out⟩
          case measure => simp [intOf] <;> omega
        subst hcode
        have ⟨b0, b1⟩ := B8.out.two; have bz := B8.out.2.2; have bl := B8.out.1
        have ⟨t0, t1⟩ := S.out.ft.1.two; have tz := S.out.ft.1.2.2; have tl := S.out.ft.1.1
        go_wp2
        replace S := Lib.hid (S.out.lay (cap' := cap2) ET2.out)
        clear b0 b1 bz bl t0 t1 tz tl
        go_roundw
        case rel => exact ⟨m, _, _, _, _, by omega, by go_num, GC2.out, GS2.out, by have h1 := LP.out; have h2 := GL2.out; have h3 := pow_step (n := n) (m := m) (by omega); omega, S.out⟩
        case measure => simp [intOf] <;> omega
      · obtain rfl : m = 0 := by omega
        have ⟨q0, q1⟩ := S.out.ft.1.two; have qz := S.out.ft.1.2.2; have ql := S.out.ft.1.1
        have ⟨r0, r1⟩ := S.out.br.1.two; have rz := S.out.br.1.2.2; have rl := S.out.br.1.1
        have n1 : ¬ bt = R := by have := S.out.ne; omega
        have n2 : ¬ R = bt := by omega
        go_wp2
        have HR : Hid (∀ W, Upd [R] wr W → RetTb w p (.returned (.agg #[.int .i64 cap, .slice qa es.length qc])) W) := Lib.hid (fun W hu => S.out.ret GS.out LB.out HC.out hu)
        refine bodyPost_ret (v := .agg #[.int .i64 cap, .slice qa es.length qc]) ?_ rfl (HR.out _ ?_)
        · simp [results, Try.results138, go_sem, q0, q1, qz, ql, r0, r1, rz, rl, n1, n2] <;> omega
        · ((repeat (first | with_reducible exact Upd.refl _ _ | (with_reducible refine Upd.setCell ?_ (by simp) _))))
  have hb2 : (x2 == 0) = false := by simpa using c2
  go_wp2_with fail
  refine (l01Below_any _ p 10 (by omega) S.out.d.cur).mono ?_
  rintro e w3 ⟨x3, rfl, h3a, h3b, -, hC, hU⟩
  have h3b := h3b (by omega)
  replace S := Lib.hid (S.out.call hC hU)
  clear hC hU
  obtain ⟨n, rfl⟩ := Int.eq_ofNat_of_zero_le h3a
  go_wp2
  go_loopw [4] (fun i wr => ∃ (m : Nat) (cap : Int) (q : Value) (es : List EntryD) (cs : List Value), m ≤ n ∧ i = .int .i64 m ∧ I64 cap ∧ GoodS es ∧ es.length + 1 ≤ 2 ^ (n - m) ∧ DT w wr p R bt cap q es cs) (fun i _ => (intOf i).toNat)
  case atStart => exact ⟨n, _, _, _, _, Nat.le_refl _, by go_num, by unfold I64; omega, goodS_nil, by simp, S.out⟩
  case round =>
    clear S
    obtain ⟨m, cap, q, es, cs, hm, rfl, hcp, hgs, hlp, hst⟩ := hrel
    rename World => wr
    have S := Lib.hid hst; have HC := Lib.hid hcp; have GS := Lib.hid hgs; have LP := Lib.hid hlp
    have LB : Hid (es.length ≤ 600) := Lib.hid (by have := pow_512 (n := n) (m := m) (by omega); omega)
    obtain ⟨qa, qc, rfl⟩ := own_shape hst.et.1
    clear hst hcp hgs hlp
    by_cases hlt : 0 < m
    · obtain ⟨m, rfl⟩ : ∃ m', m = m' + 1 := ⟨m - 1, by omega⟩
      go_wp2_with fail
      replace S := Lib.hid (S.out.grow (Grow.drewN wr 1))
      obtain ⟨C, hC⟩ : ∃ C : World → Prop, C = fun W => Box W bt [.int .i64 cap, .slice qa es.length qc] := ⟨_, rfl⟩
      have CC : Hid (∀ W, C W → Box W bt [.int .i64 cap, .slice qa es.length qc]) := Lib.hid (fun W h => by rw [hC] at h; exact h)
      have MK : Hid (∀ W, Box W bt [.int .i64 cap, .slice qa es.length qc] → C W) := Lib.hid (fun W h => by rw [hC]; exact h)
      clear hC
      have c0 : Hid (C (wr.drewN 1)) := Lib.hid (MK.out _ S.out.ft.1)
      have hne : Nonempty (Cl C) := ⟨⟨_, c0.out⟩⟩
      have p0 : ∀ x : Cl C, x.w.cell? ⟨bt, 0, none⟩ = some (.int .i64 cap) := fun x => (CC.out x.w x.ok).two.1
      have p1 : ∀ x : Cl C, x.w.cell? ⟨bt, 1, none⟩ = some (.slice qa es.length qc) := fun x => (CC.out x.w x.ok).two.2
      refine wp_region_mix (Cls C) 10 #[false, false, false, false, false, false, false, false, false, false] (by kernel_rfl) (by kernel_rfl) ⟨⟨_, c0.out⟩, rfl⟩ ?_
      refine anyC_seg [0, 1] #[true, true, false, false, false, false, false, false, false, false] (fuel := 8) rfl (by kernel_rfl) ⟨⟨_, c0.out⟩, rfl⟩ ?_
      simp only [pickOps, List.getD_cons_succ, List.getD_cons_zero]
      repeat (go_big_quiet_step (fail))
      refine wpQuiet_nil ?_
      clear p0 p1
      apply viaT (fun ep pr x0 x1 x2 hi cap2 q2 code b W => DT w W p R bt cap (.slice qa es.length qc) es cs ∧ B5P w W R bt b (.slice qa es.length qc) es cs ∧ ∃ es2 cs2, ET w W [R, bt, b] q2 es2 cs2 ∧ GoodS es2 ∧ es2.length ≤ 2 * es.length + 1 ∧ I64 cap2)
      · intro J
        refine anyC_two_ 2 7 #[true, true, true, false, false, false, false, false, false, false] #[true, true, false, false, false, false, false, true, false, false] (fuel := 7) (by kernel_rfl) ?_ ?_
        · simp only [List.getD_cons_succ, List.getD_cons_zero]
          go_wp2
          have ga := Lib.hid (Grow.alloc (wr.drewN 1) (.cells #[.int .i64 0, .slice none 0 0] 79))
          have B5 : Hid (B5P w ((wr.drewN 1).alloc (.cells #[.int .i64 0, .slice none 0 0] 79)) R bt wr.heap.size (.slice qa es.length qc) es cs) := Lib.hid (bnew S.out)
          replace S := Lib.hid (S.out.grow ga.out)
          clear ga
          have cN := MK.out _ S.out.ft.1
          refine ⟨⟨⟨_, cN⟩, rfl⟩, ?_⟩
          clear cN
          generalize (wr.drewN 1).alloc (.cells #[.int .i64 0, .slice none 0 0] 79) = v1 at *
          generalize wr.heap.size = b5 at *
          refine anyC_sole 2 #[true, true, true, false, false, false, false, true, false, false] (fuel := 6) (by kernel_rfl) ?_
          simp only [List.getD_cons_succ, List.getD_cons_zero]
          go_wp2_with fail
          refine (l07DrawEntry_any _ p S.out.d.cur).mono ?_
          rintro e v2 ⟨x0, x1, x2, d, rfl, hsub, hgd, hC, hU⟩
          have SUB := Lib.hid (hsub.older S.out.d.size); have GD := Lib.hid hgd
          replace B5 := Lib.hid (bkeep B5.out S.out.d hU)
          replace S := Lib.hid (S.out.call hC hU)
          clear hsub hgd hC hU
          go_wp2
          refine ⟨⟨⟨_, MK.out _ S.out.ft.1⟩, rfl⟩, ?_⟩
          refine anyC_sole 3 #[true, true, true, true, false, false, false, true, false, false] (fuel := 5) (by kernel_rfl) ?_
          simp only [List.getD_cons_succ, List.getD_cons_zero]
          go_wp2_with fail
          refine (tableAddS_any _ _ _ cap es d S.out.et.rd GS.out LB.out HC.out SUB.out.rd GD.out).mono ?_
          rintro e v3 ⟨cap2, q2, es2, cs2, code2, rfl, het, hgs, hl, hcp, hg⟩
          have z1 := S.out.br.1.1; have z2 := S.out.ft.1.1; have z3 := B5.out.1.1
          have ET2 : Hid (ET w v3 [R, bt, b5] q2 es2 cs2) := Lib.hid ((het.more (fun x hx => .inr (.inr (by simp only [List.mem_cons, List.not_mem_nil, or_false] at hx; omega)))).older S.out.d.size)
          have GS2 := Lib.hid hgs; have GL2 := Lib.hid hl; have GC2 := Lib.hid hcp
          replace B5 := Lib.hid (bgrow B5.out hg)
          replace S := Lib.hid (S.out.grow hg)
          clear het hgs hl hcp hg z1 z2 z3
          go_wp2
          refine ⟨⟨⟨_, MK.out _ S.out.ft.1⟩, rfl⟩, ?_⟩
          refine anyC_seg [4, 5, 6] #[true, true, true, true, true, true, true, true, false, false] (fuel := 2) rfl (by kernel_rfl) ⟨⟨_, MK.out _ S.out.ft.1⟩, rfl⟩ ?_
          simp only [pickOps, List.getD_cons_succ, List.getD_cons_zero]
          repeat (go_big_quiet_step (fail))
          refine wpQuiet_nil ?_
          generalize d.epoch = ep
          generalize d.prio = pr
          generalize d.hits = hi
          exact J ep pr x0 x1 x2 hi cap2 q2 code2 b5 v3 ⟨S.out, B5.out, _, _, ET2.out, GS2.out, GL2.out, GC2.out⟩
        · simp only [List.getD_cons_succ, List.getD_cons_zero]
          go_wp2_with fail
          refine (l07DrawEntry_any _ p S.out.d.cur).mono ?_
          rintro e v4 ⟨x0, x1, x2, d, rfl, hsub, hgd, hC, hU⟩
          have SUB := Lib.hid (hsub.older S.out.d.size); have GD := Lib.hid hgd
          replace S := Lib.hid (S.out.call hC hU)
          clear hsub hgd hC hU
          go_wp2
          refine ⟨⟨⟨_, MK.out _ S.out.ft.1⟩, rfl⟩, ?_⟩
          refine anyC_two_ 3 7 #[true, true, true, true, false, false, false, false, false, false] #[true, true, true, false, false, false, false, true, false, false] (fuel := 6) (by kernel_rfl) ?_ ?_
          · simp only [List.getD_cons_succ, List.getD_cons_zero]
            go_wp2
            have ga := Lib.hid (Grow.alloc v4 (.cells #[.int .i64 0, .slice none 0 0] 79))
            have B5 : Hid (B5P w (v4.alloc (.cells #[.int .i64 0, .slice none 0 0] 79)) R bt v4.heap.size (.slice qa es.length qc) es cs) := Lib.hid (bnew S.out)
            replace SUB := Lib.hid (SUB.out.grow ga.out)
            replace S := Lib.hid (S.out.grow ga.out)
            clear ga
            have cN := MK.out _ S.out.ft.1
            refine ⟨⟨⟨_, cN⟩, rfl⟩, ?_⟩
            clear cN
            generalize v4.alloc (.cells #[.int .i64 0, .slice none 0 0] 79) = v5 at *
            generalize v4.heap.size = b5 at *
            refine anyC_sole 3 #[true, true, true, true, false, false, false, true, false, false] (fuel := 5) (by kernel_rfl) ?_
            simp only [List.getD_cons_succ, List.getD_cons_zero]
            go_wp2_with fail
            refine (tableAddS_any _ _ _ cap es d S.out.et.rd GS.out LB.out HC.out SUB.out.rd GD.out).mono ?_
            rintro e v6 ⟨cap2, q2, es2, cs2, code2, rfl, het, hgs, hl, hcp, hg⟩
            have z1 := S.out.br.1.1; have z2 := S.out.ft.1.1; have z3 := B5.out.1.1
            have ET2 : Hid (ET w v6 [R, bt, b5] q2 es2 cs2) := Lib.hid ((het.more (fun x hx => .inr (.inr (by simp only [List.mem_cons, List.not_mem_nil, or_false] at hx; omega)))).older S.out.d.size)
            have GS2 := Lib.hid hgs; have GL2 := Lib.hid hl; have GC2 := Lib.hid hcp
            replace B5 := Lib.hid (bgrow B5.out hg)
            replace S := Lib.hid (S.out.grow hg)
            clear het hgs hl hcp hg z1 z2 z3
            go_wp2
            refine ⟨⟨⟨_, MK.out _ S.out.ft.1⟩, rfl⟩, ?_⟩
            refine anyC_seg [4, 5, 6] #[true, true, true, true, true, true, true, true, false, false] (fuel := 2) rfl (by kernel_rfl) ⟨⟨_, MK.out _ S.out.ft.1⟩, rfl⟩ ?_
            simp only [pickOps, List.getD_cons_succ, List.getD_cons_zero]
            repeat (go_big_quiet_step (fail))
            refine wpQuiet_nil ?_
            generalize d.epoch = ep
            generalize d.prio = pr
            generalize d.hits = hi
            exact J ep pr x0 x1 x2 hi cap2 q2 code2 b5 v6 ⟨S.out, B5.out, _, _, ET2.out, GS2.out, GL2.out, GC2.out⟩
          · simp only [List.getD_cons_succ, List.getD_cons_zero]
            go_wp2_with fail
            refine (tableAddS_any _ _ _ cap es d S.out.et.rd GS.out LB.out HC.out SUB.out.rd GD.out).mono ?_
            rintro e v7 ⟨cap2, q2, es2, cs2, code2, rfl, het, hgs, hl, hcp, hg⟩
            have z1 := S.out.br.1.1; have z2 := S.out.ft.1.1
            have ET2 : Hid (ET w v7 [R, bt] q2 es2 cs2) := Lib.hid ((het.more (fun x hx => .inr (.inr (by simp only [List.mem_cons, List.not_mem_nil, or_false] at hx; omega)))).older S.out.d.size)
            have GS2 := Lib.hid hgs; have GL2 := Lib.hid hl; have GC2 := Lib.hid hcp
            replace S := Lib.hid (S.out.grow hg)
            clear het hgs hl hcp hg z1 z2
            go_wp2
            refine ⟨⟨⟨_, MK.out _ S.out.ft.1⟩, rfl⟩, ?_⟩
            refine anyC_seg [4, 5, 6] #[true, true, true, true, true, true, true, false, false, false] (fuel := 3) rfl (by kernel_rfl) ⟨⟨_, MK.out _ S.out.ft.1⟩, rfl⟩ ?_
            simp only [pickOps, List.getD_cons_succ, List.getD_cons_zero]
            repeat (go_big_quiet_step (fail))
            refine wpQuiet_nil ?_
            refine anyC_sole 7 #[true, true, true, true, true, true, true, true, false, false] (fuel := 2) (by kernel_rfl) ?_
            simp only [List.getD_cons_succ, List.getD_cons_zero]
            go_wp2
            have ga := Lib.hid (Grow.alloc v7 (.cells #[.int .i64 0, .slice none 0 0] 79))
            have B5 : Hid (B5P w (v7.alloc (.cells #[.int .i64 0, .slice none 0 0] 79)) R bt v7.heap.size (.slice qa es.length qc) es cs) := Lib.hid (bnew S.out)
            replace ET2 : Hid (ET w (v7.alloc (.cells #[.int .i64 0, .slice none 0 0] 79)) [R, bt, v7.heap.size] q2 es2 cs2) := Lib.hid ((ET2.out.more (fun x hx => by simp only [List.mem_cons, List.not_mem_nil, or_false] at hx ⊢; omega)).grow ga.out)
            replace S := Lib.hid (S.out.grow ga.out)
            clear ga
            have cN := MK.out _ S.out.ft.1
            refine ⟨⟨⟨_, cN⟩, rfl⟩, ?_⟩
            clear cN
            generalize v7.alloc (.cells #[.int .i64 0, .slice none 0 0] 79) = v8 at *
            generalize v7.heap.size = b5 at *
            generalize d.epoch = ep
            generalize d.prio = pr
            generalize d.hits = hi
            exact J ep pr x0 x1 x2 hi cap2 q2 code2 b5 v8 ⟨S.out, B5.out, _, _, ET2.out, GS2.out, GL2.out, GC2.out⟩
      clear S
      intro ep pr x0 x1 x2 hi cap2 q2 code b W ⟨hS, hB5, es2, cs2, hE, hG2, hl2, hc2⟩
      obtain ⟨q2a, q2c, rfl⟩ := own_shape hE.1
      have S := Lib.hid hS; have ET2 := Lib.hid hE; have GS2 := Lib.hid hG2; have GL2 := Lib.hid hl2; have GC2 := Lib.hid hc2; have NB := Lib.hid hB5
      clear hS hE hG2 hl2 hc2
      have ⟨s0, s1⟩ := hB5.1.two; have sz := hB5.1.2.2; have sl := hB5.1.1
      clear hB5
      refine anyC_sole 8 #[true, true, true, true, true, true, true, true, true, false] (fuel := 1) (by kernel_rfl) ?_
      simp only [List.getD_cons_succ, List.getD_cons_zero]
      go_wp2
      have U8 : Hid (Upd [b] W (World.setCell (World.setCell W ⟨b, 0, none⟩ (.int .i64 cap2)) ⟨b, 1, none⟩ (.slice q2a es2.length q2c))) := Lib.hid (Upd.setCell (p := ⟨b, 1, none⟩) (Upd.setCell (p := ⟨b, 0, none⟩) (Upd.refl [b] W) (by simp) _) (by simp) _)
      have B8 : Hid (Box (World.setCell (World.setCell W ⟨b, 0, none⟩ (.int .i64 cap2)) ⟨b, 1, none⟩ (.slice q2a es2.length q2c)) b [.int .i64 cap2, .slice q2a es2.length q2c]) := Lib.hid ((NB.out.1.set 0 (.int .i64 cap2) (by simp)).set 1 (.slice q2a es2.length q2c) (by simp))
      replace S := Lib.hid (S.out.upd NB.out.2.2.2.2 U8.out NB.out.2.1 (fun h => NB.out.2.2.1 h.symm) (fun h => NB.out.2.2.2.1 h.symm))
      replace ET2 : Hid (ET w (World.setCell (World.setCell W ⟨b, 0, none⟩ (.int .i64 cap2)) ⟨b, 1, none⟩ (.slice q2a es2.length q2c)) [R, bt] (.slice q2a es2.length q2c) es2 cs2) := Lib.hid ((ET2.out.upd U8.out (by simp)).more (fun x hx => .inl (by simp only [List.mem_cons, List.not_mem_nil, or_false] at hx ⊢; omega)))
      clear s0 s1 sz sl U8
      generalize World.setCell (World.setCell W ⟨b, 0, none⟩ (.int .i64 cap2)) ⟨b, 1, none⟩ (.slice q2a es2.length q2c) = v9 at *
      refine ⟨⟨⟨_, MK.out _ S.out.ft.1⟩, rfl⟩, ?_⟩
      refine anyC_seg [9] #[true, true, true, true, true, true, true, true, true, true] (fuel := 0) rfl (by kernel_rfl) ⟨⟨_, MK.out _ S.out.ft.1⟩, rfl⟩ ?_
      simp only [pickOps, List.getD_cons_succ, List.getD_cons_zero]
      repeat (go_big_quiet_step (fail))
      refine wpQuiet_nil ?_
      refine anyC_done (by kernel_rfl) ?_
      clear CC MK c0 hne C NB
      by_cases hcode : code = 0
      rotate_left
      · have hb : (code == 0) = false := by simpa using hcode
        go_wp2
        go_roundw
        case rel => exact ⟨m, _, _, _, _, by omega, by go_num, HC.out, GS.out, Nat.le_trans LP.out (Nat.pow_le_pow_right (by decide) (by omega)), S.out⟩
        case measure => simp [intOf] <;> omega
      subst hcode
      have ⟨b0, b1⟩ := B8.out.two; have bz := B8.out.2.2; have bl := B8.out.1
      have ⟨t0, t1⟩ := S.out.ft.1.two; have tz := S.out.ft.1.2.2; have tl := S.out.ft.1.1
      go_wp2
      replace S := Lib.hid (S.out.lay (cap' := cap2) ET2.out)
      clear b0 b1 bz bl t0 t1 tz tl
      go_roundw
      case rel => exact ⟨m, _, _, _, _, by omega, by go_num, GC2.out, GS2.out, by have h1 := LP.out; have h2 := GL2.out; have h3 := pow_step (n := n) (m := m) (by omega); omega, S.out⟩
      case measure => simp [intOf] <;> omega
    · obtain rfl : m = 0 := by omega
      have ⟨q0, q1⟩ := S.out.ft.1.two; have qz := S.out.ft.1.2.2; have ql := S.out.ft.1.1
      have ⟨r0, r1⟩ := S.out.br.1.two; have rz := S.out.br.1.2.2; have rl := S.out.br.1.1
      have n1 : ¬ bt = R := by have := S.out.ne; omega
      have n2 : ¬ R = bt := by omega
      go_wp2
      have HR : Hid (∀ W, Upd [R] wr W → RetTb w p (.returned (.agg #[.int .i64 cap, .slice qa es.length qc])) W) := Lib.hid (fun W hu => S.out.ret GS.out LB.out HC.out hu)
      refine bodyPost_ret (v := .agg #[.int .i64 cap, .slice qa es.length qc]) ?_ rfl (HR.out _ ?_)
      · simp [results, Try.results138, go_sem, q0, q1, qz, ql, r0, r1, rz, rl, n1, n2] <;> omega
      · ((repeat (first | with_reducible exact Upd.refl _ _ | (with_reducible refine Upd.setCell ?_ (by simp) _))))
--%
end Go.Proofs.Ytgigdpdmdldhnaa
