/- The draws of acts and of ports: contracts that tell only bounds (printed by gda.py). -/
import Derived.Test.YtgigdpdmdldhnaaDrh
import Derived.Test.YtgigdpdmdldhnaaCp
import Derived.WalkKit
import Derived.ProofKit
import Derived.Deep.QuietTactic
import Derived.BigQuiet
import Derived.Outline
import Derived.WalkSpells
namespace Go.Proofs.Ytgigdpdmdldhnaa
open Go.ChangeShapes Go.WideShapes Go.ChangeAt Go.RowKit
set_option linter.unusedVariables false
set_option linter.unusedSimpArgs false
--%
theorem act_at (d : ActD) (ds : List ActD) (k : Nat) (hk : k < ds.length) : actsC (ds.set k d) = ((((actsC ds).set (k * 3) (.int .i64 d.kind)).set (k * 3 + 1) (.int .i64 d.a)).set (k * 3 + 2) (.int .i64 d.b)) := by
  induction ds generalizing k with
  | nil => simp at hk
  | cons x ds ih =>
    cases k with
    | zero => rfl
    | succ k =>
      have := ih k (by simpa using hk)
      rw [List.set_cons_succ, actsC_cons, actsC_cons, this]
      have e : ∀ (j : Nat) (v : Value) (l : List Value), (actC x ++ l).set (3 + j) v = actC x ++ l.set j v := fun j v l => by
        rw [List.set_append_right _ _ (by simp [actC])]
        congr 2
        simp [actC]
      rw [show (k + 1) * 3 = 3 + k * 3 by omega, show 3 + k * 3 + 1 = 3 + (k * 3 + 1) by omega, show 3 + k * 3 + 2 = 3 + (k * 3 + 2) by omega, e, e, e]
/-- A row of acts made since w. -/
def OA (w W : World) (v : Value) (ds : List ActD) : Prop := W.ownsRow w.heap.size 96 3 v ds.length (actsC ds)
theorem OA.call {w W0 W W' : World} {p : Nat} {v : Value} {ds : List ActD} (h : OA w W v ds) (d : DS w W0 p) (hU : Upd [p] W W') : OA w W' v ds := own_upd h hU d.lt
theorem OA.grow {w W W' : World} {v : Value} {ds : List ActD} (h : OA w W v ds) (g : Grow W W') : OA w W' v ds := own_grow h g
theorem OA.box {w W : World} {b j : Nat} {v x : Value} {ds : List ActD} (h : OA w W v ds) (ha : ∀ x ∈ fpOf v, x ≠ b) : OA w (W.setCell ⟨b, j, none⟩ x) v ds := own_box (w' := W) h ha
theorem OA.own {w W : World} {v : Value} {ds : List ActD} (h : OA w W v ds) : OwnA W v ds (fpOf v) := (OwnR.of h).1
theorem OA.len {w W : World} {a : Option Addr} {n c : Nat} {ds : List ActD} (h : OA w W (.slice a n c) ds) : n = ds.length := by
  obtain ⟨a', c', e⟩ := own_shape h
  simp only [Value.slice.injEq] at e
  exact e.2.1
theorem OA.put {w W : World} {g n c : Nat} {ds : List ActD} (h : OA w W (.slice (some ⟨g, 0, none⟩) n c) ds) (k : Nat) (hk : k < ds.length) (d : ActD) :
    OA w (((W.setCell ⟨g, k * 3, none⟩ (.int .i64 d.kind)).setCell ⟨g, k * 3 + 1, none⟩ (.int .i64 d.a)).setCell ⟨g, k * 3 + 2, none⟩ (.int .i64 d.b)) (.slice (some ⟨g, 0, none⟩) n c) (ds.set k d) := by
  obtain rfl := h.len
  have h1 := (World.ownsRow.stored h (k * 3) (.int .i64 d.kind)).1
  have h2 := (World.ownsRow.stored h1 (k * 3 + 1) (.int .i64 d.a)).1
  have h3 := (World.ownsRow.stored h2 (k * 3 + 2) (.int .i64 d.b)).1
  unfold OA
  rw [List.length_set, act_at d ds k hk]
  exact h3
theorem OA.cells {w W : World} {g n c : Nat} {ds : List ActD} (h : OA w W (.slice (some ⟨g, 0, none⟩) n c) ds) (k : Nat) (hk : k < ds.length) :
    W.cell? ⟨g, k * 3, none⟩ = some (.int .i64 ds[k].kind) ∧ W.cell? ⟨g, k * 3 + 1, none⟩ = some (.int .i64 ds[k].a) ∧ W.cell? ⟨g, k * 3 + 2, none⟩ = some (.int .i64 ds[k].b) := by
  obtain rfl := h.len
  have h : W.ownsRow w.heap.size 96 3 (.slice (some ⟨g, 0, none⟩) ds.length c) ds.length (actsC ds) := h
  refine ⟨?_, ?_, ?_⟩
  · rw [World.ownsRow.cellAt h (k * 3) (by omega), ← Nat.add_zero (k * 3)]; exact actsC_at ds k hk 0 _ rfl
  · rw [World.ownsRow.cellAt h (k * 3 + 1) (by omega)]; exact actsC_at ds k hk 1 _ rfl
  · rw [World.ownsRow.cellAt h (k * 3 + 2) (by omega)]; exact actsC_at ds k hk 2 _ rfl
theorem rd_at {W : World} {n : Nat} (h : W.heap.size = n) (t : TypeId) (size k : Nat) (xs : List Value) (hl : xs.length = k * size) (hk : k ≤ maxLen) : Rd (W.alloc (.cells xs.toArray t)) size (.slice (some ⟨n, 0, none⟩) k k) xs := by
  subst h; exact rd_built _ _ _ _ _ hl hk
/-- A row of acts, drawn; of at most n, all of them machine ints. -/
def RetOA (n : Nat) (w : World) (p : Nat) (e : Ending) (w' : World) : Prop := ∃ v ds, e = .returned v ∧ OA w w' v ds ∧ WfA ds ∧ ds.length ≤ n ∧ Cur w' p ∧ Upd [p] w w'
theorem WfA.onto {ds : List ActD} {d : ActD} (h : WfA ds) (h1 : I64 d.kind) (h2 : I64 d.a) (h3 : I64 d.b) : WfA (ds ++ [d]) := fun y hy => by
  rcases List.mem_append.1 hy with k | k
  · exact h y k
  · simp only [List.mem_cons, List.not_mem_nil, or_false] at k; subst k; exact ⟨h1, h2, h3⟩
theorem WfA.set {ds : List ActD} {k : Nat} {d : ActD} (h : WfA ds) (h1 : I64 d.kind) (h2 : I64 d.a) (h3 : I64 d.b) : WfA (ds.set k d) := fun y hy => by
  rcases List.mem_or_eq_of_mem_set hy with e | e
  · exact h y e
  · subst e; exact ⟨h1, h2, h3⟩
theorem wfA_nil : WfA [] := fun y hy => by cases hy
theorem oa_app {w W W' : World} {p : Nat} {v v' : Value} {ds ys : List ActD} {cs : Array Value} {t : TypeId} (D : DS w W p) (O : OA w W v ds)
    (hown : W'.ownsRow w.heap.size 96 3 v' (ds.length + ys.length) (actsC ds ++ actsC ys)) (hgr : (W.alloc (.cells cs t)).grownBy W' v.ownBlock) :
    DS w W' p ∧ OA w W' v' (ds ++ ys) := by
  have u := Upd.of_grown hgr
  have g := Grow.alloc W (.cells cs t)
  refine ⟨(D.grow g).own u (fun x hx => (own_new_ O x hx).1), ?_⟩
  unfold OA
  rw [List.length_append]
  unfold actsC at hown ⊢
  rw [List.flatMap_append]
  exact hown
theorem on_app1 {w W W' : World} {p : Nat} {v v' : Value} {zs ys : List Int} {cs : Array Value} {t : TypeId} (D : DS w W p) (O : ON w W v zs)
    (hown : W'.ownsRow w.heap.size 3 1 v' (zs.length + ys.length) (zs.map (Value.int .i64) ++ ys.map (Value.int .i64))) (hgr : (W.alloc (.cells cs t)).grownBy W' v.ownBlock) :
    DS w W' p ∧ ON w W' v' (zs ++ ys) := by
  have u := Upd.of_grown hgr
  have g := Grow.alloc W (.cells cs t)
  refine ⟨(D.grow g).own u (fun x hx => (own_new_ O x hx).1), ?_⟩
  unfold ON
  rw [List.length_append, List.map_append]
  exact hown
--% l06Ports 130
set_option maxRecDepth 20000 in
set_option maxHeartbeats 4000000 in
theorem l06Ports_any (w : World) (p : Nat) (hc : Cur w p) : Calls Try.prog 130 #[.pointer (some ⟨p, 0, none⟩)] w (RetON 6 w p) := by
  have D := Lib.hid (DS.start hc); clear hc
  go_enter Try.func130, Try.ntmps130
  go_wp2_with fail
  refine (l01Below_any _ p 4 (by decide) D.out.cur).mono ?_
  rintro e w1 ⟨x1, rfl, h1a, h1b, -, hC, hU⟩
  have h1b := h1b (by decide)
  replace D := Lib.hid (D.out.call hC hU)
  clear hC hU
  go_wp2
  obtain ⟨n, rfl⟩ := Int.eq_ofNat_of_zero_le h1a
  have O0 : Hid (ON w (w1.alloc (.cells #[] 3)) (.slice (some ⟨w1.heap.size, 0, none⟩) 0 0) []) := Lib.hid (ON.new D.out [] (by simp))
  replace D := Lib.hid (D.out.grow (Grow.alloc w1 (.cells #[] 3)))
  go_loopw [4, 5] (fun q i wr => ∃ (k : Nat) (zs : List Int), k ≤ n + 1 ∧ i = .int .i64 ((k : Int) + 1) ∧ zs.length ≤ k ∧ WfN zs ∧ ON w wr q zs ∧ DS w wr p) (fun _ i _ => n + 2 - (intOf i).toNat)
  case atStart => exact ⟨0, [], by omega, by go_num, Nat.le_refl _, wfN_nil, O0.out, D.out⟩
  case round =>
    obtain ⟨k, zs, hk, rfl, hzl, hwf, ho, hd⟩ := hrel
    have O := Lib.hid ho; have WF := Lib.hid hwf; have ZL : Hid (zs.length ≤ 10) := Lib.hid (by omega); have ZK := Lib.hid hzl
    clear D O0
    have D := Lib.hid hd
    clear ho hwf hd hzl
    by_cases hlt : k < n + 1
    · go_wp2_with fail
      refine (l01Below_any _ p 6 (by decide) D.out.cur).mono ?_
      rintro e w2 ⟨x2, rfl, h2a, h2b, -, hC, hU⟩
      have h2b := h2b (by decide)
      replace O := Lib.hid (O.out.call D.out hU)
      replace D := Lib.hid (D.out.call hC hU)
      clear hC hU
      by_cases h0 : 0 < x2
      · go_wp2_with (at_builtin; refine wpl_append Try.elemI64 rfl _ _ rfl w.heap.size rfl (own_grow O.out (Grow.alloc _ _)) 1 rfl (rd_built w2 _ 1 1 [Value.int .i64 ((k : Int) + 1)] rfl (by decide)) rfl (oneCell_ints .i64 [(k : Int) + 1]) (by have := ZL.out; omega) (by have := ZL.out; unfold maxLen; omega) (by have := D.out.size; simp; omega) ?_; intro v9 w9 hown hgr hmv; obtain ⟨D9, O9⟩ := on_app1 (ys := [(k : Int) + 1]) D.out O.out hown hgr; have WF := Lib.hid (WfN.onto (x := (k : Int) + 1) WF.out (by unfold I64; omega)); clear D O hown hgr hmv; have D := Lib.hid D9; have O := Lib.hid O9; clear D9 O9)
        go_roundw
        case rel => exact ⟨k + 1, _, by omega, by go_num, by have := ZK.out; simp; omega, WF.out, O.out, D.out⟩
        case measure => simp [intOf]; omega
      · go_wp2
        go_roundw
        case rel => exact ⟨k + 1, _, by omega, by go_num, by have := ZK.out; omega, WF.out, O.out, D.out⟩
        case measure => simp [intOf]; omega
    · obtain ⟨a, c, rfl⟩ := own_shape O.out
      go_wp2_with fail
      refine (l01Below_any _ p 9 (by decide) D.out.cur).mono ?_
      rintro e w2 ⟨x2, rfl, h2a, h2b, -, hC, hU⟩
      have h2b := h2b (by decide)
      replace O := Lib.hid (O.out.call D.out hU)
      replace D := Lib.hid (D.out.call hC hU)
      clear hC hU
      by_cases h0 : x2 = 0
      · subst h0
        go_wp2_with (at_builtin; refine wpl_append Try.elemI64 rfl _ _ rfl w.heap.size rfl (own_grow O.out (Grow.alloc _ _)) 1 rfl (rd_built w2 _ 1 1 [Value.int .i64 (255)] rfl (by decide)) rfl (oneCell_ints .i64 [255]) (by have := ZL.out; omega) (by have := ZL.out; unfold maxLen; omega) (by have := D.out.size; simp; omega) ?_; intro v9 w9 hown hgr hmv; obtain ⟨D9, O9⟩ := on_app1 (ys := [255]) D.out O.out hown hgr; have WF := Lib.hid (WfN.onto (x := 255) WF.out (by unfold I64; omega)); clear D O hown hgr hmv; have D := Lib.hid D9; have O := Lib.hid O9; clear D9 O9)
        go_ret
        exact ⟨_, _, rfl, O.out, WF.out, by have := ZK.out; simp; omega, D.out.cur, D.out.upd⟩
      · have hb : (x2 == 0) = false := by simpa using h0
        go_wp2
        go_ret
        exact ⟨_, _, rfl, O.out, WF.out, by have := ZK.out; omega, D.out.cur, D.out.upd⟩
--% l06AnyPorts 88
set_option maxRecDepth 20000 in
set_option maxHeartbeats 4000000 in
theorem l06AnyPorts_any (w : World) (p : Nat) (hc : Cur w p) : Calls Try.prog 88 #[.pointer (some ⟨p, 0, none⟩)] w (RetON 10 w p) := by
  have D := Lib.hid (DS.start hc); clear hc
  go_enter Try.func88, Try.ntmps88
  go_wp2_with fail
  refine (l06Ports_any _ p D.out.cur).mono ?_
  rintro e w1 ⟨v, zs, rfl, ho, hw, hl, hC, hU⟩
  have O : Hid (ON w w1 v zs) := Lib.hid ho
  have WF := Lib.hid hw; have ZL : Hid (zs.length ≤ 6) := Lib.hid hl
  replace D := Lib.hid (D.out.call hC hU)
  clear ho hw hl hC hU
  go_wp2_with fail
  refine (l01Below_any _ p 12 (by decide) D.out.cur).mono ?_
  rintro e w2 ⟨x2, rfl, h2a, h2b, -, hC, hU⟩
  have h2b := h2b (by decide)
  replace O := Lib.hid (O.out.call D.out hU)
  replace D := Lib.hid (D.out.call hC hU)
  clear hC hU
  by_cases c0 : x2 = 0
  · subst c0
    go_wp2_with fail
    refine (l01Raw_any _ p D.out.cur).mono ?_
    rintro e w3 ⟨x3, rfl, h3, hC, hU⟩
    have I3 := Lib.hid h3
    clear h3
    replace O := Lib.hid (O.out.call D.out hU)
    replace D := Lib.hid (D.out.call hC hU)
    clear hC hU
    go_wp2_with (at_builtin; refine wpl_append Try.elemI64 rfl _ _ rfl w.heap.size rfl (own_grow O.out (Grow.alloc _ _)) 1 rfl (rd_built w3 _ 1 1 [Value.int .i64 (x3)] rfl (by decide)) rfl (oneCell_ints .i64 [x3]) (by have := ZL.out; omega) (by have := ZL.out; unfold maxLen; omega) (by have := D.out.size; simp; omega) ?_; intro v9 w9 hown hgr hmv; obtain ⟨D9, O9⟩ := on_app1 (ys := [x3]) D.out O.out hown hgr; have WF := Lib.hid (WfN.onto (x := x3) WF.out I3.out); clear D O hown hgr hmv; have D := Lib.hid D9; have O := Lib.hid O9; clear D9 O9)
    go_ret
    exact ⟨_, _, rfl, O.out, WF.out, by have := ZL.out; simp; omega, D.out.cur, D.out.upd⟩
  by_cases c1 : x2 = 1
  · subst c1
    obtain ⟨oa, oc, rfl⟩ := own_shape O.out
    have OL : Hid (ON w (w2.alloc (.cells #[.int .i64 3] 3)) (.slice (some ⟨w2.heap.size, 0, none⟩) 1 1) [3]) := Lib.hid (ON.new D.out [3] (by simp))
    have ga := Grow.alloc w2 (.cells #[.int .i64 3] 3)
    have O2 := Lib.hid (O.out.grow ga); have D2 := Lib.hid (D.out.grow ga)
    clear ga
    go_wp2_with (at_builtin; refine wpl_append Try.elemI64 rfl _ _ rfl w.heap.size rfl OL.out zs.length rfl O2.out.own.rd (by simp) (oneCell_ints .i64 zs) (by have := ZL.out; simp; omega) (by have := ZL.out; unfold maxLen; simp; omega) D2.out.size ?_; intro v9 w9 hown hgr hmv; have u9 := Upd.of_grown hgr; have D9 := Lib.hid (D2.out.own u9 (fun x hx => (own_new_ OL.out x hx).1)); clear u9; have O9 : Hid (ON w w9 v9 ([3] ++ zs)) := Lib.hid (by unfold ON; rw [List.length_append, List.map_append]; exact hown); clear hown hgr hmv)
    go_ret
    exact ⟨_, _, rfl, O9.out, (fun y hy => by
      rcases List.mem_append.1 hy with h | h
      · simp only [List.mem_cons, List.not_mem_nil, or_false] at h; omega
      · exact WF.out y h), by have := ZL.out; simp; omega, D9.out.cur, D9.out.upd⟩
  by_cases c2 : x2 = 2
  · subst c2
    have O : Hid (ON w (w2.alloc (.cells #[.int .i64 1, .int .i64 2, .int .i64 3, .int .i64 4, .int .i64 5, .int .i64 6, .int .i64 7, .int .i64 8, .int .i64 9] 3)) (.slice (some ⟨w2.heap.size, 0, none⟩) 9 9) [1, 2, 3, 4, 5, 6, 7, 8, 9]) := Lib.hid (ON.new D.out [1, 2, 3, 4, 5, 6, 7, 8, 9] (by simp))
    replace D := Lib.hid (D.out.grow (Grow.alloc w2 (.cells #[.int .i64 1, .int .i64 2, .int .i64 3, .int .i64 4, .int .i64 5, .int .i64 6, .int .i64 7, .int .i64 8, .int .i64 9] 3)))
    go_wp2_with fail
    generalize w2.alloc (.cells #[.int .i64 1, .int .i64 2, .int .i64 3, .int .i64 4, .int .i64 5, .int .i64 6, .int .i64 7, .int .i64 8, .int .i64 9] 3) = w3 at *
    generalize w2.heap.size = g at *
    refine (l01Below_any _ p 2 (by decide) D.out.cur).mono ?_
    rintro e w4 ⟨x4, rfl, h4a, h4b, -, hC, hU⟩
    have h4b := h4b (by decide)
    replace O := Lib.hid (O.out.call D.out hU)
    replace D := Lib.hid (D.out.call hC hU)
    clear hC hU
    obtain ⟨k, rfl⟩ := Int.eq_ofNat_of_zero_le h4a
    go_wp2
    go_ret
    have WF9 : WfN [1, 2, 3, 4, 5, 6, 7, 8, 9] := by intro y hy; simp only [List.mem_cons, List.not_mem_nil, or_false] at hy; omega
    have O9 := O.out.take (k := 8 + k) (by simp; omega) (by simp)
    exact ⟨_, _, rfl, O9, WfN.take WF9, by simp; omega, D.out.cur, D.out.upd⟩
  have hk0 : (x2 == 0) = false := by simpa using c0
  have hk1 : (x2 == 1) = false := by simpa using c1
  have hk2 : (x2 == 2) = false := by simpa using c2
  go_wp2
  go_ret
  exact ⟨_, _, rfl, O.out, WF.out, by have := ZL.out; omega, D.out.cur, D.out.upd⟩
--%
def lenOf (v : Value) : Nat := match v with | .slice _ n _ => n | _ => 0
--% l06Acts 125
set_option maxRecDepth 20000 in
set_option maxHeartbeats 4000000 in
theorem l06Acts_any (w : World) (p : Nat) (hc : Cur w p) : Calls Try.prog 125 #[.pointer (some ⟨p, 0, none⟩)] w (RetOA 13 w p) := by
  have D := Lib.hid (DS.start hc); clear hc
  go_enter Try.func125, Try.ntmps125
  go_wp2_with fail
  have O0 : Hid (OA w (w.alloc (.cells #[] 96)) (.slice (some ⟨w.heap.size, 0, none⟩) 0 0) []) := Lib.hid (litA_at 96 3 rfl)
  replace D := Lib.hid (D.out.grow (Grow.alloc w (.cells #[] 96)))
  generalize w.alloc (.cells #[] 96) = w0 at *
  refine (l01Below_any _ p 5 (by decide) D.out.cur).mono ?_
  rintro e w1 ⟨x1, rfl, h1a, h1b, -, hC, hU⟩
  have h1b := h1b (by decide)
  replace O0 := Lib.hid (O0.out.call D.out hU)
  replace D := Lib.hid (D.out.call hC hU)
  clear hC hU
  obtain ⟨n, rfl⟩ := Int.eq_ofNat_of_zero_le h1a
  go_wp2
  go_loopw [3, 4] (fun q i wr => ∃ (m : Nat) (ds : List ActD), m ≤ n ∧ i = .int .i64 m ∧ ds.length + m ≤ n ∧ WfA ds ∧ OA w wr q ds ∧ DS w wr p) (fun _ i _ => (intOf i).toNat)
  case atStart => exact ⟨n, [], Nat.le_refl _, by go_num, by simp, wfA_nil, O0.out, D.out⟩
  case round =>
    obtain ⟨m, ds, hm, rfl, hzl, hwf, ho, hd⟩ := hrel
    have O := Lib.hid ho; have WF := Lib.hid hwf; have ZL : Hid (ds.length ≤ 10) := Lib.hid (by omega); have ZK := Lib.hid hzl
    clear D O0
    have D := Lib.hid hd
    clear ho hwf hd hzl
    by_cases hlt : 0 < m
    · obtain ⟨m, rfl⟩ : ∃ m', m = m' + 1 := ⟨m - 1, by omega⟩
      obtain ⟨qa, qc, rfl⟩ := own_shape O.out
      go_wp2_with fail
      refine (l01Below_any _ p 5 (by decide) D.out.cur).mono ?_
      rintro e w2 ⟨x2, rfl, h2a, h2b, -, hC, hU⟩
      have h2b := h2b (by decide)
      replace O := Lib.hid (O.out.call D.out hU)
      replace D := Lib.hid (D.out.call hC hU)
      clear hC hU
      by_cases c1 : x2 = 0
      · subst c1
        have NE : Hid (∀ x ∈ fpOf (.slice qa ds.length qc), x ≠ w2.heap.size) := Lib.hid (fun x hx => by have := (own_new_ O.out x hx).2; omega)
        have BA : Hid (Bx w (w2.alloc (.cells #[.int .i64 (1), .int .i64 0, .int .i64 0] 96)) w2.heap.size [.int .i64 (1), .int .i64 0, .int .i64 0]) := Lib.hid (Bx.new D.out [.int .i64 (1), .int .i64 0, .int .i64 0] 96)
        replace O := Lib.hid (O.out.grow (Grow.alloc w2 (.cells #[.int .i64 (1), .int .i64 0, .int .i64 0] 96)))
        replace D := Lib.hid (D.out.grow (Grow.alloc w2 (.cells #[.int .i64 (1), .int .i64 0, .int .i64 0] 96)))
        go_wp2_with fail
        generalize w2.alloc (.cells #[.int .i64 (1), .int .i64 0, .int .i64 0] 96) = w3 at *
        generalize w2.heap.size = ba at *
        refine (l01Below_any _ p 5 (by decide) D.out.cur).mono ?_
        rintro e w4 ⟨x4, rfl, h4a, h4b, -, hC, hU⟩
        have h4b := h4b (by decide)
        replace O := Lib.hid (O.out.call D.out hU)
        replace BA := Lib.hid (BA.out.call D.out hU)
        replace D := Lib.hid (D.out.call hC hU)
        clear hC hU
        have bh := BA.out.1.three; have bz := BA.out.1.2.2; have bl := BA.out.1.1
        obtain ⟨b0, b1, b2⟩ := bh
        replace D := Lib.hid (D.out.box (j := 1) BA.out (.int .i64 (1 + x4))); replace O := Lib.hid (O.out.box (j := 1) (x := .int .i64 (1 + x4)) NE.out); replace BA := Lib.hid (BA.out.set 1 (.int .i64 (1 + x4)) (by simp))
        go_wp2_with (at_builtin; refine wpl_append Try.elemAct rfl _ _ rfl w.heap.size rfl (own_grow O.out (Grow.alloc _ _)) 1 rfl (rd_at (by simp only [size_set, World.alloc, Array.size_push]) 96 3 1 [Value.int .i64 (1), .int .i64 (1 + x4), .int .i64 (0)] rfl (by decide)) rfl (oneCell_acts [⟨1, 1 + x4, 0⟩]) (by have := ZL.out; omega) (by have := ZL.out; unfold maxLen; omega) (D.out.grow (Grow.alloc _ (.cells #[Value.int .i64 (1), .int .i64 (1 + x4), .int .i64 (0)] 96))).size ?_; intro v9 w9 hown hgr hmv; obtain ⟨D9, O9⟩ := oa_app (ys := [⟨1, 1 + x4, 0⟩]) D.out O.out hown hgr; have WF := Lib.hid (WfA.onto (d := ⟨1, 1 + x4, 0⟩) WF.out (by unfold I64; simp only; omega) (by unfold I64; simp only; omega) (by unfold I64; simp only; omega)); clear D O hown hgr hmv; have D := Lib.hid D9; have O := Lib.hid O9; clear D9 O9)
        go_roundw
        case rel => exact ⟨m, _, by omega, by go_num, by have := ZK.out; simp; omega, WF.out, O.out, D.out⟩
        case measure => simp [intOf] <;> omega
      by_cases c3 : x2 = 2
      · subst c3
        have NE : Hid (∀ x ∈ fpOf (.slice qa ds.length qc), x ≠ w2.heap.size) := Lib.hid (fun x hx => by have := (own_new_ O.out x hx).2; omega)
        have BA : Hid (Bx w (w2.alloc (.cells #[.int .i64 (3), .int .i64 0, .int .i64 0] 96)) w2.heap.size [.int .i64 (3), .int .i64 0, .int .i64 0]) := Lib.hid (Bx.new D.out [.int .i64 (3), .int .i64 0, .int .i64 0] 96)
        replace O := Lib.hid (O.out.grow (Grow.alloc w2 (.cells #[.int .i64 (3), .int .i64 0, .int .i64 0] 96)))
        replace D := Lib.hid (D.out.grow (Grow.alloc w2 (.cells #[.int .i64 (3), .int .i64 0, .int .i64 0] 96)))
        go_wp2_with fail
        generalize w2.alloc (.cells #[.int .i64 (3), .int .i64 0, .int .i64 0] 96) = w3 at *
        generalize w2.heap.size = ba at *
        refine (l01Below_any _ p 2 (by decide) D.out.cur).mono ?_
        rintro e w4 ⟨x4, rfl, h4a, h4b, -, hC, hU⟩
        have h4b := h4b (by decide)
        replace O := Lib.hid (O.out.call D.out hU)
        replace BA := Lib.hid (BA.out.call D.out hU)
        replace D := Lib.hid (D.out.call hC hU)
        clear hC hU
        have bh := BA.out.1.three; have bz := BA.out.1.2.2; have bl := BA.out.1.1
        obtain ⟨b0, b1, b2⟩ := bh
        replace D := Lib.hid (D.out.box (j := 1) BA.out (.int .i64 (1 + x4))); replace O := Lib.hid (O.out.box (j := 1) (x := .int .i64 (1 + x4)) NE.out); replace BA := Lib.hid (BA.out.set 1 (.int .i64 (1 + x4)) (by simp))
        go_wp2_with fail
        clear b0 b1 b2 bz bl
        generalize World.setCell w4 ⟨ba, 1, none⟩ (.int .i64 (1 + x4)) = w5 at *
        refine (l01Num6_any _ p D.out.cur).mono ?_
        rintro e w6 ⟨x6, rfl, h6, hC, hU⟩
        have I6 := Lib.hid h6
        clear h6
        replace O := Lib.hid (O.out.call D.out hU)
        replace BA := Lib.hid (BA.out.call D.out hU)
        replace D := Lib.hid (D.out.call hC hU)
        clear hC hU
        replace BA : Hid (Bx w w6 ba [.int .i64 3, .int .i64 (1 + x4), .int .i64 0]) := BA
        have bh := BA.out.1.three; have bz := BA.out.1.2.2; have bl := BA.out.1.1
        obtain ⟨b0, b1, b2⟩ := bh
        replace D := Lib.hid (D.out.box (j := 2) BA.out (.int .i64 (x6))); replace O := Lib.hid (O.out.box (j := 2) (x := .int .i64 (x6)) NE.out); replace BA := Lib.hid (BA.out.set 2 (.int .i64 (x6)) (by simp))
        go_wp2_with (at_builtin; refine wpl_append Try.elemAct rfl _ _ rfl w.heap.size rfl (own_grow O.out (Grow.alloc _ _)) 1 rfl (rd_at (by simp only [size_set, World.alloc, Array.size_push]) 96 3 1 [Value.int .i64 (3), .int .i64 (1 + x4), .int .i64 (x6)] rfl (by decide)) rfl (oneCell_acts [⟨3, 1 + x4, x6⟩]) (by have := ZL.out; omega) (by have := ZL.out; unfold maxLen; omega) (D.out.grow (Grow.alloc _ (.cells #[Value.int .i64 (3), .int .i64 (1 + x4), .int .i64 (x6)] 96))).size ?_; intro v9 w9 hown hgr hmv; obtain ⟨D9, O9⟩ := oa_app (ys := [⟨3, 1 + x4, x6⟩]) D.out O.out hown hgr; have WF := Lib.hid (WfA.onto (d := ⟨3, 1 + x4, x6⟩) WF.out (by unfold I64; simp only; omega) (by unfold I64; simp only; omega) I6.out); clear D O hown hgr hmv; have D := Lib.hid D9; have O := Lib.hid O9; clear D9 O9)
        go_roundw
        case rel => exact ⟨m, _, by omega, by go_num, by have := ZK.out; simp; omega, WF.out, O.out, D.out⟩
        case measure => simp [intOf] <;> omega
      have hb1 : (1 + x2 == 1) = false := by simp; omega
      have hb3 : (1 + x2 == 3) = false := by simp; omega
      have NE : Hid (∀ x ∈ fpOf (.slice qa ds.length qc), x ≠ w2.heap.size) := Lib.hid (fun x hx => by have := (own_new_ O.out x hx).2; omega)
      have BA : Hid (Bx w (w2.alloc (.cells #[.int .i64 (1 + x2), .int .i64 0, .int .i64 0] 96)) w2.heap.size [.int .i64 (1 + x2), .int .i64 0, .int .i64 0]) := Lib.hid (Bx.new D.out [.int .i64 (1 + x2), .int .i64 0, .int .i64 0] 96)
      replace O := Lib.hid (O.out.grow (Grow.alloc w2 (.cells #[.int .i64 (1 + x2), .int .i64 0, .int .i64 0] 96)))
      replace D := Lib.hid (D.out.grow (Grow.alloc w2 (.cells #[.int .i64 (1 + x2), .int .i64 0, .int .i64 0] 96)))
      have ⟨b0, b1, b2⟩ := BA.out.1.three; have bz := BA.out.1.2.2; have bl := BA.out.1.1
      go_wp2_with (at_builtin; refine wpl_append Try.elemAct rfl _ _ rfl w.heap.size rfl (own_grow O.out (Grow.alloc _ _)) 1 rfl (rd_at (by simp only [size_set, World.alloc, Array.size_push]) 96 3 1 [Value.int .i64 (1 + x2), .int .i64 (0), .int .i64 (0)] rfl (by decide)) rfl (oneCell_acts [⟨1 + x2, 0, 0⟩]) (by have := ZL.out; omega) (by have := ZL.out; unfold maxLen; omega) (D.out.grow (Grow.alloc _ (.cells #[Value.int .i64 (1 + x2), .int .i64 (0), .int .i64 (0)] 96))).size ?_; intro v9 w9 hown hgr hmv; obtain ⟨D9, O9⟩ := oa_app (ys := [⟨1 + x2, 0, 0⟩]) D.out O.out hown hgr; have WF := Lib.hid (WfA.onto (d := ⟨1 + x2, 0, 0⟩) WF.out (by unfold I64; simp only; omega) (by unfold I64; simp only; omega) (by unfold I64; simp only; omega)); clear D O hown hgr hmv; have D := Lib.hid D9; have O := Lib.hid O9; clear D9 O9)
      go_roundw
      case rel => exact ⟨m, _, by omega, by go_num, by have := ZK.out; simp; omega, WF.out, O.out, D.out⟩
      case measure => simp [intOf] <;> omega
    · obtain rfl : m = 0 := by omega
      go_wp2_with fail
      refine (l01Below_any _ p 25 (by decide) D.out.cur).mono ?_
      rintro e w2 ⟨x2, rfl, h2a, h2b, -, hC, hU⟩
      have h2b := h2b (by decide)
      replace O := Lib.hid (O.out.call D.out hU)
      replace D := Lib.hid (D.out.call hC hU)
      clear hC hU
      obtain ⟨za, zc, rfl⟩ := own_shape O.out
      by_cases c0 : x2 = 0
      rotate_left
      · have hb : (x2 == 0) = false := by simpa using c0
        go_wp2
        go_ret
        exact ⟨_, _, rfl, O.out, WF.out, by have := ZL.out; omega, D.out.cur, D.out.upd⟩
      subst c0
      go_wp2
      go_loopw [3] (fun q wr => ∃ (ds : List ActD), ds.length ≤ 13 ∧ WfA ds ∧ OA w wr q ds ∧ DS w wr p ∧ ∃ a c, q = .slice a ds.length c) (fun q _ => 14 - lenOf q)
      case atStart => exact ⟨ds, by have := ZL.out; omega, WF.out, O.out, D.out, _, _, rfl⟩
      case round =>
        clear O WF D ZL ZK
        obtain ⟨ds, hzl, hwf, ho, hd, a, c, rfl⟩ := hrel
        have O := Lib.hid ho; have WF := Lib.hid hwf; have ZL : Hid (ds.length ≤ 13) := Lib.hid hzl
        have D := Lib.hid hd
        clear ho hwf hd
        go_wp2_with fail
        refine (l01Below_any _ p 2 (by decide) D.out.cur).mono ?_
        rintro e w3 ⟨x3, rfl, h3a, h3b, -, hC, hU⟩
        have h3b := h3b (by decide)
        replace O := Lib.hid (O.out.call D.out hU)
        replace D := Lib.hid (D.out.call hC hU)
        clear hC hU
        by_cases hlt : (ds.length : Int) < 12 + x3
        · have hdl : ds.length ≤ 12 := by omega
          go_wp2_with (at_builtin; refine wpl_append Try.elemAct rfl _ _ rfl w.heap.size rfl (own_grow O.out (Grow.alloc _ _)) 1 rfl (rd_at (by simp only [size_set, World.alloc, Array.size_push]) 96 3 1 [Value.int .i64 (2), .int .i64 (0), .int .i64 (0)] rfl (by decide)) rfl (oneCell_acts [⟨2, 0, 0⟩]) (by have := ZL.out; omega) (by have := ZL.out; unfold maxLen; omega) (D.out.grow (Grow.alloc _ (.cells #[Value.int .i64 (2), .int .i64 (0), .int .i64 (0)] 96))).size ?_; intro v9 w9 hown hgr hmv; obtain ⟨D9, O9⟩ := oa_app (ys := [⟨2, 0, 0⟩]) D.out O.out hown hgr; have WF := Lib.hid (WfA.onto (d := ⟨2, 0, 0⟩) WF.out (by unfold I64; simp only; omega) (by unfold I64; simp only; omega) (by unfold I64; simp only; omega)); clear D O hown hgr hmv; have D := Lib.hid D9; have O := Lib.hid O9; clear D9 O9)
          obtain ⟨a9, c9, rfl⟩ := own_shape O.out
          go_roundw
          case rel => exact ⟨_, by simp; omega, WF.out, O.out, D.out, _, _, rfl⟩
          case measure => simp [lenOf] <;> omega
        · go_wp2
          go_ret
          exact ⟨_, _, rfl, O.out, WF.out, ZL.out, D.out.cur, D.out.upd⟩
--%
theorem OA.frz {w W : World} {g n c : Nat} {ds : List ActD} (h : OA w W (.slice (some ⟨g, 0, none⟩) n c) ds) (hk : 0 < ds.length) : ∀ o, W.frozen? ⟨g, o, none⟩ = false := by
  obtain rfl := h.len
  have h : W.ownsRow w.heap.size 96 3 (.slice (some ⟨g, 0, none⟩) ds.length c) ds.length (actsC ds) := h
  exact fun o => World.ownsRow.frozenAt h o
theorem OA.set_ {w W : World} {p g n c : Nat} {ds : List ActD} (D : DS w W p) (h : OA w W (.slice (some ⟨g, 0, none⟩) n c) ds) (k : Nat) (d : ActD) : DS w (((W.setCell ⟨g, k * 3, none⟩ (.int .i64 d.kind)).setCell ⟨g, k * 3 + 1, none⟩ (.int .i64 d.a)).setCell ⟨g, k * 3 + 2, none⟩ (.int .i64 d.b)) p := by
  have hg := (own_new_ h g (by simp [fpOf, Value.ownBlock])).1
  refine D.own (fq := [g]) (Upd.setCell (p := ⟨g, k * 3 + 2, none⟩) (Upd.setCell (p := ⟨g, k * 3 + 1, none⟩) (Upd.setCell (p := ⟨g, k * 3, none⟩) (Upd.refl [g] W) (by simp) _) (by simp) _) (by simp) _) (fun y hy => ?_)
  simp only [List.mem_cons, List.not_mem_nil, or_false] at hy; subst hy; exact hg
--% l06Any 86
set_option maxRecDepth 20000 in
set_option maxHeartbeats 4000000 in
theorem l06Any_any (w : World) (p : Nat) (hc : Cur w p) : Calls Try.prog 86 #[.pointer (some ⟨p, 0, none⟩)] w (RetOA 13 w p) := by
  have D := Lib.hid (DS.start hc); clear hc
  go_enter Try.func86, Try.ntmps86
  go_wp2_with fail
  refine (l06Acts_any _ p D.out.cur).mono ?_
  rintro e w1 ⟨v, ds, rfl, ho, hw, hl, hC, hU⟩
  have O : Hid (OA w w1 v ds) := Lib.hid ho
  have WF := Lib.hid hw; have ZL : Hid (ds.length ≤ 13) := Lib.hid hl
  replace D := Lib.hid (D.out.call hC hU)
  obtain ⟨a, c, rfl⟩ := own_shape ho
  clear ho hw hC hU
  by_cases hn : 0 < ds.length
  rotate_left
  · go_wp2
    go_ret
    exact ⟨_, _, rfl, O.out, WF.out, ZL.out, D.out.cur, D.out.upd⟩
  obtain ⟨g, rfl⟩ := own_some O.out hn
  go_wp2_with fail
  refine (l01Below_any _ p 5 (by decide) D.out.cur).mono ?_
  rintro e w2 ⟨x2, rfl, h2a, h2b, -, hC, hU⟩
  have h2b := h2b (by decide)
  replace O := Lib.hid (O.out.call D.out hU)
  replace D := Lib.hid (D.out.call hC hU)
  clear hC hU
  by_cases c0 : x2 = 0
  rotate_left
  · have hb : (x2 == 0) = false := by simpa using c0
    go_wp2
    go_ret
    exact ⟨_, _, rfl, O.out, WF.out, ZL.out, D.out.cur, D.out.upd⟩
  subst c0
  go_wp2_with fail
  refine (l01Below_any _ p ds.length (by omega) D.out.cur).mono ?_
  rintro e w3 ⟨x3, rfl, h3a, h3b, -, hC, hU⟩
  have h3b := h3b (by omega)
  replace O := Lib.hid (O.out.call D.out hU)
  replace D := Lib.hid (D.out.call hC hU)
  clear hC hU
  obtain ⟨i, rfl⟩ := Int.eq_ofNat_of_zero_le h3a
  have hi : i < ds.length := by omega
  go_wp2_with fail
  refine (l01Below_any _ p 3 (by decide) D.out.cur).mono ?_
  rintro e w4 ⟨x4, rfl, h4a, h4b, -, hC, hU⟩
  have h4b := h4b (by decide)
  replace O := Lib.hid (O.out.call D.out hU)
  replace D := Lib.hid (D.out.call hC hU)
  clear hC hU
  have WK : Hid (I64 ds[i].kind ∧ I64 ds[i].a ∧ I64 ds[i].b) := Lib.hid (WF.out ds[i] (List.getElem_mem hi))
  have ⟨c0, c1, c2⟩ := O.out.cells i hi
  have NE : Hid (∀ x ∈ fpOf (.slice (some ⟨g, 0, none⟩) ds.length c), x ≠ w4.heap.size) := Lib.hid (fun x hx => by have := (own_new_ O.out x hx).2; omega)
  generalize ds[i] = e at *
  have BA : Hid (Bx w (w4.alloc (.cells #[.int .i64 e.kind, .int .i64 e.a, .int .i64 e.b] 96)) w4.heap.size [.int .i64 e.kind, .int .i64 e.a, .int .i64 e.b]) := Lib.hid (Bx.new D.out [.int .i64 e.kind, .int .i64 e.a, .int .i64 e.b] 96)
  replace O := Lib.hid (O.out.grow (Grow.alloc w4 (.cells #[.int .i64 e.kind, .int .i64 e.a, .int .i64 e.b] 96)))
  replace D := Lib.hid (D.out.grow (Grow.alloc w4 (.cells #[.int .i64 e.kind, .int .i64 e.a, .int .i64 e.b] 96)))
  by_cases k0 : x4 = 0
  · subst k0
    go_wp2_with fail
    clear c0 c1 c2
    generalize w4.alloc (.cells #[.int .i64 e.kind, .int .i64 e.a, .int .i64 e.b] 96) = w5 at *
    generalize w4.heap.size = ba at *
    refine (l01Below_any _ p 8 (by decide) D.out.cur).mono ?_
    rintro e w6 ⟨x6, rfl, h6a, h6b, -, hC, hU⟩
    have h6b := h6b (by decide)
    replace O := Lib.hid (O.out.call D.out hU)
    replace BA := Lib.hid (BA.out.call D.out hU)
    replace D := Lib.hid (D.out.call hC hU)
    clear hC hU
    have ⟨b0, b1, b2⟩ := BA.out.1.three; have bz := BA.out.1.2.2; have bl := BA.out.1.1
    replace D := Lib.hid (D.out.box (j := 0) BA.out (.int .i64 (x6 - 1))); replace O := Lib.hid (O.out.box (j := 0) (x := .int .i64 (x6 - 1)) NE.out); replace BA := Lib.hid (BA.out.set 0 (.int .i64 (x6 - 1)) (by simp))
    have ⟨c0, c1, c2⟩ := O.out.cells i (by omega); have cz := O.out.frz (by omega); have cl := (own_new_ O.out g (by simp [fpOf, Value.ownBlock])).2
    replace D := Lib.hid (OA.set_ D.out O.out i ⟨x6 - 1, e.a, e.b⟩); replace O := Lib.hid (O.out.put i (by omega) ⟨x6 - 1, e.a, e.b⟩); replace WF := Lib.hid (WfA.set (k := i) (d := ⟨x6 - 1, e.a, e.b⟩) WF.out (by unfold I64; simp only; omega) WK.out.2.1 WK.out.2.2); replace ZL : Hid ((ds.set i ⟨x6 - 1, e.a, e.b⟩).length ≤ 13) := Lib.hid (by rw [List.length_set]; exact ZL.out)
    go_wp2
    go_ret
    exact ⟨_, _, rfl, O.out, WF.out, ZL.out, D.out.cur, D.out.upd⟩
  by_cases k1 : x4 = 1
  · subst k1
    go_wp2_with fail
    clear c0 c1 c2
    generalize w4.alloc (.cells #[.int .i64 e.kind, .int .i64 e.a, .int .i64 e.b] 96) = w5 at *
    generalize w4.heap.size = ba at *
    refine (l01Raw_any _ p D.out.cur).mono ?_
    rintro e w6 ⟨x6, rfl, h6, hC, hU⟩
    have I6 := Lib.hid h6
    clear h6
    replace O := Lib.hid (O.out.call D.out hU)
    replace BA := Lib.hid (BA.out.call D.out hU)
    replace D := Lib.hid (D.out.call hC hU)
    clear hC hU
    have BL : Hid (Bx w (w6.alloc (.cells #[.int .i64 0, .int .i64 255, .int .i64 256, .int .i64 x6] 3)) w6.heap.size [.int .i64 0, .int .i64 255, .int .i64 256, .int .i64 x6]) := Lib.hid (Bx.new D.out [.int .i64 0, .int .i64 255, .int .i64 256, .int .i64 x6] 3)
    replace O := Lib.hid (O.out.grow (Grow.alloc w6 (.cells #[.int .i64 0, .int .i64 255, .int .i64 256, .int .i64 x6] 3)))
    replace BA := Lib.hid (BA.out.grow (Grow.alloc w6 (.cells #[.int .i64 0, .int .i64 255, .int .i64 256, .int .i64 x6] 3)))
    replace D := Lib.hid (D.out.grow (Grow.alloc w6 (.cells #[.int .i64 0, .int .i64 255, .int .i64 256, .int .i64 x6] 3)))
    go_wp2_with fail
    generalize w6.alloc (.cells #[.int .i64 0, .int .i64 255, .int .i64 256, .int .i64 x6] 3) = w7 at *
    generalize w6.heap.size = bl at *
    refine (l01Below_any _ p 4 (by decide) D.out.cur).mono ?_
    rintro e w8 ⟨x8, rfl, h8a, h8b, -, hC, hU⟩
    have h8b := h8b (by decide)
    replace O := Lib.hid (O.out.call D.out hU)
    replace BA := Lib.hid (BA.out.call D.out hU)
    replace BL := Lib.hid (BL.out.call D.out hU)
    replace D := Lib.hid (D.out.call hC hU)
    clear hC hU
    have l0 := BL.out.1.2.1 0 _ rfl; have l1 := BL.out.1.2.1 1 _ rfl; have l2 := BL.out.1.2.1 2 _ rfl; have l3 := BL.out.1.2.1 3 _ rfl
    obtain rfl | rfl | rfl | rfl : x8 = 0 ∨ x8 = 1 ∨ x8 = 2 ∨ x8 = 3 := by omega
    · have ⟨b0, b1, b2⟩ := BA.out.1.three; have bz := BA.out.1.2.2; have bl := BA.out.1.1
      replace D := Lib.hid (D.out.box (j := 1) BA.out (.int .i64 (0))); replace O := Lib.hid (O.out.box (j := 1) (x := .int .i64 (0)) NE.out); replace BA := Lib.hid (BA.out.set 1 (.int .i64 (0)) (by simp))
      have ⟨c0, c1, c2⟩ := O.out.cells i (by omega); have cz := O.out.frz (by omega); have cl := (own_new_ O.out g (by simp [fpOf, Value.ownBlock])).2
      replace D := Lib.hid (OA.set_ D.out O.out i ⟨e.kind, 0, e.b⟩); replace O := Lib.hid (O.out.put i (by omega) ⟨e.kind, 0, e.b⟩); replace WF := Lib.hid (WfA.set (k := i) (d := ⟨e.kind, 0, e.b⟩) WF.out WK.out.1 (by unfold I64; simp only; omega) WK.out.2.2); replace ZL : Hid ((ds.set i ⟨e.kind, 0, e.b⟩).length ≤ 13) := Lib.hid (by rw [List.length_set]; exact ZL.out)
      go_wp2
      go_ret
      exact ⟨_, _, rfl, O.out, WF.out, ZL.out, D.out.cur, D.out.upd⟩
    · have ⟨b0, b1, b2⟩ := BA.out.1.three; have bz := BA.out.1.2.2; have bl := BA.out.1.1
      replace D := Lib.hid (D.out.box (j := 1) BA.out (.int .i64 (255))); replace O := Lib.hid (O.out.box (j := 1) (x := .int .i64 (255)) NE.out); replace BA := Lib.hid (BA.out.set 1 (.int .i64 (255)) (by simp))
      have ⟨c0, c1, c2⟩ := O.out.cells i (by omega); have cz := O.out.frz (by omega); have cl := (own_new_ O.out g (by simp [fpOf, Value.ownBlock])).2
      replace D := Lib.hid (OA.set_ D.out O.out i ⟨e.kind, 255, e.b⟩); replace O := Lib.hid (O.out.put i (by omega) ⟨e.kind, 255, e.b⟩); replace WF := Lib.hid (WfA.set (k := i) (d := ⟨e.kind, 255, e.b⟩) WF.out WK.out.1 (by unfold I64; simp only; omega) WK.out.2.2); replace ZL : Hid ((ds.set i ⟨e.kind, 255, e.b⟩).length ≤ 13) := Lib.hid (by rw [List.length_set]; exact ZL.out)
      go_wp2
      go_ret
      exact ⟨_, _, rfl, O.out, WF.out, ZL.out, D.out.cur, D.out.upd⟩
    · have ⟨b0, b1, b2⟩ := BA.out.1.three; have bz := BA.out.1.2.2; have bl := BA.out.1.1
      replace D := Lib.hid (D.out.box (j := 1) BA.out (.int .i64 (256))); replace O := Lib.hid (O.out.box (j := 1) (x := .int .i64 (256)) NE.out); replace BA := Lib.hid (BA.out.set 1 (.int .i64 (256)) (by simp))
      have ⟨c0, c1, c2⟩ := O.out.cells i (by omega); have cz := O.out.frz (by omega); have cl := (own_new_ O.out g (by simp [fpOf, Value.ownBlock])).2
      replace D := Lib.hid (OA.set_ D.out O.out i ⟨e.kind, 256, e.b⟩); replace O := Lib.hid (O.out.put i (by omega) ⟨e.kind, 256, e.b⟩); replace WF := Lib.hid (WfA.set (k := i) (d := ⟨e.kind, 256, e.b⟩) WF.out WK.out.1 (by unfold I64; simp only; omega) WK.out.2.2); replace ZL : Hid ((ds.set i ⟨e.kind, 256, e.b⟩).length ≤ 13) := Lib.hid (by rw [List.length_set]; exact ZL.out)
      go_wp2
      go_ret
      exact ⟨_, _, rfl, O.out, WF.out, ZL.out, D.out.cur, D.out.upd⟩
    · have ⟨b0, b1, b2⟩ := BA.out.1.three; have bz := BA.out.1.2.2; have bl := BA.out.1.1
      replace D := Lib.hid (D.out.box (j := 1) BA.out (.int .i64 (x6))); replace O := Lib.hid (O.out.box (j := 1) (x := .int .i64 (x6)) NE.out); replace BA := Lib.hid (BA.out.set 1 (.int .i64 (x6)) (by simp))
      have ⟨c0, c1, c2⟩ := O.out.cells i (by omega); have cz := O.out.frz (by omega); have cl := (own_new_ O.out g (by simp [fpOf, Value.ownBlock])).2
      replace D := Lib.hid (OA.set_ D.out O.out i ⟨e.kind, x6, e.b⟩); replace O := Lib.hid (O.out.put i (by omega) ⟨e.kind, x6, e.b⟩); replace WF := Lib.hid (WfA.set (k := i) (d := ⟨e.kind, x6, e.b⟩) WF.out WK.out.1 I6.out WK.out.2.2); replace ZL : Hid ((ds.set i ⟨e.kind, x6, e.b⟩).length ≤ 13) := Lib.hid (by rw [List.length_set]; exact ZL.out)
      go_wp2
      go_ret
      exact ⟨_, _, rfl, O.out, WF.out, ZL.out, D.out.cur, D.out.upd⟩

  have hk0 : (x4 == 0) = false := by simpa using k0
  have hk1 : (x4 == 1) = false := by simpa using k1
  go_wp2_with fail
  clear c0 c1 c2
  generalize w4.alloc (.cells #[.int .i64 e.kind, .int .i64 e.a, .int .i64 e.b] 96) = w5 at *
  generalize w4.heap.size = ba at *
  refine (l01Raw_any _ p D.out.cur).mono ?_
  rintro e w6 ⟨x6, rfl, h6, hC, hU⟩
  have I6 := Lib.hid h6
  clear h6
  replace O := Lib.hid (O.out.call D.out hU)
  replace BA := Lib.hid (BA.out.call D.out hU)
  replace D := Lib.hid (D.out.call hC hU)
  clear hC hU
  have ⟨b0, b1, b2⟩ := BA.out.1.three; have bz := BA.out.1.2.2; have bl := BA.out.1.1
  replace D := Lib.hid (D.out.box (j := 2) BA.out (.int .i64 (x6))); replace O := Lib.hid (O.out.box (j := 2) (x := .int .i64 (x6)) NE.out); replace BA := Lib.hid (BA.out.set 2 (.int .i64 (x6)) (by simp))
  have ⟨c0, c1, c2⟩ := O.out.cells i (by omega); have cz := O.out.frz (by omega); have cl := (own_new_ O.out g (by simp [fpOf, Value.ownBlock])).2
  replace D := Lib.hid (OA.set_ D.out O.out i ⟨e.kind, e.a, x6⟩); replace O := Lib.hid (O.out.put i (by omega) ⟨e.kind, e.a, x6⟩); replace WF := Lib.hid (WfA.set (k := i) (d := ⟨e.kind, e.a, x6⟩) WF.out WK.out.1 WK.out.2.1 I6.out); replace ZL : Hid ((ds.set i ⟨e.kind, e.a, x6⟩).length ≤ 13) := Lib.hid (by rw [List.length_set]; exact ZL.out)
  go_wp2
  go_ret
  exact ⟨_, _, rfl, O.out, WF.out, ZL.out, D.out.cur, D.out.upd⟩
--%
end Go.Proofs.Ytgigdpdmdldhnaa
