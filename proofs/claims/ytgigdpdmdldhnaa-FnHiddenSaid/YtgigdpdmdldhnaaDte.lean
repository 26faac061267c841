/- The draw of any table: a contract that tells only bounds (printed by gte.py). -/
import Derived.Test.YtgigdpdmdldhnaaDtd
import Derived.WalkKit
import Derived.ProofKit
import Derived.Deep.QuietTactic
import Derived.BigQuiet
import Derived.Outline
import Derived.WalkSpells
namespace Go.Proofs.Ytgigdpdmdldhnaa
open Go.ChangeShapes Go.WideShapes Go.ChangeAt Go.RowKit
set_option linter.unusedVariables false
set_option linter.unusedSimpArgs false
--%
section
variable {P : Program} {md : Region.Mode} {ops : Array Oper} {C C' : World → Prop}
/-- The class may be narrowed on the way. -/
theorem anyC_sub {Q : Act → World → Prop} (hs : ∀ w, C' w → C w) : ∀ (fuel : Nat) (listed : Array Bool) (a : Act) (w : World), wpAnyC P md ops C' Q fuel listed a w → wpAnyC P md ops C Q fuel listed a w
  | 0, _, _, _, h => h
  | fuel + 1, _, _, w, h => ⟨h.1, fun i hi => by
      have h1 := h.2 i hi
      unfold opC at h1 ⊢
      split
      · rename_i ho; simp only [ho] at h1; exact anyC_sub hs fuel _ _ _ h1
      · rename_i o ho
        simp only [ho] at h1
        split
        · rename_i hw
          simp only [hw, if_true] at h1
          exact Oper.wp_mono (fun a w ⟨c, k⟩ => ⟨hs _ c, anyC_sub hs fuel _ a w k⟩) h1
        · rename_i hw; simp only [hw] at h1; exact anyC_sub hs fuel _ _ _ h1⟩
end
theorem viaF {G : Prop} {F : Nat → Int → Nat → World → Prop} (Facts : Nat → Int → Nat → World → Prop)
    (h1 : (∀ x y b W, Facts x y b W → F x y b W) → G) (h2 : ∀ x y b W, Facts x y b W → F x y b W) : G := h1 h2
theorem ET.some_ {w W : World} {N : List Nat} {a : Option Addr} {n c : Nat} {es : List EntryD} {cs : List Value} (h : ET w W N (.slice a n c) es cs) (hn : 0 < n) : ∃ g, a = some ⟨g, 0, none⟩ := by
  obtain rfl := h.len
  exact own_some h.1 hn
theorem GoodE.prio {e : EntryD} (h : GoodE e) {y : Int} (hy : I64 y) : GoodE { e with prio := y } := ⟨⟨h.1.1, hy, h.1.2.2.1, h.1.2.2.2.1, h.1.2.2.2.2⟩, h.2⟩
theorem GoodE.epoch {e : EntryD} (h : GoodE e) {y : Int} (hy : I64 y) : GoodE { e with epoch := y } := ⟨⟨hy, h.1.2.1, h.1.2.2.1, h.1.2.2.2.1, h.1.2.2.2.2⟩, h.2⟩
theorem Upd.one6 {W : World} {g o : Nat} {x : Value} : Upd [g] W (W.setCell ⟨g, o, none⟩ x) := Upd.setCell (p := ⟨g, o, none⟩) (Upd.refl [g] W) (by simp) x
--% l07Any 118
set_option maxRecDepth 20000 in
set_option maxHeartbeats 8000000 in
theorem l07Any_any (w : World) (p : Nat) (hc : Cur w p) : Calls Try.prog 118 #[.pointer (some ⟨p, 0, none⟩)] w (RetTb w p) := by
  have D0 := Lib.hid (DS.start hc); clear hc
  go_enter Try.func118, Try.ntmps118
  go_wp2_with fail
  have D := Lib.hid (D0.out.grow (Grow.alloc w (.cells #[.int .i64 0, .slice none 0 0] 79)))
  have BR : Hid (Bx w (w.alloc (.cells #[.int .i64 0, .slice none 0 0] 79)) w.heap.size [.int .i64 0, .slice none 0 0]) := Lib.hid (Bx.new D0.out [.int .i64 0, .slice none 0 0] 79)
  clear D0
  generalize w.alloc (.cells #[.int .i64 0, .slice none 0 0] 79) = W0 at *
  refine (l07Draw_any _ p D.out.cur).mono ?_
  rintro e w1 ⟨cap, q, es, cs, rfl, het, hgs, hl, hcp, hC, hU⟩
  obtain ⟨qa, qc, rfl⟩ := own_shape het.1
  obtain ⟨n, hn⟩ : ∃ n, es.length = n := ⟨_, rfl⟩
  rw [hn] at het ⊢
  have NL := Lib.hid hn; have GS := Lib.hid hgs; have LB := Lib.hid hl; have HC := Lib.hid hcp
  have hn6 : n ≤ 600 := by omega
  have S : Hid (DT w (w1.alloc (.cells #[.int .i64 cap, .slice qa n qc] 79)) p w.heap.size w1.heap.size cap (.slice qa n qc) es cs) := Lib.hid (by
    have g := Grow.alloc w1 (.cells #[.int .i64 cap, .slice qa n qc] 79)
    have D1 := D.out.call hC hU
    have B1 := BR.out.call D.out hU
    have z := BR.out.1.1; have z1 := B1.1.1
    refine ⟨D1.grow g, B1.grow g, Bx.new D1 [.int .i64 cap, .slice qa n qc] 79, ((het.more (fun x hx => ?_)).older D.out.size).grow g, by omega⟩
    simp only [List.mem_cons, List.not_mem_nil, or_false] at hx ⊢; omega)
  clear het hgs hl hcp hC hU hn D BR
  go_wp2_with fail
  generalize w1.alloc (.cells #[.int .i64 cap, .slice qa n qc] 79) = W1 at *
  generalize w1.heap.size = bt at *
  obtain ⟨R, hR⟩ : ∃ R, w.heap.size = R := ⟨_, rfl⟩
  rw [hR] at S ⊢
  clear hR
  refine (l01Below_any _ p 14 (by omega) S.out.d.cur).mono ?_
  rintro e w2 ⟨x2, rfl, h2a, h2b, -, hC, hU⟩
  have h2b := h2b (by omega)
  replace S := Lib.hid (S.out.call hC hU)
  clear hC hU
  by_cases c0 : x2 = 0
  · subst c0
    have ⟨q0, q1⟩ := S.out.ft.1.two; have qz := S.out.ft.1.2.2; have ql := S.out.ft.1.1
    go_wp2_with fail
    clear q0 q1 qz ql
    refine (l01Raw_any _ p S.out.d.cur).mono ?_
    rintro e w3 ⟨x3, rfl, h3, hC, hU⟩
    have I3 := Lib.hid h3
    clear h3
    replace S := Lib.hid (S.out.call hC hU)
    clear hC hU
    have BL : Hid (Bx w (w3.alloc (.cells #[.int .i64 (-1), .int .i64 401, .int .i64 x3, .int .i64 ((n : Int) - 1)] 3)) w3.heap.size [.int .i64 (-1), .int .i64 401, .int .i64 x3, .int .i64 ((n : Int) - 1)]) := Lib.hid (Bx.new S.out.d [.int .i64 (-1), .int .i64 401, .int .i64 x3, .int .i64 ((n : Int) - 1)] 3)
    have NB : Hid (bt ≠ w3.heap.size) := Lib.hid (by have := S.out.ft.1.1; omega)
    replace S := Lib.hid (S.out.grow (Grow.alloc w3 (.cells #[.int .i64 (-1), .int .i64 401, .int .i64 x3, .int .i64 ((n : Int) - 1)] 3)))
    go_wp2_with fail
    generalize w3.alloc (.cells #[.int .i64 (-1), .int .i64 401, .int .i64 x3, .int .i64 ((n : Int) - 1)] 3) = w4 at *
    generalize w3.heap.size = bl at *
    refine (l01Below_any _ p 4 (by decide) S.out.d.cur).mono ?_
    rintro e w5 ⟨x5, rfl, h5a, h5b, -, hC, hU⟩
    have h5b := h5b (by decide)
    replace BL := Lib.hid (BL.out.call S.out.d hU)
    replace S := Lib.hid (S.out.call hC hU)
    clear hC hU
    have l0 := BL.out.1.2.1 0 _ rfl; have l1 := BL.out.1.2.1 1 _ rfl; have l2 := BL.out.1.2.1 2 _ rfl; have l3 := BL.out.1.2.1 3 _ rfl
    obtain rfl | rfl | rfl | rfl : x5 = 0 ∨ x5 = 1 ∨ x5 = 2 ∨ x5 = 3 := by omega
    · have ⟨q0, q1⟩ := S.out.ft.1.two; have qz := S.out.ft.1.2.2; have ql := S.out.ft.1.1
      replace S := Lib.hid (S.out.setCap (-1))
      replace HC : Hid (I64 (-1)) := Lib.hid (by unfold I64; omega)
      have ⟨r0, r1⟩ := S.out.br.1.two; have rz := S.out.br.1.2.2; have rl := S.out.br.1.1
      have n1 : ¬ bt = R := by have := S.out.ne; omega
      have n2 : ¬ R = bt := by omega
      go_wp2
      have HR : Hid (∀ W, Upd [R] (w5.setCell ⟨bt, 0, none⟩ (.int .i64 (-1))) W → RetTb w p (.returned (.agg #[.int .i64 (-1), .slice qa n qc])) W) := Lib.hid (fun W hu => S.out.ret GS.out LB.out HC.out hu)
      refine bodyPost_ret (v := .agg #[.int .i64 (-1), .slice qa n qc]) ?_ rfl (HR.out _ ?_)
      · simp [results, Try.results118, go_sem, q0, q1, qz, ql, r0, r1, rz, rl, n1, n2] <;> omega
      · ((repeat (first | with_reducible exact Upd.refl _ _ | (with_reducible refine Upd.setCell ?_ (by simp) _))))
    · have ⟨q0, q1⟩ := S.out.ft.1.two; have qz := S.out.ft.1.2.2; have ql := S.out.ft.1.1
      replace S := Lib.hid (S.out.setCap 401)
      replace HC : Hid (I64 401) := Lib.hid (by unfold I64; omega)
      have ⟨r0, r1⟩ := S.out.br.1.two; have rz := S.out.br.1.2.2; have rl := S.out.br.1.1
      have n1 : ¬ bt = R := by have := S.out.ne; omega
      have n2 : ¬ R = bt := by omega
      go_wp2
      have HR : Hid (∀ W, Upd [R] (w5.setCell ⟨bt, 0, none⟩ (.int .i64 401)) W → RetTb w p (.returned (.agg #[.int .i64 401, .slice qa n qc])) W) := Lib.hid (fun W hu => S.out.ret GS.out LB.out HC.out hu)
      refine bodyPost_ret (v := .agg #[.int .i64 401, .slice qa n qc]) ?_ rfl (HR.out _ ?_)
      · simp [results, Try.results118, go_sem, q0, q1, qz, ql, r0, r1, rz, rl, n1, n2] <;> omega
      · ((repeat (first | with_reducible exact Upd.refl _ _ | (with_reducible refine Upd.setCell ?_ (by simp) _))))
    · have ⟨q0, q1⟩ := S.out.ft.1.two; have qz := S.out.ft.1.2.2; have ql := S.out.ft.1.1
      replace S := Lib.hid (S.out.setCap x3)
      replace HC : Hid (I64 x3) := Lib.hid I3.out
      have ⟨r0, r1⟩ := S.out.br.1.two; have rz := S.out.br.1.2.2; have rl := S.out.br.1.1
      have n1 : ¬ bt = R := by have := S.out.ne; omega
      have n2 : ¬ R = bt := by omega
      go_wp2
      have HR : Hid (∀ W, Upd [R] (w5.setCell ⟨bt, 0, none⟩ (.int .i64 x3)) W → RetTb w p (.returned (.agg #[.int .i64 x3, .slice qa n qc])) W) := Lib.hid (fun W hu => S.out.ret GS.out LB.out HC.out hu)
      refine bodyPost_ret (v := .agg #[.int .i64 x3, .slice qa n qc]) ?_ rfl (HR.out _ ?_)
      · simp [results, Try.results118, go_sem, q0, q1, qz, ql, r0, r1, rz, rl, n1, n2] <;> omega
      · ((repeat (first | with_reducible exact Upd.refl _ _ | (with_reducible refine Upd.setCell ?_ (by simp) _))))
    · have ⟨q0, q1⟩ := S.out.ft.1.two; have qz := S.out.ft.1.2.2; have ql := S.out.ft.1.1
      replace S := Lib.hid (S.out.setCap ((n : Int) - 1))
      replace HC : Hid (I64 ((n : Int) - 1)) := Lib.hid (by unfold I64; omega)
      have ⟨r0, r1⟩ := S.out.br.1.two; have rz := S.out.br.1.2.2; have rl := S.out.br.1.1
      have n1 : ¬ bt = R := by have := S.out.ne; omega
      have n2 : ¬ R = bt := by omega
      go_wp2
      have HR : Hid (∀ W, Upd [R] (w5.setCell ⟨bt, 0, none⟩ (.int .i64 ((n : Int) - 1))) W → RetTb w p (.returned (.agg #[.int .i64 ((n : Int) - 1), .slice qa n qc])) W) := Lib.hid (fun W hu => S.out.ret GS.out LB.out HC.out hu)
      refine bodyPost_ret (v := .agg #[.int .i64 ((n : Int) - 1), .slice qa n qc]) ?_ rfl (HR.out _ ?_)
      · simp [results, Try.results118, go_sem, q0, q1, qz, ql, r0, r1, rz, rl, n1, n2] <;> omega
      · ((repeat (first | with_reducible exact Upd.refl _ _ | (with_reducible refine Upd.setCell ?_ (by simp) _))))
  by_cases c1 : x2 = 1
  · subst c1
    by_cases hz : 0 < n
    · obtain ⟨g, rfl⟩ := S.out.et.some_ (by omega)
      have ⟨q0, q1⟩ := S.out.ft.1.two; have qz := S.out.ft.1.2.2; have ql := S.out.ft.1.1
      go_wp2_with fail
      clear q0 q1 qz ql
      replace S := Lib.hid (S.out.grow (Grow.drewN w2 1))
      obtain ⟨C, hC⟩ : ∃ C : World → Prop, C = fun W => Box W bt [.int .i64 cap, .slice (some ⟨g, 0, none⟩) n qc] := ⟨_, rfl⟩
      have CC : Hid (∀ W, C W → Box W bt [.int .i64 cap, .slice (some ⟨g, 0, none⟩) n qc]) := Lib.hid (fun W h => by rw [hC] at h; exact h)
      have MK : Hid (∀ W, Box W bt [.int .i64 cap, .slice (some ⟨g, 0, none⟩) n qc] → C W) := Lib.hid (fun W h => by rw [hC]; exact h)
      clear hC
      have k0 : Hid (C (w2.drewN 1)) := Lib.hid (MK.out _ S.out.ft.1)
      have hne : Nonempty (Cl C) := ⟨⟨_, k0.out⟩⟩
      have p0 : ∀ x : Cl C, x.w.cell? ⟨bt, 0, none⟩ = some (.int .i64 cap) := fun x => (CC.out x.w x.ok).two.1
      have p1 : ∀ x : Cl C, x.w.cell? ⟨bt, 1, none⟩ = some (.slice (some ⟨g, 0, none⟩) n qc) := fun x => (CC.out x.w x.ok).two.2
      refine wp_region_mix (Cls C) 10 #[false, false, false, false, false, false, false, false, false, false] (by kernel_rfl) (by kernel_rfl) ⟨⟨_, k0.out⟩, rfl⟩ ?_
      refine anyC_seg [0, 1, 2, 3, 5] #[true, true, true, true, false, true, false, false, false, false] (fuel := 5) rfl (by kernel_rfl) ⟨⟨_, k0.out⟩, rfl⟩ ?_
      simp only [pickOps, List.getD_cons_succ, List.getD_cons_zero]
      repeat (go_big_quiet_step (fail))
      refine wpQuiet_nil ?_
      refine anyC_sole 4 #[true, true, true, true, true, true, false, false, false, false] (fuel := 4) (by kernel_rfl) ?_
      simp only [List.getD_cons_succ, List.getD_cons_zero]
      go_wp2_with fail
      refine (l01Below_any _ p n (by omega) S.out.d.cur).mono ?_
      rintro e w4 ⟨x4, rfl, h4a, h4b, -, hC, hU⟩
      have h4b := h4b (by omega)
      replace S := Lib.hid (S.out.call hC hU)
      clear hC hU
      obtain ⟨i, rfl⟩ := Int.eq_ofNat_of_zero_le h4a
      go_wp2
      refine ⟨⟨⟨_, MK.out _ S.out.ft.1⟩, rfl⟩, ?_⟩
      refine anyC_sole 6 #[true, true, true, true, true, true, true, false, false, false] (fuel := 3) (by kernel_rfl) ?_
      simp only [List.getD_cons_succ, List.getD_cons_zero]
      go_wp2_with fail
      refine (l01Raw_any _ p S.out.d.cur).mono ?_
      rintro e w6 ⟨x6, rfl, h6, hC, hU⟩
      have I6 := Lib.hid h6
      clear h6
      replace S := Lib.hid (S.out.call hC hU)
      clear hC hU
      go_wp2
      refine ⟨⟨⟨_, MK.out _ S.out.ft.1⟩, rfl⟩, ?_⟩
      refine anyC_seg [7, 8] #[true, true, true, true, true, true, true, true, true, false] (fuel := 1) rfl (by kernel_rfl) ⟨⟨_, MK.out _ S.out.ft.1⟩, rfl⟩ ?_
      simp only [pickOps, List.getD_cons_succ, List.getD_cons_zero]
      repeat (go_big_quiet_step (fail))
      refine wpQuiet_nil ?_
      refine anyC_sole 9 #[true, true, true, true, true, true, true, true, true, true] (fuel := 0) (by kernel_rfl) ?_
      simp only [List.getD_cons_succ, List.getD_cons_zero]
      have hi : i < es.length := by have := NL.out; omega
      obtain ⟨x0, x1, x2, hec, hsub⟩ := S.out.et.2.2 i hi
      have ⟨c0, c1, c2, c3, c4, c5⟩ := S.out.et.cells hi hec
      have ⟨cz, cl⟩ := S.out.et.frz
      clear hsub p0 p1
      go_wp2
      replace S := Lib.hid (S.out.row Upd.one6 (S.out.et.setPrio hi x6))
      replace GS := Lib.hid (GS.out.set (j := i) ((GS.out.at hi).prio I6.out))
      clear c0 c1 c2 c3 c4 c5 cz cl hec
      generalize w6.setCell ⟨g, i * 6 + 1, none⟩ (.int .i64 x6) = wZ at *
      refine ⟨⟨⟨_, MK.out _ S.out.ft.1⟩, rfl⟩, ?_⟩
      refine anyC_done (by kernel_rfl) ?_
      clear CC MK k0 hne C
      replace LB : Hid ((es.set i { es[i] with prio := x6 }).length ≤ 600) := Lib.hid (by rw [List.length_set]; exact LB.out)
      have ⟨q0, q1⟩ := S.out.ft.1.two; have qz := S.out.ft.1.2.2; have ql := S.out.ft.1.1
      have ⟨r0, r1⟩ := S.out.br.1.two; have rz := S.out.br.1.2.2; have rl := S.out.br.1.1
      have n1 : ¬ bt = R := by have := S.out.ne; omega
      have n2 : ¬ R = bt := by omega
      go_wp2
      have HR : Hid (∀ W, Upd [R] wZ W → RetTb w p (.returned (.agg #[.int .i64 cap, .slice (some ⟨g, 0, none⟩) n qc])) W) := Lib.hid (fun W hu => S.out.ret GS.out LB.out HC.out hu)
      refine bodyPost_ret (v := .agg #[.int .i64 cap, .slice (some ⟨g, 0, none⟩) n qc]) ?_ rfl (HR.out _ ?_)
      · simp [results, Try.results118, go_sem, q0, q1, qz, ql, r0, r1, rz, rl, n1, n2] <;> omega
      · ((repeat (first | with_reducible exact Upd.refl _ _ | (with_reducible refine Upd.setCell ?_ (by simp) _))))
    have ⟨q0, q1⟩ := S.out.ft.1.two; have qz := S.out.ft.1.2.2; have ql := S.out.ft.1.1
    have ⟨r0, r1⟩ := S.out.br.1.two; have rz := S.out.br.1.2.2; have rl := S.out.br.1.1
    have n1 : ¬ bt = R := by have := S.out.ne; omega
    have n2 : ¬ R = bt := by omega
    go_wp2
    have HR : Hid (∀ W, Upd [R] w2 W → RetTb w p (.returned (.agg #[.int .i64 cap, .slice qa n qc])) W) := Lib.hid (fun W hu => S.out.ret GS.out LB.out HC.out hu)
    refine bodyPost_ret (v := .agg #[.int .i64 cap, .slice qa n qc]) ?_ rfl (HR.out _ ?_)
    · simp [results, Try.results118, go_sem, q0, q1, qz, ql, r0, r1, rz, rl, n1, n2] <;> omega
    · ((repeat (first | with_reducible exact Upd.refl _ _ | (with_reducible refine Upd.setCell ?_ (by simp) _))))
  by_cases c2 : x2 = 2
  · subst c2
    by_cases hz : 1 < n
    · obtain ⟨g, rfl⟩ := S.out.et.some_ (by omega)
      have ⟨q0, q1⟩ := S.out.ft.1.two; have qz := S.out.ft.1.2.2; have ql := S.out.ft.1.1
      go_wp2_with fail
      clear q0 q1 qz ql
      refine (l01Below_any _ p n (by omega) S.out.d.cur).mono ?_
      rintro e w3 ⟨x3, rfl, h3a, h3b, -, hC, hU⟩
      have h3b := h3b (by omega)
      replace S := Lib.hid (S.out.call hC hU)
      clear hC hU
      obtain ⟨i, rfl⟩ := Int.eq_ofNat_of_zero_le h3a
      have hi : i < es.length := by have := NL.out; omega
      have hjl : n - 1 - i < es.length := by have := NL.out; omega
      obtain ⟨x0, x1, x2, Ic, Is⟩ := S.out.et.2.2 i hi
      obtain ⟨y0, y3, rfl⟩ := own_shape Is.1
      obtain ⟨y1, y4, rfl⟩ := own_shape Is.2.1
      obtain ⟨y2, y5, rfl⟩ := own_shape Is.2.2.1
      have IS : Hid (SubOK w _ (g :: [R, bt]) _ _ _ _) := Lib.hid (Is.more (fun x hx => .inl (by simpa [fpOf, Value.ownBlock] using hx)))
      have IG := Lib.hid (GS.out.at hi)
      clear Is
      generalize hd_I : es[i] = e1 at *
      clear hd_I
      obtain ⟨x0, x1, x2, Jc, Js⟩ := S.out.et.2.2 (n - 1 - i) hjl
      obtain ⟨z0, z3, rfl⟩ := own_shape Js.1
      obtain ⟨z1, z4, rfl⟩ := own_shape Js.2.1
      obtain ⟨z2, z5, rfl⟩ := own_shape Js.2.2.1
      have JS : Hid (SubOK w _ (g :: [R, bt]) _ _ _ _) := Lib.hid (Js.more (fun x hx => .inl (by simpa [fpOf, Value.ownBlock] using hx)))
      have JG := Lib.hid (GS.out.at hjl)
      clear Js
      generalize hd_J : es[(n - 1 - i)] = e2 at *
      clear hd_J
      have ⟨c0, c1, c2, c3, c4, c5⟩ := S.out.et.cells hi Ic
      have BE : Hid (Bx w (w3.alloc (.cells #[.int .i64 e1.epoch, .int .i64 e1.prio, .slice y0 e1.m.vs.length y3, .slice y1 e1.m.ms.length y4, .slice y2 e1.acts.length y5, .int .i64 e1.hits] 68)) w3.heap.size [.int .i64 e1.epoch, .int .i64 e1.prio, .slice y0 e1.m.vs.length y3, .slice y1 e1.m.ms.length y4, .slice y2 e1.acts.length y5, .int .i64 e1.hits]) := Lib.hid (Bx.new S.out.d [.int .i64 e1.epoch, .int .i64 e1.prio, .slice y0 e1.m.vs.length y3, .slice y1 e1.m.ms.length y4, .slice y2 e1.acts.length y5, .int .i64 e1.hits] 68)
      have NG : Hid (g ≠ w3.heap.size) := Lib.hid (by have := S.out.et.frz.2; omega)
      have ⟨q0, q1⟩ := S.out.ft.1.two; have qz := S.out.ft.1.2.2; have ql := S.out.ft.1.1
      replace S := Lib.hid (S.out.grow (Grow.alloc w3 (.cells #[.int .i64 e1.epoch, .int .i64 e1.prio, .slice y0 e1.m.vs.length y3, .slice y1 e1.m.ms.length y4, .slice y2 e1.acts.length y5, .int .i64 e1.hits] 68))); replace IS := Lib.hid (IS.out.grow (Grow.alloc w3 (.cells #[.int .i64 e1.epoch, .int .i64 e1.prio, .slice y0 e1.m.vs.length y3, .slice y1 e1.m.ms.length y4, .slice y2 e1.acts.length y5, .int .i64 e1.hits] 68))); replace JS := Lib.hid (JS.out.grow (Grow.alloc w3 (.cells #[.int .i64 e1.epoch, .int .i64 e1.prio, .slice y0 e1.m.vs.length y3, .slice y1 e1.m.ms.length y4, .slice y2 e1.acts.length y5, .int .i64 e1.hits] 68)))
      go_wp2_with fail
      clear q0 q1 qz ql
      clear c0 c1 c2 c3 c4 c5
      generalize w3.alloc (.cells #[.int .i64 e1.epoch, .int .i64 e1.prio, .slice y0 e1.m.vs.length y3, .slice y1 e1.m.ms.length y4, .slice y2 e1.acts.length y5, .int .i64 e1.hits] 68) = w4 at *
      generalize w3.heap.size = be at *
      replace S := Lib.hid (S.out.grow (Grow.drewN w4 1)); replace BE := Lib.hid (BE.out.grow (Grow.drewN w4 1)); replace IS := Lib.hid (IS.out.grow (Grow.drewN w4 1)); replace JS := Lib.hid (JS.out.grow (Grow.drewN w4 1))
      obtain ⟨C, hC⟩ : ∃ C : World → Prop, C = fun W => DT w W p R bt cap (.slice (some ⟨g, 0, none⟩) n qc) es cs := ⟨_, rfl⟩
      have CC : Hid (∀ W, C W → DT w W p R bt cap (.slice (some ⟨g, 0, none⟩) n qc) es cs) := Lib.hid (fun W h => by rw [hC] at h; exact h)
      have MK : Hid (∀ W, DT w W p R bt cap (.slice (some ⟨g, 0, none⟩) n qc) es cs → C W) := Lib.hid (fun W h => by rw [hC]; exact h)
      clear hC
      have k0 : Hid (C (w4.drewN 1)) := Lib.hid (MK.out _ S.out)
      have hne : Nonempty (Cl C) := ⟨⟨_, k0.out⟩⟩
      have p0 : ∀ x : Cl C, x.w.cell? ⟨bt, 0, none⟩ = some (.int .i64 cap) := fun x => (CC.out x.w x.ok).ft.1.two.1
      have p1 : ∀ x : Cl C, x.w.cell? ⟨bt, 1, none⟩ = some (.slice (some ⟨g, 0, none⟩) n qc) := fun x => (CC.out x.w x.ok).ft.1.two.2
      have pd0 : ∀ x : Cl C, x.w.cell? ⟨g, (n - 1 - i) * 6, none⟩ = some (.int .i64 e2.epoch) := fun x => ((CC.out x.w x.ok).et.cells hjl Jc).1
      have pd1 : ∀ x : Cl C, x.w.cell? ⟨g, (n - 1 - i) * 6 + 1, none⟩ = some (.int .i64 e2.prio) := fun x => ((CC.out x.w x.ok).et.cells hjl Jc).2.1
      have pd2 : ∀ x : Cl C, x.w.cell? ⟨g, (n - 1 - i) * 6 + 2, none⟩ = some (.slice z0 e2.m.vs.length z3) := fun x => ((CC.out x.w x.ok).et.cells hjl Jc).2.2.1
      have pd3 : ∀ x : Cl C, x.w.cell? ⟨g, (n - 1 - i) * 6 + 3, none⟩ = some (.slice z1 e2.m.ms.length z4) := fun x => ((CC.out x.w x.ok).et.cells hjl Jc).2.2.2.1
      have pd4 : ∀ x : Cl C, x.w.cell? ⟨g, (n - 1 - i) * 6 + 4, none⟩ = some (.slice z2 e2.acts.length z5) := fun x => ((CC.out x.w x.ok).et.cells hjl Jc).2.2.2.2.1
      have pd5 : ∀ x : Cl C, x.w.cell? ⟨g, (n - 1 - i) * 6 + 5, none⟩ = some (.int .i64 e2.hits) := fun x => ((CC.out x.w x.ok).et.cells hjl Jc).2.2.2.2.2
      refine wp_region_last (Cls C) 12 13 #[false, false, false, false, false, false, false, false, false, false, false, false, false] (by kernel_rfl) (by kernel_rfl) ?_
      refine anyL_seg [0, 1, 2, 3, 4, 5, 6, 7, 8, 9, 10, 11] #[true, true, true, true, true, true, true, true, true, true, true, true, false] (fuel := 1) rfl (by kernel_rfl) ⟨⟨_, k0.out⟩, rfl⟩ ?_
      simp only [pickOps, List.getD_cons_succ, List.getD_cons_zero]
      repeat (go_big_quiet_step (fail))
      refine wpQuiet_nil ?_
      refine anyL_last (by kernel_rfl) ?_
      simp only [List.getD_cons_succ, List.getD_cons_zero]
      have ⟨c0, c1, c2, c3, c4, c5⟩ := S.out.et.cells hi Ic
      have ⟨cz, cl⟩ := S.out.et.frz
      clear p0 p1 pd0 pd1 pd2 pd3 pd4 pd5
      go_wp2
      have hw : (World.setCell (World.setCell (World.setCell (World.setCell (World.setCell (World.setCell (w4.drewN 1) ⟨g, i * 6, none⟩ (.int .i64 e2.epoch)) ⟨g, i * 6 + 1, none⟩ (.int .i64 e2.prio)) ⟨g, i * 6 + 2, none⟩ (.slice z0 e2.m.vs.length z3)) ⟨g, i * 6 + 3, none⟩ (.slice z1 e2.m.ms.length z4)) ⟨g, i * 6 + 4, none⟩ (.slice z2 e2.acts.length z5)) ⟨g, i * 6 + 5, none⟩ (.int .i64 e2.hits)) = put6 (w4.drewN 1) g (i * 6) e2 (.slice z0 e2.m.vs.length z3) (.slice z1 e2.m.ms.length z4) (.slice z2 e2.acts.length z5) := rfl
      rw [hw]
      clear hw
      have UP : Hid (Upd [g] (w4.drewN 1) (put6 (w4.drewN 1) g (i * 6) e2 (.slice z0 e2.m.vs.length z3) (.slice z1 e2.m.ms.length z4) (.slice z2 e2.acts.length z5))) := Lib.hid ((Upd.refl [g] (w4.drewN 1)).put6 (by simp))
      replace S := Lib.hid (S.out.row UP.out (S.out.et.setAll hi JS.out))
      replace GS := Lib.hid (GS.out.set (j := i) JG.out)
      replace BE := Lib.hid (BE.out.own UP.out (by have := NG.out; simp; omega))
      replace IS := Lib.hid (IS.out.upd UP.out (by simp))
      have hj2 : n - 1 - i < (es.set i e2).length := by rw [List.length_set]; exact hjl
      clear c0 c1 c2 c3 c4 c5 cz cl UP JS
      generalize put6 (w4.drewN 1) g (i * 6) e2 (.slice z0 e2.m.vs.length z3) (.slice z1 e2.m.ms.length z4) (.slice z2 e2.acts.length z5) = w5 at *
      refine ⟨trivial, ?_⟩
      clear CC MK k0 hne C Ic Jc
      obtain ⟨x0, x1, x2, hec, hsub⟩ := S.out.et.2.2 (n - 1 - i) hj2
      clear hsub
      have ⟨c0, c1, c2, c3, c4, c5⟩ := S.out.et.cells hj2 hec
      have ⟨cz, cl⟩ := S.out.et.frz
      have ⟨b0, b1, b2, b3, b4, b5⟩ := BE.out.1.six; have bz := BE.out.1.2.2; have bl := BE.out.1.1
      have ⟨q0, q1⟩ := S.out.ft.1.two; have qz := S.out.ft.1.2.2; have ql := S.out.ft.1.1
      iterate 29 (first | go_step | go_upon)
      have hw : (World.setCell (World.setCell (World.setCell (World.setCell (World.setCell (World.setCell w5 ⟨g, (n - 1 - i) * 6, none⟩ (.int .i64 e1.epoch)) ⟨g, (n - 1 - i) * 6 + 1, none⟩ (.int .i64 e1.prio)) ⟨g, (n - 1 - i) * 6 + 2, none⟩ (.slice y0 e1.m.vs.length y3)) ⟨g, (n - 1 - i) * 6 + 3, none⟩ (.slice y1 e1.m.ms.length y4)) ⟨g, (n - 1 - i) * 6 + 4, none⟩ (.slice y2 e1.acts.length y5)) ⟨g, (n - 1 - i) * 6 + 5, none⟩ (.int .i64 e1.hits)) = put6 w5 g ((n - 1 - i) * 6) e1 (.slice y0 e1.m.vs.length y3) (.slice y1 e1.m.ms.length y4) (.slice y2 e1.acts.length y5) := rfl
      rw [hw]
      clear hw
      replace S := Lib.hid (S.out.row ((Upd.refl [g] w5).put6 (by simp)) (S.out.et.setAll hj2 IS.out))
      replace GS := Lib.hid (GS.out.set (j := n - 1 - i) IG.out)
      replace LB : Hid (((es.set i e2).set (n - 1 - i) e1).length ≤ 600) := Lib.hid (by rw [List.length_set, List.length_set]; exact LB.out)
      clear q0 q1 qz ql
      clear c0 c1 c2 c3 c4 c5 cz cl hec b0 b1 b2 b3 b4 b5 bz bl BE
      generalize put6 w5 g ((n - 1 - i) * 6) e1 (.slice y0 e1.m.vs.length y3) (.slice y1 e1.m.ms.length y4) (.slice y2 e1.acts.length y5) = wZ at *
      have ⟨q0, q1⟩ := S.out.ft.1.two; have qz := S.out.ft.1.2.2; have ql := S.out.ft.1.1
      have ⟨r0, r1⟩ := S.out.br.1.two; have rz := S.out.br.1.2.2; have rl := S.out.br.1.1
      have n1 : ¬ bt = R := by have := S.out.ne; omega
      have n2 : ¬ R = bt := by omega
      go_wp2
      have HR : Hid (∀ W, Upd [R] wZ W → RetTb w p (.returned (.agg #[.int .i64 cap, .slice (some ⟨g, 0, none⟩) n qc])) W) := Lib.hid (fun W hu => S.out.ret GS.out LB.out HC.out hu)
      refine bodyPost_ret (v := .agg #[.int .i64 cap, .slice (some ⟨g, 0, none⟩) n qc]) ?_ rfl (HR.out _ ?_)
      · simp [results, Try.results118, go_sem, q0, q1, qz, ql, r0, r1, rz, rl, n1, n2] <;> omega
      · ((repeat (first | with_reducible exact Upd.refl _ _ | (with_reducible refine Upd.setCell ?_ (by simp) _))))
    have ⟨q0, q1⟩ := S.out.ft.1.two; have qz := S.out.ft.1.2.2; have ql := S.out.ft.1.1
    have ⟨r0, r1⟩ := S.out.br.1.two; have rz := S.out.br.1.2.2; have rl := S.out.br.1.1
    have n1 : ¬ bt = R := by have := S.out.ne; omega
    have n2 : ¬ R = bt := by omega
    go_wp2
    have HR : Hid (∀ W, Upd [R] w2 W → RetTb w p (.returned (.agg #[.int .i64 cap, .slice qa n qc])) W) := Lib.hid (fun W hu => S.out.ret GS.out LB.out HC.out hu)
    refine bodyPost_ret (v := .agg #[.int .i64 cap, .slice qa n qc]) ?_ rfl (HR.out _ ?_)
    · simp [results, Try.results118, go_sem, q0, q1, qz, ql, r0, r1, rz, rl, n1, n2] <;> omega
    · ((repeat (first | with_reducible exact Upd.refl _ _ | (with_reducible refine Upd.setCell ?_ (by simp) _))))
  by_cases c4 : x2 = 4
  · subst c4
    by_cases hz : 0 < n
    · obtain ⟨g, rfl⟩ := S.out.et.some_ (by omega)
      have ⟨q0, q1⟩ := S.out.ft.1.two; have qz := S.out.ft.1.2.2; have ql := S.out.ft.1.1
      go_wp2_with fail
      clear q0 q1 qz ql
      replace S := Lib.hid (S.out.grow (Grow.drewN w2 1))
      obtain ⟨C, hC⟩ : ∃ C : World → Prop, C = fun W => Box W bt [.int .i64 cap, .slice (some ⟨g, 0, none⟩) n qc] := ⟨_, rfl⟩
      have CC : Hid (∀ W, C W → Box W bt [.int .i64 cap, .slice (some ⟨g, 0, none⟩) n qc]) := Lib.hid (fun W h => by rw [hC] at h; exact h)
      have MK : Hid (∀ W, Box W bt [.int .i64 cap, .slice (some ⟨g, 0, none⟩) n qc] → C W) := Lib.hid (fun W h => by rw [hC]; exact h)
      clear hC
      have k0 : Hid (C (w2.drewN 1)) := Lib.hid (MK.out _ S.out.ft.1)
      have hne : Nonempty (Cl C) := ⟨⟨_, k0.out⟩⟩
      have p0 : ∀ x : Cl C, x.w.cell? ⟨bt, 0, none⟩ = some (.int .i64 cap) := fun x => (CC.out x.w x.ok).two.1
      have p1 : ∀ x : Cl C, x.w.cell? ⟨bt, 1, none⟩ = some (.slice (some ⟨g, 0, none⟩) n qc) := fun x => (CC.out x.w x.ok).two.2
      refine wp_region_mix (Cls C) 13 #[false, false, false, false, false, false, false, false, false, false, false, false, false] (by kernel_rfl) (by kernel_rfl) ⟨⟨_, k0.out⟩, rfl⟩ ?_
      refine anyC_seg [0, 1, 2, 3, 6] #[true, true, true, true, false, false, true, false, false, false, false, false, false] (fuel := 8) rfl (by kernel_rfl) ⟨⟨_, k0.out⟩, rfl⟩ ?_
      simp only [pickOps, List.getD_cons_succ, List.getD_cons_zero]
      repeat (go_big_quiet_step (fail))
      refine wpQuiet_nil ?_
      clear p0 p1
      apply viaF (fun x y b W => DT w W p R bt cap (.slice (some ⟨g, 0, none⟩) n qc) es cs ∧ Box W b [.int .i64 (-1), .int .i64 1000000001] ∧ (w.heap.size ≤ b ∧ g ≠ b) ∧ (x : Int) < n ∧ 0 ≤ y ∧ y < 2)
      · intro J
        refine anyC_two_ 4 5 #[true, true, true, true, true, false, true, false, false, false, false, false, false] #[true, true, true, true, false, true, true, false, false, false, false, false, false] (fuel := 7) (by kernel_rfl) ?_ ?_
        · simp only [List.getD_cons_succ, List.getD_cons_zero]
          go_wp2
          have ga := Lib.hid (Grow.alloc (w2.drewN 1) (.cells #[.int .i64 (-1), .int .i64 1000000001] 3))
          have BL : Hid (Box ((w2.drewN 1).alloc (.cells #[.int .i64 (-1), .int .i64 1000000001] 3)) w2.heap.size [.int .i64 (-1), .int .i64 1000000001]) := Lib.hid (Box.alloc (w2.drewN 1) [.int .i64 (-1), .int .i64 1000000001] 3)
          have NB : Hid (w.heap.size ≤ w2.heap.size ∧ g ≠ w2.heap.size) := Lib.hid ⟨S.out.d.size, by have : g < w2.heap.size := S.out.et.frz.2; omega⟩
          replace S := Lib.hid (S.out.grow ga.out)
          clear ga
          have cN := MK.out _ S.out.ft.1
          refine ⟨⟨⟨_, cN⟩, rfl⟩, ?_⟩
          clear cN
          generalize (w2.drewN 1).alloc (.cells #[.int .i64 (-1), .int .i64 1000000001] 3) = v1 at *
          generalize w2.heap.size = bl at *
          refine anyC_sole 4 #[true, true, true, true, true, true, true, false, false, false, false, false, false] (fuel := 6) (by kernel_rfl) ?_
          simp only [List.getD_cons_succ, List.getD_cons_zero]
          go_wp2_with fail
          refine (l01Below_any _ p n (by omega) S.out.d.cur).mono ?_
          rintro e v2 ⟨xi, rfl, hx0, hx1, -, hC, hU⟩
          have hx1 := hx1 (by omega)
          obtain ⟨xi, rfl⟩ := Int.eq_ofNat_of_zero_le hx0
          replace BL := Lib.hid (BL.out.upd hU (by have := S.out.d.lt; have := NB.out.1; simp; omega))
          replace S := Lib.hid (S.out.call hC hU)
          clear hC hU
          go_wp2
          refine ⟨⟨⟨_, MK.out _ S.out.ft.1⟩, rfl⟩, ?_⟩
          refine anyC_sole 7 #[true, true, true, true, true, true, true, true, false, false, false, false, false] (fuel := 5) (by kernel_rfl) ?_
          simp only [List.getD_cons_succ, List.getD_cons_zero]
          go_wp2_with fail
          refine (l01Below_any _ p 2 (by decide) S.out.d.cur).mono ?_
          rintro e v3 ⟨yi, rfl, hy0, hy1, -, hC, hU⟩
          have hy1 := hy1 (by decide)
          replace BL := Lib.hid (BL.out.upd hU (by have := S.out.d.lt; have := NB.out.1; simp; omega))
          replace S := Lib.hid (S.out.call hC hU)
          clear hC hU
          go_wp2
          refine ⟨⟨⟨_, MK.out _ S.out.ft.1⟩, rfl⟩, ?_⟩
          exact J xi yi bl v3 ⟨S.out, BL.out, NB.out, hx1, hy0, hy1⟩
        · simp only [List.getD_cons_succ, List.getD_cons_zero]
          go_wp2_with fail
          refine (l01Below_any _ p n (by omega) S.out.d.cur).mono ?_
          rintro e v4 ⟨xi, rfl, hx0, hx1, -, hC, hU⟩
          have hx1 := hx1 (by omega)
          obtain ⟨xi, rfl⟩ := Int.eq_ofNat_of_zero_le hx0
          replace S := Lib.hid (S.out.call hC hU)
          clear hC hU
          go_wp2
          refine ⟨⟨⟨_, MK.out _ S.out.ft.1⟩, rfl⟩, ?_⟩
          refine anyC_two_ 5 7 #[true, true, true, true, true, true, true, false, false, false, false, false, false] #[true, true, true, true, true, false, true, true, false, false, false, false, false] (fuel := 6) (by kernel_rfl) ?_ ?_
          · simp only [List.getD_cons_succ, List.getD_cons_zero]
            go_wp2_with fail
            refine (l01Below_any _ p 2 (by decide) S.out.d.cur).mono ?_
            rintro e v5 ⟨yi, rfl, hy0, hy1, -, hC, hU⟩
            have hy1 := hy1 (by decide)
            replace S := Lib.hid (S.out.call hC hU)
            clear hC hU
            go_wp2
            refine ⟨⟨⟨_, MK.out _ S.out.ft.1⟩, rfl⟩, ?_⟩
            refine anyC_sole 5 #[true, true, true, true, true, true, true, true, false, false, false, false, false] (fuel := 5) (by kernel_rfl) ?_
            simp only [List.getD_cons_succ, List.getD_cons_zero]
            go_wp2
            have ga := Lib.hid (Grow.alloc v5 (.cells #[.int .i64 (-1), .int .i64 1000000001] 3))
            have BL : Hid (Box (v5.alloc (.cells #[.int .i64 (-1), .int .i64 1000000001] 3)) v5.heap.size [.int .i64 (-1), .int .i64 1000000001]) := Lib.hid (Box.alloc v5 [.int .i64 (-1), .int .i64 1000000001] 3)
            have NB : Hid (w.heap.size ≤ v5.heap.size ∧ g ≠ v5.heap.size) := Lib.hid ⟨S.out.d.size, by have : g < v5.heap.size := S.out.et.frz.2; omega⟩
            replace S := Lib.hid (S.out.grow ga.out)
            clear ga
            have cN := MK.out _ S.out.ft.1
            refine ⟨⟨⟨_, cN⟩, rfl⟩, ?_⟩
            clear cN
            generalize v5.alloc (.cells #[.int .i64 (-1), .int .i64 1000000001] 3) = v6 at *
            generalize v5.heap.size = bl at *
            exact J xi yi bl v6 ⟨S.out, BL.out, NB.out, hx1, hy0, hy1⟩
          · simp only [List.getD_cons_succ, List.getD_cons_zero]
            go_wp2
            have ga := Lib.hid (Grow.alloc v4 (.cells #[.int .i64 (-1), .int .i64 1000000001] 3))
            have BL : Hid (Box (v4.alloc (.cells #[.int .i64 (-1), .int .i64 1000000001] 3)) v4.heap.size [.int .i64 (-1), .int .i64 1000000001]) := Lib.hid (Box.alloc v4 [.int .i64 (-1), .int .i64 1000000001] 3)
            have NB : Hid (w.heap.size ≤ v4.heap.size ∧ g ≠ v4.heap.size) := Lib.hid ⟨S.out.d.size, by have : g < v4.heap.size := S.out.et.frz.2; omega⟩
            replace S := Lib.hid (S.out.grow ga.out)
            clear ga
            have cN := MK.out _ S.out.ft.1
            refine ⟨⟨⟨_, cN⟩, rfl⟩, ?_⟩
            clear cN
            generalize v4.alloc (.cells #[.int .i64 (-1), .int .i64 1000000001] 3) = v7 at *
            generalize v4.heap.size = bl at *
            refine anyC_sole 7 #[true, true, true, true, true, true, true, true, false, false, false, false, false] (fuel := 5) (by kernel_rfl) ?_
            simp only [List.getD_cons_succ, List.getD_cons_zero]
            go_wp2_with fail
            refine (l01Below_any _ p 2 (by decide) S.out.d.cur).mono ?_
            rintro e v8 ⟨yi, rfl, hy0, hy1, -, hC, hU⟩
            have hy1 := hy1 (by decide)
            replace BL := Lib.hid (BL.out.upd hU (by have := S.out.d.lt; have := NB.out.1; simp; omega))
            replace S := Lib.hid (S.out.call hC hU)
            clear hC hU
            go_wp2
            refine ⟨⟨⟨_, MK.out _ S.out.ft.1⟩, rfl⟩, ?_⟩
            exact J xi yi bl v8 ⟨S.out, BL.out, NB.out, hx1, hy0, hy1⟩
      clear S
      intro i y bl W ⟨hS, hB, hb, hi0, hy0, hy1⟩
      have S := Lib.hid hS; have BL := Lib.hid hB; have NB := Lib.hid hb
      clear hS hB hb
      have hi : i < es.length := by have := NL.out; omega
      obtain ⟨C2, hC2⟩ : ∃ C2 : World → Prop, C2 = fun W => C W ∧ Box W bl [.int .i64 (-1), .int .i64 1000000001] := ⟨_, rfl⟩
      have CD : Hid (∀ W, C2 W → C W ∧ Box W bl [.int .i64 (-1), .int .i64 1000000001]) := Lib.hid (fun W h => by rw [hC2] at h; exact h)
      have MD : Hid (∀ W, C W → Box W bl [.int .i64 (-1), .int .i64 1000000001] → C2 W) := Lib.hid (fun W h h2 => by rw [hC2]; exact ⟨h, h2⟩)
      clear hC2
      refine anyC_sub (C' := Cls C2) (fun W h => h.elim (fun x hx => ⟨⟨x.w, (CD.out x.w x.ok).1⟩, hx⟩)) _ _ _ _ ?_
      have k1 : Hid (C2 W) := Lib.hid (MD.out _ (MK.out _ S.out.ft.1) BL.out)
      have hne2 : Nonempty (Cl C2) := ⟨⟨_, k1.out⟩⟩
      obtain ⟨yv, hyv⟩ : ∃ yv : Int, (y = 0 → yv = -1) ∧ (y = 1 → yv = 1000000001) ∧ I64 yv := by
        rcases (by omega : y = 0 ∨ y = 1) with rfl | rfl
        · exact ⟨-1, fun _ => rfl, fun h => absurd h (by decide), by unfold I64; omega⟩
        · exact ⟨1000000001, fun h => absurd h (by decide), fun _ => rfl, by unfold I64; omega⟩
      have I9 := Lib.hid hyv.2.2
      obtain ⟨yn, rfl⟩ := Int.eq_ofNat_of_zero_le hy0
      have pl : ∀ x : Cl C2, x.w.cell? ⟨bl, yn, none⟩ = some (.int .i64 yv) := fun x => by
        have hb := (CD.out x.w x.ok).2
        rcases (by omega : yn = 0 ∨ yn = 1) with rfl | rfl
        · rw [hyv.1 rfl]; exact hb.two.1
        · rw [hyv.2.1 rfl]; exact hb.two.2
      clear hyv
      refine anyC_seg [8, 9, 10, 11] #[true, true, true, true, true, true, true, true, true, true, true, true, false] (fuel := 1) rfl (by kernel_rfl) ⟨⟨_, k1.out⟩, rfl⟩ ?_
      simp only [pickOps, List.getD_cons_succ, List.getD_cons_zero]
      repeat (go_big_quiet_step (fail))
      refine wpQuiet_nil ?_
      refine anyC_sole 12 #[true, true, true, true, true, true, true, true, true, true, true, true, true] (fuel := 0) (by kernel_rfl) ?_
      simp only [List.getD_cons_succ, List.getD_cons_zero]
      obtain ⟨x0, x1, x2, hec, hsub⟩ := S.out.et.2.2 i hi
      have ⟨c0, c1, c2, c3, c4, c5⟩ := S.out.et.cells hi hec
      have ⟨cz, cl⟩ := S.out.et.frz
      clear hsub pl
      go_wp2
      replace S := Lib.hid (S.out.row Upd.one6 (S.out.et.setEpoch hi yv))
      replace BL := Lib.hid (BL.out.upd (Upd.one6 (W := W) (g := g) (o := i * 6) (x := .int .i64 yv)) (by have := NB.out.2; simp; omega))
      replace GS := Lib.hid (GS.out.set (j := i) ((GS.out.at hi).epoch I9.out))
      replace LB : Hid ((es.set i { es[i] with epoch := yv }).length ≤ 600) := Lib.hid (by rw [List.length_set]; exact LB.out)
      clear c0 c1 c2 c3 c4 c5 cz cl hec
      generalize W.setCell ⟨g, i * 6, none⟩ (.int .i64 yv) = wZ at *
      refine ⟨⟨⟨_, MD.out _ (MK.out _ S.out.ft.1) BL.out⟩, rfl⟩, ?_⟩
      refine anyC_done (by kernel_rfl) ?_
      clear CC MK k0 hne C CD MD k1 hne2 C2 BL NB
      have ⟨q0, q1⟩ := S.out.ft.1.two; have qz := S.out.ft.1.2.2; have ql := S.out.ft.1.1
      have ⟨r0, r1⟩ := S.out.br.1.two; have rz := S.out.br.1.2.2; have rl := S.out.br.1.1
      have n1 : ¬ bt = R := by have := S.out.ne; omega
      have n2 : ¬ R = bt := by omega
      go_wp2
      have HR : Hid (∀ W, Upd [R] wZ W → RetTb w p (.returned (.agg #[.int .i64 cap, .slice (some ⟨g, 0, none⟩) n qc])) W) := Lib.hid (fun W hu => S.out.ret GS.out LB.out HC.out hu)
      refine bodyPost_ret (v := .agg #[.int .i64 cap, .slice (some ⟨g, 0, none⟩) n qc]) ?_ rfl (HR.out _ ?_)
      · simp [results, Try.results118, go_sem, q0, q1, qz, ql, r0, r1, rz, rl, n1, n2] <;> omega
      · ((repeat (first | with_reducible exact Upd.refl _ _ | (with_reducible refine Upd.setCell ?_ (by simp) _))))
    have ⟨q0, q1⟩ := S.out.ft.1.two; have qz := S.out.ft.1.2.2; have ql := S.out.ft.1.1
    have ⟨r0, r1⟩ := S.out.br.1.two; have rz := S.out.br.1.2.2; have rl := S.out.br.1.1
    have n1 : ¬ bt = R := by have := S.out.ne; omega
    have n2 : ¬ R = bt := by omega
    go_wp2
    have HR : Hid (∀ W, Upd [R] w2 W → RetTb w p (.returned (.agg #[.int .i64 cap, .slice qa n qc])) W) := Lib.hid (fun W hu => S.out.ret GS.out LB.out HC.out hu)
    refine bodyPost_ret (v := .agg #[.int .i64 cap, .slice qa n qc]) ?_ rfl (HR.out _ ?_)
    · simp [results, Try.results118, go_sem, q0, q1, qz, ql, r0, r1, rz, rl, n1, n2] <;> omega
    · ((repeat (first | with_reducible exact Upd.refl _ _ | (with_reducible refine Upd.setCell ?_ (by simp) _))))
  by_cases c3 : x2 = 3
  · subst c3
    by_cases hz : 1 < n
    · by_cases hcc : (n : Int) ≤ cap
      · obtain ⟨g, rfl⟩ := S.out.et.some_ (by omega)
        have ⟨q0, q1⟩ := S.out.ft.1.two; have qz := S.out.ft.1.2.2; have ql := S.out.ft.1.1
        go_wp2_with fail
        clear q0 q1 qz ql
        replace S := Lib.hid (S.out.grow (Grow.drewN w2 1))
        obtain ⟨C, hC⟩ : ∃ C : World → Prop, C = fun W => DT w W p R bt cap (.slice (some ⟨g, 0, none⟩) n qc) es cs := ⟨_, rfl⟩
        have CC : Hid (∀ W, C W → DT w W p R bt cap (.slice (some ⟨g, 0, none⟩) n qc) es cs) := Lib.hid (fun W h => by rw [hC] at h; exact h)
        have MK : Hid (∀ W, DT w W p R bt cap (.slice (some ⟨g, 0, none⟩) n qc) es cs → C W) := Lib.hid (fun W h => by rw [hC]; exact h)
        clear hC
        have k0 : Hid (C (w2.drewN 1)) := Lib.hid (MK.out _ S.out)
        have hne : Nonempty (Cl C) := ⟨⟨_, k0.out⟩⟩
        have p0 : ∀ x : Cl C, x.w.cell? ⟨bt, 0, none⟩ = some (.int .i64 cap) := fun x => (CC.out x.w x.ok).ft.1.two.1
        have p1 : ∀ x : Cl C, x.w.cell? ⟨bt, 1, none⟩ = some (.slice (some ⟨g, 0, none⟩) n qc) := fun x => (CC.out x.w x.ok).ft.1.two.2
        refine wp_region_last (Cls C) 13 14 #[false, false, false, false, false, false, false, false, false, false, false, false, false, false] (by kernel_rfl) (by kernel_rfl) ?_
        refine anyL_seg [0, 1, 2, 3, 4, 5, 6, 7] #[true, true, true, true, true, true, true, true, false, false, false, false, false, false] (fuel := 6) rfl (by kernel_rfl) ⟨⟨_, k0.out⟩, rfl⟩ ?_
        simp only [pickOps, List.getD_cons_succ, List.getD_cons_zero]
        repeat (go_big_quiet_step (fail))
        refine wpQuiet_nil ?_
        refine anyL_sole 8 #[true, true, true, true, true, true, true, true, true, false, false, false, false, false] (fuel := 5) (by kernel_rfl) ?_
        simp only [List.getD_cons_succ, List.getD_cons_zero]
        go_wp2_with fail
        refine (l01Below_any _ p n (by omega) S.out.d.cur).mono ?_
        rintro e w4 ⟨x4, rfl, h4a, h4b, -, hC, hU⟩
        have h4b := h4b (by omega)
        replace S := Lib.hid (S.out.call hC hU)
        clear hC hU
        obtain ⟨i, rfl⟩ := Int.eq_ofNat_of_zero_le h4a
        have hi : i < es.length := by have := NL.out; omega
        obtain ⟨x0, x1, x2, Ic, Is⟩ := S.out.et.2.2 i hi
        obtain ⟨y0, y3, rfl⟩ := own_shape Is.1
        obtain ⟨y1, y4, rfl⟩ := own_shape Is.2.1
        obtain ⟨y2, y5, rfl⟩ := own_shape Is.2.2.1
        have IS : Hid (SubOK w _ (g :: [R, bt]) _ _ _ _) := Lib.hid (Is.more (fun x hx => .inl (by simpa [fpOf, Value.ownBlock] using hx)))
        have IG := Lib.hid (GS.out.at hi)
        clear Is
        generalize hd_I : es[i] = e1 at *
        clear hd_I
        have pd0 : ∀ x : Cl C, x.w.cell? ⟨g, i * 6, none⟩ = some (.int .i64 e1.epoch) := fun x => ((CC.out x.w x.ok).et.cells hi Ic).1
        have pd1 : ∀ x : Cl C, x.w.cell? ⟨g, i * 6 + 1, none⟩ = some (.int .i64 e1.prio) := fun x => ((CC.out x.w x.ok).et.cells hi Ic).2.1
        have pd2 : ∀ x : Cl C, x.w.cell? ⟨g, i * 6 + 2, none⟩ = some (.slice y0 e1.m.vs.length y3) := fun x => ((CC.out x.w x.ok).et.cells hi Ic).2.2.1
        have pd3 : ∀ x : Cl C, x.w.cell? ⟨g, i * 6 + 3, none⟩ = some (.slice y1 e1.m.ms.length y4) := fun x => ((CC.out x.w x.ok).et.cells hi Ic).2.2.2.1
        have pd4 : ∀ x : Cl C, x.w.cell? ⟨g, i * 6 + 4, none⟩ = some (.slice y2 e1.acts.length y5) := fun x => ((CC.out x.w x.ok).et.cells hi Ic).2.2.2.2.1
        have pd5 : ∀ x : Cl C, x.w.cell? ⟨g, i * 6 + 5, none⟩ = some (.int .i64 e1.hits) := fun x => ((CC.out x.w x.ok).et.cells hi Ic).2.2.2.2.2
        go_wp2
        refine ⟨⟨⟨_, MK.out _ S.out⟩, rfl⟩, ?_⟩
        refine anyL_seg [9, 10] #[true, true, true, true, true, true, true, true, true, true, true, false, false, false] (fuel := 3) rfl (by kernel_rfl) ⟨⟨_, MK.out _ S.out⟩, rfl⟩ ?_
        simp only [pickOps, List.getD_cons_succ, List.getD_cons_zero]
        repeat (go_big_quiet_step (fail))
        refine wpQuiet_nil ?_
        refine anyL_sole 11 #[true, true, true, true, true, true, true, true, true, true, true, true, false, false] (fuel := 2) (by kernel_rfl) ?_
        simp only [List.getD_cons_succ, List.getD_cons_zero]
        go_wp2_with fail
        refine (l07Entry_any _ _ e1 IS.out.rd IG.out.sm).mono ?_
        rintro _ w5 ⟨V, fe, rfl, ho, hf, hg⟩
        obtain ⟨v0, v1, v2, f0, f1, f2, rfl, o0, o1, o2, -⟩ := id ho
        obtain ⟨z0, z3, rfl⟩ := own_shape o0.1
        obtain ⟨z1, z4, rfl⟩ := own_shape o1.1
        obtain ⟨z2, z5, rfl⟩ := own_shape o2.1
        have SE : Hid (SubOK w w5 (g :: [R, bt]) (.slice z0 e1.m.vs.length z3) (.slice z1 e1.m.ms.length z4) (.slice z2 e1.acts.length z5) e1) := Lib.hid (SubOK.of ho (fun x hx => Nat.le_trans S.out.d.size (hf x hx)) _ (fun x hx hm => by
          have h1 := hf x hx; have h2 := S.out.et.frz.2; have h3 := S.out.br.1.1; have h4 := S.out.ft.1.1
          simp only [List.mem_cons, List.not_mem_nil, or_false] at hm; omega))
        replace S := Lib.hid (S.out.grow hg)
        clear ho hf hg o0 o1 o2
        go_wp2
        refine ⟨⟨⟨_, MK.out _ S.out⟩, rfl⟩, ?_⟩
        refine anyL_seg [12] #[true, true, true, true, true, true, true, true, true, true, true, true, true, false] (fuel := 1) rfl (by kernel_rfl) ⟨⟨_, MK.out _ S.out⟩, rfl⟩ ?_
        simp only [pickOps, List.getD_cons_succ, List.getD_cons_zero]
        repeat (go_big_quiet_step (fail))
        refine wpQuiet_nil ?_
        refine anyL_last (by kernel_rfl) ?_
        simp only [List.getD_cons_succ, List.getD_cons_zero]
        have hjl : n - 1 < es.length := by have := NL.out; omega
        obtain ⟨x0, x1, x2, hec, hsub⟩ := S.out.et.2.2 (n - 1) hjl
        clear hsub p0 p1 pd0 pd1 pd2 pd3 pd4 pd5
        have ⟨c0, c1, c2, c3, c4, c5⟩ := S.out.et.cells hjl hec
        have ⟨cz, cl⟩ := S.out.et.frz
        go_wp2
        have hw : (World.setCell (World.setCell (World.setCell (World.setCell (World.setCell (World.setCell w5 ⟨g, (n - 1) * 6, none⟩ (.int .i64 e1.epoch)) ⟨g, (n - 1) * 6 + 1, none⟩ (.int .i64 e1.prio)) ⟨g, (n - 1) * 6 + 2, none⟩ (.slice z0 e1.m.vs.length z3)) ⟨g, (n - 1) * 6 + 3, none⟩ (.slice z1 e1.m.ms.length z4)) ⟨g, (n - 1) * 6 + 4, none⟩ (.slice z2 e1.acts.length z5)) ⟨g, (n - 1) * 6 + 5, none⟩ (.int .i64 e1.hits)) = put6 w5 g ((n - 1) * 6) e1 (.slice z0 e1.m.vs.length z3) (.slice z1 e1.m.ms.length z4) (.slice z2 e1.acts.length z5) := rfl
        rw [hw]
        clear hw
        replace S := Lib.hid (S.out.row ((Upd.refl [g] w5).put6 (by simp)) (S.out.et.setAll hjl SE.out))
        replace GS := Lib.hid (GS.out.set (j := n - 1) IG.out)
        replace LB : Hid ((es.set (n - 1) e1).length ≤ 600) := Lib.hid (by rw [List.length_set]; exact LB.out)
        clear c0 c1 c2 c3 c4 c5 cz cl hec
        generalize put6 w5 g ((n - 1) * 6) e1 (.slice z0 e1.m.vs.length z3) (.slice z1 e1.m.ms.length z4) (.slice z2 e1.acts.length z5) = wZ at *
        refine ⟨trivial, ?_⟩
        clear CC MK k0 hne C
        have ⟨q0, q1⟩ := S.out.ft.1.two; have qz := S.out.ft.1.2.2; have ql := S.out.ft.1.1
        have ⟨r0, r1⟩ := S.out.br.1.two; have rz := S.out.br.1.2.2; have rl := S.out.br.1.1
        have n1 : ¬ bt = R := by have := S.out.ne; omega
        have n2 : ¬ R = bt := by omega
        go_wp2
        have HR : Hid (∀ W, Upd [R] wZ W → RetTb w p (.returned (.agg #[.int .i64 cap, .slice (some ⟨g, 0, none⟩) n qc])) W) := Lib.hid (fun W hu => S.out.ret GS.out LB.out HC.out hu)
        refine bodyPost_ret (v := .agg #[.int .i64 cap, .slice (some ⟨g, 0, none⟩) n qc]) ?_ rfl (HR.out _ ?_)
        · simp [results, Try.results118, go_sem, q0, q1, qz, ql, r0, r1, rz, rl, n1, n2] <;> omega
        · ((repeat (first | with_reducible exact Upd.refl _ _ | (with_reducible refine Upd.setCell ?_ (by simp) _))))
      have ⟨q0, q1⟩ := S.out.ft.1.two; have qz := S.out.ft.1.2.2; have ql := S.out.ft.1.1
      have ⟨r0, r1⟩ := S.out.br.1.two; have rz := S.out.br.1.2.2; have rl := S.out.br.1.1
      have n1 : ¬ bt = R := by have := S.out.ne; omega
      have n2 : ¬ R = bt := by omega
      go_wp2
      have HR : Hid (∀ W, Upd [R] w2 W → RetTb w p (.returned (.agg #[.int .i64 cap, .slice qa n qc])) W) := Lib.hid (fun W hu => S.out.ret GS.out LB.out HC.out hu)
      refine bodyPost_ret (v := .agg #[.int .i64 cap, .slice qa n qc]) ?_ rfl (HR.out _ ?_)
      · simp [results, Try.results118, go_sem, q0, q1, qz, ql, r0, r1, rz, rl, n1, n2] <;> omega
      · ((repeat (first | with_reducible exact Upd.refl _ _ | (with_reducible refine Upd.setCell ?_ (by simp) _))))
    have ⟨q0, q1⟩ := S.out.ft.1.two; have qz := S.out.ft.1.2.2; have ql := S.out.ft.1.1
    have ⟨r0, r1⟩ := S.out.br.1.two; have rz := S.out.br.1.2.2; have rl := S.out.br.1.1
    have n1 : ¬ bt = R := by have := S.out.ne; omega
    have n2 : ¬ R = bt := by omega
    go_wp2
    have HR : Hid (∀ W, Upd [R] w2 W → RetTb w p (.returned (.agg #[.int .i64 cap, .slice qa n qc])) W) := Lib.hid (fun W hu => S.out.ret GS.out LB.out HC.out hu)
    refine bodyPost_ret (v := .agg #[.int .i64 cap, .slice qa n qc]) ?_ rfl (HR.out _ ?_)
    · simp [results, Try.results118, go_sem, q0, q1, qz, ql, r0, r1, rz, rl, n1, n2] <;> omega
    · ((repeat (first | with_reducible exact Upd.refl _ _ | (with_reducible refine Upd.setCell ?_ (by simp) _))))
  have hk0 : (x2 == 0) = false := by simpa using c0
  have hk1 : (x2 == 1) = false := by simpa using c1
  have hk2 : (x2 == 2) = false := by simpa using c2
  have hk3 : (x2 == 3) = false := by simpa using c3
  have hk4 : (x2 == 4) = false := by simpa using c4
  have ⟨q0, q1⟩ := S.out.ft.1.two; have qz := S.out.ft.1.2.2; have ql := S.out.ft.1.1
  have ⟨r0, r1⟩ := S.out.br.1.two; have rz := S.out.br.1.2.2; have rl := S.out.br.1.1
  have n1 : ¬ bt = R := by have := S.out.ne; omega
  have n2 : ¬ R = bt := by omega
  go_wp2
  have HR : Hid (∀ W, Upd [R] w2 W → RetTb w p (.returned (.agg #[.int .i64 cap, .slice qa n qc])) W) := Lib.hid (fun W hu => S.out.ret GS.out LB.out HC.out hu)
  refine bodyPost_ret (v := .agg #[.int .i64 cap, .slice qa n qc]) ?_ rfl (HR.out _ ?_)
  · simp [results, Try.results118, go_sem, q0, q1, qz, ql, r0, r1, rz, rl, n1, n2] <;> omega
  · ((repeat (first | with_reducible exact Upd.refl _ _ | (with_reducible refine Upd.setCell ?_ (by simp) _))))
--%
end Go.Proofs.Ytgigdpdmdldhnaa
