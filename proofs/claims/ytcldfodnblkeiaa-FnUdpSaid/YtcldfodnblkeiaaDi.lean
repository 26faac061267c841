/- The draws of datagrams: contracts that tell only bounds (printed by gdi.py). -/
import Derived.Test.YtcldfodnblkeiaaDw
import Derived.Test.YtcldfodnblkeiaaFk
import Derived.WalkKit
import Derived.ProofKit
import Derived.Deep.QuietTactic
import Derived.BigQuiet
import Derived.Outline
import Derived.WalkSpells
namespace Go.Proofs.Ytcldfodnblkeiaa
open Go.ChangeShapes Go.WideShapes Go.ChangeAt Go.RowKit
set_option linter.unusedVariables false
set_option linter.unusedSimpArgs false
--%
section
variable {P : Program} {md : Region.Mode} {ops : Array Oper} {C C' : World → Prop}
theorem anyC_three {Q : Act → World → Prop} {l : List Oper} (i j k : Nat) (li lj lk : Array Bool) {fuel : Nat} {listed : Array Bool} {a : Act} {w : World}
    (hB : (decide (i < l.length) && decide (j < l.length) && decide (k < l.length) && decide (Region.ready md l.toArray listed = [i, j, k]) && decide (listed.setIfInBounds i true = li) && decide (listed.setIfInBounds j true = lj) && decide (listed.setIfInBounds k true = lk)) = true)
    (h3 : wpList P l.toArray (soleQ C (wpAnyC P md l.toArray C Q fuel lk)) [l.getD k default] a w)
    (h2 : wpList P l.toArray (soleQ C (wpAnyC P md l.toArray C Q fuel lj)) [l.getD j default] a w)
    (h1 : wpList P l.toArray (soleQ C (wpAnyC P md l.toArray C Q fuel li)) [l.getD i default] a w) : wpAnyC P md l.toArray C Q (fuel + 1) listed a w := by
  simp only [Bool.and_eq_true, decide_eq_true_eq] at hB
  obtain ⟨⟨⟨⟨⟨⟨hi, hj⟩, hk⟩, hr⟩, rfl⟩, rfl⟩, rfl⟩ := hB
  refine ⟨fun hn => (by rw [hr] at hn; cases hn), fun m hm => ?_⟩
  rw [hr] at hm
  simp only [List.mem_cons, List.not_mem_nil, or_false] at hm
  rcases hm with rfl | rfl | rfl
  · exact opC_of_sole m (by simp [hi]) h1
  · exact opC_of_sole m (by simp [hj]) h2
  · exact opC_of_sole m (by simp [hk]) h3
/-- The class may be narrowed on the way. -/
theorem anyC_sub {Q : Act → World → Prop} (hs : ∀ w, C' w → C w) : ∀ (fuel : Nat) (listed : Array Bool) (a : Act) (w : World), wpAnyC P md ops C' Q fuel listed a w → wpAnyC P md ops C Q fuel listed a w
  | 0, _, _, _, h => h
  | fuel + 1, _, _, w, h => ⟨h.1, fun i hi => by
      have h1 := h.2 i hi
      unfold opC at h1 ⊢
      split
      · rename_i ho; simp only [ho] at h1; exact anyC_sub hs fuel _ _ _ h1
      · rename_i o ho
        simp only [ho] at h1
        split
        · rename_i hw
          simp only [hw, if_true] at h1
          exact Oper.wp_mono (fun a w ⟨c, k⟩ => ⟨hs _ c, anyC_sub hs fuel _ a w k⟩) h1
        · rename_i hw; simp only [hw] at h1; exact anyC_sub hs fuel _ _ _ h1⟩
end
theorem viaI {G : Prop} {F : Nat → Nat → Int → Nat → Int → Int → Int → World → Prop} (Facts : Nat → Nat → Int → Nat → Int → Int → Int → World → Prop)
    (h1 : (∀ g b x1 m e x8 x10 W, Facts g b x1 m e x8 x10 W → F g b x1 m e x8 x10 W) → G) (h2 : ∀ g b x1 m e x8 x10 W, Facts g b x1 m e x8 x10 W → F g b x1 m e x8 x10 W) : G := h1 h2
/-- A cursor, the slot of the result, and the box of a struct in the making. -/
def PS (w W : World) (p r b : Nat) (z cs : List Value) : Prop := Cur W p ∧ Box W r z ∧ Box W b cs ∧ Upd [p] w W ∧ w.heap.size ≤ r ∧ r ≠ b ∧ p < w.heap.size ∧ w.heap.size ≤ b
theorem PS.step {w W W' : World} {p r b : Nat} {z cs : List Value} (h : PS w W p r b z cs) (hC : Cur W' p) (hU : Upd [p] W W') : PS w W' p r b z cs := by
  obtain ⟨h1, h2, h3, h4, h5, h6, h7, h8⟩ := h
  exact ⟨hC, h2.upd hU (by simp; omega), h3.upd hU (by simp; omega), h4.same hU, h5, h6, h7, h8⟩
theorem PS.grow {w W W' : World} {p r b : Nat} {z cs : List Value} (h : PS w W p r b z cs) (g : Grow W W') : PS w W' p r b z cs :=
  h.step (h.1.grow g) (g.upd [p])
theorem PS.set {w W : World} {p r b : Nat} {z cs : List Value} (h : PS w W p r b z cs) (j : Nat) (x : Value) (hj : j < cs.length) : PS w (W.setCell ⟨b, j, none⟩ x) p r b z (cs.set j x) := by
  obtain ⟨h1, h2, h3, h4, h5, h6, h7, h8⟩ := h
  have hu : Upd [b] W (W.setCell ⟨b, j, none⟩ x) := Upd.setCell (p := ⟨b, j, none⟩) (Upd.refl [b] W) (by simp) x
  exact ⟨h1.upd hu (by simp; omega), h2.upd hu (by simp; omega), h3.set j x hj, h4.fresh_ hu (by simp; omega), h5, h6, h7, h8⟩
/-- Blocks of their own. -/
def FA (p r b : Nat) (fp : List Nat) : Prop := ∀ x ∈ fp, x ≠ p ∧ x ≠ r ∧ x ≠ b
theorem PS.apart {w W W' : World} {p r b j : Nat} {z cs : List Value} (h : PS w W p r b z cs) {v : Value} {zs : List Int} {fp : List Nat} (O : OwnB W v zs fp) (F : FA p r b fp) (x : Value) : OwnB (W.setCell ⟨b, j, none⟩ x) v zs fp :=
  O.upd (Upd.setCell (p := ⟨b, j, none⟩) (Upd.refl [b] W) (by simp) x) (fun y hy hm => by have := F y hy; simp only [List.mem_cons, List.not_mem_nil, or_false] at hm; exact this.2.2 hm)
theorem PS.keep {w W W' : World} {p r b : Nat} {z cs : List Value} (h : PS w W p r b z cs) {v : Value} {zs : List Int} {fp : List Nat} (O : OwnB W v zs fp) (F : FA p r b fp) (hU : Upd [p] W W') : OwnB W' v zs fp :=
  O.upd hU (fun y hy hm => by have := F y hy; simp only [List.mem_cons, List.not_mem_nil, or_false] at hm; exact this.1 hm)
--% ret Ip
def RetIpD (w : World) (p : Nat) (e : Ending) (w' : World) : Prop := ∃ v d fp, e = .returned v ∧ OwnIp w' v d fp ∧ Fresh w fp ∧ WfIp d ∧ d.data.length ≤ 1481 ∧ Cur w' p ∧ Upd [p] w w'
theorem PS.retIp {w W : World} {p r b : Nat} {z cs : List Value} (h : PS w W p r b z cs) {sl : Value} {zs : List Int} {fp : List Nat} (O : OwnB W sl zs fp) (F : FA p r b fp)
    (hfr : Fresh w fp) (hb : Bytes zs) (hl : zs.length ≤ 1481) (t pr s dd : Int) (h1 : I64 t) (h2 : I64 pr) (h3 : I64 s) (h4 : I64 dd) :
    ∀ W', Upd [r] W W' → RetIpD w p (.returned (.agg #[.int .i64 t, .int .i64 pr, .int .i64 s, .int .i64 dd, sl])) W' := by
  intro W' hu
  obtain ⟨k1, k2, k3, k4, k5, k6, k7, k8⟩ := h
  refine ⟨_, ⟨t, pr, s, dd, zs⟩, fp, rfl, ⟨_, rfl, O.upd hu (fun y hy hm => by have := F y hy; simp only [List.mem_cons, List.not_mem_nil, or_false] at hm; omega)⟩, hfr, ⟨h1, h2, h3, h4, hb⟩, hl, k1.upd hu (by simp; omega), k4.fresh_ hu (by simp; omega)⟩
--% l03Ip 106
set_option maxRecDepth 20000 in
set_option maxHeartbeats 4000000 in
theorem l03Ip_any (w : World) (p : Nat) (hc : Cur w p) : Calls Try.prog 106 #[.pointer (some ⟨p, 0, none⟩)] w (RetIpD w p) := by
  have HC := Lib.hid hc; clear hc
  go_enter Try.func106, Try.ntmps106
  go_wp2_with fail
  have CW := Lib.hid (HC.out.grow (Grow.alloc w (.cells #[.int .i64 0, .int .i64 0, .int .i64 0, .int .i64 0, .slice none 0 0] 47)))
  have BR := Lib.hid (Box.alloc w [.int .i64 0, .int .i64 0, .int .i64 0, .int .i64 0, .slice none 0 0] 47)
  have U0 := Lib.hid ((Grow.alloc w (.cells #[.int .i64 0, .int .i64 0, .int .i64 0, .int .i64 0, .slice none 0 0] 47)).upd [p])
  have PW : Hid (p < w.heap.size) := Lib.hid HC.out.lt
  generalize w.alloc (.cells #[.int .i64 0, .int .i64 0, .int .i64 0, .int .i64 0, .slice none 0 0] 47) = w2 at *
  obtain ⟨R, hR⟩ : ∃ R, w.heap.size = R := ⟨_, rfl⟩
  rw [hR] at BR ⊢
  have HRR := Lib.hid hR
  clear hR
  have PR : Hid (p < R) := Lib.hid (by have := PW.out; have := HRR.out; omega)
  have hne : Nonempty (Cl (fun _ => True)) := ⟨⟨w2, trivial⟩⟩
  have UD := Lib.hid ((Grow.drewN w2 1).upd [p])
  have CD := Lib.hid (CW.out.grow (Grow.drewN w2 1))
  refine wp_region_mix (Cls (fun _ => True)) 14 #[false, false, false, false, false, false, false, false, false, false, false, false, false, false] (by kernel_rfl) (by kernel_rfl) ⟨⟨_, trivial⟩, rfl⟩ ?_
  refine anyC_seg [0, 3, 7, 9] #[true, false, false, true, false, false, false, true, false, true, false, false, false, false] (fuel := 10) rfl (by kernel_rfl) ⟨⟨_, trivial⟩, rfl⟩ ?_
  simp only [pickOps, List.getD_cons_succ, List.getD_cons_zero]
  repeat (go_big_quiet_step (fail))
  refine wpQuiet_nil ?_
  apply viaI (fun g b x1 m e x8 x10 W => Box W g [.int .i64 6, .int .i64 17, .int .i64 1, .int .i64 255, .int .i64 0] ∧ g ≠ b ∧ Cur W p ∧ Box W R [.int .i64 0, .int .i64 0, .int .i64 0, .int .i64 0, .slice none 0 0] ∧ Box W b [.int .i64 0, .int .i64 0, .int .i64 0, .int .i64 0, .slice none 0 0] ∧ Upd [p] w2 W ∧ R < b ∧ (0 ≤ x1 ∧ x1 < 256) ∧ I64 e ∧ (0 ≤ x8 ∧ x8 < 9) ∧ (0 ≤ x10 ∧ x10 < 9))
  · intro J
    refine anyC_three 1 2 12 #[true, true, false, true, false, false, false, true, false, true, false, false, false, false] #[true, false, true, true, false, false, false, true, false, true, false, false, false, false] #[true, false, false, true, false, false, false, true, false, true, false, false, true, false] (fuel := 9) (by kernel_rfl) ?_ ?_ ?_
    · simp only [List.getD_cons_succ, List.getD_cons_zero]
      go_wp2
      have ga11 := Grow.alloc (w2.drewN 1) (.cells #[.int .i64 0, .int .i64 0, .int .i64 0, .int .i64 0, .slice none 0 0] 47)
      have C11 := Lib.hid (CD.out.grow ga11); have U11 := Lib.hid (UD.out.grow_ ga11)
      have B11 : Hid (Box ((w2.drewN 1).alloc (.cells #[.int .i64 0, .int .i64 0, .int .i64 0, .int .i64 0, .slice none 0 0] 47)) (w2.drewN 1).heap.size [.int .i64 0, .int .i64 0, .int .i64 0, .int .i64 0, .slice none 0 0] ∧ R < (w2.drewN 1).heap.size) := Lib.hid ⟨Box.alloc (w2.drewN 1) [.int .i64 0, .int .i64 0, .int .i64 0, .int .i64 0, .slice none 0 0] 47, (BR.out.upd UD.out (by have := PR.out; simp; omega)).1⟩
      refine ⟨⟨⟨_, trivial⟩, rfl⟩, ?_⟩
      clear ga11
      generalize (w2.drewN 1).alloc (.cells #[.int .i64 0, .int .i64 0, .int .i64 0, .int .i64 0, .slice none 0 0] 47) = w11 at *
      generalize hg11 : w2.heap.size = g11
      replace B11 := Lib.hid (hg11 ▸ B11.out)
      refine anyC_two_ 1 2 #[true, true, false, true, false, false, false, true, false, true, false, false, true, false] #[true, false, true, true, false, false, false, true, false, true, false, false, true, false] (fuel := 8) (by kernel_rfl) ?_ ?_
      · simp only [List.getD_cons_succ, List.getD_cons_zero]
        go_wp2
        have ga12 := Grow.alloc w11 (.cells #[.int .i64 6, .int .i64 17, .int .i64 1, .int .i64 255, .int .i64 0] 3)
        have C12 := Lib.hid (C11.out.grow ga12); have U12 := Lib.hid (U11.out.grow_ ga12)
        have G12 : Hid (Box (w11.alloc (.cells #[.int .i64 6, .int .i64 17, .int .i64 1, .int .i64 255, .int .i64 0] 3)) w11.heap.size [.int .i64 6, .int .i64 17, .int .i64 1, .int .i64 255, .int .i64 0] ∧ p < w11.heap.size) := Lib.hid ⟨Box.alloc w11 [.int .i64 6, .int .i64 17, .int .i64 1, .int .i64 255, .int .i64 0] 3, C11.out.lt⟩
        have B12 : Hid (Box (w11.alloc (.cells #[.int .i64 6, .int .i64 17, .int .i64 1, .int .i64 255, .int .i64 0] 3)) g11 [.int .i64 0, .int .i64 0, .int .i64 0, .int .i64 0, .slice none 0 0] ∧ R < g11) := Lib.hid ⟨B11.out.1.grow ga12, B11.out.2⟩
        have GB : Hid (w11.heap.size ≠ g11) := Lib.hid (Nat.ne_of_gt B11.out.1.1)
        refine ⟨⟨⟨_, trivial⟩, rfl⟩, ?_⟩
        clear ga12
        generalize w11.alloc (.cells #[.int .i64 6, .int .i64 17, .int .i64 1, .int .i64 255, .int .i64 0] 3) = w12 at *
        generalize hg12 : w11.heap.size = g12
        replace G12 := Lib.hid (hg12 ▸ G12.out)
        replace GB := Lib.hid (hg12 ▸ GB.out)
        refine anyC_sole 1 #[true, true, true, true, false, false, false, true, false, true, false, false, true, false] (fuel := 7) (by kernel_rfl) ?_
        simp only [List.getD_cons_succ, List.getD_cons_zero]
        go_wp2_with fail
        refine (l01Below_any _ p 256 (by decide) C12.out).mono ?_
        rintro e w13 ⟨x13, rfl, h13a, h13b, -, hC, hU⟩
        have h13b := h13b (by decide)
        have C13 := Lib.hid hC; have U13 := Lib.hid (U12.out.same hU)
        have G13 : Hid (Box w13 g12 [.int .i64 6, .int .i64 17, .int .i64 1, .int .i64 255, .int .i64 0] ∧ p < g12) := Lib.hid ⟨G12.out.1.upd hU (by have := G12.out.2; simp; omega), G12.out.2⟩
        have B13 : Hid (Box w13 g11 [.int .i64 0, .int .i64 0, .int .i64 0, .int .i64 0, .slice none 0 0] ∧ R < g11) := Lib.hid ⟨B12.out.1.upd hU (by have := B12.out.2; have := PR.out; simp; omega), B12.out.2⟩
        clear hC hU
        go_wp2
        refine ⟨⟨⟨_, trivial⟩, rfl⟩, ?_⟩
        refine anyC_sole 4 #[true, true, true, true, true, false, false, true, false, true, false, false, true, false] (fuel := 6) (by kernel_rfl) ?_
        simp only [List.getD_cons_succ, List.getD_cons_zero]
        go_wp2_with fail
        refine (l01Below_any _ p 5 (by decide) C13.out).mono ?_
        rintro e w14 ⟨x14, rfl, h14a, h14b, -, hC, hU⟩
        have h14b := h14b (by decide)
        have C14 := Lib.hid hC; have U14 := Lib.hid (U13.out.same hU)
        have G14 : Hid (Box w14 g12 [.int .i64 6, .int .i64 17, .int .i64 1, .int .i64 255, .int .i64 0] ∧ p < g12) := Lib.hid ⟨G13.out.1.upd hU (by have := G13.out.2; simp; omega), G13.out.2⟩
        have B14 : Hid (Box w14 g11 [.int .i64 0, .int .i64 0, .int .i64 0, .int .i64 0, .slice none 0 0] ∧ R < g11) := Lib.hid ⟨B13.out.1.upd hU (by have := B13.out.2; have := PR.out; simp; omega), B13.out.2⟩
        obtain ⟨m14, rfl⟩ := Int.eq_ofNat_of_zero_le h14a
        clear hC hU
        go_wp2
        refine ⟨⟨⟨_, trivial⟩, rfl⟩, ?_⟩
        refine anyC_sub (C' := Cls (fun W => Box W g12 [.int .i64 6, .int .i64 17, .int .i64 1, .int .i64 255, .int .i64 0])) (fun W h => ⟨⟨W, trivial⟩, rfl⟩) _ _ _ _ ?_
        obtain ⟨e15, he15, hi15⟩ : ∃ e : Int, ([.int .i64 6, .int .i64 17, .int .i64 1, .int .i64 255, .int .i64 0] : List Value)[m14]? = some (.int .i64 e) ∧ I64 e := by
          have : m14 = 0 ∨ m14 = 1 ∨ m14 = 2 ∨ m14 = 3 ∨ m14 = 4 := by omega
          rcases this with rfl | rfl | rfl | rfl | rfl <;> exact ⟨_, rfl, by unfold I64; omega⟩
        have hne15 : Nonempty (Cl (fun W => Box W g12 [.int .i64 6, .int .i64 17, .int .i64 1, .int .i64 255, .int .i64 0])) := ⟨⟨_, G14.out.1⟩⟩
        have HI15 := Lib.hid hi15
        have hcl15 : ∀ x : Cl (fun W => Box W g12 [.int .i64 6, .int .i64 17, .int .i64 1, .int .i64 255, .int .i64 0]), x.w.cell? ⟨g12, m14, none⟩ = some (.int .i64 e15) := fun x => x.ok.2.1 m14 _ he15
        refine anyC_seg [5, 6] #[true, true, true, true, true, true, true, true, false, true, false, false, true, false] (fuel := 4) rfl (by kernel_rfl) ⟨⟨_, G14.out.1⟩, rfl⟩ ?_
        simp only [pickOps, List.getD_cons_succ, List.getD_cons_zero]
        repeat (go_big_quiet_step (fail))
        refine wpQuiet_nil ?_
        clear hcl15 he15 hi15
        refine anyC_sole 8 #[true, true, true, true, true, true, true, true, true, true, false, false, true, false] (fuel := 3) (by kernel_rfl) ?_
        simp only [List.getD_cons_succ, List.getD_cons_zero]
        go_wp2_with fail
        refine (l01Below_any _ p 9 (by decide) C14.out).mono ?_
        rintro e w16 ⟨x16, rfl, h16a, h16b, -, hC, hU⟩
        have h16b := h16b (by decide)
        have C16 := Lib.hid hC; have U16 := Lib.hid (U14.out.same hU)
        have G16 : Hid (Box w16 g12 [.int .i64 6, .int .i64 17, .int .i64 1, .int .i64 255, .int .i64 0] ∧ p < g12) := Lib.hid ⟨G14.out.1.upd hU (by have := G14.out.2; simp; omega), G14.out.2⟩
        have B16 : Hid (Box w16 g11 [.int .i64 0, .int .i64 0, .int .i64 0, .int .i64 0, .slice none 0 0] ∧ R < g11) := Lib.hid ⟨B14.out.1.upd hU (by have := B14.out.2; have := PR.out; simp; omega), B14.out.2⟩
        clear hC hU
        go_wp2
        refine ⟨⟨⟨_, G16.out.1⟩, rfl⟩, ?_⟩
        refine anyC_sole 10 #[true, true, true, true, true, true, true, true, true, true, true, false, true, false] (fuel := 2) (by kernel_rfl) ?_
        simp only [List.getD_cons_succ, List.getD_cons_zero]
        go_wp2_with fail
        refine (l01Below_any _ p 9 (by decide) C16.out).mono ?_
        rintro e w17 ⟨x17, rfl, h17a, h17b, -, hC, hU⟩
        have h17b := h17b (by decide)
        have C17 := Lib.hid hC; have U17 := Lib.hid (U16.out.same hU)
        have G17 : Hid (Box w17 g12 [.int .i64 6, .int .i64 17, .int .i64 1, .int .i64 255, .int .i64 0] ∧ p < g12) := Lib.hid ⟨G16.out.1.upd hU (by have := G16.out.2; simp; omega), G16.out.2⟩
        have B17 : Hid (Box w17 g11 [.int .i64 0, .int .i64 0, .int .i64 0, .int .i64 0, .slice none 0 0] ∧ R < g11) := Lib.hid ⟨B16.out.1.upd hU (by have := B16.out.2; have := PR.out; simp; omega), B16.out.2⟩
        clear hC hU
        go_wp2
        refine ⟨⟨⟨_, G17.out.1⟩, rfl⟩, ?_⟩
        refine anyC_seg [11] #[true, true, true, true, true, true, true, true, true, true, true, true, true, false] (fuel := 1) rfl (by kernel_rfl) ⟨⟨_, G17.out.1⟩, rfl⟩ ?_
        simp only [pickOps, List.getD_cons_succ, List.getD_cons_zero]
        repeat (go_big_quiet_step (fail))
        refine wpQuiet_nil ?_
        have BRX := Lib.hid (BR.out.upd U17.out (by have := PR.out; simp; omega))
        exact J g12 g11 x13 m14 e15 x16 x17 w17 ⟨G17.out.1, GB.out, C17.out, BRX.out, B17.out.1, U17.out, B17.out.2, ⟨h13a, h13b⟩, HI15.out, ⟨h16a, h16b⟩, ⟨h17a, h17b⟩⟩
      · simp only [List.getD_cons_succ, List.getD_cons_zero]
        go_wp2_with fail
        refine (l01Below_any _ p 256 (by decide) C11.out).mono ?_
        rintro e w18 ⟨x18, rfl, h18a, h18b, -, hC, hU⟩
        have h18b := h18b (by decide)
        have C18 := Lib.hid hC; have U18 := Lib.hid (U11.out.same hU)
        have B18 : Hid (Box w18 g11 [.int .i64 0, .int .i64 0, .int .i64 0, .int .i64 0, .slice none 0 0] ∧ R < g11) := Lib.hid ⟨B11.out.1.upd hU (by have := B11.out.2; have := PR.out; simp; omega), B11.out.2⟩
        clear hC hU
        go_wp2
        refine ⟨⟨⟨_, trivial⟩, rfl⟩, ?_⟩
        refine anyC_two_ 2 4 #[true, true, true, true, false, false, false, true, false, true, false, false, true, false] #[true, true, false, true, true, false, false, true, false, true, false, false, true, false] (fuel := 7) (by kernel_rfl) ?_ ?_
        · simp only [List.getD_cons_succ, List.getD_cons_zero]
          go_wp2_with fail
          refine (l01Below_any _ p 5 (by decide) C18.out).mono ?_
          rintro e w19 ⟨x19, rfl, h19a, h19b, -, hC, hU⟩
          have h19b := h19b (by decide)
          have C19 := Lib.hid hC; have U19 := Lib.hid (U18.out.same hU)
          have B19 : Hid (Box w19 g11 [.int .i64 0, .int .i64 0, .int .i64 0, .int .i64 0, .slice none 0 0] ∧ R < g11) := Lib.hid ⟨B18.out.1.upd hU (by have := B18.out.2; have := PR.out; simp; omega), B18.out.2⟩
          obtain ⟨m19, rfl⟩ := Int.eq_ofNat_of_zero_le h19a
          clear hC hU
          go_wp2
          refine ⟨⟨⟨_, trivial⟩, rfl⟩, ?_⟩
          refine anyC_two_ 2 8 #[true, true, true, true, true, false, false, true, false, true, false, false, true, false] #[true, true, false, true, true, false, false, true, true, true, false, false, true, false] (fuel := 6) (by kernel_rfl) ?_ ?_
          · simp only [List.getD_cons_succ, List.getD_cons_zero]
            go_wp2_with fail
            refine (l01Below_any _ p 9 (by decide) C19.out).mono ?_
            rintro e w20 ⟨x20, rfl, h20a, h20b, -, hC, hU⟩
            have h20b := h20b (by decide)
            have C20 := Lib.hid hC; have U20 := Lib.hid (U19.out.same hU)
            have B20 : Hid (Box w20 g11 [.int .i64 0, .int .i64 0, .int .i64 0, .int .i64 0, .slice none 0 0] ∧ R < g11) := Lib.hid ⟨B19.out.1.upd hU (by have := B19.out.2; have := PR.out; simp; omega), B19.out.2⟩
            clear hC hU
            go_wp2
            refine ⟨⟨⟨_, trivial⟩, rfl⟩, ?_⟩
            refine anyC_two_ 2 10 #[true, true, true, true, true, false, false, true, true, true, false, false, true, false] #[true, true, false, true, true, false, false, true, true, true, true, false, true, false] (fuel := 5) (by kernel_rfl) ?_ ?_
            · simp only [List.getD_cons_succ, List.getD_cons_zero]
              go_wp2_with fail
              refine (l01Below_any _ p 9 (by decide) C20.out).mono ?_
              rintro e w21 ⟨x21, rfl, h21a, h21b, -, hC, hU⟩
              have h21b := h21b (by decide)
              have C21 := Lib.hid hC; have U21 := Lib.hid (U20.out.same hU)
              have B21 : Hid (Box w21 g11 [.int .i64 0, .int .i64 0, .int .i64 0, .int .i64 0, .slice none 0 0] ∧ R < g11) := Lib.hid ⟨B20.out.1.upd hU (by have := B20.out.2; have := PR.out; simp; omega), B20.out.2⟩
              clear hC hU
              go_wp2
              refine ⟨⟨⟨_, trivial⟩, rfl⟩, ?_⟩
              refine anyC_sole 2 #[true, true, true, true, true, false, false, true, true, true, true, false, true, false] (fuel := 4) (by kernel_rfl) ?_
              simp only [List.getD_cons_succ, List.getD_cons_zero]
              go_wp2
              have ga22 := Grow.alloc w21 (.cells #[.int .i64 6, .int .i64 17, .int .i64 1, .int .i64 255, .int .i64 0] 3)
              have C22 := Lib.hid (C21.out.grow ga22); have U22 := Lib.hid (U21.out.grow_ ga22)
              have G22 : Hid (Box (w21.alloc (.cells #[.int .i64 6, .int .i64 17, .int .i64 1, .int .i64 255, .int .i64 0] 3)) w21.heap.size [.int .i64 6, .int .i64 17, .int .i64 1, .int .i64 255, .int .i64 0] ∧ p < w21.heap.size) := Lib.hid ⟨Box.alloc w21 [.int .i64 6, .int .i64 17, .int .i64 1, .int .i64 255, .int .i64 0] 3, C21.out.lt⟩
              have B22 : Hid (Box (w21.alloc (.cells #[.int .i64 6, .int .i64 17, .int .i64 1, .int .i64 255, .int .i64 0] 3)) g11 [.int .i64 0, .int .i64 0, .int .i64 0, .int .i64 0, .slice none 0 0] ∧ R < g11) := Lib.hid ⟨B21.out.1.grow ga22, B21.out.2⟩
              have GB : Hid (w21.heap.size ≠ g11) := Lib.hid (Nat.ne_of_gt B21.out.1.1)
              refine ⟨⟨⟨_, trivial⟩, rfl⟩, ?_⟩
              clear ga22
              generalize w21.alloc (.cells #[.int .i64 6, .int .i64 17, .int .i64 1, .int .i64 255, .int .i64 0] 3) = w22 at *
              generalize hg22 : w21.heap.size = g22
              replace G22 := Lib.hid (hg22 ▸ G22.out)
              replace GB := Lib.hid (hg22 ▸ GB.out)
              refine anyC_sub (C' := Cls (fun W => Box W g22 [.int .i64 6, .int .i64 17, .int .i64 1, .int .i64 255, .int .i64 0])) (fun W h => ⟨⟨W, trivial⟩, rfl⟩) _ _ _ _ ?_
              obtain ⟨e23, he23, hi23⟩ : ∃ e : Int, ([.int .i64 6, .int .i64 17, .int .i64 1, .int .i64 255, .int .i64 0] : List Value)[m19]? = some (.int .i64 e) ∧ I64 e := by
                have : m19 = 0 ∨ m19 = 1 ∨ m19 = 2 ∨ m19 = 3 ∨ m19 = 4 := by omega
                rcases this with rfl | rfl | rfl | rfl | rfl <;> exact ⟨_, rfl, by unfold I64; omega⟩
              have hne23 : Nonempty (Cl (fun W => Box W g22 [.int .i64 6, .int .i64 17, .int .i64 1, .int .i64 255, .int .i64 0])) := ⟨⟨_, G22.out.1⟩⟩
              have HI23 := Lib.hid hi23
              have hcl23 : ∀ x : Cl (fun W => Box W g22 [.int .i64 6, .int .i64 17, .int .i64 1, .int .i64 255, .int .i64 0]), x.w.cell? ⟨g22, m19, none⟩ = some (.int .i64 e23) := fun x => x.ok.2.1 m19 _ he23
              refine anyC_seg [5, 6] #[true, true, true, true, true, true, true, true, true, true, true, false, true, false] (fuel := 2) rfl (by kernel_rfl) ⟨⟨_, G22.out.1⟩, rfl⟩ ?_
              simp only [pickOps, List.getD_cons_succ, List.getD_cons_zero]
              repeat (go_big_quiet_step (fail))
              refine wpQuiet_nil ?_
              clear hcl23 he23 hi23
              refine anyC_seg [11] #[true, true, true, true, true, true, true, true, true, true, true, true, true, false] (fuel := 1) rfl (by kernel_rfl) ⟨⟨_, G22.out.1⟩, rfl⟩ ?_
              simp only [pickOps, List.getD_cons_succ, List.getD_cons_zero]
              repeat (go_big_quiet_step (fail))
              refine wpQuiet_nil ?_
              have BRX := Lib.hid (BR.out.upd U22.out (by have := PR.out; simp; omega))
              exact J g22 g11 x18 m19 e23 x20 x21 w22 ⟨G22.out.1, GB.out, C22.out, BRX.out, B22.out.1, U22.out, B22.out.2, ⟨h18a, h18b⟩, HI23.out, ⟨h20a, h20b⟩, ⟨h21a, h21b⟩⟩
            · simp only [List.getD_cons_succ, List.getD_cons_zero]
              go_wp2
              have ga24 := Grow.alloc w20 (.cells #[.int .i64 6, .int .i64 17, .int .i64 1, .int .i64 255, .int .i64 0] 3)
              have C24 := Lib.hid (C20.out.grow ga24); have U24 := Lib.hid (U20.out.grow_ ga24)
              have G24 : Hid (Box (w20.alloc (.cells #[.int .i64 6, .int .i64 17, .int .i64 1, .int .i64 255, .int .i64 0] 3)) w20.heap.size [.int .i64 6, .int .i64 17, .int .i64 1, .int .i64 255, .int .i64 0] ∧ p < w20.heap.size) := Lib.hid ⟨Box.alloc w20 [.int .i64 6, .int .i64 17, .int .i64 1, .int .i64 255, .int .i64 0] 3, C20.out.lt⟩
              have B24 : Hid (Box (w20.alloc (.cells #[.int .i64 6, .int .i64 17, .int .i64 1, .int .i64 255, .int .i64 0] 3)) g11 [.int .i64 0, .int .i64 0, .int .i64 0, .int .i64 0, .slice none 0 0] ∧ R < g11) := Lib.hid ⟨B20.out.1.grow ga24, B20.out.2⟩
              have GB : Hid (w20.heap.size ≠ g11) := Lib.hid (Nat.ne_of_gt B20.out.1.1)
              refine ⟨⟨⟨_, trivial⟩, rfl⟩, ?_⟩
              clear ga24
              generalize w20.alloc (.cells #[.int .i64 6, .int .i64 17, .int .i64 1, .int .i64 255, .int .i64 0] 3) = w24 at *
              generalize hg24 : w20.heap.size = g24
              replace G24 := Lib.hid (hg24 ▸ G24.out)
              replace GB := Lib.hid (hg24 ▸ GB.out)
              refine anyC_sub (C' := Cls (fun W => Box W g24 [.int .i64 6, .int .i64 17, .int .i64 1, .int .i64 255, .int .i64 0])) (fun W h => ⟨⟨W, trivial⟩, rfl⟩) _ _ _ _ ?_
              obtain ⟨e25, he25, hi25⟩ : ∃ e : Int, ([.int .i64 6, .int .i64 17, .int .i64 1, .int .i64 255, .int .i64 0] : List Value)[m19]? = some (.int .i64 e) ∧ I64 e := by
                have : m19 = 0 ∨ m19 = 1 ∨ m19 = 2 ∨ m19 = 3 ∨ m19 = 4 := by omega
                rcases this with rfl | rfl | rfl | rfl | rfl <;> exact ⟨_, rfl, by unfold I64; omega⟩
              have hne25 : Nonempty (Cl (fun W => Box W g24 [.int .i64 6, .int .i64 17, .int .i64 1, .int .i64 255, .int .i64 0])) := ⟨⟨_, G24.out.1⟩⟩
              have HI25 := Lib.hid hi25
              have hcl25 : ∀ x : Cl (fun W => Box W g24 [.int .i64 6, .int .i64 17, .int .i64 1, .int .i64 255, .int .i64 0]), x.w.cell? ⟨g24, m19, none⟩ = some (.int .i64 e25) := fun x => x.ok.2.1 m19 _ he25
              refine anyC_seg [5, 6] #[true, true, true, true, true, true, true, true, true, true, false, false, true, false] (fuel := 3) rfl (by kernel_rfl) ⟨⟨_, G24.out.1⟩, rfl⟩ ?_
              simp only [pickOps, List.getD_cons_succ, List.getD_cons_zero]
              repeat (go_big_quiet_step (fail))
              refine wpQuiet_nil ?_
              clear hcl25 he25 hi25
              refine anyC_sole 10 #[true, true, true, true, true, true, true, true, true, true, true, false, true, false] (fuel := 2) (by kernel_rfl) ?_
              simp only [List.getD_cons_succ, List.getD_cons_zero]
              go_wp2_with fail
              refine (l01Below_any _ p 9 (by decide) C24.out).mono ?_
              rintro e w26 ⟨x26, rfl, h26a, h26b, -, hC, hU⟩
              have h26b := h26b (by decide)
              have C26 := Lib.hid hC; have U26 := Lib.hid (U24.out.same hU)
              have G26 : Hid (Box w26 g24 [.int .i64 6, .int .i64 17, .int .i64 1, .int .i64 255, .int .i64 0] ∧ p < g24) := Lib.hid ⟨G24.out.1.upd hU (by have := G24.out.2; simp; omega), G24.out.2⟩
              have B26 : Hid (Box w26 g11 [.int .i64 0, .int .i64 0, .int .i64 0, .int .i64 0, .slice none 0 0] ∧ R < g11) := Lib.hid ⟨B24.out.1.upd hU (by have := B24.out.2; have := PR.out; simp; omega), B24.out.2⟩
              clear hC hU
              go_wp2
              refine ⟨⟨⟨_, G26.out.1⟩, rfl⟩, ?_⟩
              refine anyC_seg [11] #[true, true, true, true, true, true, true, true, true, true, true, true, true, false] (fuel := 1) rfl (by kernel_rfl) ⟨⟨_, G26.out.1⟩, rfl⟩ ?_
              simp only [pickOps, List.getD_cons_succ, List.getD_cons_zero]
              repeat (go_big_quiet_step (fail))
              refine wpQuiet_nil ?_
              have BRX := Lib.hid (BR.out.upd U26.out (by have := PR.out; simp; omega))
              exact J g24 g11 x18 m19 e25 x20 x26 w26 ⟨G26.out.1, GB.out, C26.out, BRX.out, B26.out.1, U26.out, B26.out.2, ⟨h18a, h18b⟩, HI25.out, ⟨h20a, h20b⟩, ⟨h26a, h26b⟩⟩
          · simp only [List.getD_cons_succ, List.getD_cons_zero]
            go_wp2
            have ga27 := Grow.alloc w19 (.cells #[.int .i64 6, .int .i64 17, .int .i64 1, .int .i64 255, .int .i64 0] 3)
            have C27 := Lib.hid (C19.out.grow ga27); have U27 := Lib.hid (U19.out.grow_ ga27)
            have G27 : Hid (Box (w19.alloc (.cells #[.int .i64 6, .int .i64 17, .int .i64 1, .int .i64 255, .int .i64 0] 3)) w19.heap.size [.int .i64 6, .int .i64 17, .int .i64 1, .int .i64 255, .int .i64 0] ∧ p < w19.heap.size) := Lib.hid ⟨Box.alloc w19 [.int .i64 6, .int .i64 17, .int .i64 1, .int .i64 255, .int .i64 0] 3, C19.out.lt⟩
            have B27 : Hid (Box (w19.alloc (.cells #[.int .i64 6, .int .i64 17, .int .i64 1, .int .i64 255, .int .i64 0] 3)) g11 [.int .i64 0, .int .i64 0, .int .i64 0, .int .i64 0, .slice none 0 0] ∧ R < g11) := Lib.hid ⟨B19.out.1.grow ga27, B19.out.2⟩
            have GB : Hid (w19.heap.size ≠ g11) := Lib.hid (Nat.ne_of_gt B19.out.1.1)
            refine ⟨⟨⟨_, trivial⟩, rfl⟩, ?_⟩
            clear ga27
            generalize w19.alloc (.cells #[.int .i64 6, .int .i64 17, .int .i64 1, .int .i64 255, .int .i64 0] 3) = w27 at *
            generalize hg27 : w19.heap.size = g27
            replace G27 := Lib.hid (hg27 ▸ G27.out)
            replace GB := Lib.hid (hg27 ▸ GB.out)
            refine anyC_sub (C' := Cls (fun W => Box W g27 [.int .i64 6, .int .i64 17, .int .i64 1, .int .i64 255, .int .i64 0])) (fun W h => ⟨⟨W, trivial⟩, rfl⟩) _ _ _ _ ?_
            obtain ⟨e28, he28, hi28⟩ : ∃ e : Int, ([.int .i64 6, .int .i64 17, .int .i64 1, .int .i64 255, .int .i64 0] : List Value)[m19]? = some (.int .i64 e) ∧ I64 e := by
              have : m19 = 0 ∨ m19 = 1 ∨ m19 = 2 ∨ m19 = 3 ∨ m19 = 4 := by omega
              rcases this with rfl | rfl | rfl | rfl | rfl <;> exact ⟨_, rfl, by unfold I64; omega⟩
            have hne28 : Nonempty (Cl (fun W => Box W g27 [.int .i64 6, .int .i64 17, .int .i64 1, .int .i64 255, .int .i64 0])) := ⟨⟨_, G27.out.1⟩⟩
            have HI28 := Lib.hid hi28
            have hcl28 : ∀ x : Cl (fun W => Box W g27 [.int .i64 6, .int .i64 17, .int .i64 1, .int .i64 255, .int .i64 0]), x.w.cell? ⟨g27, m19, none⟩ = some (.int .i64 e28) := fun x => x.ok.2.1 m19 _ he28
            refine anyC_seg [5, 6] #[true, true, true, true, true, true, true, true, false, true, false, false, true, false] (fuel := 4) rfl (by kernel_rfl) ⟨⟨_, G27.out.1⟩, rfl⟩ ?_
            simp only [pickOps, List.getD_cons_succ, List.getD_cons_zero]
            repeat (go_big_quiet_step (fail))
            refine wpQuiet_nil ?_
            clear hcl28 he28 hi28
            refine anyC_sole 8 #[true, true, true, true, true, true, true, true, true, true, false, false, true, false] (fuel := 3) (by kernel_rfl) ?_
            simp only [List.getD_cons_succ, List.getD_cons_zero]
            go_wp2_with fail
            refine (l01Below_any _ p 9 (by decide) C27.out).mono ?_
            rintro e w29 ⟨x29, rfl, h29a, h29b, -, hC, hU⟩
            have h29b := h29b (by decide)
            have C29 := Lib.hid hC; have U29 := Lib.hid (U27.out.same hU)
            have G29 : Hid (Box w29 g27 [.int .i64 6, .int .i64 17, .int .i64 1, .int .i64 255, .int .i64 0] ∧ p < g27) := Lib.hid ⟨G27.out.1.upd hU (by have := G27.out.2; simp; omega), G27.out.2⟩
            have B29 : Hid (Box w29 g11 [.int .i64 0, .int .i64 0, .int .i64 0, .int .i64 0, .slice none 0 0] ∧ R < g11) := Lib.hid ⟨B27.out.1.upd hU (by have := B27.out.2; have := PR.out; simp; omega), B27.out.2⟩
            clear hC hU
            go_wp2
            refine ⟨⟨⟨_, G29.out.1⟩, rfl⟩, ?_⟩
            refine anyC_sole 10 #[true, true, true, true, true, true, true, true, true, true, true, false, true, false] (fuel := 2) (by kernel_rfl) ?_
            simp only [List.getD_cons_succ, List.getD_cons_zero]
            go_wp2_with fail
            refine (l01Below_any _ p 9 (by decide) C29.out).mono ?_
            rintro e w30 ⟨x30, rfl, h30a, h30b, -, hC, hU⟩
            have h30b := h30b (by decide)
            have C30 := Lib.hid hC; have U30 := Lib.hid (U29.out.same hU)
            have G30 : Hid (Box w30 g27 [.int .i64 6, .int .i64 17, .int .i64 1, .int .i64 255, .int .i64 0] ∧ p < g27) := Lib.hid ⟨G29.out.1.upd hU (by have := G29.out.2; simp; omega), G29.out.2⟩
            have B30 : Hid (Box w30 g11 [.int .i64 0, .int .i64 0, .int .i64 0, .int .i64 0, .slice none 0 0] ∧ R < g11) := Lib.hid ⟨B29.out.1.upd hU (by have := B29.out.2; have := PR.out; simp; omega), B29.out.2⟩
            clear hC hU
            go_wp2
            refine ⟨⟨⟨_, G30.out.1⟩, rfl⟩, ?_⟩
            refine anyC_seg [11] #[true, true, true, true, true, true, true, true, true, true, true, true, true, false] (fuel := 1) rfl (by kernel_rfl) ⟨⟨_, G30.out.1⟩, rfl⟩ ?_
            simp only [pickOps, List.getD_cons_succ, List.getD_cons_zero]
            repeat (go_big_quiet_step (fail))
            refine wpQuiet_nil ?_
            have BRX := Lib.hid (BR.out.upd U30.out (by have := PR.out; simp; omega))
            exact J g27 g11 x18 m19 e28 x29 x30 w30 ⟨G30.out.1, GB.out, C30.out, BRX.out, B30.out.1, U30.out, B30.out.2, ⟨h18a, h18b⟩, HI28.out, ⟨h29a, h29b⟩, ⟨h30a, h30b⟩⟩
        · simp only [List.getD_cons_succ, List.getD_cons_zero]
          go_wp2
          have ga31 := Grow.alloc w18 (.cells #[.int .i64 6, .int .i64 17, .int .i64 1, .int .i64 255, .int .i64 0] 3)
          have C31 := Lib.hid (C18.out.grow ga31); have U31 := Lib.hid (U18.out.grow_ ga31)
          have G31 : Hid (Box (w18.alloc (.cells #[.int .i64 6, .int .i64 17, .int .i64 1, .int .i64 255, .int .i64 0] 3)) w18.heap.size [.int .i64 6, .int .i64 17, .int .i64 1, .int .i64 255, .int .i64 0] ∧ p < w18.heap.size) := Lib.hid ⟨Box.alloc w18 [.int .i64 6, .int .i64 17, .int .i64 1, .int .i64 255, .int .i64 0] 3, C18.out.lt⟩
          have B31 : Hid (Box (w18.alloc (.cells #[.int .i64 6, .int .i64 17, .int .i64 1, .int .i64 255, .int .i64 0] 3)) g11 [.int .i64 0, .int .i64 0, .int .i64 0, .int .i64 0, .slice none 0 0] ∧ R < g11) := Lib.hid ⟨B18.out.1.grow ga31, B18.out.2⟩
          have GB : Hid (w18.heap.size ≠ g11) := Lib.hid (Nat.ne_of_gt B18.out.1.1)
          refine ⟨⟨⟨_, trivial⟩, rfl⟩, ?_⟩
          clear ga31
          generalize w18.alloc (.cells #[.int .i64 6, .int .i64 17, .int .i64 1, .int .i64 255, .int .i64 0] 3) = w31 at *
          generalize hg31 : w18.heap.size = g31
          replace G31 := Lib.hid (hg31 ▸ G31.out)
          replace GB := Lib.hid (hg31 ▸ GB.out)
          refine anyC_sole 4 #[true, true, true, true, true, false, false, true, false, true, false, false, true, false] (fuel := 6) (by kernel_rfl) ?_
          simp only [List.getD_cons_succ, List.getD_cons_zero]
          go_wp2_with fail
          refine (l01Below_any _ p 5 (by decide) C31.out).mono ?_
          rintro e w32 ⟨x32, rfl, h32a, h32b, -, hC, hU⟩
          have h32b := h32b (by decide)
          have C32 := Lib.hid hC; have U32 := Lib.hid (U31.out.same hU)
          have G32 : Hid (Box w32 g31 [.int .i64 6, .int .i64 17, .int .i64 1, .int .i64 255, .int .i64 0] ∧ p < g31) := Lib.hid ⟨G31.out.1.upd hU (by have := G31.out.2; simp; omega), G31.out.2⟩
          have B32 : Hid (Box w32 g11 [.int .i64 0, .int .i64 0, .int .i64 0, .int .i64 0, .slice none 0 0] ∧ R < g11) := Lib.hid ⟨B31.out.1.upd hU (by have := B31.out.2; have := PR.out; simp; omega), B31.out.2⟩
          obtain ⟨m32, rfl⟩ := Int.eq_ofNat_of_zero_le h32a
          clear hC hU
          go_wp2
          refine ⟨⟨⟨_, trivial⟩, rfl⟩, ?_⟩
          refine anyC_sub (C' := Cls (fun W => Box W g31 [.int .i64 6, .int .i64 17, .int .i64 1, .int .i64 255, .int .i64 0])) (fun W h => ⟨⟨W, trivial⟩, rfl⟩) _ _ _ _ ?_
          obtain ⟨e33, he33, hi33⟩ : ∃ e : Int, ([.int .i64 6, .int .i64 17, .int .i64 1, .int .i64 255, .int .i64 0] : List Value)[m32]? = some (.int .i64 e) ∧ I64 e := by
            have : m32 = 0 ∨ m32 = 1 ∨ m32 = 2 ∨ m32 = 3 ∨ m32 = 4 := by omega
            rcases this with rfl | rfl | rfl | rfl | rfl <;> exact ⟨_, rfl, by unfold I64; omega⟩
          have hne33 : Nonempty (Cl (fun W => Box W g31 [.int .i64 6, .int .i64 17, .int .i64 1, .int .i64 255, .int .i64 0])) := ⟨⟨_, G32.out.1⟩⟩
          have HI33 := Lib.hid hi33
          have hcl33 : ∀ x : Cl (fun W => Box W g31 [.int .i64 6, .int .i64 17, .int .i64 1, .int .i64 255, .int .i64 0]), x.w.cell? ⟨g31, m32, none⟩ = some (.int .i64 e33) := fun x => x.ok.2.1 m32 _ he33
          refine anyC_seg [5, 6] #[true, true, true, true, true, true, true, true, false, true, false, false, true, false] (fuel := 4) rfl (by kernel_rfl) ⟨⟨_, G32.out.1⟩, rfl⟩ ?_
          simp only [pickOps, List.getD_cons_succ, List.getD_cons_zero]
          repeat (go_big_quiet_step (fail))
          refine wpQuiet_nil ?_
          clear hcl33 he33 hi33
          refine anyC_sole 8 #[true, true, true, true, true, true, true, true, true, true, false, false, true, false] (fuel := 3) (by kernel_rfl) ?_
          simp only [List.getD_cons_succ, List.getD_cons_zero]
          go_wp2_with fail
          refine (l01Below_any _ p 9 (by decide) C32.out).mono ?_
          rintro e w34 ⟨x34, rfl, h34a, h34b, -, hC, hU⟩
          have h34b := h34b (by decide)
          have C34 := Lib.hid hC; have U34 := Lib.hid (U32.out.same hU)
          have G34 : Hid (Box w34 g31 [.int .i64 6, .int .i64 17, .int .i64 1, .int .i64 255, .int .i64 0] ∧ p < g31) := Lib.hid ⟨G32.out.1.upd hU (by have := G32.out.2; simp; omega), G32.out.2⟩
          have B34 : Hid (Box w34 g11 [.int .i64 0, .int .i64 0, .int .i64 0, .int .i64 0, .slice none 0 0] ∧ R < g11) := Lib.hid ⟨B32.out.1.upd hU (by have := B32.out.2; have := PR.out; simp; omega), B32.out.2⟩
          clear hC hU
          go_wp2
          refine ⟨⟨⟨_, G34.out.1⟩, rfl⟩, ?_⟩
          refine anyC_sole 10 #[true, true, true, true, true, true, true, true, true, true, true, false, true, false] (fuel := 2) (by kernel_rfl) ?_
          simp only [List.getD_cons_succ, List.getD_cons_zero]
          go_wp2_with fail
          refine (l01Below_any _ p 9 (by decide) C34.out).mono ?_
          rintro e w35 ⟨x35, rfl, h35a, h35b, -, hC, hU⟩
          have h35b := h35b (by decide)
          have C35 := Lib.hid hC; have U35 := Lib.hid (U34.out.same hU)
          have G35 : Hid (Box w35 g31 [.int .i64 6, .int .i64 17, .int .i64 1, .int .i64 255, .int .i64 0] ∧ p < g31) := Lib.hid ⟨G34.out.1.upd hU (by have := G34.out.2; simp; omega), G34.out.2⟩
          have B35 : Hid (Box w35 g11 [.int .i64 0, .int .i64 0, .int .i64 0, .int .i64 0, .slice none 0 0] ∧ R < g11) := Lib.hid ⟨B34.out.1.upd hU (by have := B34.out.2; have := PR.out; simp; omega), B34.out.2⟩
          clear hC hU
          go_wp2
          refine ⟨⟨⟨_, G35.out.1⟩, rfl⟩, ?_⟩
          refine anyC_seg [11] #[true, true, true, true, true, true, true, true, true, true, true, true, true, false] (fuel := 1) rfl (by kernel_rfl) ⟨⟨_, G35.out.1⟩, rfl⟩ ?_
          simp only [pickOps, List.getD_cons_succ, List.getD_cons_zero]
          repeat (go_big_quiet_step (fail))
          refine wpQuiet_nil ?_
          have BRX := Lib.hid (BR.out.upd U35.out (by have := PR.out; simp; omega))
          exact J g31 g11 x18 m32 e33 x34 x35 w35 ⟨G35.out.1, GB.out, C35.out, BRX.out, B35.out.1, U35.out, B35.out.2, ⟨h18a, h18b⟩, HI33.out, ⟨h34a, h34b⟩, ⟨h35a, h35b⟩⟩
    · simp only [List.getD_cons_succ, List.getD_cons_zero]
      go_wp2
      have ga36 := Grow.alloc (w2.drewN 1) (.cells #[.int .i64 6, .int .i64 17, .int .i64 1, .int .i64 255, .int .i64 0] 3)
      have C36 := Lib.hid (CD.out.grow ga36); have U36 := Lib.hid (UD.out.grow_ ga36)
      have G36 : Hid (Box ((w2.drewN 1).alloc (.cells #[.int .i64 6, .int .i64 17, .int .i64 1, .int .i64 255, .int .i64 0] 3)) (w2.drewN 1).heap.size [.int .i64 6, .int .i64 17, .int .i64 1, .int .i64 255, .int .i64 0] ∧ p < (w2.drewN 1).heap.size) := Lib.hid ⟨Box.alloc (w2.drewN 1) [.int .i64 6, .int .i64 17, .int .i64 1, .int .i64 255, .int .i64 0] 3, CD.out.lt⟩
      refine ⟨⟨⟨_, trivial⟩, rfl⟩, ?_⟩
      clear ga36
      generalize (w2.drewN 1).alloc (.cells #[.int .i64 6, .int .i64 17, .int .i64 1, .int .i64 255, .int .i64 0] 3) = w36 at *
      generalize hg36 : w2.heap.size = g36
      replace G36 := Lib.hid (hg36 ▸ G36.out)
      refine anyC_two_ 1 12 #[true, true, true, true, false, false, false, true, false, true, false, false, false, false] #[true, false, true, true, false, false, false, true, false, true, false, false, true, false] (fuel := 8) (by kernel_rfl) ?_ ?_
      · simp only [List.getD_cons_succ, List.getD_cons_zero]
        go_wp2
        have ga37 := Grow.alloc w36 (.cells #[.int .i64 0, .int .i64 0, .int .i64 0, .int .i64 0, .slice none 0 0] 47)
        have C37 := Lib.hid (C36.out.grow ga37); have U37 := Lib.hid (U36.out.grow_ ga37)
        have B37 : Hid (Box (w36.alloc (.cells #[.int .i64 0, .int .i64 0, .int .i64 0, .int .i64 0, .slice none 0 0] 47)) w36.heap.size [.int .i64 0, .int .i64 0, .int .i64 0, .int .i64 0, .slice none 0 0] ∧ R < w36.heap.size) := Lib.hid ⟨Box.alloc w36 [.int .i64 0, .int .i64 0, .int .i64 0, .int .i64 0, .slice none 0 0] 47, (BR.out.upd U36.out (by have := PR.out; simp; omega)).1⟩
        have G37 : Hid (Box (w36.alloc (.cells #[.int .i64 0, .int .i64 0, .int .i64 0, .int .i64 0, .slice none 0 0] 47)) g36 [.int .i64 6, .int .i64 17, .int .i64 1, .int .i64 255, .int .i64 0] ∧ p < g36) := Lib.hid ⟨G36.out.1.grow ga37, G36.out.2⟩
        have GB : Hid (g36 ≠ w36.heap.size) := Lib.hid (Nat.ne_of_lt G36.out.1.1)
        refine ⟨⟨⟨_, trivial⟩, rfl⟩, ?_⟩
        clear ga37
        generalize w36.alloc (.cells #[.int .i64 0, .int .i64 0, .int .i64 0, .int .i64 0, .slice none 0 0] 47) = w37 at *
        generalize hg37 : w36.heap.size = g37
        replace B37 := Lib.hid (hg37 ▸ B37.out)
        replace GB := Lib.hid (hg37 ▸ GB.out)
        refine anyC_sole 1 #[true, true, true, true, false, false, false, true, false, true, false, false, true, false] (fuel := 7) (by kernel_rfl) ?_
        simp only [List.getD_cons_succ, List.getD_cons_zero]
        go_wp2_with fail
        refine (l01Below_any _ p 256 (by decide) C37.out).mono ?_
        rintro e w38 ⟨x38, rfl, h38a, h38b, -, hC, hU⟩
        have h38b := h38b (by decide)
        have C38 := Lib.hid hC; have U38 := Lib.hid (U37.out.same hU)
        have G38 : Hid (Box w38 g36 [.int .i64 6, .int .i64 17, .int .i64 1, .int .i64 255, .int .i64 0] ∧ p < g36) := Lib.hid ⟨G37.out.1.upd hU (by have := G37.out.2; simp; omega), G37.out.2⟩
        have B38 : Hid (Box w38 g37 [.int .i64 0, .int .i64 0, .int .i64 0, .int .i64 0, .slice none 0 0] ∧ R < g37) := Lib.hid ⟨B37.out.1.upd hU (by have := B37.out.2; have := PR.out; simp; omega), B37.out.2⟩
        clear hC hU
        go_wp2
        refine ⟨⟨⟨_, trivial⟩, rfl⟩, ?_⟩
        refine anyC_sole 4 #[true, true, true, true, true, false, false, true, false, true, false, false, true, false] (fuel := 6) (by kernel_rfl) ?_
        simp only [List.getD_cons_succ, List.getD_cons_zero]
        go_wp2_with fail
        refine (l01Below_any _ p 5 (by decide) C38.out).mono ?_
        rintro e w39 ⟨x39, rfl, h39a, h39b, -, hC, hU⟩
        have h39b := h39b (by decide)
        have C39 := Lib.hid hC; have U39 := Lib.hid (U38.out.same hU)
        have G39 : Hid (Box w39 g36 [.int .i64 6, .int .i64 17, .int .i64 1, .int .i64 255, .int .i64 0] ∧ p < g36) := Lib.hid ⟨G38.out.1.upd hU (by have := G38.out.2; simp; omega), G38.out.2⟩
        have B39 : Hid (Box w39 g37 [.int .i64 0, .int .i64 0, .int .i64 0, .int .i64 0, .slice none 0 0] ∧ R < g37) := Lib.hid ⟨B38.out.1.upd hU (by have := B38.out.2; have := PR.out; simp; omega), B38.out.2⟩
        obtain ⟨m39, rfl⟩ := Int.eq_ofNat_of_zero_le h39a
        clear hC hU
        go_wp2
        refine ⟨⟨⟨_, trivial⟩, rfl⟩, ?_⟩
        refine anyC_sub (C' := Cls (fun W => Box W g36 [.int .i64 6, .int .i64 17, .int .i64 1, .int .i64 255, .int .i64 0])) (fun W h => ⟨⟨W, trivial⟩, rfl⟩) _ _ _ _ ?_
        obtain ⟨e40, he40, hi40⟩ : ∃ e : Int, ([.int .i64 6, .int .i64 17, .int .i64 1, .int .i64 255, .int .i64 0] : List Value)[m39]? = some (.int .i64 e) ∧ I64 e := by
          have : m39 = 0 ∨ m39 = 1 ∨ m39 = 2 ∨ m39 = 3 ∨ m39 = 4 := by omega
          rcases this with rfl | rfl | rfl | rfl | rfl <;> exact ⟨_, rfl, by unfold I64; omega⟩
        have hne40 : Nonempty (Cl (fun W => Box W g36 [.int .i64 6, .int .i64 17, .int .i64 1, .int .i64 255, .int .i64 0])) := ⟨⟨_, G39.out.1⟩⟩
        have HI40 := Lib.hid hi40
        have hcl40 : ∀ x : Cl (fun W => Box W g36 [.int .i64 6, .int .i64 17, .int .i64 1, .int .i64 255, .int .i64 0]), x.w.cell? ⟨g36, m39, none⟩ = some (.int .i64 e40) := fun x => x.ok.2.1 m39 _ he40
        refine anyC_seg [5, 6] #[true, true, true, true, true, true, true, true, false, true, false, false, true, false] (fuel := 4) rfl (by kernel_rfl) ⟨⟨_, G39.out.1⟩, rfl⟩ ?_
        simp only [pickOps, List.getD_cons_succ, List.getD_cons_zero]
        repeat (go_big_quiet_step (fail))
        refine wpQuiet_nil ?_
        clear hcl40 he40 hi40
        refine anyC_sole 8 #[true, true, true, true, true, true, true, true, true, true, false, false, true, false] (fuel := 3) (by kernel_rfl) ?_
        simp only [List.getD_cons_succ, List.getD_cons_zero]
        go_wp2_with fail
        refine (l01Below_any _ p 9 (by decide) C39.out).mono ?_
        rintro e w41 ⟨x41, rfl, h41a, h41b, -, hC, hU⟩
        have h41b := h41b (by decide)
        have C41 := Lib.hid hC; have U41 := Lib.hid (U39.out.same hU)
        have G41 : Hid (Box w41 g36 [.int .i64 6, .int .i64 17, .int .i64 1, .int .i64 255, .int .i64 0] ∧ p < g36) := Lib.hid ⟨G39.out.1.upd hU (by have := G39.out.2; simp; omega), G39.out.2⟩
        have B41 : Hid (Box w41 g37 [.int .i64 0, .int .i64 0, .int .i64 0, .int .i64 0, .slice none 0 0] ∧ R < g37) := Lib.hid ⟨B39.out.1.upd hU (by have := B39.out.2; have := PR.out; simp; omega), B39.out.2⟩
        clear hC hU
        go_wp2
        refine ⟨⟨⟨_, G41.out.1⟩, rfl⟩, ?_⟩
        refine anyC_sole 10 #[true, true, true, true, true, true, true, true, true, true, true, false, true, false] (fuel := 2) (by kernel_rfl) ?_
        simp only [List.getD_cons_succ, List.getD_cons_zero]
        go_wp2_with fail
        refine (l01Below_any _ p 9 (by decide) C41.out).mono ?_
        rintro e w42 ⟨x42, rfl, h42a, h42b, -, hC, hU⟩
        have h42b := h42b (by decide)
        have C42 := Lib.hid hC; have U42 := Lib.hid (U41.out.same hU)
        have G42 : Hid (Box w42 g36 [.int .i64 6, .int .i64 17, .int .i64 1, .int .i64 255, .int .i64 0] ∧ p < g36) := Lib.hid ⟨G41.out.1.upd hU (by have := G41.out.2; simp; omega), G41.out.2⟩
        have B42 : Hid (Box w42 g37 [.int .i64 0, .int .i64 0, .int .i64 0, .int .i64 0, .slice none 0 0] ∧ R < g37) := Lib.hid ⟨B41.out.1.upd hU (by have := B41.out.2; have := PR.out; simp; omega), B41.out.2⟩
        clear hC hU
        go_wp2
        refine ⟨⟨⟨_, G42.out.1⟩, rfl⟩, ?_⟩
        refine anyC_seg [11] #[true, true, true, true, true, true, true, true, true, true, true, true, true, false] (fuel := 1) rfl (by kernel_rfl) ⟨⟨_, G42.out.1⟩, rfl⟩ ?_
        simp only [pickOps, List.getD_cons_succ, List.getD_cons_zero]
        repeat (go_big_quiet_step (fail))
        refine wpQuiet_nil ?_
        have BRX := Lib.hid (BR.out.upd U42.out (by have := PR.out; simp; omega))
        exact J g36 g37 x38 m39 e40 x41 x42 w42 ⟨G42.out.1, GB.out, C42.out, BRX.out, B42.out.1, U42.out, B42.out.2, ⟨h38a, h38b⟩, HI40.out, ⟨h41a, h41b⟩, ⟨h42a, h42b⟩⟩
      · simp only [List.getD_cons_succ, List.getD_cons_zero]
        go_wp2_with fail
        refine (l01Below_any _ p 256 (by decide) C36.out).mono ?_
        rintro e w43 ⟨x43, rfl, h43a, h43b, -, hC, hU⟩
        have h43b := h43b (by decide)
        have C43 := Lib.hid hC; have U43 := Lib.hid (U36.out.same hU)
        have G43 : Hid (Box w43 g36 [.int .i64 6, .int .i64 17, .int .i64 1, .int .i64 255, .int .i64 0] ∧ p < g36) := Lib.hid ⟨G36.out.1.upd hU (by have := G36.out.2; simp; omega), G36.out.2⟩
        clear hC hU
        go_wp2
        refine ⟨⟨⟨_, trivial⟩, rfl⟩, ?_⟩
        refine anyC_two_ 4 12 #[true, true, true, true, true, false, false, true, false, true, false, false, false, false] #[true, true, true, true, false, false, false, true, false, true, false, false, true, false] (fuel := 7) (by kernel_rfl) ?_ ?_
        · simp only [List.getD_cons_succ, List.getD_cons_zero]
          go_wp2
          have ga44 := Grow.alloc w43 (.cells #[.int .i64 0, .int .i64 0, .int .i64 0, .int .i64 0, .slice none 0 0] 47)
          have C44 := Lib.hid (C43.out.grow ga44); have U44 := Lib.hid (U43.out.grow_ ga44)
          have B44 : Hid (Box (w43.alloc (.cells #[.int .i64 0, .int .i64 0, .int .i64 0, .int .i64 0, .slice none 0 0] 47)) w43.heap.size [.int .i64 0, .int .i64 0, .int .i64 0, .int .i64 0, .slice none 0 0] ∧ R < w43.heap.size) := Lib.hid ⟨Box.alloc w43 [.int .i64 0, .int .i64 0, .int .i64 0, .int .i64 0, .slice none 0 0] 47, (BR.out.upd U43.out (by have := PR.out; simp; omega)).1⟩
          have G44 : Hid (Box (w43.alloc (.cells #[.int .i64 0, .int .i64 0, .int .i64 0, .int .i64 0, .slice none 0 0] 47)) g36 [.int .i64 6, .int .i64 17, .int .i64 1, .int .i64 255, .int .i64 0] ∧ p < g36) := Lib.hid ⟨G43.out.1.grow ga44, G43.out.2⟩
          have GB : Hid (g36 ≠ w43.heap.size) := Lib.hid (Nat.ne_of_lt G43.out.1.1)
          refine ⟨⟨⟨_, trivial⟩, rfl⟩, ?_⟩
          clear ga44
          generalize w43.alloc (.cells #[.int .i64 0, .int .i64 0, .int .i64 0, .int .i64 0, .slice none 0 0] 47) = w44 at *
          generalize hg44 : w43.heap.size = g44
          replace B44 := Lib.hid (hg44 ▸ B44.out)
          replace GB := Lib.hid (hg44 ▸ GB.out)
          refine anyC_sole 4 #[true, true, true, true, true, false, false, true, false, true, false, false, true, false] (fuel := 6) (by kernel_rfl) ?_
          simp only [List.getD_cons_succ, List.getD_cons_zero]
          go_wp2_with fail
          refine (l01Below_any _ p 5 (by decide) C44.out).mono ?_
          rintro e w45 ⟨x45, rfl, h45a, h45b, -, hC, hU⟩
          have h45b := h45b (by decide)
          have C45 := Lib.hid hC; have U45 := Lib.hid (U44.out.same hU)
          have G45 : Hid (Box w45 g36 [.int .i64 6, .int .i64 17, .int .i64 1, .int .i64 255, .int .i64 0] ∧ p < g36) := Lib.hid ⟨G44.out.1.upd hU (by have := G44.out.2; simp; omega), G44.out.2⟩
          have B45 : Hid (Box w45 g44 [.int .i64 0, .int .i64 0, .int .i64 0, .int .i64 0, .slice none 0 0] ∧ R < g44) := Lib.hid ⟨B44.out.1.upd hU (by have := B44.out.2; have := PR.out; simp; omega), B44.out.2⟩
          obtain ⟨m45, rfl⟩ := Int.eq_ofNat_of_zero_le h45a
          clear hC hU
          go_wp2
          refine ⟨⟨⟨_, trivial⟩, rfl⟩, ?_⟩
          refine anyC_sub (C' := Cls (fun W => Box W g36 [.int .i64 6, .int .i64 17, .int .i64 1, .int .i64 255, .int .i64 0])) (fun W h => ⟨⟨W, trivial⟩, rfl⟩) _ _ _ _ ?_
          obtain ⟨e46, he46, hi46⟩ : ∃ e : Int, ([.int .i64 6, .int .i64 17, .int .i64 1, .int .i64 255, .int .i64 0] : List Value)[m45]? = some (.int .i64 e) ∧ I64 e := by
            have : m45 = 0 ∨ m45 = 1 ∨ m45 = 2 ∨ m45 = 3 ∨ m45 = 4 := by omega
            rcases this with rfl | rfl | rfl | rfl | rfl <;> exact ⟨_, rfl, by unfold I64; omega⟩
          have hne46 : Nonempty (Cl (fun W => Box W g36 [.int .i64 6, .int .i64 17, .int .i64 1, .int .i64 255, .int .i64 0])) := ⟨⟨_, G45.out.1⟩⟩
          have HI46 := Lib.hid hi46
          have hcl46 : ∀ x : Cl (fun W => Box W g36 [.int .i64 6, .int .i64 17, .int .i64 1, .int .i64 255, .int .i64 0]), x.w.cell? ⟨g36, m45, none⟩ = some (.int .i64 e46) := fun x => x.ok.2.1 m45 _ he46
          refine anyC_seg [5, 6] #[true, true, true, true, true, true, true, true, false, true, false, false, true, false] (fuel := 4) rfl (by kernel_rfl) ⟨⟨_, G45.out.1⟩, rfl⟩ ?_
          simp only [pickOps, List.getD_cons_succ, List.getD_cons_zero]
          repeat (go_big_quiet_step (fail))
          refine wpQuiet_nil ?_
          clear hcl46 he46 hi46
          refine anyC_sole 8 #[true, true, true, true, true, true, true, true, true, true, false, false, true, false] (fuel := 3) (by kernel_rfl) ?_
          simp only [List.getD_cons_succ, List.getD_cons_zero]
          go_wp2_with fail
          refine (l01Below_any _ p 9 (by decide) C45.out).mono ?_
          rintro e w47 ⟨x47, rfl, h47a, h47b, -, hC, hU⟩
          have h47b := h47b (by decide)
          have C47 := Lib.hid hC; have U47 := Lib.hid (U45.out.same hU)
          have G47 : Hid (Box w47 g36 [.int .i64 6, .int .i64 17, .int .i64 1, .int .i64 255, .int .i64 0] ∧ p < g36) := Lib.hid ⟨G45.out.1.upd hU (by have := G45.out.2; simp; omega), G45.out.2⟩
          have B47 : Hid (Box w47 g44 [.int .i64 0, .int .i64 0, .int .i64 0, .int .i64 0, .slice none 0 0] ∧ R < g44) := Lib.hid ⟨B45.out.1.upd hU (by have := B45.out.2; have := PR.out; simp; omega), B45.out.2⟩
          clear hC hU
          go_wp2
          refine ⟨⟨⟨_, G47.out.1⟩, rfl⟩, ?_⟩
          refine anyC_sole 10 #[true, true, true, true, true, true, true, true, true, true, true, false, true, false] (fuel := 2) (by kernel_rfl) ?_
          simp only [List.getD_cons_succ, List.getD_cons_zero]
          go_wp2_with fail
          refine (l01Below_any _ p 9 (by decide) C47.out).mono ?_
          rintro e w48 ⟨x48, rfl, h48a, h48b, -, hC, hU⟩
          have h48b := h48b (by decide)
          have C48 := Lib.hid hC; have U48 := Lib.hid (U47.out.same hU)
          have G48 : Hid (Box w48 g36 [.int .i64 6, .int .i64 17, .int .i64 1, .int .i64 255, .int .i64 0] ∧ p < g36) := Lib.hid ⟨G47.out.1.upd hU (by have := G47.out.2; simp; omega), G47.out.2⟩
          have B48 : Hid (Box w48 g44 [.int .i64 0, .int .i64 0, .int .i64 0, .int .i64 0, .slice none 0 0] ∧ R < g44) := Lib.hid ⟨B47.out.1.upd hU (by have := B47.out.2; have := PR.out; simp; omega), B47.out.2⟩
          clear hC hU
          go_wp2
          refine ⟨⟨⟨_, G48.out.1⟩, rfl⟩, ?_⟩
          refine anyC_seg [11] #[true, true, true, true, true, true, true, true, true, true, true, true, true, false] (fuel := 1) rfl (by kernel_rfl) ⟨⟨_, G48.out.1⟩, rfl⟩ ?_
          simp only [pickOps, List.getD_cons_succ, List.getD_cons_zero]
          repeat (go_big_quiet_step (fail))
          refine wpQuiet_nil ?_
          have BRX := Lib.hid (BR.out.upd U48.out (by have := PR.out; simp; omega))
          exact J g36 g44 x43 m45 e46 x47 x48 w48 ⟨G48.out.1, GB.out, C48.out, BRX.out, B48.out.1, U48.out, B48.out.2, ⟨h43a, h43b⟩, HI46.out, ⟨h47a, h47b⟩, ⟨h48a, h48b⟩⟩
        · simp only [List.getD_cons_succ, List.getD_cons_zero]
          go_wp2_with fail
          refine (l01Below_any _ p 5 (by decide) C43.out).mono ?_
          rintro e w49 ⟨x49, rfl, h49a, h49b, -, hC, hU⟩
          have h49b := h49b (by decide)
          have C49 := Lib.hid hC; have U49 := Lib.hid (U43.out.same hU)
          have G49 : Hid (Box w49 g36 [.int .i64 6, .int .i64 17, .int .i64 1, .int .i64 255, .int .i64 0] ∧ p < g36) := Lib.hid ⟨G43.out.1.upd hU (by have := G43.out.2; simp; omega), G43.out.2⟩
          obtain ⟨m49, rfl⟩ := Int.eq_ofNat_of_zero_le h49a
          clear hC hU
          go_wp2
          refine ⟨⟨⟨_, trivial⟩, rfl⟩, ?_⟩
          refine anyC_sub (C' := Cls (fun W => Box W g36 [.int .i64 6, .int .i64 17, .int .i64 1, .int .i64 255, .int .i64 0])) (fun W h => ⟨⟨W, trivial⟩, rfl⟩) _ _ _ _ ?_
          obtain ⟨e50, he50, hi50⟩ : ∃ e : Int, ([.int .i64 6, .int .i64 17, .int .i64 1, .int .i64 255, .int .i64 0] : List Value)[m49]? = some (.int .i64 e) ∧ I64 e := by
            have : m49 = 0 ∨ m49 = 1 ∨ m49 = 2 ∨ m49 = 3 ∨ m49 = 4 := by omega
            rcases this with rfl | rfl | rfl | rfl | rfl <;> exact ⟨_, rfl, by unfold I64; omega⟩
          have hne50 : Nonempty (Cl (fun W => Box W g36 [.int .i64 6, .int .i64 17, .int .i64 1, .int .i64 255, .int .i64 0])) := ⟨⟨_, G49.out.1⟩⟩
          have HI50 := Lib.hid hi50
          have hcl50 : ∀ x : Cl (fun W => Box W g36 [.int .i64 6, .int .i64 17, .int .i64 1, .int .i64 255, .int .i64 0]), x.w.cell? ⟨g36, m49, none⟩ = some (.int .i64 e50) := fun x => x.ok.2.1 m49 _ he50
          refine anyC_seg [5, 6] #[true, true, true, true, true, true, true, true, false, true, false, false, false, false] (fuel := 5) rfl (by kernel_rfl) ⟨⟨_, G49.out.1⟩, rfl⟩ ?_
          simp only [pickOps, List.getD_cons_succ, List.getD_cons_zero]
          repeat (go_big_quiet_step (fail))
          refine wpQuiet_nil ?_
          clear hcl50 he50 hi50
          refine anyC_two_ 8 12 #[true, true, true, true, true, true, true, true, true, true, false, false, false, false] #[true, true, true, true, true, true, true, true, false, true, false, false, true, false] (fuel := 4) (by kernel_rfl) ?_ ?_
          · simp only [List.getD_cons_succ, List.getD_cons_zero]
            go_wp2
            have ga51 := Grow.alloc w49 (.cells #[.int .i64 0, .int .i64 0, .int .i64 0, .int .i64 0, .slice none 0 0] 47)
            have C51 := Lib.hid (C49.out.grow ga51); have U51 := Lib.hid (U49.out.grow_ ga51)
            have B51 : Hid (Box (w49.alloc (.cells #[.int .i64 0, .int .i64 0, .int .i64 0, .int .i64 0, .slice none 0 0] 47)) w49.heap.size [.int .i64 0, .int .i64 0, .int .i64 0, .int .i64 0, .slice none 0 0] ∧ R < w49.heap.size) := Lib.hid ⟨Box.alloc w49 [.int .i64 0, .int .i64 0, .int .i64 0, .int .i64 0, .slice none 0 0] 47, (BR.out.upd U49.out (by have := PR.out; simp; omega)).1⟩
            have G51 : Hid (Box (w49.alloc (.cells #[.int .i64 0, .int .i64 0, .int .i64 0, .int .i64 0, .slice none 0 0] 47)) g36 [.int .i64 6, .int .i64 17, .int .i64 1, .int .i64 255, .int .i64 0] ∧ p < g36) := Lib.hid ⟨G49.out.1.grow ga51, G49.out.2⟩
            have GB : Hid (g36 ≠ w49.heap.size) := Lib.hid (Nat.ne_of_lt G49.out.1.1)
            refine ⟨⟨⟨_, G51.out.1⟩, rfl⟩, ?_⟩
            clear ga51
            generalize w49.alloc (.cells #[.int .i64 0, .int .i64 0, .int .i64 0, .int .i64 0, .slice none 0 0] 47) = w51 at *
            generalize hg51 : w49.heap.size = g51
            replace B51 := Lib.hid (hg51 ▸ B51.out)
            replace GB := Lib.hid (hg51 ▸ GB.out)
            refine anyC_sole 8 #[true, true, true, true, true, true, true, true, true, true, false, false, true, false] (fuel := 3) (by kernel_rfl) ?_
            simp only [List.getD_cons_succ, List.getD_cons_zero]
            go_wp2_with fail
            refine (l01Below_any _ p 9 (by decide) C51.out).mono ?_
            rintro e w52 ⟨x52, rfl, h52a, h52b, -, hC, hU⟩
            have h52b := h52b (by decide)
            have C52 := Lib.hid hC; have U52 := Lib.hid (U51.out.same hU)
            have G52 : Hid (Box w52 g36 [.int .i64 6, .int .i64 17, .int .i64 1, .int .i64 255, .int .i64 0] ∧ p < g36) := Lib.hid ⟨G51.out.1.upd hU (by have := G51.out.2; simp; omega), G51.out.2⟩
            have B52 : Hid (Box w52 g51 [.int .i64 0, .int .i64 0, .int .i64 0, .int .i64 0, .slice none 0 0] ∧ R < g51) := Lib.hid ⟨B51.out.1.upd hU (by have := B51.out.2; have := PR.out; simp; omega), B51.out.2⟩
            clear hC hU
            go_wp2
            refine ⟨⟨⟨_, G52.out.1⟩, rfl⟩, ?_⟩
            refine anyC_sole 10 #[true, true, true, true, true, true, true, true, true, true, true, false, true, false] (fuel := 2) (by kernel_rfl) ?_
            simp only [List.getD_cons_succ, List.getD_cons_zero]
            go_wp2_with fail
            refine (l01Below_any _ p 9 (by decide) C52.out).mono ?_
            rintro e w53 ⟨x53, rfl, h53a, h53b, -, hC, hU⟩
            have h53b := h53b (by decide)
            have C53 := Lib.hid hC; have U53 := Lib.hid (U52.out.same hU)
            have G53 : Hid (Box w53 g36 [.int .i64 6, .int .i64 17, .int .i64 1, .int .i64 255, .int .i64 0] ∧ p < g36) := Lib.hid ⟨G52.out.1.upd hU (by have := G52.out.2; simp; omega), G52.out.2⟩
            have B53 : Hid (Box w53 g51 [.int .i64 0, .int .i64 0, .int .i64 0, .int .i64 0, .slice none 0 0] ∧ R < g51) := Lib.hid ⟨B52.out.1.upd hU (by have := B52.out.2; have := PR.out; simp; omega), B52.out.2⟩
            clear hC hU
            go_wp2
            refine ⟨⟨⟨_, G53.out.1⟩, rfl⟩, ?_⟩
            refine anyC_seg [11] #[true, true, true, true, true, true, true, true, true, true, true, true, true, false] (fuel := 1) rfl (by kernel_rfl) ⟨⟨_, G53.out.1⟩, rfl⟩ ?_
            simp only [pickOps, List.getD_cons_succ, List.getD_cons_zero]
            repeat (go_big_quiet_step (fail))
            refine wpQuiet_nil ?_
            have BRX := Lib.hid (BR.out.upd U53.out (by have := PR.out; simp; omega))
            exact J g36 g51 x43 m49 e50 x52 x53 w53 ⟨G53.out.1, GB.out, C53.out, BRX.out, B53.out.1, U53.out, B53.out.2, ⟨h43a, h43b⟩, HI50.out, ⟨h52a, h52b⟩, ⟨h53a, h53b⟩⟩
          · simp only [List.getD_cons_succ, List.getD_cons_zero]
            go_wp2_with fail
            refine (l01Below_any _ p 9 (by decide) C49.out).mono ?_
            rintro e w54 ⟨x54, rfl, h54a, h54b, -, hC, hU⟩
            have h54b := h54b (by decide)
            have C54 := Lib.hid hC; have U54 := Lib.hid (U49.out.same hU)
            have G54 : Hid (Box w54 g36 [.int .i64 6, .int .i64 17, .int .i64 1, .int .i64 255, .int .i64 0] ∧ p < g36) := Lib.hid ⟨G49.out.1.upd hU (by have := G49.out.2; simp; omega), G49.out.2⟩
            clear hC hU
            go_wp2
            refine ⟨⟨⟨_, G54.out.1⟩, rfl⟩, ?_⟩
            refine anyC_two_ 10 12 #[true, true, true, true, true, true, true, true, true, true, true, false, false, false] #[true, true, true, true, true, true, true, true, true, true, false, false, true, false] (fuel := 3) (by kernel_rfl) ?_ ?_
            · simp only [List.getD_cons_succ, List.getD_cons_zero]
              go_wp2
              have ga55 := Grow.alloc w54 (.cells #[.int .i64 0, .int .i64 0, .int .i64 0, .int .i64 0, .slice none 0 0] 47)
              have C55 := Lib.hid (C54.out.grow ga55); have U55 := Lib.hid (U54.out.grow_ ga55)
              have B55 : Hid (Box (w54.alloc (.cells #[.int .i64 0, .int .i64 0, .int .i64 0, .int .i64 0, .slice none 0 0] 47)) w54.heap.size [.int .i64 0, .int .i64 0, .int .i64 0, .int .i64 0, .slice none 0 0] ∧ R < w54.heap.size) := Lib.hid ⟨Box.alloc w54 [.int .i64 0, .int .i64 0, .int .i64 0, .int .i64 0, .slice none 0 0] 47, (BR.out.upd U54.out (by have := PR.out; simp; omega)).1⟩
              have G55 : Hid (Box (w54.alloc (.cells #[.int .i64 0, .int .i64 0, .int .i64 0, .int .i64 0, .slice none 0 0] 47)) g36 [.int .i64 6, .int .i64 17, .int .i64 1, .int .i64 255, .int .i64 0] ∧ p < g36) := Lib.hid ⟨G54.out.1.grow ga55, G54.out.2⟩
              have GB : Hid (g36 ≠ w54.heap.size) := Lib.hid (Nat.ne_of_lt G54.out.1.1)
              refine ⟨⟨⟨_, G55.out.1⟩, rfl⟩, ?_⟩
              clear ga55
              generalize w54.alloc (.cells #[.int .i64 0, .int .i64 0, .int .i64 0, .int .i64 0, .slice none 0 0] 47) = w55 at *
              generalize hg55 : w54.heap.size = g55
              replace B55 := Lib.hid (hg55 ▸ B55.out)
              replace GB := Lib.hid (hg55 ▸ GB.out)
              refine anyC_sole 10 #[true, true, true, true, true, true, true, true, true, true, true, false, true, false] (fuel := 2) (by kernel_rfl) ?_
              simp only [List.getD_cons_succ, List.getD_cons_zero]
              go_wp2_with fail
              refine (l01Below_any _ p 9 (by decide) C55.out).mono ?_
              rintro e w56 ⟨x56, rfl, h56a, h56b, -, hC, hU⟩
              have h56b := h56b (by decide)
              have C56 := Lib.hid hC; have U56 := Lib.hid (U55.out.same hU)
              have G56 : Hid (Box w56 g36 [.int .i64 6, .int .i64 17, .int .i64 1, .int .i64 255, .int .i64 0] ∧ p < g36) := Lib.hid ⟨G55.out.1.upd hU (by have := G55.out.2; simp; omega), G55.out.2⟩
              have B56 : Hid (Box w56 g55 [.int .i64 0, .int .i64 0, .int .i64 0, .int .i64 0, .slice none 0 0] ∧ R < g55) := Lib.hid ⟨B55.out.1.upd hU (by have := B55.out.2; have := PR.out; simp; omega), B55.out.2⟩
              clear hC hU
              go_wp2
              refine ⟨⟨⟨_, G56.out.1⟩, rfl⟩, ?_⟩
              refine anyC_seg [11] #[true, true, true, true, true, true, true, true, true, true, true, true, true, false] (fuel := 1) rfl (by kernel_rfl) ⟨⟨_, G56.out.1⟩, rfl⟩ ?_
              simp only [pickOps, List.getD_cons_succ, List.getD_cons_zero]
              repeat (go_big_quiet_step (fail))
              refine wpQuiet_nil ?_
              have BRX := Lib.hid (BR.out.upd U56.out (by have := PR.out; simp; omega))
              exact J g36 g55 x43 m49 e50 x54 x56 w56 ⟨G56.out.1, GB.out, C56.out, BRX.out, B56.out.1, U56.out, B56.out.2, ⟨h43a, h43b⟩, HI50.out, ⟨h54a, h54b⟩, ⟨h56a, h56b⟩⟩
            · simp only [List.getD_cons_succ, List.getD_cons_zero]
              go_wp2_with fail
              refine (l01Below_any _ p 9 (by decide) C54.out).mono ?_
              rintro e w57 ⟨x57, rfl, h57a, h57b, -, hC, hU⟩
              have h57b := h57b (by decide)
              have C57 := Lib.hid hC; have U57 := Lib.hid (U54.out.same hU)
              have G57 : Hid (Box w57 g36 [.int .i64 6, .int .i64 17, .int .i64 1, .int .i64 255, .int .i64 0] ∧ p < g36) := Lib.hid ⟨G54.out.1.upd hU (by have := G54.out.2; simp; omega), G54.out.2⟩
              clear hC hU
              go_wp2
              refine ⟨⟨⟨_, G57.out.1⟩, rfl⟩, ?_⟩
              refine anyC_seg [11] #[true, true, true, true, true, true, true, true, true, true, true, true, false, false] (fuel := 2) rfl (by kernel_rfl) ⟨⟨_, G57.out.1⟩, rfl⟩ ?_
              simp only [pickOps, List.getD_cons_succ, List.getD_cons_zero]
              repeat (go_big_quiet_step (fail))
              refine wpQuiet_nil ?_
              refine anyC_sole 12 #[true, true, true, true, true, true, true, true, true, true, true, true, true, false] (fuel := 1) (by kernel_rfl) ?_
              simp only [List.getD_cons_succ, List.getD_cons_zero]
              go_wp2
              have ga58 := Grow.alloc w57 (.cells #[.int .i64 0, .int .i64 0, .int .i64 0, .int .i64 0, .slice none 0 0] 47)
              have C58 := Lib.hid (C57.out.grow ga58); have U58 := Lib.hid (U57.out.grow_ ga58)
              have B58 : Hid (Box (w57.alloc (.cells #[.int .i64 0, .int .i64 0, .int .i64 0, .int .i64 0, .slice none 0 0] 47)) w57.heap.size [.int .i64 0, .int .i64 0, .int .i64 0, .int .i64 0, .slice none 0 0] ∧ R < w57.heap.size) := Lib.hid ⟨Box.alloc w57 [.int .i64 0, .int .i64 0, .int .i64 0, .int .i64 0, .slice none 0 0] 47, (BR.out.upd U57.out (by have := PR.out; simp; omega)).1⟩
              have G58 : Hid (Box (w57.alloc (.cells #[.int .i64 0, .int .i64 0, .int .i64 0, .int .i64 0, .slice none 0 0] 47)) g36 [.int .i64 6, .int .i64 17, .int .i64 1, .int .i64 255, .int .i64 0] ∧ p < g36) := Lib.hid ⟨G57.out.1.grow ga58, G57.out.2⟩
              have GB : Hid (g36 ≠ w57.heap.size) := Lib.hid (Nat.ne_of_lt G57.out.1.1)
              refine ⟨⟨⟨_, G58.out.1⟩, rfl⟩, ?_⟩
              clear ga58
              generalize w57.alloc (.cells #[.int .i64 0, .int .i64 0, .int .i64 0, .int .i64 0, .slice none 0 0] 47) = w58 at *
              generalize hg58 : w57.heap.size = g58
              replace B58 := Lib.hid (hg58 ▸ B58.out)
              replace GB := Lib.hid (hg58 ▸ GB.out)
              have BRX := Lib.hid (BR.out.upd U58.out (by have := PR.out; simp; omega))
              exact J g36 g58 x43 m49 e50 x54 x57 w58 ⟨G58.out.1, GB.out, C58.out, BRX.out, B58.out.1, U58.out, B58.out.2, ⟨h43a, h43b⟩, HI50.out, ⟨h54a, h54b⟩, ⟨h57a, h57b⟩⟩
    · simp only [List.getD_cons_succ, List.getD_cons_zero]
      go_wp2_with fail
      refine (l01Below_any _ p 256 (by decide) CD.out).mono ?_
      rintro e w59 ⟨x59, rfl, h59a, h59b, -, hC, hU⟩
      have h59b := h59b (by decide)
      have C59 := Lib.hid hC; have U59 := Lib.hid (UD.out.same hU)
      clear hC hU
      go_wp2
      refine ⟨⟨⟨_, trivial⟩, rfl⟩, ?_⟩
      refine anyC_three 2 4 12 #[true, true, true, true, false, false, false, true, false, true, false, false, false, false] #[true, true, false, true, true, false, false, true, false, true, false, false, false, false] #[true, true, false, true, false, false, false, true, false, true, false, false, true, false] (fuel := 8) (by kernel_rfl) ?_ ?_ ?_
      · simp only [List.getD_cons_succ, List.getD_cons_zero]
        go_wp2
        have ga60 := Grow.alloc w59 (.cells #[.int .i64 0, .int .i64 0, .int .i64 0, .int .i64 0, .slice none 0 0] 47)
        have C60 := Lib.hid (C59.out.grow ga60); have U60 := Lib.hid (U59.out.grow_ ga60)
        have B60 : Hid (Box (w59.alloc (.cells #[.int .i64 0, .int .i64 0, .int .i64 0, .int .i64 0, .slice none 0 0] 47)) w59.heap.size [.int .i64 0, .int .i64 0, .int .i64 0, .int .i64 0, .slice none 0 0] ∧ R < w59.heap.size) := Lib.hid ⟨Box.alloc w59 [.int .i64 0, .int .i64 0, .int .i64 0, .int .i64 0, .slice none 0 0] 47, (BR.out.upd U59.out (by have := PR.out; simp; omega)).1⟩
        refine ⟨⟨⟨_, trivial⟩, rfl⟩, ?_⟩
        clear ga60
        generalize w59.alloc (.cells #[.int .i64 0, .int .i64 0, .int .i64 0, .int .i64 0, .slice none 0 0] 47) = w60 at *
        generalize hg60 : w59.heap.size = g60
        replace B60 := Lib.hid (hg60 ▸ B60.out)
        refine anyC_two_ 2 4 #[true, true, true, true, false, false, false, true, false, true, false, false, true, false] #[true, true, false, true, true, false, false, true, false, true, false, false, true, false] (fuel := 7) (by kernel_rfl) ?_ ?_
        · simp only [List.getD_cons_succ, List.getD_cons_zero]
          go_wp2_with fail
          refine (l01Below_any _ p 5 (by decide) C60.out).mono ?_
          rintro e w61 ⟨x61, rfl, h61a, h61b, -, hC, hU⟩
          have h61b := h61b (by decide)
          have C61 := Lib.hid hC; have U61 := Lib.hid (U60.out.same hU)
          have B61 : Hid (Box w61 g60 [.int .i64 0, .int .i64 0, .int .i64 0, .int .i64 0, .slice none 0 0] ∧ R < g60) := Lib.hid ⟨B60.out.1.upd hU (by have := B60.out.2; have := PR.out; simp; omega), B60.out.2⟩
          obtain ⟨m61, rfl⟩ := Int.eq_ofNat_of_zero_le h61a
          clear hC hU
          go_wp2
          refine ⟨⟨⟨_, trivial⟩, rfl⟩, ?_⟩
          refine anyC_two_ 2 8 #[true, true, true, true, true, false, false, true, false, true, false, false, true, false] #[true, true, false, true, true, false, false, true, true, true, false, false, true, false] (fuel := 6) (by kernel_rfl) ?_ ?_
          · simp only [List.getD_cons_succ, List.getD_cons_zero]
            go_wp2_with fail
            refine (l01Below_any _ p 9 (by decide) C61.out).mono ?_
            rintro e w62 ⟨x62, rfl, h62a, h62b, -, hC, hU⟩
            have h62b := h62b (by decide)
            have C62 := Lib.hid hC; have U62 := Lib.hid (U61.out.same hU)
            have B62 : Hid (Box w62 g60 [.int .i64 0, .int .i64 0, .int .i64 0, .int .i64 0, .slice none 0 0] ∧ R < g60) := Lib.hid ⟨B61.out.1.upd hU (by have := B61.out.2; have := PR.out; simp; omega), B61.out.2⟩
            clear hC hU
            go_wp2
            refine ⟨⟨⟨_, trivial⟩, rfl⟩, ?_⟩
            refine anyC_two_ 2 10 #[true, true, true, true, true, false, false, true, true, true, false, false, true, false] #[true, true, false, true, true, false, false, true, true, true, true, false, true, false] (fuel := 5) (by kernel_rfl) ?_ ?_
            · simp only [List.getD_cons_succ, List.getD_cons_zero]
              go_wp2_with fail
              refine (l01Below_any _ p 9 (by decide) C62.out).mono ?_
              rintro e w63 ⟨x63, rfl, h63a, h63b, -, hC, hU⟩
              have h63b := h63b (by decide)
              have C63 := Lib.hid hC; have U63 := Lib.hid (U62.out.same hU)
              have B63 : Hid (Box w63 g60 [.int .i64 0, .int .i64 0, .int .i64 0, .int .i64 0, .slice none 0 0] ∧ R < g60) := Lib.hid ⟨B62.out.1.upd hU (by have := B62.out.2; have := PR.out; simp; omega), B62.out.2⟩
              clear hC hU
              go_wp2
              refine ⟨⟨⟨_, trivial⟩, rfl⟩, ?_⟩
              refine anyC_sole 2 #[true, true, true, true, true, false, false, true, true, true, true, false, true, false] (fuel := 4) (by kernel_rfl) ?_
              simp only [List.getD_cons_succ, List.getD_cons_zero]
              go_wp2
              have ga64 := Grow.alloc w63 (.cells #[.int .i64 6, .int .i64 17, .int .i64 1, .int .i64 255, .int .i64 0] 3)
              have C64 := Lib.hid (C63.out.grow ga64); have U64 := Lib.hid (U63.out.grow_ ga64)
              have G64 : Hid (Box (w63.alloc (.cells #[.int .i64 6, .int .i64 17, .int .i64 1, .int .i64 255, .int .i64 0] 3)) w63.heap.size [.int .i64 6, .int .i64 17, .int .i64 1, .int .i64 255, .int .i64 0] ∧ p < w63.heap.size) := Lib.hid ⟨Box.alloc w63 [.int .i64 6, .int .i64 17, .int .i64 1, .int .i64 255, .int .i64 0] 3, C63.out.lt⟩
              have B64 : Hid (Box (w63.alloc (.cells #[.int .i64 6, .int .i64 17, .int .i64 1, .int .i64 255, .int .i64 0] 3)) g60 [.int .i64 0, .int .i64 0, .int .i64 0, .int .i64 0, .slice none 0 0] ∧ R < g60) := Lib.hid ⟨B63.out.1.grow ga64, B63.out.2⟩
              have GB : Hid (w63.heap.size ≠ g60) := Lib.hid (Nat.ne_of_gt B63.out.1.1)
              refine ⟨⟨⟨_, trivial⟩, rfl⟩, ?_⟩
              clear ga64
              generalize w63.alloc (.cells #[.int .i64 6, .int .i64 17, .int .i64 1, .int .i64 255, .int .i64 0] 3) = w64 at *
              generalize hg64 : w63.heap.size = g64
              replace G64 := Lib.hid (hg64 ▸ G64.out)
              replace GB := Lib.hid (hg64 ▸ GB.out)
              refine anyC_sub (C' := Cls (fun W => Box W g64 [.int .i64 6, .int .i64 17, .int .i64 1, .int .i64 255, .int .i64 0])) (fun W h => ⟨⟨W, trivial⟩, rfl⟩) _ _ _ _ ?_
              obtain ⟨e65, he65, hi65⟩ : ∃ e : Int, ([.int .i64 6, .int .i64 17, .int .i64 1, .int .i64 255, .int .i64 0] : List Value)[m61]? = some (.int .i64 e) ∧ I64 e := by
                have : m61 = 0 ∨ m61 = 1 ∨ m61 = 2 ∨ m61 = 3 ∨ m61 = 4 := by omega
                rcases this with rfl | rfl | rfl | rfl | rfl <;> exact ⟨_, rfl, by unfold I64; omega⟩
              have hne65 : Nonempty (Cl (fun W => Box W g64 [.int .i64 6, .int .i64 17, .int .i64 1, .int .i64 255, .int .i64 0])) := ⟨⟨_, G64.out.1⟩⟩
              have HI65 := Lib.hid hi65
              have hcl65 : ∀ x : Cl (fun W => Box W g64 [.int .i64 6, .int .i64 17, .int .i64 1, .int .i64 255, .int .i64 0]), x.w.cell? ⟨g64, m61, none⟩ = some (.int .i64 e65) := fun x => x.ok.2.1 m61 _ he65
              refine anyC_seg [5, 6] #[true, true, true, true, true, true, true, true, true, true, true, false, true, false] (fuel := 2) rfl (by kernel_rfl) ⟨⟨_, G64.out.1⟩, rfl⟩ ?_
              simp only [pickOps, List.getD_cons_succ, List.getD_cons_zero]
              repeat (go_big_quiet_step (fail))
              refine wpQuiet_nil ?_
              clear hcl65 he65 hi65
              refine anyC_seg [11] #[true, true, true, true, true, true, true, true, true, true, true, true, true, false] (fuel := 1) rfl (by kernel_rfl) ⟨⟨_, G64.out.1⟩, rfl⟩ ?_
              simp only [pickOps, List.getD_cons_succ, List.getD_cons_zero]
              repeat (go_big_quiet_step (fail))
              refine wpQuiet_nil ?_
              have BRX := Lib.hid (BR.out.upd U64.out (by have := PR.out; simp; omega))
              exact J g64 g60 x59 m61 e65 x62 x63 w64 ⟨G64.out.1, GB.out, C64.out, BRX.out, B64.out.1, U64.out, B64.out.2, ⟨h59a, h59b⟩, HI65.out, ⟨h62a, h62b⟩, ⟨h63a, h63b⟩⟩
            · simp only [List.getD_cons_succ, List.getD_cons_zero]
              go_wp2
              have ga66 := Grow.alloc w62 (.cells #[.int .i64 6, .int .i64 17, .int .i64 1, .int .i64 255, .int .i64 0] 3)
              have C66 := Lib.hid (C62.out.grow ga66); have U66 := Lib.hid (U62.out.grow_ ga66)
              have G66 : Hid (Box (w62.alloc (.cells #[.int .i64 6, .int .i64 17, .int .i64 1, .int .i64 255, .int .i64 0] 3)) w62.heap.size [.int .i64 6, .int .i64 17, .int .i64 1, .int .i64 255, .int .i64 0] ∧ p < w62.heap.size) := Lib.hid ⟨Box.alloc w62 [.int .i64 6, .int .i64 17, .int .i64 1, .int .i64 255, .int .i64 0] 3, C62.out.lt⟩
              have B66 : Hid (Box (w62.alloc (.cells #[.int .i64 6, .int .i64 17, .int .i64 1, .int .i64 255, .int .i64 0] 3)) g60 [.int .i64 0, .int .i64 0, .int .i64 0, .int .i64 0, .slice none 0 0] ∧ R < g60) := Lib.hid ⟨B62.out.1.grow ga66, B62.out.2⟩
              have GB : Hid (w62.heap.size ≠ g60) := Lib.hid (Nat.ne_of_gt B62.out.1.1)
              refine ⟨⟨⟨_, trivial⟩, rfl⟩, ?_⟩
              clear ga66
              generalize w62.alloc (.cells #[.int .i64 6, .int .i64 17, .int .i64 1, .int .i64 255, .int .i64 0] 3) = w66 at *
              generalize hg66 : w62.heap.size = g66
              replace G66 := Lib.hid (hg66 ▸ G66.out)
              replace GB := Lib.hid (hg66 ▸ GB.out)
              refine anyC_sub (C' := Cls (fun W => Box W g66 [.int .i64 6, .int .i64 17, .int .i64 1, .int .i64 255, .int .i64 0])) (fun W h => ⟨⟨W, trivial⟩, rfl⟩) _ _ _ _ ?_
              obtain ⟨e67, he67, hi67⟩ : ∃ e : Int, ([.int .i64 6, .int .i64 17, .int .i64 1, .int .i64 255, .int .i64 0] : List Value)[m61]? = some (.int .i64 e) ∧ I64 e := by
                have : m61 = 0 ∨ m61 = 1 ∨ m61 = 2 ∨ m61 = 3 ∨ m61 = 4 := by omega
                rcases this with rfl | rfl | rfl | rfl | rfl <;> exact ⟨_, rfl, by unfold I64; omega⟩
              have hne67 : Nonempty (Cl (fun W => Box W g66 [.int .i64 6, .int .i64 17, .int .i64 1, .int .i64 255, .int .i64 0])) := ⟨⟨_, G66.out.1⟩⟩
              have HI67 := Lib.hid hi67
              have hcl67 : ∀ x : Cl (fun W => Box W g66 [.int .i64 6, .int .i64 17, .int .i64 1, .int .i64 255, .int .i64 0]), x.w.cell? ⟨g66, m61, none⟩ = some (.int .i64 e67) := fun x => x.ok.2.1 m61 _ he67
              refine anyC_seg [5, 6] #[true, true, true, true, true, true, true, true, true, true, false, false, true, false] (fuel := 3) rfl (by kernel_rfl) ⟨⟨_, G66.out.1⟩, rfl⟩ ?_
              simp only [pickOps, List.getD_cons_succ, List.getD_cons_zero]
              repeat (go_big_quiet_step (fail))
              refine wpQuiet_nil ?_
              clear hcl67 he67 hi67
              refine anyC_sole 10 #[true, true, true, true, true, true, true, true, true, true, true, false, true, false] (fuel := 2) (by kernel_rfl) ?_
              simp only [List.getD_cons_succ, List.getD_cons_zero]
              go_wp2_with fail
              refine (l01Below_any _ p 9 (by decide) C66.out).mono ?_
              rintro e w68 ⟨x68, rfl, h68a, h68b, -, hC, hU⟩
              have h68b := h68b (by decide)
              have C68 := Lib.hid hC; have U68 := Lib.hid (U66.out.same hU)
              have G68 : Hid (Box w68 g66 [.int .i64 6, .int .i64 17, .int .i64 1, .int .i64 255, .int .i64 0] ∧ p < g66) := Lib.hid ⟨G66.out.1.upd hU (by have := G66.out.2; simp; omega), G66.out.2⟩
              have B68 : Hid (Box w68 g60 [.int .i64 0, .int .i64 0, .int .i64 0, .int .i64 0, .slice none 0 0] ∧ R < g60) := Lib.hid ⟨B66.out.1.upd hU (by have := B66.out.2; have := PR.out; simp; omega), B66.out.2⟩
              clear hC hU
              go_wp2
              refine ⟨⟨⟨_, G68.out.1⟩, rfl⟩, ?_⟩
              refine anyC_seg [11] #[true, true, true, true, true, true, true, true, true, true, true, true, true, false] (fuel := 1) rfl (by kernel_rfl) ⟨⟨_, G68.out.1⟩, rfl⟩ ?_
              simp only [pickOps, List.getD_cons_succ, List.getD_cons_zero]
              repeat (go_big_quiet_step (fail))
              refine wpQuiet_nil ?_
              have BRX := Lib.hid (BR.out.upd U68.out (by have := PR.out; simp; omega))
              exact J g66 g60 x59 m61 e67 x62 x68 w68 ⟨G68.out.1, GB.out, C68.out, BRX.out, B68.out.1, U68.out, B68.out.2, ⟨h59a, h59b⟩, HI67.out, ⟨h62a, h62b⟩, ⟨h68a, h68b⟩⟩
          · simp only [List.getD_cons_succ, List.getD_cons_zero]
            go_wp2
            have ga69 := Grow.alloc w61 (.cells #[.int .i64 6, .int .i64 17, .int .i64 1, .int .i64 255, .int .i64 0] 3)
            have C69 := Lib.hid (C61.out.grow ga69); have U69 := Lib.hid (U61.out.grow_ ga69)
            have G69 : Hid (Box (w61.alloc (.cells #[.int .i64 6, .int .i64 17, .int .i64 1, .int .i64 255, .int .i64 0] 3)) w61.heap.size [.int .i64 6, .int .i64 17, .int .i64 1, .int .i64 255, .int .i64 0] ∧ p < w61.heap.size) := Lib.hid ⟨Box.alloc w61 [.int .i64 6, .int .i64 17, .int .i64 1, .int .i64 255, .int .i64 0] 3, C61.out.lt⟩
            have B69 : Hid (Box (w61.alloc (.cells #[.int .i64 6, .int .i64 17, .int .i64 1, .int .i64 255, .int .i64 0] 3)) g60 [.int .i64 0, .int .i64 0, .int .i64 0, .int .i64 0, .slice none 0 0] ∧ R < g60) := Lib.hid ⟨B61.out.1.grow ga69, B61.out.2⟩
            have GB : Hid (w61.heap.size ≠ g60) := Lib.hid (Nat.ne_of_gt B61.out.1.1)
            refine ⟨⟨⟨_, trivial⟩, rfl⟩, ?_⟩
            clear ga69
            generalize w61.alloc (.cells #[.int .i64 6, .int .i64 17, .int .i64 1, .int .i64 255, .int .i64 0] 3) = w69 at *
            generalize hg69 : w61.heap.size = g69
            replace G69 := Lib.hid (hg69 ▸ G69.out)
            replace GB := Lib.hid (hg69 ▸ GB.out)
            refine anyC_sub (C' := Cls (fun W => Box W g69 [.int .i64 6, .int .i64 17, .int .i64 1, .int .i64 255, .int .i64 0])) (fun W h => ⟨⟨W, trivial⟩, rfl⟩) _ _ _ _ ?_
            obtain ⟨e70, he70, hi70⟩ : ∃ e : Int, ([.int .i64 6, .int .i64 17, .int .i64 1, .int .i64 255, .int .i64 0] : List Value)[m61]? = some (.int .i64 e) ∧ I64 e := by
              have : m61 = 0 ∨ m61 = 1 ∨ m61 = 2 ∨ m61 = 3 ∨ m61 = 4 := by omega
              rcases this with rfl | rfl | rfl | rfl | rfl <;> exact ⟨_, rfl, by unfold I64; omega⟩
            have hne70 : Nonempty (Cl (fun W => Box W g69 [.int .i64 6, .int .i64 17, .int .i64 1, .int .i64 255, .int .i64 0])) := ⟨⟨_, G69.out.1⟩⟩
            have HI70 := Lib.hid hi70
            have hcl70 : ∀ x : Cl (fun W => Box W g69 [.int .i64 6, .int .i64 17, .int .i64 1, .int .i64 255, .int .i64 0]), x.w.cell? ⟨g69, m61, none⟩ = some (.int .i64 e70) := fun x => x.ok.2.1 m61 _ he70
            refine anyC_seg [5, 6] #[true, true, true, true, true, true, true, true, false, true, false, false, true, false] (fuel := 4) rfl (by kernel_rfl) ⟨⟨_, G69.out.1⟩, rfl⟩ ?_
            simp only [pickOps, List.getD_cons_succ, List.getD_cons_zero]
            repeat (go_big_quiet_step (fail))
            refine wpQuiet_nil ?_
            clear hcl70 he70 hi70
            refine anyC_sole 8 #[true, true, true, true, true, true, true, true, true, true, false, false, true, false] (fuel := 3) (by kernel_rfl) ?_
            simp only [List.getD_cons_succ, List.getD_cons_zero]
            go_wp2_with fail
            refine (l01Below_any _ p 9 (by decide) C69.out).mono ?_
            rintro e w71 ⟨x71, rfl, h71a, h71b, -, hC, hU⟩
            have h71b := h71b (by decide)
            have C71 := Lib.hid hC; have U71 := Lib.hid (U69.out.same hU)
            have G71 : Hid (Box w71 g69 [.int .i64 6, .int .i64 17, .int .i64 1, .int .i64 255, .int .i64 0] ∧ p < g69) := Lib.hid ⟨G69.out.1.upd hU (by have := G69.out.2; simp; omega), G69.out.2⟩
            have B71 : Hid (Box w71 g60 [.int .i64 0, .int .i64 0, .int .i64 0, .int .i64 0, .slice none 0 0] ∧ R < g60) := Lib.hid ⟨B69.out.1.upd hU (by have := B69.out.2; have := PR.out; simp; omega), B69.out.2⟩
            clear hC hU
            go_wp2
            refine ⟨⟨⟨_, G71.out.1⟩, rfl⟩, ?_⟩
            refine anyC_sole 10 #[true, true, true, true, true, true, true, true, true, true, true, false, true, false] (fuel := 2) (by kernel_rfl) ?_
            simp only [List.getD_cons_succ, List.getD_cons_zero]
            go_wp2_with fail
            refine (l01Below_any _ p 9 (by decide) C71.out).mono ?_
            rintro e w72 ⟨x72, rfl, h72a, h72b, -, hC, hU⟩
            have h72b := h72b (by decide)
            have C72 := Lib.hid hC; have U72 := Lib.hid (U71.out.same hU)
            have G72 : Hid (Box w72 g69 [.int .i64 6, .int .i64 17, .int .i64 1, .int .i64 255, .int .i64 0] ∧ p < g69) := Lib.hid ⟨G71.out.1.upd hU (by have := G71.out.2; simp; omega), G71.out.2⟩
            have B72 : Hid (Box w72 g60 [.int .i64 0, .int .i64 0, .int .i64 0, .int .i64 0, .slice none 0 0] ∧ R < g60) := Lib.hid ⟨B71.out.1.upd hU (by have := B71.out.2; have := PR.out; simp; omega), B71.out.2⟩
            clear hC hU
            go_wp2
            refine ⟨⟨⟨_, G72.out.1⟩, rfl⟩, ?_⟩
            refine anyC_seg [11] #[true, true, true, true, true, true, true, true, true, true, true, true, true, false] (fuel := 1) rfl (by kernel_rfl) ⟨⟨_, G72.out.1⟩, rfl⟩ ?_
            simp only [pickOps, List.getD_cons_succ, List.getD_cons_zero]
            repeat (go_big_quiet_step (fail))
            refine wpQuiet_nil ?_
            have BRX := Lib.hid (BR.out.upd U72.out (by have := PR.out; simp; omega))
            exact J g69 g60 x59 m61 e70 x71 x72 w72 ⟨G72.out.1, GB.out, C72.out, BRX.out, B72.out.1, U72.out, B72.out.2, ⟨h59a, h59b⟩, HI70.out, ⟨h71a, h71b⟩, ⟨h72a, h72b⟩⟩
        · simp only [List.getD_cons_succ, List.getD_cons_zero]
          go_wp2
          have ga73 := Grow.alloc w60 (.cells #[.int .i64 6, .int .i64 17, .int .i64 1, .int .i64 255, .int .i64 0] 3)
          have C73 := Lib.hid (C60.out.grow ga73); have U73 := Lib.hid (U60.out.grow_ ga73)
          have G73 : Hid (Box (w60.alloc (.cells #[.int .i64 6, .int .i64 17, .int .i64 1, .int .i64 255, .int .i64 0] 3)) w60.heap.size [.int .i64 6, .int .i64 17, .int .i64 1, .int .i64 255, .int .i64 0] ∧ p < w60.heap.size) := Lib.hid ⟨Box.alloc w60 [.int .i64 6, .int .i64 17, .int .i64 1, .int .i64 255, .int .i64 0] 3, C60.out.lt⟩
          have B73 : Hid (Box (w60.alloc (.cells #[.int .i64 6, .int .i64 17, .int .i64 1, .int .i64 255, .int .i64 0] 3)) g60 [.int .i64 0, .int .i64 0, .int .i64 0, .int .i64 0, .slice none 0 0] ∧ R < g60) := Lib.hid ⟨B60.out.1.grow ga73, B60.out.2⟩
          have GB : Hid (w60.heap.size ≠ g60) := Lib.hid (Nat.ne_of_gt B60.out.1.1)
          refine ⟨⟨⟨_, trivial⟩, rfl⟩, ?_⟩
          clear ga73
          generalize w60.alloc (.cells #[.int .i64 6, .int .i64 17, .int .i64 1, .int .i64 255, .int .i64 0] 3) = w73 at *
          generalize hg73 : w60.heap.size = g73
          replace G73 := Lib.hid (hg73 ▸ G73.out)
          replace GB := Lib.hid (hg73 ▸ GB.out)
          refine anyC_sole 4 #[true, true, true, true, true, false, false, true, false, true, false, false, true, false] (fuel := 6) (by kernel_rfl) ?_
          simp only [List.getD_cons_succ, List.getD_cons_zero]
          go_wp2_with fail
          refine (l01Below_any _ p 5 (by decide) C73.out).mono ?_
          rintro e w74 ⟨x74, rfl, h74a, h74b, -, hC, hU⟩
          have h74b := h74b (by decide)
          have C74 := Lib.hid hC; have U74 := Lib.hid (U73.out.same hU)
          have G74 : Hid (Box w74 g73 [.int .i64 6, .int .i64 17, .int .i64 1, .int .i64 255, .int .i64 0] ∧ p < g73) := Lib.hid ⟨G73.out.1.upd hU (by have := G73.out.2; simp; omega), G73.out.2⟩
          have B74 : Hid (Box w74 g60 [.int .i64 0, .int .i64 0, .int .i64 0, .int .i64 0, .slice none 0 0] ∧ R < g60) := Lib.hid ⟨B73.out.1.upd hU (by have := B73.out.2; have := PR.out; simp; omega), B73.out.2⟩
          obtain ⟨m74, rfl⟩ := Int.eq_ofNat_of_zero_le h74a
          clear hC hU
          go_wp2
          refine ⟨⟨⟨_, trivial⟩, rfl⟩, ?_⟩
          refine anyC_sub (C' := Cls (fun W => Box W g73 [.int .i64 6, .int .i64 17, .int .i64 1, .int .i64 255, .int .i64 0])) (fun W h => ⟨⟨W, trivial⟩, rfl⟩) _ _ _ _ ?_
          obtain ⟨e75, he75, hi75⟩ : ∃ e : Int, ([.int .i64 6, .int .i64 17, .int .i64 1, .int .i64 255, .int .i64 0] : List Value)[m74]? = some (.int .i64 e) ∧ I64 e := by
            have : m74 = 0 ∨ m74 = 1 ∨ m74 = 2 ∨ m74 = 3 ∨ m74 = 4 := by omega
            rcases this with rfl | rfl | rfl | rfl | rfl <;> exact ⟨_, rfl, by unfold I64; omega⟩
          have hne75 : Nonempty (Cl (fun W => Box W g73 [.int .i64 6, .int .i64 17, .int .i64 1, .int .i64 255, .int .i64 0])) := ⟨⟨_, G74.out.1⟩⟩
          have HI75 := Lib.hid hi75
          have hcl75 : ∀ x : Cl (fun W => Box W g73 [.int .i64 6, .int .i64 17, .int .i64 1, .int .i64 255, .int .i64 0]), x.w.cell? ⟨g73, m74, none⟩ = some (.int .i64 e75) := fun x => x.ok.2.1 m74 _ he75
          refine anyC_seg [5, 6] #[true, true, true, true, true, true, true, true, false, true, false, false, true, false] (fuel := 4) rfl (by kernel_rfl) ⟨⟨_, G74.out.1⟩, rfl⟩ ?_
          simp only [pickOps, List.getD_cons_succ, List.getD_cons_zero]
          repeat (go_big_quiet_step (fail))
          refine wpQuiet_nil ?_
          clear hcl75 he75 hi75
          refine anyC_sole 8 #[true, true, true, true, true, true, true, true, true, true, false, false, true, false] (fuel := 3) (by kernel_rfl) ?_
          simp only [List.getD_cons_succ, List.getD_cons_zero]
          go_wp2_with fail
          refine (l01Below_any _ p 9 (by decide) C74.out).mono ?_
          rintro e w76 ⟨x76, rfl, h76a, h76b, -, hC, hU⟩
          have h76b := h76b (by decide)
          have C76 := Lib.hid hC; have U76 := Lib.hid (U74.out.same hU)
          have G76 : Hid (Box w76 g73 [.int .i64 6, .int .i64 17, .int .i64 1, .int .i64 255, .int .i64 0] ∧ p < g73) := Lib.hid ⟨G74.out.1.upd hU (by have := G74.out.2; simp; omega), G74.out.2⟩
          have B76 : Hid (Box w76 g60 [.int .i64 0, .int .i64 0, .int .i64 0, .int .i64 0, .slice none 0 0] ∧ R < g60) := Lib.hid ⟨B74.out.1.upd hU (by have := B74.out.2; have := PR.out; simp; omega), B74.out.2⟩
          clear hC hU
          go_wp2
          refine ⟨⟨⟨_, G76.out.1⟩, rfl⟩, ?_⟩
          refine anyC_sole 10 #[true, true, true, true, true, true, true, true, true, true, true, false, true, false] (fuel := 2) (by kernel_rfl) ?_
          simp only [List.getD_cons_succ, List.getD_cons_zero]
          go_wp2_with fail
          refine (l01Below_any _ p 9 (by decide) C76.out).mono ?_
          rintro e w77 ⟨x77, rfl, h77a, h77b, -, hC, hU⟩
          have h77b := h77b (by decide)
          have C77 := Lib.hid hC; have U77 := Lib.hid (U76.out.same hU)
          have G77 : Hid (Box w77 g73 [.int .i64 6, .int .i64 17, .int .i64 1, .int .i64 255, .int .i64 0] ∧ p < g73) := Lib.hid ⟨G76.out.1.upd hU (by have := G76.out.2; simp; omega), G76.out.2⟩
          have B77 : Hid (Box w77 g60 [.int .i64 0, .int .i64 0, .int .i64 0, .int .i64 0, .slice none 0 0] ∧ R < g60) := Lib.hid ⟨B76.out.1.upd hU (by have := B76.out.2; have := PR.out; simp; omega), B76.out.2⟩
          clear hC hU
          go_wp2
          refine ⟨⟨⟨_, G77.out.1⟩, rfl⟩, ?_⟩
          refine anyC_seg [11] #[true, true, true, true, true, true, true, true, true, true, true, true, true, false] (fuel := 1) rfl (by kernel_rfl) ⟨⟨_, G77.out.1⟩, rfl⟩ ?_
          simp only [pickOps, List.getD_cons_succ, List.getD_cons_zero]
          repeat (go_big_quiet_step (fail))
          refine wpQuiet_nil ?_
          have BRX := Lib.hid (BR.out.upd U77.out (by have := PR.out; simp; omega))
          exact J g73 g60 x59 m74 e75 x76 x77 w77 ⟨G77.out.1, GB.out, C77.out, BRX.out, B77.out.1, U77.out, B77.out.2, ⟨h59a, h59b⟩, HI75.out, ⟨h76a, h76b⟩, ⟨h77a, h77b⟩⟩
      · simp only [List.getD_cons_succ, List.getD_cons_zero]
        go_wp2_with fail
        refine (l01Below_any _ p 5 (by decide) C59.out).mono ?_
        rintro e w78 ⟨x78, rfl, h78a, h78b, -, hC, hU⟩
        have h78b := h78b (by decide)
        have C78 := Lib.hid hC; have U78 := Lib.hid (U59.out.same hU)
        obtain ⟨m78, rfl⟩ := Int.eq_ofNat_of_zero_le h78a
        clear hC hU
        go_wp2
        refine ⟨⟨⟨_, trivial⟩, rfl⟩, ?_⟩
        refine anyC_three 2 8 12 #[true, true, true, true, true, false, false, true, false, true, false, false, false, false] #[true, true, false, true, true, false, false, true, true, true, false, false, false, false] #[true, true, false, true, true, false, false, true, false, true, false, false, true, false] (fuel := 7) (by kernel_rfl) ?_ ?_ ?_
        · simp only [List.getD_cons_succ, List.getD_cons_zero]
          go_wp2
          have ga79 := Grow.alloc w78 (.cells #[.int .i64 0, .int .i64 0, .int .i64 0, .int .i64 0, .slice none 0 0] 47)
          have C79 := Lib.hid (C78.out.grow ga79); have U79 := Lib.hid (U78.out.grow_ ga79)
          have B79 : Hid (Box (w78.alloc (.cells #[.int .i64 0, .int .i64 0, .int .i64 0, .int .i64 0, .slice none 0 0] 47)) w78.heap.size [.int .i64 0, .int .i64 0, .int .i64 0, .int .i64 0, .slice none 0 0] ∧ R < w78.heap.size) := Lib.hid ⟨Box.alloc w78 [.int .i64 0, .int .i64 0, .int .i64 0, .int .i64 0, .slice none 0 0] 47, (BR.out.upd U78.out (by have := PR.out; simp; omega)).1⟩
          refine ⟨⟨⟨_, trivial⟩, rfl⟩, ?_⟩
          clear ga79
          generalize w78.alloc (.cells #[.int .i64 0, .int .i64 0, .int .i64 0, .int .i64 0, .slice none 0 0] 47) = w79 at *
          generalize hg79 : w78.heap.size = g79
          replace B79 := Lib.hid (hg79 ▸ B79.out)
          refine anyC_two_ 2 8 #[true, true, true, true, true, false, false, true, false, true, false, false, true, false] #[true, true, false, true, true, false, false, true, true, true, false, false, true, false] (fuel := 6) (by kernel_rfl) ?_ ?_
          · simp only [List.getD_cons_succ, List.getD_cons_zero]
            go_wp2_with fail
            refine (l01Below_any _ p 9 (by decide) C79.out).mono ?_
            rintro e w80 ⟨x80, rfl, h80a, h80b, -, hC, hU⟩
            have h80b := h80b (by decide)
            have C80 := Lib.hid hC; have U80 := Lib.hid (U79.out.same hU)
            have B80 : Hid (Box w80 g79 [.int .i64 0, .int .i64 0, .int .i64 0, .int .i64 0, .slice none 0 0] ∧ R < g79) := Lib.hid ⟨B79.out.1.upd hU (by have := B79.out.2; have := PR.out; simp; omega), B79.out.2⟩
            clear hC hU
            go_wp2
            refine ⟨⟨⟨_, trivial⟩, rfl⟩, ?_⟩
            refine anyC_two_ 2 10 #[true, true, true, true, true, false, false, true, true, true, false, false, true, false] #[true, true, false, true, true, false, false, true, true, true, true, false, true, false] (fuel := 5) (by kernel_rfl) ?_ ?_
            · simp only [List.getD_cons_succ, List.getD_cons_zero]
              go_wp2_with fail
              refine (l01Below_any _ p 9 (by decide) C80.out).mono ?_
              rintro e w81 ⟨x81, rfl, h81a, h81b, -, hC, hU⟩
              have h81b := h81b (by decide)
              have C81 := Lib.hid hC; have U81 := Lib.hid (U80.out.same hU)
              have B81 : Hid (Box w81 g79 [.int .i64 0, .int .i64 0, .int .i64 0, .int .i64 0, .slice none 0 0] ∧ R < g79) := Lib.hid ⟨B80.out.1.upd hU (by have := B80.out.2; have := PR.out; simp; omega), B80.out.2⟩
              clear hC hU
              go_wp2
              refine ⟨⟨⟨_, trivial⟩, rfl⟩, ?_⟩
              refine anyC_sole 2 #[true, true, true, true, true, false, false, true, true, true, true, false, true, false] (fuel := 4) (by kernel_rfl) ?_
              simp only [List.getD_cons_succ, List.getD_cons_zero]
              go_wp2
              have ga82 := Grow.alloc w81 (.cells #[.int .i64 6, .int .i64 17, .int .i64 1, .int .i64 255, .int .i64 0] 3)
              have C82 := Lib.hid (C81.out.grow ga82); have U82 := Lib.hid (U81.out.grow_ ga82)
              have G82 : Hid (Box (w81.alloc (.cells #[.int .i64 6, .int .i64 17, .int .i64 1, .int .i64 255, .int .i64 0] 3)) w81.heap.size [.int .i64 6, .int .i64 17, .int .i64 1, .int .i64 255, .int .i64 0] ∧ p < w81.heap.size) := Lib.hid ⟨Box.alloc w81 [.int .i64 6, .int .i64 17, .int .i64 1, .int .i64 255, .int .i64 0] 3, C81.out.lt⟩
              have B82 : Hid (Box (w81.alloc (.cells #[.int .i64 6, .int .i64 17, .int .i64 1, .int .i64 255, .int .i64 0] 3)) g79 [.int .i64 0, .int .i64 0, .int .i64 0, .int .i64 0, .slice none 0 0] ∧ R < g79) := Lib.hid ⟨B81.out.1.grow ga82, B81.out.2⟩
              have GB : Hid (w81.heap.size ≠ g79) := Lib.hid (Nat.ne_of_gt B81.out.1.1)
              refine ⟨⟨⟨_, trivial⟩, rfl⟩, ?_⟩
              clear ga82
              generalize w81.alloc (.cells #[.int .i64 6, .int .i64 17, .int .i64 1, .int .i64 255, .int .i64 0] 3) = w82 at *
              generalize hg82 : w81.heap.size = g82
              replace G82 := Lib.hid (hg82 ▸ G82.out)
              replace GB := Lib.hid (hg82 ▸ GB.out)
              refine anyC_sub (C' := Cls (fun W => Box W g82 [.int .i64 6, .int .i64 17, .int .i64 1, .int .i64 255, .int .i64 0])) (fun W h => ⟨⟨W, trivial⟩, rfl⟩) _ _ _ _ ?_
              obtain ⟨e83, he83, hi83⟩ : ∃ e : Int, ([.int .i64 6, .int .i64 17, .int .i64 1, .int .i64 255, .int .i64 0] : List Value)[m78]? = some (.int .i64 e) ∧ I64 e := by
                have : m78 = 0 ∨ m78 = 1 ∨ m78 = 2 ∨ m78 = 3 ∨ m78 = 4 := by omega
                rcases this with rfl | rfl | rfl | rfl | rfl <;> exact ⟨_, rfl, by unfold I64; omega⟩
              have hne83 : Nonempty (Cl (fun W => Box W g82 [.int .i64 6, .int .i64 17, .int .i64 1, .int .i64 255, .int .i64 0])) := ⟨⟨_, G82.out.1⟩⟩
              have HI83 := Lib.hid hi83
              have hcl83 : ∀ x : Cl (fun W => Box W g82 [.int .i64 6, .int .i64 17, .int .i64 1, .int .i64 255, .int .i64 0]), x.w.cell? ⟨g82, m78, none⟩ = some (.int .i64 e83) := fun x => x.ok.2.1 m78 _ he83
              refine anyC_seg [5, 6] #[true, true, true, true, true, true, true, true, true, true, true, false, true, false] (fuel := 2) rfl (by kernel_rfl) ⟨⟨_, G82.out.1⟩, rfl⟩ ?_
              simp only [pickOps, List.getD_cons_succ, List.getD_cons_zero]
              repeat (go_big_quiet_step (fail))
              refine wpQuiet_nil ?_
              clear hcl83 he83 hi83
              refine anyC_seg [11] #[true, true, true, true, true, true, true, true, true, true, true, true, true, false] (fuel := 1) rfl (by kernel_rfl) ⟨⟨_, G82.out.1⟩, rfl⟩ ?_
              simp only [pickOps, List.getD_cons_succ, List.getD_cons_zero]
              repeat (go_big_quiet_step (fail))
              refine wpQuiet_nil ?_
              have BRX := Lib.hid (BR.out.upd U82.out (by have := PR.out; simp; omega))
              exact J g82 g79 x59 m78 e83 x80 x81 w82 ⟨G82.out.1, GB.out, C82.out, BRX.out, B82.out.1, U82.out, B82.out.2, ⟨h59a, h59b⟩, HI83.out, ⟨h80a, h80b⟩, ⟨h81a, h81b⟩⟩
            · simp only [List.getD_cons_succ, List.getD_cons_zero]
              go_wp2
              have ga84 := Grow.alloc w80 (.cells #[.int .i64 6, .int .i64 17, .int .i64 1, .int .i64 255, .int .i64 0] 3)
              have C84 := Lib.hid (C80.out.grow ga84); have U84 := Lib.hid (U80.out.grow_ ga84)
              have G84 : Hid (Box (w80.alloc (.cells #[.int .i64 6, .int .i64 17, .int .i64 1, .int .i64 255, .int .i64 0] 3)) w80.heap.size [.int .i64 6, .int .i64 17, .int .i64 1, .int .i64 255, .int .i64 0] ∧ p < w80.heap.size) := Lib.hid ⟨Box.alloc w80 [.int .i64 6, .int .i64 17, .int .i64 1, .int .i64 255, .int .i64 0] 3, C80.out.lt⟩
              have B84 : Hid (Box (w80.alloc (.cells #[.int .i64 6, .int .i64 17, .int .i64 1, .int .i64 255, .int .i64 0] 3)) g79 [.int .i64 0, .int .i64 0, .int .i64 0, .int .i64 0, .slice none 0 0] ∧ R < g79) := Lib.hid ⟨B80.out.1.grow ga84, B80.out.2⟩
              have GB : Hid (w80.heap.size ≠ g79) := Lib.hid (Nat.ne_of_gt B80.out.1.1)
              refine ⟨⟨⟨_, trivial⟩, rfl⟩, ?_⟩
              clear ga84
              generalize w80.alloc (.cells #[.int .i64 6, .int .i64 17, .int .i64 1, .int .i64 255, .int .i64 0] 3) = w84 at *
              generalize hg84 : w80.heap.size = g84
              replace G84 := Lib.hid (hg84 ▸ G84.out)
              replace GB := Lib.hid (hg84 ▸ GB.out)
              refine anyC_sub (C' := Cls (fun W => Box W g84 [.int .i64 6, .int .i64 17, .int .i64 1, .int .i64 255, .int .i64 0])) (fun W h => ⟨⟨W, trivial⟩, rfl⟩) _ _ _ _ ?_
              obtain ⟨e85, he85, hi85⟩ : ∃ e : Int, ([.int .i64 6, .int .i64 17, .int .i64 1, .int .i64 255, .int .i64 0] : List Value)[m78]? = some (.int .i64 e) ∧ I64 e := by
                have : m78 = 0 ∨ m78 = 1 ∨ m78 = 2 ∨ m78 = 3 ∨ m78 = 4 := by omega
                rcases this with rfl | rfl | rfl | rfl | rfl <;> exact ⟨_, rfl, by unfold I64; omega⟩
              have hne85 : Nonempty (Cl (fun W => Box W g84 [.int .i64 6, .int .i64 17, .int .i64 1, .int .i64 255, .int .i64 0])) := ⟨⟨_, G84.out.1⟩⟩
              have HI85 := Lib.hid hi85
              have hcl85 : ∀ x : Cl (fun W => Box W g84 [.int .i64 6, .int .i64 17, .int .i64 1, .int .i64 255, .int .i64 0]), x.w.cell? ⟨g84, m78, none⟩ = some (.int .i64 e85) := fun x => x.ok.2.1 m78 _ he85
              refine anyC_seg [5, 6] #[true, true, true, true, true, true, true, true, true, true, false, false, true, false] (fuel := 3) rfl (by kernel_rfl) ⟨⟨_, G84.out.1⟩, rfl⟩ ?_
              simp only [pickOps, List.getD_cons_succ, List.getD_cons_zero]
              repeat (go_big_quiet_step (fail))
              refine wpQuiet_nil ?_
              clear hcl85 he85 hi85
              refine anyC_sole 10 #[true, true, true, true, true, true, true, true, true, true, true, false, true, false] (fuel := 2) (by kernel_rfl) ?_
              simp only [List.getD_cons_succ, List.getD_cons_zero]
              go_wp2_with fail
              refine (l01Below_any _ p 9 (by decide) C84.out).mono ?_
              rintro e w86 ⟨x86, rfl, h86a, h86b, -, hC, hU⟩
              have h86b := h86b (by decide)
              have C86 := Lib.hid hC; have U86 := Lib.hid (U84.out.same hU)
              have G86 : Hid (Box w86 g84 [.int .i64 6, .int .i64 17, .int .i64 1, .int .i64 255, .int .i64 0] ∧ p < g84) := Lib.hid ⟨G84.out.1.upd hU (by have := G84.out.2; simp; omega), G84.out.2⟩
              have B86 : Hid (Box w86 g79 [.int .i64 0, .int .i64 0, .int .i64 0, .int .i64 0, .slice none 0 0] ∧ R < g79) := Lib.hid ⟨B84.out.1.upd hU (by have := B84.out.2; have := PR.out; simp; omega), B84.out.2⟩
              clear hC hU
              go_wp2
              refine ⟨⟨⟨_, G86.out.1⟩, rfl⟩, ?_⟩
              refine anyC_seg [11] #[true, true, true, true, true, true, true, true, true, true, true, true, true, false] (fuel := 1) rfl (by kernel_rfl) ⟨⟨_, G86.out.1⟩, rfl⟩ ?_
              simp only [pickOps, List.getD_cons_succ, List.getD_cons_zero]
              repeat (go_big_quiet_step (fail))
              refine wpQuiet_nil ?_
              have BRX := Lib.hid (BR.out.upd U86.out (by have := PR.out; simp; omega))
              exact J g84 g79 x59 m78 e85 x80 x86 w86 ⟨G86.out.1, GB.out, C86.out, BRX.out, B86.out.1, U86.out, B86.out.2, ⟨h59a, h59b⟩, HI85.out, ⟨h80a, h80b⟩, ⟨h86a, h86b⟩⟩
          · simp only [List.getD_cons_succ, List.getD_cons_zero]
            go_wp2
            have ga87 := Grow.alloc w79 (.cells #[.int .i64 6, .int .i64 17, .int .i64 1, .int .i64 255, .int .i64 0] 3)
            have C87 := Lib.hid (C79.out.grow ga87); have U87 := Lib.hid (U79.out.grow_ ga87)
            have G87 : Hid (Box (w79.alloc (.cells #[.int .i64 6, .int .i64 17, .int .i64 1, .int .i64 255, .int .i64 0] 3)) w79.heap.size [.int .i64 6, .int .i64 17, .int .i64 1, .int .i64 255, .int .i64 0] ∧ p < w79.heap.size) := Lib.hid ⟨Box.alloc w79 [.int .i64 6, .int .i64 17, .int .i64 1, .int .i64 255, .int .i64 0] 3, C79.out.lt⟩
            have B87 : Hid (Box (w79.alloc (.cells #[.int .i64 6, .int .i64 17, .int .i64 1, .int .i64 255, .int .i64 0] 3)) g79 [.int .i64 0, .int .i64 0, .int .i64 0, .int .i64 0, .slice none 0 0] ∧ R < g79) := Lib.hid ⟨B79.out.1.grow ga87, B79.out.2⟩
            have GB : Hid (w79.heap.size ≠ g79) := Lib.hid (Nat.ne_of_gt B79.out.1.1)
            refine ⟨⟨⟨_, trivial⟩, rfl⟩, ?_⟩
            clear ga87
            generalize w79.alloc (.cells #[.int .i64 6, .int .i64 17, .int .i64 1, .int .i64 255, .int .i64 0] 3) = w87 at *
            generalize hg87 : w79.heap.size = g87
            replace G87 := Lib.hid (hg87 ▸ G87.out)
            replace GB := Lib.hid (hg87 ▸ GB.out)
            refine anyC_sub (C' := Cls (fun W => Box W g87 [.int .i64 6, .int .i64 17, .int .i64 1, .int .i64 255, .int .i64 0])) (fun W h => ⟨⟨W, trivial⟩, rfl⟩) _ _ _ _ ?_
            obtain ⟨e88, he88, hi88⟩ : ∃ e : Int, ([.int .i64 6, .int .i64 17, .int .i64 1, .int .i64 255, .int .i64 0] : List Value)[m78]? = some (.int .i64 e) ∧ I64 e := by
              have : m78 = 0 ∨ m78 = 1 ∨ m78 = 2 ∨ m78 = 3 ∨ m78 = 4 := by omega
              rcases this with rfl | rfl | rfl | rfl | rfl <;> exact ⟨_, rfl, by unfold I64; omega⟩
            have hne88 : Nonempty (Cl (fun W => Box W g87 [.int .i64 6, .int .i64 17, .int .i64 1, .int .i64 255, .int .i64 0])) := ⟨⟨_, G87.out.1⟩⟩
            have HI88 := Lib.hid hi88
            have hcl88 : ∀ x : Cl (fun W => Box W g87 [.int .i64 6, .int .i64 17, .int .i64 1, .int .i64 255, .int .i64 0]), x.w.cell? ⟨g87, m78, none⟩ = some (.int .i64 e88) := fun x => x.ok.2.1 m78 _ he88
            refine anyC_seg [5, 6] #[true, true, true, true, true, true, true, true, false, true, false, false, true, false] (fuel := 4) rfl (by kernel_rfl) ⟨⟨_, G87.out.1⟩, rfl⟩ ?_
            simp only [pickOps, List.getD_cons_succ, List.getD_cons_zero]
            repeat (go_big_quiet_step (fail))
            refine wpQuiet_nil ?_
            clear hcl88 he88 hi88
            refine anyC_sole 8 #[true, true, true, true, true, true, true, true, true, true, false, false, true, false] (fuel := 3) (by kernel_rfl) ?_
            simp only [List.getD_cons_succ, List.getD_cons_zero]
            go_wp2_with fail
            refine (l01Below_any _ p 9 (by decide) C87.out).mono ?_
            rintro e w89 ⟨x89, rfl, h89a, h89b, -, hC, hU⟩
            have h89b := h89b (by decide)
            have C89 := Lib.hid hC; have U89 := Lib.hid (U87.out.same hU)
            have G89 : Hid (Box w89 g87 [.int .i64 6, .int .i64 17, .int .i64 1, .int .i64 255, .int .i64 0] ∧ p < g87) := Lib.hid ⟨G87.out.1.upd hU (by have := G87.out.2; simp; omega), G87.out.2⟩
            have B89 : Hid (Box w89 g79 [.int .i64 0, .int .i64 0, .int .i64 0, .int .i64 0, .slice none 0 0] ∧ R < g79) := Lib.hid ⟨B87.out.1.upd hU (by have := B87.out.2; have := PR.out; simp; omega), B87.out.2⟩
            clear hC hU
            go_wp2
            refine ⟨⟨⟨_, G89.out.1⟩, rfl⟩, ?_⟩
            refine anyC_sole 10 #[true, true, true, true, true, true, true, true, true, true, true, false, true, false] (fuel := 2) (by kernel_rfl) ?_
            simp only [List.getD_cons_succ, List.getD_cons_zero]
            go_wp2_with fail
            refine (l01Below_any _ p 9 (by decide) C89.out).mono ?_
            rintro e w90 ⟨x90, rfl, h90a, h90b, -, hC, hU⟩
            have h90b := h90b (by decide)
            have C90 := Lib.hid hC; have U90 := Lib.hid (U89.out.same hU)
            have G90 : Hid (Box w90 g87 [.int .i64 6, .int .i64 17, .int .i64 1, .int .i64 255, .int .i64 0] ∧ p < g87) := Lib.hid ⟨G89.out.1.upd hU (by have := G89.out.2; simp; omega), G89.out.2⟩
            have B90 : Hid (Box w90 g79 [.int .i64 0, .int .i64 0, .int .i64 0, .int .i64 0, .slice none 0 0] ∧ R < g79) := Lib.hid ⟨B89.out.1.upd hU (by have := B89.out.2; have := PR.out; simp; omega), B89.out.2⟩
            clear hC hU
            go_wp2
            refine ⟨⟨⟨_, G90.out.1⟩, rfl⟩, ?_⟩
            refine anyC_seg [11] #[true, true, true, true, true, true, true, true, true, true, true, true, true, false] (fuel := 1) rfl (by kernel_rfl) ⟨⟨_, G90.out.1⟩, rfl⟩ ?_
            simp only [pickOps, List.getD_cons_succ, List.getD_cons_zero]
            repeat (go_big_quiet_step (fail))
            refine wpQuiet_nil ?_
            have BRX := Lib.hid (BR.out.upd U90.out (by have := PR.out; simp; omega))
            exact J g87 g79 x59 m78 e88 x89 x90 w90 ⟨G90.out.1, GB.out, C90.out, BRX.out, B90.out.1, U90.out, B90.out.2, ⟨h59a, h59b⟩, HI88.out, ⟨h89a, h89b⟩, ⟨h90a, h90b⟩⟩
        · simp only [List.getD_cons_succ, List.getD_cons_zero]
          go_wp2_with fail
          refine (l01Below_any _ p 9 (by decide) C78.out).mono ?_
          rintro e w91 ⟨x91, rfl, h91a, h91b, -, hC, hU⟩
          have h91b := h91b (by decide)
          have C91 := Lib.hid hC; have U91 := Lib.hid (U78.out.same hU)
          clear hC hU
          go_wp2
          refine ⟨⟨⟨_, trivial⟩, rfl⟩, ?_⟩
          refine anyC_three 2 10 12 #[true, true, true, true, true, false, false, true, true, true, false, false, false, false] #[true, true, false, true, true, false, false, true, true, true, true, false, false, false] #[true, true, false, true, true, false, false, true, true, true, false, false, true, false] (fuel := 6) (by kernel_rfl) ?_ ?_ ?_
          · simp only [List.getD_cons_succ, List.getD_cons_zero]
            go_wp2
            have ga92 := Grow.alloc w91 (.cells #[.int .i64 0, .int .i64 0, .int .i64 0, .int .i64 0, .slice none 0 0] 47)
            have C92 := Lib.hid (C91.out.grow ga92); have U92 := Lib.hid (U91.out.grow_ ga92)
            have B92 : Hid (Box (w91.alloc (.cells #[.int .i64 0, .int .i64 0, .int .i64 0, .int .i64 0, .slice none 0 0] 47)) w91.heap.size [.int .i64 0, .int .i64 0, .int .i64 0, .int .i64 0, .slice none 0 0] ∧ R < w91.heap.size) := Lib.hid ⟨Box.alloc w91 [.int .i64 0, .int .i64 0, .int .i64 0, .int .i64 0, .slice none 0 0] 47, (BR.out.upd U91.out (by have := PR.out; simp; omega)).1⟩
            refine ⟨⟨⟨_, trivial⟩, rfl⟩, ?_⟩
            clear ga92
            generalize w91.alloc (.cells #[.int .i64 0, .int .i64 0, .int .i64 0, .int .i64 0, .slice none 0 0] 47) = w92 at *
            generalize hg92 : w91.heap.size = g92
            replace B92 := Lib.hid (hg92 ▸ B92.out)
            refine anyC_two_ 2 10 #[true, true, true, true, true, false, false, true, true, true, false, false, true, false] #[true, true, false, true, true, false, false, true, true, true, true, false, true, false] (fuel := 5) (by kernel_rfl) ?_ ?_
            · simp only [List.getD_cons_succ, List.getD_cons_zero]
              go_wp2_with fail
              refine (l01Below_any _ p 9 (by decide) C92.out).mono ?_
              rintro e w93 ⟨x93, rfl, h93a, h93b, -, hC, hU⟩
              have h93b := h93b (by decide)
              have C93 := Lib.hid hC; have U93 := Lib.hid (U92.out.same hU)
              have B93 : Hid (Box w93 g92 [.int .i64 0, .int .i64 0, .int .i64 0, .int .i64 0, .slice none 0 0] ∧ R < g92) := Lib.hid ⟨B92.out.1.upd hU (by have := B92.out.2; have := PR.out; simp; omega), B92.out.2⟩
              clear hC hU
              go_wp2
              refine ⟨⟨⟨_, trivial⟩, rfl⟩, ?_⟩
              refine anyC_sole 2 #[true, true, true, true, true, false, false, true, true, true, true, false, true, false] (fuel := 4) (by kernel_rfl) ?_
              simp only [List.getD_cons_succ, List.getD_cons_zero]
              go_wp2
              have ga94 := Grow.alloc w93 (.cells #[.int .i64 6, .int .i64 17, .int .i64 1, .int .i64 255, .int .i64 0] 3)
              have C94 := Lib.hid (C93.out.grow ga94); have U94 := Lib.hid (U93.out.grow_ ga94)
              have G94 : Hid (Box (w93.alloc (.cells #[.int .i64 6, .int .i64 17, .int .i64 1, .int .i64 255, .int .i64 0] 3)) w93.heap.size [.int .i64 6, .int .i64 17, .int .i64 1, .int .i64 255, .int .i64 0] ∧ p < w93.heap.size) := Lib.hid ⟨Box.alloc w93 [.int .i64 6, .int .i64 17, .int .i64 1, .int .i64 255, .int .i64 0] 3, C93.out.lt⟩
              have B94 : Hid (Box (w93.alloc (.cells #[.int .i64 6, .int .i64 17, .int .i64 1, .int .i64 255, .int .i64 0] 3)) g92 [.int .i64 0, .int .i64 0, .int .i64 0, .int .i64 0, .slice none 0 0] ∧ R < g92) := Lib.hid ⟨B93.out.1.grow ga94, B93.out.2⟩
              have GB : Hid (w93.heap.size ≠ g92) := Lib.hid (Nat.ne_of_gt B93.out.1.1)
              refine ⟨⟨⟨_, trivial⟩, rfl⟩, ?_⟩
              clear ga94
              generalize w93.alloc (.cells #[.int .i64 6, .int .i64 17, .int .i64 1, .int .i64 255, .int .i64 0] 3) = w94 at *
              generalize hg94 : w93.heap.size = g94
              replace G94 := Lib.hid (hg94 ▸ G94.out)
              replace GB := Lib.hid (hg94 ▸ GB.out)
              refine anyC_sub (C' := Cls (fun W => Box W g94 [.int .i64 6, .int .i64 17, .int .i64 1, .int .i64 255, .int .i64 0])) (fun W h => ⟨⟨W, trivial⟩, rfl⟩) _ _ _ _ ?_
              obtain ⟨e95, he95, hi95⟩ : ∃ e : Int, ([.int .i64 6, .int .i64 17, .int .i64 1, .int .i64 255, .int .i64 0] : List Value)[m78]? = some (.int .i64 e) ∧ I64 e := by
                have : m78 = 0 ∨ m78 = 1 ∨ m78 = 2 ∨ m78 = 3 ∨ m78 = 4 := by omega
                rcases this with rfl | rfl | rfl | rfl | rfl <;> exact ⟨_, rfl, by unfold I64; omega⟩
              have hne95 : Nonempty (Cl (fun W => Box W g94 [.int .i64 6, .int .i64 17, .int .i64 1, .int .i64 255, .int .i64 0])) := ⟨⟨_, G94.out.1⟩⟩
              have HI95 := Lib.hid hi95
              have hcl95 : ∀ x : Cl (fun W => Box W g94 [.int .i64 6, .int .i64 17, .int .i64 1, .int .i64 255, .int .i64 0]), x.w.cell? ⟨g94, m78, none⟩ = some (.int .i64 e95) := fun x => x.ok.2.1 m78 _ he95
              refine anyC_seg [5, 6] #[true, true, true, true, true, true, true, true, true, true, true, false, true, false] (fuel := 2) rfl (by kernel_rfl) ⟨⟨_, G94.out.1⟩, rfl⟩ ?_
              simp only [pickOps, List.getD_cons_succ, List.getD_cons_zero]
              repeat (go_big_quiet_step (fail))
              refine wpQuiet_nil ?_
              clear hcl95 he95 hi95
              refine anyC_seg [11] #[true, true, true, true, true, true, true, true, true, true, true, true, true, false] (fuel := 1) rfl (by kernel_rfl) ⟨⟨_, G94.out.1⟩, rfl⟩ ?_
              simp only [pickOps, List.getD_cons_succ, List.getD_cons_zero]
              repeat (go_big_quiet_step (fail))
              refine wpQuiet_nil ?_
              have BRX := Lib.hid (BR.out.upd U94.out (by have := PR.out; simp; omega))
              exact J g94 g92 x59 m78 e95 x91 x93 w94 ⟨G94.out.1, GB.out, C94.out, BRX.out, B94.out.1, U94.out, B94.out.2, ⟨h59a, h59b⟩, HI95.out, ⟨h91a, h91b⟩, ⟨h93a, h93b⟩⟩
            · simp only [List.getD_cons_succ, List.getD_cons_zero]
              go_wp2
              have ga96 := Grow.alloc w92 (.cells #[.int .i64 6, .int .i64 17, .int .i64 1, .int .i64 255, .int .i64 0] 3)
              have C96 := Lib.hid (C92.out.grow ga96); have U96 := Lib.hid (U92.out.grow_ ga96)
              have G96 : Hid (Box (w92.alloc (.cells #[.int .i64 6, .int .i64 17, .int .i64 1, .int .i64 255, .int .i64 0] 3)) w92.heap.size [.int .i64 6, .int .i64 17, .int .i64 1, .int .i64 255, .int .i64 0] ∧ p < w92.heap.size) := Lib.hid ⟨Box.alloc w92 [.int .i64 6, .int .i64 17, .int .i64 1, .int .i64 255, .int .i64 0] 3, C92.out.lt⟩
              have B96 : Hid (Box (w92.alloc (.cells #[.int .i64 6, .int .i64 17, .int .i64 1, .int .i64 255, .int .i64 0] 3)) g92 [.int .i64 0, .int .i64 0, .int .i64 0, .int .i64 0, .slice none 0 0] ∧ R < g92) := Lib.hid ⟨B92.out.1.grow ga96, B92.out.2⟩
              have GB : Hid (w92.heap.size ≠ g92) := Lib.hid (Nat.ne_of_gt B92.out.1.1)
              refine ⟨⟨⟨_, trivial⟩, rfl⟩, ?_⟩
              clear ga96
              generalize w92.alloc (.cells #[.int .i64 6, .int .i64 17, .int .i64 1, .int .i64 255, .int .i64 0] 3) = w96 at *
              generalize hg96 : w92.heap.size = g96
              replace G96 := Lib.hid (hg96 ▸ G96.out)
              replace GB := Lib.hid (hg96 ▸ GB.out)
              refine anyC_sub (C' := Cls (fun W => Box W g96 [.int .i64 6, .int .i64 17, .int .i64 1, .int .i64 255, .int .i64 0])) (fun W h => ⟨⟨W, trivial⟩, rfl⟩) _ _ _ _ ?_
              obtain ⟨e97, he97, hi97⟩ : ∃ e : Int, ([.int .i64 6, .int .i64 17, .int .i64 1, .int .i64 255, .int .i64 0] : List Value)[m78]? = some (.int .i64 e) ∧ I64 e := by
                have : m78 = 0 ∨ m78 = 1 ∨ m78 = 2 ∨ m78 = 3 ∨ m78 = 4 := by omega
                rcases this with rfl | rfl | rfl | rfl | rfl <;> exact ⟨_, rfl, by unfold I64; omega⟩
              have hne97 : Nonempty (Cl (fun W => Box W g96 [.int .i64 6, .int .i64 17, .int .i64 1, .int .i64 255, .int .i64 0])) := ⟨⟨_, G96.out.1⟩⟩
              have HI97 := Lib.hid hi97
              have hcl97 : ∀ x : Cl (fun W => Box W g96 [.int .i64 6, .int .i64 17, .int .i64 1, .int .i64 255, .int .i64 0]), x.w.cell? ⟨g96, m78, none⟩ = some (.int .i64 e97) := fun x => x.ok.2.1 m78 _ he97
              refine anyC_seg [5, 6] #[true, true, true, true, true, true, true, true, true, true, false, false, true, false] (fuel := 3) rfl (by kernel_rfl) ⟨⟨_, G96.out.1⟩, rfl⟩ ?_
              simp only [pickOps, List.getD_cons_succ, List.getD_cons_zero]
              repeat (go_big_quiet_step (fail))
              refine wpQuiet_nil ?_
              clear hcl97 he97 hi97
              refine anyC_sole 10 #[true, true, true, true, true, true, true, true, true, true, true, false, true, false] (fuel := 2) (by kernel_rfl) ?_
              simp only [List.getD_cons_succ, List.getD_cons_zero]
              go_wp2_with fail
              refine (l01Below_any _ p 9 (by decide) C96.out).mono ?_
              rintro e w98 ⟨x98, rfl, h98a, h98b, -, hC, hU⟩
              have h98b := h98b (by decide)
              have C98 := Lib.hid hC; have U98 := Lib.hid (U96.out.same hU)
              have G98 : Hid (Box w98 g96 [.int .i64 6, .int .i64 17, .int .i64 1, .int .i64 255, .int .i64 0] ∧ p < g96) := Lib.hid ⟨G96.out.1.upd hU (by have := G96.out.2; simp; omega), G96.out.2⟩
              have B98 : Hid (Box w98 g92 [.int .i64 0, .int .i64 0, .int .i64 0, .int .i64 0, .slice none 0 0] ∧ R < g92) := Lib.hid ⟨B96.out.1.upd hU (by have := B96.out.2; have := PR.out; simp; omega), B96.out.2⟩
              clear hC hU
              go_wp2
              refine ⟨⟨⟨_, G98.out.1⟩, rfl⟩, ?_⟩
              refine anyC_seg [11] #[true, true, true, true, true, true, true, true, true, true, true, true, true, false] (fuel := 1) rfl (by kernel_rfl) ⟨⟨_, G98.out.1⟩, rfl⟩ ?_
              simp only [pickOps, List.getD_cons_succ, List.getD_cons_zero]
              repeat (go_big_quiet_step (fail))
              refine wpQuiet_nil ?_
              have BRX := Lib.hid (BR.out.upd U98.out (by have := PR.out; simp; omega))
              exact J g96 g92 x59 m78 e97 x91 x98 w98 ⟨G98.out.1, GB.out, C98.out, BRX.out, B98.out.1, U98.out, B98.out.2, ⟨h59a, h59b⟩, HI97.out, ⟨h91a, h91b⟩, ⟨h98a, h98b⟩⟩
          · simp only [List.getD_cons_succ, List.getD_cons_zero]
            go_wp2_with fail
            refine (l01Below_any _ p 9 (by decide) C91.out).mono ?_
            rintro e w99 ⟨x99, rfl, h99a, h99b, -, hC, hU⟩
            have h99b := h99b (by decide)
            have C99 := Lib.hid hC; have U99 := Lib.hid (U91.out.same hU)
            clear hC hU
            go_wp2
            refine ⟨⟨⟨_, trivial⟩, rfl⟩, ?_⟩
            refine anyC_two_ 2 12 #[true, true, true, true, true, false, false, true, true, true, true, false, false, false] #[true, true, false, true, true, false, false, true, true, true, true, false, true, false] (fuel := 5) (by kernel_rfl) ?_ ?_
            · simp only [List.getD_cons_succ, List.getD_cons_zero]
              go_wp2
              have ga100 := Grow.alloc w99 (.cells #[.int .i64 0, .int .i64 0, .int .i64 0, .int .i64 0, .slice none 0 0] 47)
              have C100 := Lib.hid (C99.out.grow ga100); have U100 := Lib.hid (U99.out.grow_ ga100)
              have B100 : Hid (Box (w99.alloc (.cells #[.int .i64 0, .int .i64 0, .int .i64 0, .int .i64 0, .slice none 0 0] 47)) w99.heap.size [.int .i64 0, .int .i64 0, .int .i64 0, .int .i64 0, .slice none 0 0] ∧ R < w99.heap.size) := Lib.hid ⟨Box.alloc w99 [.int .i64 0, .int .i64 0, .int .i64 0, .int .i64 0, .slice none 0 0] 47, (BR.out.upd U99.out (by have := PR.out; simp; omega)).1⟩
              refine ⟨⟨⟨_, trivial⟩, rfl⟩, ?_⟩
              clear ga100
              generalize w99.alloc (.cells #[.int .i64 0, .int .i64 0, .int .i64 0, .int .i64 0, .slice none 0 0] 47) = w100 at *
              generalize hg100 : w99.heap.size = g100
              replace B100 := Lib.hid (hg100 ▸ B100.out)
              refine anyC_sole 2 #[true, true, true, true, true, false, false, true, true, true, true, false, true, false] (fuel := 4) (by kernel_rfl) ?_
              simp only [List.getD_cons_succ, List.getD_cons_zero]
              go_wp2
              have ga101 := Grow.alloc w100 (.cells #[.int .i64 6, .int .i64 17, .int .i64 1, .int .i64 255, .int .i64 0] 3)
              have C101 := Lib.hid (C100.out.grow ga101); have U101 := Lib.hid (U100.out.grow_ ga101)
              have G101 : Hid (Box (w100.alloc (.cells #[.int .i64 6, .int .i64 17, .int .i64 1, .int .i64 255, .int .i64 0] 3)) w100.heap.size [.int .i64 6, .int .i64 17, .int .i64 1, .int .i64 255, .int .i64 0] ∧ p < w100.heap.size) := Lib.hid ⟨Box.alloc w100 [.int .i64 6, .int .i64 17, .int .i64 1, .int .i64 255, .int .i64 0] 3, C100.out.lt⟩
              have B101 : Hid (Box (w100.alloc (.cells #[.int .i64 6, .int .i64 17, .int .i64 1, .int .i64 255, .int .i64 0] 3)) g100 [.int .i64 0, .int .i64 0, .int .i64 0, .int .i64 0, .slice none 0 0] ∧ R < g100) := Lib.hid ⟨B100.out.1.grow ga101, B100.out.2⟩
              have GB : Hid (w100.heap.size ≠ g100) := Lib.hid (Nat.ne_of_gt B100.out.1.1)
              refine ⟨⟨⟨_, trivial⟩, rfl⟩, ?_⟩
              clear ga101
              generalize w100.alloc (.cells #[.int .i64 6, .int .i64 17, .int .i64 1, .int .i64 255, .int .i64 0] 3) = w101 at *
              generalize hg101 : w100.heap.size = g101
              replace G101 := Lib.hid (hg101 ▸ G101.out)
              replace GB := Lib.hid (hg101 ▸ GB.out)
              refine anyC_sub (C' := Cls (fun W => Box W g101 [.int .i64 6, .int .i64 17, .int .i64 1, .int .i64 255, .int .i64 0])) (fun W h => ⟨⟨W, trivial⟩, rfl⟩) _ _ _ _ ?_
              obtain ⟨e102, he102, hi102⟩ : ∃ e : Int, ([.int .i64 6, .int .i64 17, .int .i64 1, .int .i64 255, .int .i64 0] : List Value)[m78]? = some (.int .i64 e) ∧ I64 e := by
                have : m78 = 0 ∨ m78 = 1 ∨ m78 = 2 ∨ m78 = 3 ∨ m78 = 4 := by omega
                rcases this with rfl | rfl | rfl | rfl | rfl <;> exact ⟨_, rfl, by unfold I64; omega⟩
              have hne102 : Nonempty (Cl (fun W => Box W g101 [.int .i64 6, .int .i64 17, .int .i64 1, .int .i64 255, .int .i64 0])) := ⟨⟨_, G101.out.1⟩⟩
              have HI102 := Lib.hid hi102
              have hcl102 : ∀ x : Cl (fun W => Box W g101 [.int .i64 6, .int .i64 17, .int .i64 1, .int .i64 255, .int .i64 0]), x.w.cell? ⟨g101, m78, none⟩ = some (.int .i64 e102) := fun x => x.ok.2.1 m78 _ he102
              refine anyC_seg [5, 6] #[true, true, true, true, true, true, true, true, true, true, true, false, true, false] (fuel := 2) rfl (by kernel_rfl) ⟨⟨_, G101.out.1⟩, rfl⟩ ?_
              simp only [pickOps, List.getD_cons_succ, List.getD_cons_zero]
              repeat (go_big_quiet_step (fail))
              refine wpQuiet_nil ?_
              clear hcl102 he102 hi102
              refine anyC_seg [11] #[true, true, true, true, true, true, true, true, true, true, true, true, true, false] (fuel := 1) rfl (by kernel_rfl) ⟨⟨_, G101.out.1⟩, rfl⟩ ?_
              simp only [pickOps, List.getD_cons_succ, List.getD_cons_zero]
              repeat (go_big_quiet_step (fail))
              refine wpQuiet_nil ?_
              have BRX := Lib.hid (BR.out.upd U101.out (by have := PR.out; simp; omega))
              exact J g101 g100 x59 m78 e102 x91 x99 w101 ⟨G101.out.1, GB.out, C101.out, BRX.out, B101.out.1, U101.out, B101.out.2, ⟨h59a, h59b⟩, HI102.out, ⟨h91a, h91b⟩, ⟨h99a, h99b⟩⟩
            · simp only [List.getD_cons_succ, List.getD_cons_zero]
              go_wp2
              have ga103 := Grow.alloc w99 (.cells #[.int .i64 6, .int .i64 17, .int .i64 1, .int .i64 255, .int .i64 0] 3)
              have C103 := Lib.hid (C99.out.grow ga103); have U103 := Lib.hid (U99.out.grow_ ga103)
              have G103 : Hid (Box (w99.alloc (.cells #[.int .i64 6, .int .i64 17, .int .i64 1, .int .i64 255, .int .i64 0] 3)) w99.heap.size [.int .i64 6, .int .i64 17, .int .i64 1, .int .i64 255, .int .i64 0] ∧ p < w99.heap.size) := Lib.hid ⟨Box.alloc w99 [.int .i64 6, .int .i64 17, .int .i64 1, .int .i64 255, .int .i64 0] 3, C99.out.lt⟩
              refine ⟨⟨⟨_, trivial⟩, rfl⟩, ?_⟩
              clear ga103
              generalize w99.alloc (.cells #[.int .i64 6, .int .i64 17, .int .i64 1, .int .i64 255, .int .i64 0] 3) = w103 at *
              generalize hg103 : w99.heap.size = g103
              replace G103 := Lib.hid (hg103 ▸ G103.out)
              refine anyC_sub (C' := Cls (fun W => Box W g103 [.int .i64 6, .int .i64 17, .int .i64 1, .int .i64 255, .int .i64 0])) (fun W h => ⟨⟨W, trivial⟩, rfl⟩) _ _ _ _ ?_
              obtain ⟨e104, he104, hi104⟩ : ∃ e : Int, ([.int .i64 6, .int .i64 17, .int .i64 1, .int .i64 255, .int .i64 0] : List Value)[m78]? = some (.int .i64 e) ∧ I64 e := by
                have : m78 = 0 ∨ m78 = 1 ∨ m78 = 2 ∨ m78 = 3 ∨ m78 = 4 := by omega
                rcases this with rfl | rfl | rfl | rfl | rfl <;> exact ⟨_, rfl, by unfold I64; omega⟩
              have hne104 : Nonempty (Cl (fun W => Box W g103 [.int .i64 6, .int .i64 17, .int .i64 1, .int .i64 255, .int .i64 0])) := ⟨⟨_, G103.out.1⟩⟩
              have HI104 := Lib.hid hi104
              have hcl104 : ∀ x : Cl (fun W => Box W g103 [.int .i64 6, .int .i64 17, .int .i64 1, .int .i64 255, .int .i64 0]), x.w.cell? ⟨g103, m78, none⟩ = some (.int .i64 e104) := fun x => x.ok.2.1 m78 _ he104
              refine anyC_seg [5, 6] #[true, true, true, true, true, true, true, true, true, true, true, false, false, false] (fuel := 3) rfl (by kernel_rfl) ⟨⟨_, G103.out.1⟩, rfl⟩ ?_
              simp only [pickOps, List.getD_cons_succ, List.getD_cons_zero]
              repeat (go_big_quiet_step (fail))
              refine wpQuiet_nil ?_
              clear hcl104 he104 hi104
              refine anyC_seg [11] #[true, true, true, true, true, true, true, true, true, true, true, true, false, false] (fuel := 2) rfl (by kernel_rfl) ⟨⟨_, G103.out.1⟩, rfl⟩ ?_
              simp only [pickOps, List.getD_cons_succ, List.getD_cons_zero]
              repeat (go_big_quiet_step (fail))
              refine wpQuiet_nil ?_
              refine anyC_sole 12 #[true, true, true, true, true, true, true, true, true, true, true, true, true, false] (fuel := 1) (by kernel_rfl) ?_
              simp only [List.getD_cons_succ, List.getD_cons_zero]
              go_wp2
              have ga105 := Grow.alloc w103 (.cells #[.int .i64 0, .int .i64 0, .int .i64 0, .int .i64 0, .slice none 0 0] 47)
              have C105 := Lib.hid (C103.out.grow ga105); have U105 := Lib.hid (U103.out.grow_ ga105)
              have B105 : Hid (Box (w103.alloc (.cells #[.int .i64 0, .int .i64 0, .int .i64 0, .int .i64 0, .slice none 0 0] 47)) w103.heap.size [.int .i64 0, .int .i64 0, .int .i64 0, .int .i64 0, .slice none 0 0] ∧ R < w103.heap.size) := Lib.hid ⟨Box.alloc w103 [.int .i64 0, .int .i64 0, .int .i64 0, .int .i64 0, .slice none 0 0] 47, (BR.out.upd U103.out (by have := PR.out; simp; omega)).1⟩
              have G105 : Hid (Box (w103.alloc (.cells #[.int .i64 0, .int .i64 0, .int .i64 0, .int .i64 0, .slice none 0 0] 47)) g103 [.int .i64 6, .int .i64 17, .int .i64 1, .int .i64 255, .int .i64 0] ∧ p < g103) := Lib.hid ⟨G103.out.1.grow ga105, G103.out.2⟩
              have GB : Hid (g103 ≠ w103.heap.size) := Lib.hid (Nat.ne_of_lt G103.out.1.1)
              refine ⟨⟨⟨_, G105.out.1⟩, rfl⟩, ?_⟩
              clear ga105
              generalize w103.alloc (.cells #[.int .i64 0, .int .i64 0, .int .i64 0, .int .i64 0, .slice none 0 0] 47) = w105 at *
              generalize hg105 : w103.heap.size = g105
              replace B105 := Lib.hid (hg105 ▸ B105.out)
              replace GB := Lib.hid (hg105 ▸ GB.out)
              have BRX := Lib.hid (BR.out.upd U105.out (by have := PR.out; simp; omega))
              exact J g103 g105 x59 m78 e104 x91 x99 w105 ⟨G105.out.1, GB.out, C105.out, BRX.out, B105.out.1, U105.out, B105.out.2, ⟨h59a, h59b⟩, HI104.out, ⟨h91a, h91b⟩, ⟨h99a, h99b⟩⟩
          · simp only [List.getD_cons_succ, List.getD_cons_zero]
            go_wp2
            have ga106 := Grow.alloc w91 (.cells #[.int .i64 6, .int .i64 17, .int .i64 1, .int .i64 255, .int .i64 0] 3)
            have C106 := Lib.hid (C91.out.grow ga106); have U106 := Lib.hid (U91.out.grow_ ga106)
            have G106 : Hid (Box (w91.alloc (.cells #[.int .i64 6, .int .i64 17, .int .i64 1, .int .i64 255, .int .i64 0] 3)) w91.heap.size [.int .i64 6, .int .i64 17, .int .i64 1, .int .i64 255, .int .i64 0] ∧ p < w91.heap.size) := Lib.hid ⟨Box.alloc w91 [.int .i64 6, .int .i64 17, .int .i64 1, .int .i64 255, .int .i64 0] 3, C91.out.lt⟩
            refine ⟨⟨⟨_, trivial⟩, rfl⟩, ?_⟩
            clear ga106
            generalize w91.alloc (.cells #[.int .i64 6, .int .i64 17, .int .i64 1, .int .i64 255, .int .i64 0] 3) = w106 at *
            generalize hg106 : w91.heap.size = g106
            replace G106 := Lib.hid (hg106 ▸ G106.out)
            refine anyC_sub (C' := Cls (fun W => Box W g106 [.int .i64 6, .int .i64 17, .int .i64 1, .int .i64 255, .int .i64 0])) (fun W h => ⟨⟨W, trivial⟩, rfl⟩) _ _ _ _ ?_
            obtain ⟨e107, he107, hi107⟩ : ∃ e : Int, ([.int .i64 6, .int .i64 17, .int .i64 1, .int .i64 255, .int .i64 0] : List Value)[m78]? = some (.int .i64 e) ∧ I64 e := by
              have : m78 = 0 ∨ m78 = 1 ∨ m78 = 2 ∨ m78 = 3 ∨ m78 = 4 := by omega
              rcases this with rfl | rfl | rfl | rfl | rfl <;> exact ⟨_, rfl, by unfold I64; omega⟩
            have hne107 : Nonempty (Cl (fun W => Box W g106 [.int .i64 6, .int .i64 17, .int .i64 1, .int .i64 255, .int .i64 0])) := ⟨⟨_, G106.out.1⟩⟩
            have HI107 := Lib.hid hi107
            have hcl107 : ∀ x : Cl (fun W => Box W g106 [.int .i64 6, .int .i64 17, .int .i64 1, .int .i64 255, .int .i64 0]), x.w.cell? ⟨g106, m78, none⟩ = some (.int .i64 e107) := fun x => x.ok.2.1 m78 _ he107
            refine anyC_seg [5, 6] #[true, true, true, true, true, true, true, true, true, true, false, false, false, false] (fuel := 4) rfl (by kernel_rfl) ⟨⟨_, G106.out.1⟩, rfl⟩ ?_
            simp only [pickOps, List.getD_cons_succ, List.getD_cons_zero]
            repeat (go_big_quiet_step (fail))
            refine wpQuiet_nil ?_
            clear hcl107 he107 hi107
            refine anyC_two_ 10 12 #[true, true, true, true, true, true, true, true, true, true, true, false, false, false] #[true, true, true, true, true, true, true, true, true, true, false, false, true, false] (fuel := 3) (by kernel_rfl) ?_ ?_
            · simp only [List.getD_cons_succ, List.getD_cons_zero]
              go_wp2
              have ga108 := Grow.alloc w106 (.cells #[.int .i64 0, .int .i64 0, .int .i64 0, .int .i64 0, .slice none 0 0] 47)
              have C108 := Lib.hid (C106.out.grow ga108); have U108 := Lib.hid (U106.out.grow_ ga108)
              have B108 : Hid (Box (w106.alloc (.cells #[.int .i64 0, .int .i64 0, .int .i64 0, .int .i64 0, .slice none 0 0] 47)) w106.heap.size [.int .i64 0, .int .i64 0, .int .i64 0, .int .i64 0, .slice none 0 0] ∧ R < w106.heap.size) := Lib.hid ⟨Box.alloc w106 [.int .i64 0, .int .i64 0, .int .i64 0, .int .i64 0, .slice none 0 0] 47, (BR.out.upd U106.out (by have := PR.out; simp; omega)).1⟩
              have G108 : Hid (Box (w106.alloc (.cells #[.int .i64 0, .int .i64 0, .int .i64 0, .int .i64 0, .slice none 0 0] 47)) g106 [.int .i64 6, .int .i64 17, .int .i64 1, .int .i64 255, .int .i64 0] ∧ p < g106) := Lib.hid ⟨G106.out.1.grow ga108, G106.out.2⟩
              have GB : Hid (g106 ≠ w106.heap.size) := Lib.hid (Nat.ne_of_lt G106.out.1.1)
              refine ⟨⟨⟨_, G108.out.1⟩, rfl⟩, ?_⟩
              clear ga108
              generalize w106.alloc (.cells #[.int .i64 0, .int .i64 0, .int .i64 0, .int .i64 0, .slice none 0 0] 47) = w108 at *
              generalize hg108 : w106.heap.size = g108
              replace B108 := Lib.hid (hg108 ▸ B108.out)
              replace GB := Lib.hid (hg108 ▸ GB.out)
              refine anyC_sole 10 #[true, true, true, true, true, true, true, true, true, true, true, false, true, false] (fuel := 2) (by kernel_rfl) ?_
              simp only [List.getD_cons_succ, List.getD_cons_zero]
              go_wp2_with fail
              refine (l01Below_any _ p 9 (by decide) C108.out).mono ?_
              rintro e w109 ⟨x109, rfl, h109a, h109b, -, hC, hU⟩
              have h109b := h109b (by decide)
              have C109 := Lib.hid hC; have U109 := Lib.hid (U108.out.same hU)
              have G109 : Hid (Box w109 g106 [.int .i64 6, .int .i64 17, .int .i64 1, .int .i64 255, .int .i64 0] ∧ p < g106) := Lib.hid ⟨G108.out.1.upd hU (by have := G108.out.2; simp; omega), G108.out.2⟩
              have B109 : Hid (Box w109 g108 [.int .i64 0, .int .i64 0, .int .i64 0, .int .i64 0, .slice none 0 0] ∧ R < g108) := Lib.hid ⟨B108.out.1.upd hU (by have := B108.out.2; have := PR.out; simp; omega), B108.out.2⟩
              clear hC hU
              go_wp2
              refine ⟨⟨⟨_, G109.out.1⟩, rfl⟩, ?_⟩
              refine anyC_seg [11] #[true, true, true, true, true, true, true, true, true, true, true, true, true, false] (fuel := 1) rfl (by kernel_rfl) ⟨⟨_, G109.out.1⟩, rfl⟩ ?_
              simp only [pickOps, List.getD_cons_succ, List.getD_cons_zero]
              repeat (go_big_quiet_step (fail))
              refine wpQuiet_nil ?_
              have BRX := Lib.hid (BR.out.upd U109.out (by have := PR.out; simp; omega))
              exact J g106 g108 x59 m78 e107 x91 x109 w109 ⟨G109.out.1, GB.out, C109.out, BRX.out, B109.out.1, U109.out, B109.out.2, ⟨h59a, h59b⟩, HI107.out, ⟨h91a, h91b⟩, ⟨h109a, h109b⟩⟩
            · simp only [List.getD_cons_succ, List.getD_cons_zero]
              go_wp2_with fail
              refine (l01Below_any _ p 9 (by decide) C106.out).mono ?_
              rintro e w110 ⟨x110, rfl, h110a, h110b, -, hC, hU⟩
              have h110b := h110b (by decide)
              have C110 := Lib.hid hC; have U110 := Lib.hid (U106.out.same hU)
              have G110 : Hid (Box w110 g106 [.int .i64 6, .int .i64 17, .int .i64 1, .int .i64 255, .int .i64 0] ∧ p < g106) := Lib.hid ⟨G106.out.1.upd hU (by have := G106.out.2; simp; omega), G106.out.2⟩
              clear hC hU
              go_wp2
              refine ⟨⟨⟨_, G110.out.1⟩, rfl⟩, ?_⟩
              refine anyC_seg [11] #[true, true, true, true, true, true, true, true, true, true, true, true, false, false] (fuel := 2) rfl (by kernel_rfl) ⟨⟨_, G110.out.1⟩, rfl⟩ ?_
              simp only [pickOps, List.getD_cons_succ, List.getD_cons_zero]
              repeat (go_big_quiet_step (fail))
              refine wpQuiet_nil ?_
              refine anyC_sole 12 #[true, true, true, true, true, true, true, true, true, true, true, true, true, false] (fuel := 1) (by kernel_rfl) ?_
              simp only [List.getD_cons_succ, List.getD_cons_zero]
              go_wp2
              have ga111 := Grow.alloc w110 (.cells #[.int .i64 0, .int .i64 0, .int .i64 0, .int .i64 0, .slice none 0 0] 47)
              have C111 := Lib.hid (C110.out.grow ga111); have U111 := Lib.hid (U110.out.grow_ ga111)
              have B111 : Hid (Box (w110.alloc (.cells #[.int .i64 0, .int .i64 0, .int .i64 0, .int .i64 0, .slice none 0 0] 47)) w110.heap.size [.int .i64 0, .int .i64 0, .int .i64 0, .int .i64 0, .slice none 0 0] ∧ R < w110.heap.size) := Lib.hid ⟨Box.alloc w110 [.int .i64 0, .int .i64 0, .int .i64 0, .int .i64 0, .slice none 0 0] 47, (BR.out.upd U110.out (by have := PR.out; simp; omega)).1⟩
              have G111 : Hid (Box (w110.alloc (.cells #[.int .i64 0, .int .i64 0, .int .i64 0, .int .i64 0, .slice none 0 0] 47)) g106 [.int .i64 6, .int .i64 17, .int .i64 1, .int .i64 255, .int .i64 0] ∧ p < g106) := Lib.hid ⟨G110.out.1.grow ga111, G110.out.2⟩
              have GB : Hid (g106 ≠ w110.heap.size) := Lib.hid (Nat.ne_of_lt G110.out.1.1)
              refine ⟨⟨⟨_, G111.out.1⟩, rfl⟩, ?_⟩
              clear ga111
              generalize w110.alloc (.cells #[.int .i64 0, .int .i64 0, .int .i64 0, .int .i64 0, .slice none 0 0] 47) = w111 at *
              generalize hg111 : w110.heap.size = g111
              replace B111 := Lib.hid (hg111 ▸ B111.out)
              replace GB := Lib.hid (hg111 ▸ GB.out)
              have BRX := Lib.hid (BR.out.upd U111.out (by have := PR.out; simp; omega))
              exact J g106 g111 x59 m78 e107 x91 x110 w111 ⟨G111.out.1, GB.out, C111.out, BRX.out, B111.out.1, U111.out, B111.out.2, ⟨h59a, h59b⟩, HI107.out, ⟨h91a, h91b⟩, ⟨h110a, h110b⟩⟩
        · simp only [List.getD_cons_succ, List.getD_cons_zero]
          go_wp2
          have ga112 := Grow.alloc w78 (.cells #[.int .i64 6, .int .i64 17, .int .i64 1, .int .i64 255, .int .i64 0] 3)
          have C112 := Lib.hid (C78.out.grow ga112); have U112 := Lib.hid (U78.out.grow_ ga112)
          have G112 : Hid (Box (w78.alloc (.cells #[.int .i64 6, .int .i64 17, .int .i64 1, .int .i64 255, .int .i64 0] 3)) w78.heap.size [.int .i64 6, .int .i64 17, .int .i64 1, .int .i64 255, .int .i64 0] ∧ p < w78.heap.size) := Lib.hid ⟨Box.alloc w78 [.int .i64 6, .int .i64 17, .int .i64 1, .int .i64 255, .int .i64 0] 3, C78.out.lt⟩
          refine ⟨⟨⟨_, trivial⟩, rfl⟩, ?_⟩
          clear ga112
          generalize w78.alloc (.cells #[.int .i64 6, .int .i64 17, .int .i64 1, .int .i64 255, .int .i64 0] 3) = w112 at *
          generalize hg112 : w78.heap.size = g112
          replace G112 := Lib.hid (hg112 ▸ G112.out)
          refine anyC_sub (C' := Cls (fun W => Box W g112 [.int .i64 6, .int .i64 17, .int .i64 1, .int .i64 255, .int .i64 0])) (fun W h => ⟨⟨W, trivial⟩, rfl⟩) _ _ _ _ ?_
          obtain ⟨e113, he113, hi113⟩ : ∃ e : Int, ([.int .i64 6, .int .i64 17, .int .i64 1, .int .i64 255, .int .i64 0] : List Value)[m78]? = some (.int .i64 e) ∧ I64 e := by
            have : m78 = 0 ∨ m78 = 1 ∨ m78 = 2 ∨ m78 = 3 ∨ m78 = 4 := by omega
            rcases this with rfl | rfl | rfl | rfl | rfl <;> exact ⟨_, rfl, by unfold I64; omega⟩
          have hne113 : Nonempty (Cl (fun W => Box W g112 [.int .i64 6, .int .i64 17, .int .i64 1, .int .i64 255, .int .i64 0])) := ⟨⟨_, G112.out.1⟩⟩
          have HI113 := Lib.hid hi113
          have hcl113 : ∀ x : Cl (fun W => Box W g112 [.int .i64 6, .int .i64 17, .int .i64 1, .int .i64 255, .int .i64 0]), x.w.cell? ⟨g112, m78, none⟩ = some (.int .i64 e113) := fun x => x.ok.2.1 m78 _ he113
          refine anyC_seg [5, 6] #[true, true, true, true, true, true, true, true, false, true, false, false, false, false] (fuel := 5) rfl (by kernel_rfl) ⟨⟨_, G112.out.1⟩, rfl⟩ ?_
          simp only [pickOps, List.getD_cons_succ, List.getD_cons_zero]
          repeat (go_big_quiet_step (fail))
          refine wpQuiet_nil ?_
          clear hcl113 he113 hi113
          refine anyC_two_ 8 12 #[true, true, true, true, true, true, true, true, true, true, false, false, false, false] #[true, true, true, true, true, true, true, true, false, true, false, false, true, false] (fuel := 4) (by kernel_rfl) ?_ ?_
          · simp only [List.getD_cons_succ, List.getD_cons_zero]
            go_wp2
            have ga114 := Grow.alloc w112 (.cells #[.int .i64 0, .int .i64 0, .int .i64 0, .int .i64 0, .slice none 0 0] 47)
            have C114 := Lib.hid (C112.out.grow ga114); have U114 := Lib.hid (U112.out.grow_ ga114)
            have B114 : Hid (Box (w112.alloc (.cells #[.int .i64 0, .int .i64 0, .int .i64 0, .int .i64 0, .slice none 0 0] 47)) w112.heap.size [.int .i64 0, .int .i64 0, .int .i64 0, .int .i64 0, .slice none 0 0] ∧ R < w112.heap.size) := Lib.hid ⟨Box.alloc w112 [.int .i64 0, .int .i64 0, .int .i64 0, .int .i64 0, .slice none 0 0] 47, (BR.out.upd U112.out (by have := PR.out; simp; omega)).1⟩
            have G114 : Hid (Box (w112.alloc (.cells #[.int .i64 0, .int .i64 0, .int .i64 0, .int .i64 0, .slice none 0 0] 47)) g112 [.int .i64 6, .int .i64 17, .int .i64 1, .int .i64 255, .int .i64 0] ∧ p < g112) := Lib.hid ⟨G112.out.1.grow ga114, G112.out.2⟩
            have GB : Hid (g112 ≠ w112.heap.size) := Lib.hid (Nat.ne_of_lt G112.out.1.1)
            refine ⟨⟨⟨_, G114.out.1⟩, rfl⟩, ?_⟩
            clear ga114
            generalize w112.alloc (.cells #[.int .i64 0, .int .i64 0, .int .i64 0, .int .i64 0, .slice none 0 0] 47) = w114 at *
            generalize hg114 : w112.heap.size = g114
            replace B114 := Lib.hid (hg114 ▸ B114.out)
            replace GB := Lib.hid (hg114 ▸ GB.out)
            refine anyC_sole 8 #[true, true, true, true, true, true, true, true, true, true, false, false, true, false] (fuel := 3) (by kernel_rfl) ?_
            simp only [List.getD_cons_succ, List.getD_cons_zero]
            go_wp2_with fail
            refine (l01Below_any _ p 9 (by decide) C114.out).mono ?_
            rintro e w115 ⟨x115, rfl, h115a, h115b, -, hC, hU⟩
            have h115b := h115b (by decide)
            have C115 := Lib.hid hC; have U115 := Lib.hid (U114.out.same hU)
            have G115 : Hid (Box w115 g112 [.int .i64 6, .int .i64 17, .int .i64 1, .int .i64 255, .int .i64 0] ∧ p < g112) := Lib.hid ⟨G114.out.1.upd hU (by have := G114.out.2; simp; omega), G114.out.2⟩
            have B115 : Hid (Box w115 g114 [.int .i64 0, .int .i64 0, .int .i64 0, .int .i64 0, .slice none 0 0] ∧ R < g114) := Lib.hid ⟨B114.out.1.upd hU (by have := B114.out.2; have := PR.out; simp; omega), B114.out.2⟩
            clear hC hU
            go_wp2
            refine ⟨⟨⟨_, G115.out.1⟩, rfl⟩, ?_⟩
            refine anyC_sole 10 #[true, true, true, true, true, true, true, true, true, true, true, false, true, false] (fuel := 2) (by kernel_rfl) ?_
            simp only [List.getD_cons_succ, List.getD_cons_zero]
            go_wp2_with fail
            refine (l01Below_any _ p 9 (by decide) C115.out).mono ?_
            rintro e w116 ⟨x116, rfl, h116a, h116b, -, hC, hU⟩
            have h116b := h116b (by decide)
            have C116 := Lib.hid hC; have U116 := Lib.hid (U115.out.same hU)
            have G116 : Hid (Box w116 g112 [.int .i64 6, .int .i64 17, .int .i64 1, .int .i64 255, .int .i64 0] ∧ p < g112) := Lib.hid ⟨G115.out.1.upd hU (by have := G115.out.2; simp; omega), G115.out.2⟩
            have B116 : Hid (Box w116 g114 [.int .i64 0, .int .i64 0, .int .i64 0, .int .i64 0, .slice none 0 0] ∧ R < g114) := Lib.hid ⟨B115.out.1.upd hU (by have := B115.out.2; have := PR.out; simp; omega), B115.out.2⟩
            clear hC hU
            go_wp2
            refine ⟨⟨⟨_, G116.out.1⟩, rfl⟩, ?_⟩
            refine anyC_seg [11] #[true, true, true, true, true, true, true, true, true, true, true, true, true, false] (fuel := 1) rfl (by kernel_rfl) ⟨⟨_, G116.out.1⟩, rfl⟩ ?_
            simp only [pickOps, List.getD_cons_succ, List.getD_cons_zero]
            repeat (go_big_quiet_step (fail))
            refine wpQuiet_nil ?_
            have BRX := Lib.hid (BR.out.upd U116.out (by have := PR.out; simp; omega))
            exact J g112 g114 x59 m78 e113 x115 x116 w116 ⟨G116.out.1, GB.out, C116.out, BRX.out, B116.out.1, U116.out, B116.out.2, ⟨h59a, h59b⟩, HI113.out, ⟨h115a, h115b⟩, ⟨h116a, h116b⟩⟩
          · simp only [List.getD_cons_succ, List.getD_cons_zero]
            go_wp2_with fail
            refine (l01Below_any _ p 9 (by decide) C112.out).mono ?_
            rintro e w117 ⟨x117, rfl, h117a, h117b, -, hC, hU⟩
            have h117b := h117b (by decide)
            have C117 := Lib.hid hC; have U117 := Lib.hid (U112.out.same hU)
            have G117 : Hid (Box w117 g112 [.int .i64 6, .int .i64 17, .int .i64 1, .int .i64 255, .int .i64 0] ∧ p < g112) := Lib.hid ⟨G112.out.1.upd hU (by have := G112.out.2; simp; omega), G112.out.2⟩
            clear hC hU
            go_wp2
            refine ⟨⟨⟨_, G117.out.1⟩, rfl⟩, ?_⟩
            refine anyC_two_ 10 12 #[true, true, true, true, true, true, true, true, true, true, true, false, false, false] #[true, true, true, true, true, true, true, true, true, true, false, false, true, false] (fuel := 3) (by kernel_rfl) ?_ ?_
            · simp only [List.getD_cons_succ, List.getD_cons_zero]
              go_wp2
              have ga118 := Grow.alloc w117 (.cells #[.int .i64 0, .int .i64 0, .int .i64 0, .int .i64 0, .slice none 0 0] 47)
              have C118 := Lib.hid (C117.out.grow ga118); have U118 := Lib.hid (U117.out.grow_ ga118)
              have B118 : Hid (Box (w117.alloc (.cells #[.int .i64 0, .int .i64 0, .int .i64 0, .int .i64 0, .slice none 0 0] 47)) w117.heap.size [.int .i64 0, .int .i64 0, .int .i64 0, .int .i64 0, .slice none 0 0] ∧ R < w117.heap.size) := Lib.hid ⟨Box.alloc w117 [.int .i64 0, .int .i64 0, .int .i64 0, .int .i64 0, .slice none 0 0] 47, (BR.out.upd U117.out (by have := PR.out; simp; omega)).1⟩
              have G118 : Hid (Box (w117.alloc (.cells #[.int .i64 0, .int .i64 0, .int .i64 0, .int .i64 0, .slice none 0 0] 47)) g112 [.int .i64 6, .int .i64 17, .int .i64 1, .int .i64 255, .int .i64 0] ∧ p < g112) := Lib.hid ⟨G117.out.1.grow ga118, G117.out.2⟩
              have GB : Hid (g112 ≠ w117.heap.size) := Lib.hid (Nat.ne_of_lt G117.out.1.1)
              refine ⟨⟨⟨_, G118.out.1⟩, rfl⟩, ?_⟩
              clear ga118
              generalize w117.alloc (.cells #[.int .i64 0, .int .i64 0, .int .i64 0, .int .i64 0, .slice none 0 0] 47) = w118 at *
              generalize hg118 : w117.heap.size = g118
              replace B118 := Lib.hid (hg118 ▸ B118.out)
              replace GB := Lib.hid (hg118 ▸ GB.out)
              refine anyC_sole 10 #[true, true, true, true, true, true, true, true, true, true, true, false, true, false] (fuel := 2) (by kernel_rfl) ?_
              simp only [List.getD_cons_succ, List.getD_cons_zero]
              go_wp2_with fail
              refine (l01Below_any _ p 9 (by decide) C118.out).mono ?_
              rintro e w119 ⟨x119, rfl, h119a, h119b, -, hC, hU⟩
              have h119b := h119b (by decide)
              have C119 := Lib.hid hC; have U119 := Lib.hid (U118.out.same hU)
              have G119 : Hid (Box w119 g112 [.int .i64 6, .int .i64 17, .int .i64 1, .int .i64 255, .int .i64 0] ∧ p < g112) := Lib.hid ⟨G118.out.1.upd hU (by have := G118.out.2; simp; omega), G118.out.2⟩
              have B119 : Hid (Box w119 g118 [.int .i64 0, .int .i64 0, .int .i64 0, .int .i64 0, .slice none 0 0] ∧ R < g118) := Lib.hid ⟨B118.out.1.upd hU (by have := B118.out.2; have := PR.out; simp; omega), B118.out.2⟩
              clear hC hU
              go_wp2
              refine ⟨⟨⟨_, G119.out.1⟩, rfl⟩, ?_⟩
              refine anyC_seg [11] #[true, true, true, true, true, true, true, true, true, true, true, true, true, false] (fuel := 1) rfl (by kernel_rfl) ⟨⟨_, G119.out.1⟩, rfl⟩ ?_
              simp only [pickOps, List.getD_cons_succ, List.getD_cons_zero]
              repeat (go_big_quiet_step (fail))
              refine wpQuiet_nil ?_
              have BRX := Lib.hid (BR.out.upd U119.out (by have := PR.out; simp; omega))
              exact J g112 g118 x59 m78 e113 x117 x119 w119 ⟨G119.out.1, GB.out, C119.out, BRX.out, B119.out.1, U119.out, B119.out.2, ⟨h59a, h59b⟩, HI113.out, ⟨h117a, h117b⟩, ⟨h119a, h119b⟩⟩
            · simp only [List.getD_cons_succ, List.getD_cons_zero]
              go_wp2_with fail
              refine (l01Below_any _ p 9 (by decide) C117.out).mono ?_
              rintro e w120 ⟨x120, rfl, h120a, h120b, -, hC, hU⟩
              have h120b := h120b (by decide)
              have C120 := Lib.hid hC; have U120 := Lib.hid (U117.out.same hU)
              have G120 : Hid (Box w120 g112 [.int .i64 6, .int .i64 17, .int .i64 1, .int .i64 255, .int .i64 0] ∧ p < g112) := Lib.hid ⟨G117.out.1.upd hU (by have := G117.out.2; simp; omega), G117.out.2⟩
              clear hC hU
              go_wp2
              refine ⟨⟨⟨_, G120.out.1⟩, rfl⟩, ?_⟩
              refine anyC_seg [11] #[true, true, true, true, true, true, true, true, true, true, true, true, false, false] (fuel := 2) rfl (by kernel_rfl) ⟨⟨_, G120.out.1⟩, rfl⟩ ?_
              simp only [pickOps, List.getD_cons_succ, List.getD_cons_zero]
              repeat (go_big_quiet_step (fail))
              refine wpQuiet_nil ?_
              refine anyC_sole 12 #[true, true, true, true, true, true, true, true, true, true, true, true, true, false] (fuel := 1) (by kernel_rfl) ?_
              simp only [List.getD_cons_succ, List.getD_cons_zero]
              go_wp2
              have ga121 := Grow.alloc w120 (.cells #[.int .i64 0, .int .i64 0, .int .i64 0, .int .i64 0, .slice none 0 0] 47)
              have C121 := Lib.hid (C120.out.grow ga121); have U121 := Lib.hid (U120.out.grow_ ga121)
              have B121 : Hid (Box (w120.alloc (.cells #[.int .i64 0, .int .i64 0, .int .i64 0, .int .i64 0, .slice none 0 0] 47)) w120.heap.size [.int .i64 0, .int .i64 0, .int .i64 0, .int .i64 0, .slice none 0 0] ∧ R < w120.heap.size) := Lib.hid ⟨Box.alloc w120 [.int .i64 0, .int .i64 0, .int .i64 0, .int .i64 0, .slice none 0 0] 47, (BR.out.upd U120.out (by have := PR.out; simp; omega)).1⟩
              have G121 : Hid (Box (w120.alloc (.cells #[.int .i64 0, .int .i64 0, .int .i64 0, .int .i64 0, .slice none 0 0] 47)) g112 [.int .i64 6, .int .i64 17, .int .i64 1, .int .i64 255, .int .i64 0] ∧ p < g112) := Lib.hid ⟨G120.out.1.grow ga121, G120.out.2⟩
              have GB : Hid (g112 ≠ w120.heap.size) := Lib.hid (Nat.ne_of_lt G120.out.1.1)
              refine ⟨⟨⟨_, G121.out.1⟩, rfl⟩, ?_⟩
              clear ga121
              generalize w120.alloc (.cells #[.int .i64 0, .int .i64 0, .int .i64 0, .int .i64 0, .slice none 0 0] 47) = w121 at *
              generalize hg121 : w120.heap.size = g121
              replace B121 := Lib.hid (hg121 ▸ B121.out)
              replace GB := Lib.hid (hg121 ▸ GB.out)
              have BRX := Lib.hid (BR.out.upd U121.out (by have := PR.out; simp; omega))
              exact J g112 g121 x59 m78 e113 x117 x120 w121 ⟨G121.out.1, GB.out, C121.out, BRX.out, B121.out.1, U121.out, B121.out.2, ⟨h59a, h59b⟩, HI113.out, ⟨h117a, h117b⟩, ⟨h120a, h120b⟩⟩
      · simp only [List.getD_cons_succ, List.getD_cons_zero]
        go_wp2
        have ga122 := Grow.alloc w59 (.cells #[.int .i64 6, .int .i64 17, .int .i64 1, .int .i64 255, .int .i64 0] 3)
        have C122 := Lib.hid (C59.out.grow ga122); have U122 := Lib.hid (U59.out.grow_ ga122)
        have G122 : Hid (Box (w59.alloc (.cells #[.int .i64 6, .int .i64 17, .int .i64 1, .int .i64 255, .int .i64 0] 3)) w59.heap.size [.int .i64 6, .int .i64 17, .int .i64 1, .int .i64 255, .int .i64 0] ∧ p < w59.heap.size) := Lib.hid ⟨Box.alloc w59 [.int .i64 6, .int .i64 17, .int .i64 1, .int .i64 255, .int .i64 0] 3, C59.out.lt⟩
        refine ⟨⟨⟨_, trivial⟩, rfl⟩, ?_⟩
        clear ga122
        generalize w59.alloc (.cells #[.int .i64 6, .int .i64 17, .int .i64 1, .int .i64 255, .int .i64 0] 3) = w122 at *
        generalize hg122 : w59.heap.size = g122
        replace G122 := Lib.hid (hg122 ▸ G122.out)
        refine anyC_two_ 4 12 #[true, true, true, true, true, false, false, true, false, true, false, false, false, false] #[true, true, true, true, false, false, false, true, false, true, false, false, true, false] (fuel := 7) (by kernel_rfl) ?_ ?_
        · simp only [List.getD_cons_succ, List.getD_cons_zero]
          go_wp2
          have ga123 := Grow.alloc w122 (.cells #[.int .i64 0, .int .i64 0, .int .i64 0, .int .i64 0, .slice none 0 0] 47)
          have C123 := Lib.hid (C122.out.grow ga123); have U123 := Lib.hid (U122.out.grow_ ga123)
          have B123 : Hid (Box (w122.alloc (.cells #[.int .i64 0, .int .i64 0, .int .i64 0, .int .i64 0, .slice none 0 0] 47)) w122.heap.size [.int .i64 0, .int .i64 0, .int .i64 0, .int .i64 0, .slice none 0 0] ∧ R < w122.heap.size) := Lib.hid ⟨Box.alloc w122 [.int .i64 0, .int .i64 0, .int .i64 0, .int .i64 0, .slice none 0 0] 47, (BR.out.upd U122.out (by have := PR.out; simp; omega)).1⟩
          have G123 : Hid (Box (w122.alloc (.cells #[.int .i64 0, .int .i64 0, .int .i64 0, .int .i64 0, .slice none 0 0] 47)) g122 [.int .i64 6, .int .i64 17, .int .i64 1, .int .i64 255, .int .i64 0] ∧ p < g122) := Lib.hid ⟨G122.out.1.grow ga123, G122.out.2⟩
          have GB : Hid (g122 ≠ w122.heap.size) := Lib.hid (Nat.ne_of_lt G122.out.1.1)
          refine ⟨⟨⟨_, trivial⟩, rfl⟩, ?_⟩
          clear ga123
          generalize w122.alloc (.cells #[.int .i64 0, .int .i64 0, .int .i64 0, .int .i64 0, .slice none 0 0] 47) = w123 at *
          generalize hg123 : w122.heap.size = g123
          replace B123 := Lib.hid (hg123 ▸ B123.out)
          replace GB := Lib.hid (hg123 ▸ GB.out)
          refine anyC_sole 4 #[true, true, true, true, true, false, false, true, false, true, false, false, true, false] (fuel := 6) (by kernel_rfl) ?_
          simp only [List.getD_cons_succ, List.getD_cons_zero]
          go_wp2_with fail
          refine (l01Below_any _ p 5 (by decide) C123.out).mono ?_
          rintro e w124 ⟨x124, rfl, h124a, h124b, -, hC, hU⟩
          have h124b := h124b (by decide)
          have C124 := Lib.hid hC; have U124 := Lib.hid (U123.out.same hU)
          have G124 : Hid (Box w124 g122 [.int .i64 6, .int .i64 17, .int .i64 1, .int .i64 255, .int .i64 0] ∧ p < g122) := Lib.hid ⟨G123.out.1.upd hU (by have := G123.out.2; simp; omega), G123.out.2⟩
          have B124 : Hid (Box w124 g123 [.int .i64 0, .int .i64 0, .int .i64 0, .int .i64 0, .slice none 0 0] ∧ R < g123) := Lib.hid ⟨B123.out.1.upd hU (by have := B123.out.2; have := PR.out; simp; omega), B123.out.2⟩
          obtain ⟨m124, rfl⟩ := Int.eq_ofNat_of_zero_le h124a
          clear hC hU
          go_wp2
          refine ⟨⟨⟨_, trivial⟩, rfl⟩, ?_⟩
          refine anyC_sub (C' := Cls (fun W => Box W g122 [.int .i64 6, .int .i64 17, .int .i64 1, .int .i64 255, .int .i64 0])) (fun W h => ⟨⟨W, trivial⟩, rfl⟩) _ _ _ _ ?_
          obtain ⟨e125, he125, hi125⟩ : ∃ e : Int, ([.int .i64 6, .int .i64 17, .int .i64 1, .int .i64 255, .int .i64 0] : List Value)[m124]? = some (.int .i64 e) ∧ I64 e := by
            have : m124 = 0 ∨ m124 = 1 ∨ m124 = 2 ∨ m124 = 3 ∨ m124 = 4 := by omega
            rcases this with rfl | rfl | rfl | rfl | rfl <;> exact ⟨_, rfl, by unfold I64; omega⟩
          have hne125 : Nonempty (Cl (fun W => Box W g122 [.int .i64 6, .int .i64 17, .int .i64 1, .int .i64 255, .int .i64 0])) := ⟨⟨_, G124.out.1⟩⟩
          have HI125 := Lib.hid hi125
          have hcl125 : ∀ x : Cl (fun W => Box W g122 [.int .i64 6, .int .i64 17, .int .i64 1, .int .i64 255, .int .i64 0]), x.w.cell? ⟨g122, m124, none⟩ = some (.int .i64 e125) := fun x => x.ok.2.1 m124 _ he125
          refine anyC_seg [5, 6] #[true, true, true, true, true, true, true, true, false, true, false, false, true, false] (fuel := 4) rfl (by kernel_rfl) ⟨⟨_, G124.out.1⟩, rfl⟩ ?_
          simp only [pickOps, List.getD_cons_succ, List.getD_cons_zero]
          repeat (go_big_quiet_step (fail))
          refine wpQuiet_nil ?_
          clear hcl125 he125 hi125
          refine anyC_sole 8 #[true, true, true, true, true, true, true, true, true, true, false, false, true, false] (fuel := 3) (by kernel_rfl) ?_
          simp only [List.getD_cons_succ, List.getD_cons_zero]
          go_wp2_with fail
          refine (l01Below_any _ p 9 (by decide) C124.out).mono ?_
          rintro e w126 ⟨x126, rfl, h126a, h126b, -, hC, hU⟩
          have h126b := h126b (by decide)
          have C126 := Lib.hid hC; have U126 := Lib.hid (U124.out.same hU)
          have G126 : Hid (Box w126 g122 [.int .i64 6, .int .i64 17, .int .i64 1, .int .i64 255, .int .i64 0] ∧ p < g122) := Lib.hid ⟨G124.out.1.upd hU (by have := G124.out.2; simp; omega), G124.out.2⟩
          have B126 : Hid (Box w126 g123 [.int .i64 0, .int .i64 0, .int .i64 0, .int .i64 0, .slice none 0 0] ∧ R < g123) := Lib.hid ⟨B124.out.1.upd hU (by have := B124.out.2; have := PR.out; simp; omega), B124.out.2⟩
          clear hC hU
          go_wp2
          refine ⟨⟨⟨_, G126.out.1⟩, rfl⟩, ?_⟩
          refine anyC_sole 10 #[true, true, true, true, true, true, true, true, true, true, true, false, true, false] (fuel := 2) (by kernel_rfl) ?_
          simp only [List.getD_cons_succ, List.getD_cons_zero]
          go_wp2_with fail
          refine (l01Below_any _ p 9 (by decide) C126.out).mono ?_
          rintro e w127 ⟨x127, rfl, h127a, h127b, -, hC, hU⟩
          have h127b := h127b (by decide)
          have C127 := Lib.hid hC; have U127 := Lib.hid (U126.out.same hU)
          have G127 : Hid (Box w127 g122 [.int .i64 6, .int .i64 17, .int .i64 1, .int .i64 255, .int .i64 0] ∧ p < g122) := Lib.hid ⟨G126.out.1.upd hU (by have := G126.out.2; simp; omega), G126.out.2⟩
          have B127 : Hid (Box w127 g123 [.int .i64 0, .int .i64 0, .int .i64 0, .int .i64 0, .slice none 0 0] ∧ R < g123) := Lib.hid ⟨B126.out.1.upd hU (by have := B126.out.2; have := PR.out; simp; omega), B126.out.2⟩
          clear hC hU
          go_wp2
          refine ⟨⟨⟨_, G127.out.1⟩, rfl⟩, ?_⟩
          refine anyC_seg [11] #[true, true, true, true, true, true, true, true, true, true, true, true, true, false] (fuel := 1) rfl (by kernel_rfl) ⟨⟨_, G127.out.1⟩, rfl⟩ ?_
          simp only [pickOps, List.getD_cons_succ, List.getD_cons_zero]
          repeat (go_big_quiet_step (fail))
          refine wpQuiet_nil ?_
          have BRX := Lib.hid (BR.out.upd U127.out (by have := PR.out; simp; omega))
          exact J g122 g123 x59 m124 e125 x126 x127 w127 ⟨G127.out.1, GB.out, C127.out, BRX.out, B127.out.1, U127.out, B127.out.2, ⟨h59a, h59b⟩, HI125.out, ⟨h126a, h126b⟩, ⟨h127a, h127b⟩⟩
        · simp only [List.getD_cons_succ, List.getD_cons_zero]
          go_wp2_with fail
          refine (l01Below_any _ p 5 (by decide) C122.out).mono ?_
          rintro e w128 ⟨x128, rfl, h128a, h128b, -, hC, hU⟩
          have h128b := h128b (by decide)
          have C128 := Lib.hid hC; have U128 := Lib.hid (U122.out.same hU)
          have G128 : Hid (Box w128 g122 [.int .i64 6, .int .i64 17, .int .i64 1, .int .i64 255, .int .i64 0] ∧ p < g122) := Lib.hid ⟨G122.out.1.upd hU (by have := G122.out.2; simp; omega), G122.out.2⟩
          obtain ⟨m128, rfl⟩ := Int.eq_ofNat_of_zero_le h128a
          clear hC hU
          go_wp2
          refine ⟨⟨⟨_, trivial⟩, rfl⟩, ?_⟩
          refine anyC_sub (C' := Cls (fun W => Box W g122 [.int .i64 6, .int .i64 17, .int .i64 1, .int .i64 255, .int .i64 0])) (fun W h => ⟨⟨W, trivial⟩, rfl⟩) _ _ _ _ ?_
          obtain ⟨e129, he129, hi129⟩ : ∃ e : Int, ([.int .i64 6, .int .i64 17, .int .i64 1, .int .i64 255, .int .i64 0] : List Value)[m128]? = some (.int .i64 e) ∧ I64 e := by
            have : m128 = 0 ∨ m128 = 1 ∨ m128 = 2 ∨ m128 = 3 ∨ m128 = 4 := by omega
            rcases this with rfl | rfl | rfl | rfl | rfl <;> exact ⟨_, rfl, by unfold I64; omega⟩
          have hne129 : Nonempty (Cl (fun W => Box W g122 [.int .i64 6, .int .i64 17, .int .i64 1, .int .i64 255, .int .i64 0])) := ⟨⟨_, G128.out.1⟩⟩
          have HI129 := Lib.hid hi129
          have hcl129 : ∀ x : Cl (fun W => Box W g122 [.int .i64 6, .int .i64 17, .int .i64 1, .int .i64 255, .int .i64 0]), x.w.cell? ⟨g122, m128, none⟩ = some (.int .i64 e129) := fun x => x.ok.2.1 m128 _ he129
          refine anyC_seg [5, 6] #[true, true, true, true, true, true, true, true, false, true, false, false, false, false] (fuel := 5) rfl (by kernel_rfl) ⟨⟨_, G128.out.1⟩, rfl⟩ ?_
          simp only [pickOps, List.getD_cons_succ, List.getD_cons_zero]
          repeat (go_big_quiet_step (fail))
          refine wpQuiet_nil ?_
          clear hcl129 he129 hi129
          refine anyC_two_ 8 12 #[true, true, true, true, true, true, true, true, true, true, false, false, false, false] #[true, true, true, true, true, true, true, true, false, true, false, false, true, false] (fuel := 4) (by kernel_rfl) ?_ ?_
          · simp only [List.getD_cons_succ, List.getD_cons_zero]
            go_wp2
            have ga130 := Grow.alloc w128 (.cells #[.int .i64 0, .int .i64 0, .int .i64 0, .int .i64 0, .slice none 0 0] 47)
            have C130 := Lib.hid (C128.out.grow ga130); have U130 := Lib.hid (U128.out.grow_ ga130)
            have B130 : Hid (Box (w128.alloc (.cells #[.int .i64 0, .int .i64 0, .int .i64 0, .int .i64 0, .slice none 0 0] 47)) w128.heap.size [.int .i64 0, .int .i64 0, .int .i64 0, .int .i64 0, .slice none 0 0] ∧ R < w128.heap.size) := Lib.hid ⟨Box.alloc w128 [.int .i64 0, .int .i64 0, .int .i64 0, .int .i64 0, .slice none 0 0] 47, (BR.out.upd U128.out (by have := PR.out; simp; omega)).1⟩
            have G130 : Hid (Box (w128.alloc (.cells #[.int .i64 0, .int .i64 0, .int .i64 0, .int .i64 0, .slice none 0 0] 47)) g122 [.int .i64 6, .int .i64 17, .int .i64 1, .int .i64 255, .int .i64 0] ∧ p < g122) := Lib.hid ⟨G128.out.1.grow ga130, G128.out.2⟩
            have GB : Hid (g122 ≠ w128.heap.size) := Lib.hid (Nat.ne_of_lt G128.out.1.1)
            refine ⟨⟨⟨_, G130.out.1⟩, rfl⟩, ?_⟩
            clear ga130
            generalize w128.alloc (.cells #[.int .i64 0, .int .i64 0, .int .i64 0, .int .i64 0, .slice none 0 0] 47) = w130 at *
            generalize hg130 : w128.heap.size = g130
            replace B130 := Lib.hid (hg130 ▸ B130.out)
            replace GB := Lib.hid (hg130 ▸ GB.out)
            refine anyC_sole 8 #[true, true, true, true, true, true, true, true, true, true, false, false, true, false] (fuel := 3) (by kernel_rfl) ?_
            simp only [List.getD_cons_succ, List.getD_cons_zero]
            go_wp2_with fail
            refine (l01Below_any _ p 9 (by decide) C130.out).mono ?_
            rintro e w131 ⟨x131, rfl, h131a, h131b, -, hC, hU⟩
            have h131b := h131b (by decide)
            have C131 := Lib.hid hC; have U131 := Lib.hid (U130.out.same hU)
            have G131 : Hid (Box w131 g122 [.int .i64 6, .int .i64 17, .int .i64 1, .int .i64 255, .int .i64 0] ∧ p < g122) := Lib.hid ⟨G130.out.1.upd hU (by have := G130.out.2; simp; omega), G130.out.2⟩
            have B131 : Hid (Box w131 g130 [.int .i64 0, .int .i64 0, .int .i64 0, .int .i64 0, .slice none 0 0] ∧ R < g130) := Lib.hid ⟨B130.out.1.upd hU (by have := B130.out.2; have := PR.out; simp; omega), B130.out.2⟩
            clear hC hU
            go_wp2
            refine ⟨⟨⟨_, G131.out.1⟩, rfl⟩, ?_⟩
            refine anyC_sole 10 #[true, true, true, true, true, true, true, true, true, true, true, false, true, false] (fuel := 2) (by kernel_rfl) ?_
            simp only [List.getD_cons_succ, List.getD_cons_zero]
            go_wp2_with fail
            refine (l01Below_any _ p 9 (by decide) C131.out).mono ?_
            rintro e w132 ⟨x132, rfl, h132a, h132b, -, hC, hU⟩
            have h132b := h132b (by decide)
            have C132 := Lib.hid hC; have U132 := Lib.hid (U131.out.same hU)
            have G132 : Hid (Box w132 g122 [.int .i64 6, .int .i64 17, .int .i64 1, .int .i64 255, .int .i64 0] ∧ p < g122) := Lib.hid ⟨G131.out.1.upd hU (by have := G131.out.2; simp; omega), G131.out.2⟩
            have B132 : Hid (Box w132 g130 [.int .i64 0, .int .i64 0, .int .i64 0, .int .i64 0, .slice none 0 0] ∧ R < g130) := Lib.hid ⟨B131.out.1.upd hU (by have := B131.out.2; have := PR.out; simp; omega), B131.out.2⟩
            clear hC hU
            go_wp2
            refine ⟨⟨⟨_, G132.out.1⟩, rfl⟩, ?_⟩
            refine anyC_seg [11] #[true, true, true, true, true, true, true, true, true, true, true, true, true, false] (fuel := 1) rfl (by kernel_rfl) ⟨⟨_, G132.out.1⟩, rfl⟩ ?_
            simp only [pickOps, List.getD_cons_succ, List.getD_cons_zero]
            repeat (go_big_quiet_step (fail))
            refine wpQuiet_nil ?_
            have BRX := Lib.hid (BR.out.upd U132.out (by have := PR.out; simp; omega))
            exact J g122 g130 x59 m128 e129 x131 x132 w132 ⟨G132.out.1, GB.out, C132.out, BRX.out, B132.out.1, U132.out, B132.out.2, ⟨h59a, h59b⟩, HI129.out, ⟨h131a, h131b⟩, ⟨h132a, h132b⟩⟩
          · simp only [List.getD_cons_succ, List.getD_cons_zero]
            go_wp2_with fail
            refine (l01Below_any _ p 9 (by decide) C128.out).mono ?_
            rintro e w133 ⟨x133, rfl, h133a, h133b, -, hC, hU⟩
            have h133b := h133b (by decide)
            have C133 := Lib.hid hC; have U133 := Lib.hid (U128.out.same hU)
            have G133 : Hid (Box w133 g122 [.int .i64 6, .int .i64 17, .int .i64 1, .int .i64 255, .int .i64 0] ∧ p < g122) := Lib.hid ⟨G128.out.1.upd hU (by have := G128.out.2; simp; omega), G128.out.2⟩
            clear hC hU
            go_wp2
            refine ⟨⟨⟨_, G133.out.1⟩, rfl⟩, ?_⟩
            refine anyC_two_ 10 12 #[true, true, true, true, true, true, true, true, true, true, true, false, false, false] #[true, true, true, true, true, true, true, true, true, true, false, false, true, false] (fuel := 3) (by kernel_rfl) ?_ ?_
            · simp only [List.getD_cons_succ, List.getD_cons_zero]
              go_wp2
              have ga134 := Grow.alloc w133 (.cells #[.int .i64 0, .int .i64 0, .int .i64 0, .int .i64 0, .slice none 0 0] 47)
              have C134 := Lib.hid (C133.out.grow ga134); have U134 := Lib.hid (U133.out.grow_ ga134)
              have B134 : Hid (Box (w133.alloc (.cells #[.int .i64 0, .int .i64 0, .int .i64 0, .int .i64 0, .slice none 0 0] 47)) w133.heap.size [.int .i64 0, .int .i64 0, .int .i64 0, .int .i64 0, .slice none 0 0] ∧ R < w133.heap.size) := Lib.hid ⟨Box.alloc w133 [.int .i64 0, .int .i64 0, .int .i64 0, .int .i64 0, .slice none 0 0] 47, (BR.out.upd U133.out (by have := PR.out; simp; omega)).1⟩
              have G134 : Hid (Box (w133.alloc (.cells #[.int .i64 0, .int .i64 0, .int .i64 0, .int .i64 0, .slice none 0 0] 47)) g122 [.int .i64 6, .int .i64 17, .int .i64 1, .int .i64 255, .int .i64 0] ∧ p < g122) := Lib.hid ⟨G133.out.1.grow ga134, G133.out.2⟩
              have GB : Hid (g122 ≠ w133.heap.size) := Lib.hid (Nat.ne_of_lt G133.out.1.1)
              refine ⟨⟨⟨_, G134.out.1⟩, rfl⟩, ?_⟩
              clear ga134
              generalize w133.alloc (.cells #[.int .i64 0, .int .i64 0, .int .i64 0, .int .i64 0, .slice none 0 0] 47) = w134 at *
              generalize hg134 : w133.heap.size = g134
              replace B134 := Lib.hid (hg134 ▸ B134.out)
              replace GB := Lib.hid (hg134 ▸ GB.out)
              refine anyC_sole 10 #[true, true, true, true, true, true, true, true, true, true, true, false, true, false] (fuel := 2) (by kernel_rfl) ?_
              simp only [List.getD_cons_succ, List.getD_cons_zero]
              go_wp2_with fail
              refine (l01Below_any _ p 9 (by decide) C134.out).mono ?_
              rintro e w135 ⟨x135, rfl, h135a, h135b, -, hC, hU⟩
              have h135b := h135b (by decide)
              have C135 := Lib.hid hC; have U135 := Lib.hid (U134.out.same hU)
              have G135 : Hid (Box w135 g122 [.int .i64 6, .int .i64 17, .int .i64 1, .int .i64 255, .int .i64 0] ∧ p < g122) := Lib.hid ⟨G134.out.1.upd hU (by have := G134.out.2; simp; omega), G134.out.2⟩
              have B135 : Hid (Box w135 g134 [.int .i64 0, .int .i64 0, .int .i64 0, .int .i64 0, .slice none 0 0] ∧ R < g134) := Lib.hid ⟨B134.out.1.upd hU (by have := B134.out.2; have := PR.out; simp; omega), B134.out.2⟩
              clear hC hU
              go_wp2
              refine ⟨⟨⟨_, G135.out.1⟩, rfl⟩, ?_⟩
              refine anyC_seg [11] #[true, true, true, true, true, true, true, true, true, true, true, true, true, false] (fuel := 1) rfl (by kernel_rfl) ⟨⟨_, G135.out.1⟩, rfl⟩ ?_
              simp only [pickOps, List.getD_cons_succ, List.getD_cons_zero]
              repeat (go_big_quiet_step (fail))
              refine wpQuiet_nil ?_
              have BRX := Lib.hid (BR.out.upd U135.out (by have := PR.out; simp; omega))
              exact J g122 g134 x59 m128 e129 x133 x135 w135 ⟨G135.out.1, GB.out, C135.out, BRX.out, B135.out.1, U135.out, B135.out.2, ⟨h59a, h59b⟩, HI129.out, ⟨h133a, h133b⟩, ⟨h135a, h135b⟩⟩
            · simp only [List.getD_cons_succ, List.getD_cons_zero]
              go_wp2_with fail
              refine (l01Below_any _ p 9 (by decide) C133.out).mono ?_
              rintro e w136 ⟨x136, rfl, h136a, h136b, -, hC, hU⟩
              have h136b := h136b (by decide)
              have C136 := Lib.hid hC; have U136 := Lib.hid (U133.out.same hU)
              have G136 : Hid (Box w136 g122 [.int .i64 6, .int .i64 17, .int .i64 1, .int .i64 255, .int .i64 0] ∧ p < g122) := Lib.hid ⟨G133.out.1.upd hU (by have := G133.out.2; simp; omega), G133.out.2⟩
              clear hC hU
              go_wp2
              refine ⟨⟨⟨_, G136.out.1⟩, rfl⟩, ?_⟩
              refine anyC_seg [11] #[true, true, true, true, true, true, true, true, true, true, true, true, false, false] (fuel := 2) rfl (by kernel_rfl) ⟨⟨_, G136.out.1⟩, rfl⟩ ?_
              simp only [pickOps, List.getD_cons_succ, List.getD_cons_zero]
              repeat (go_big_quiet_step (fail))
              refine wpQuiet_nil ?_
              refine anyC_sole 12 #[true, true, true, true, true, true, true, true, true, true, true, true, true, false] (fuel := 1) (by kernel_rfl) ?_
              simp only [List.getD_cons_succ, List.getD_cons_zero]
              go_wp2
              have ga137 := Grow.alloc w136 (.cells #[.int .i64 0, .int .i64 0, .int .i64 0, .int .i64 0, .slice none 0 0] 47)
              have C137 := Lib.hid (C136.out.grow ga137); have U137 := Lib.hid (U136.out.grow_ ga137)
              have B137 : Hid (Box (w136.alloc (.cells #[.int .i64 0, .int .i64 0, .int .i64 0, .int .i64 0, .slice none 0 0] 47)) w136.heap.size [.int .i64 0, .int .i64 0, .int .i64 0, .int .i64 0, .slice none 0 0] ∧ R < w136.heap.size) := Lib.hid ⟨Box.alloc w136 [.int .i64 0, .int .i64 0, .int .i64 0, .int .i64 0, .slice none 0 0] 47, (BR.out.upd U136.out (by have := PR.out; simp; omega)).1⟩
              have G137 : Hid (Box (w136.alloc (.cells #[.int .i64 0, .int .i64 0, .int .i64 0, .int .i64 0, .slice none 0 0] 47)) g122 [.int .i64 6, .int .i64 17, .int .i64 1, .int .i64 255, .int .i64 0] ∧ p < g122) := Lib.hid ⟨G136.out.1.grow ga137, G136.out.2⟩
              have GB : Hid (g122 ≠ w136.heap.size) := Lib.hid (Nat.ne_of_lt G136.out.1.1)
              refine ⟨⟨⟨_, G137.out.1⟩, rfl⟩, ?_⟩
              clear ga137
              generalize w136.alloc (.cells #[.int .i64 0, .int .i64 0, .int .i64 0, .int .i64 0, .slice none 0 0] 47) = w137 at *
              generalize hg137 : w136.heap.size = g137
              replace B137 := Lib.hid (hg137 ▸ B137.out)
              replace GB := Lib.hid (hg137 ▸ GB.out)
              have BRX := Lib.hid (BR.out.upd U137.out (by have := PR.out; simp; omega))
              exact J g122 g137 x59 m128 e129 x133 x136 w137 ⟨G137.out.1, GB.out, C137.out, BRX.out, B137.out.1, U137.out, B137.out.2, ⟨h59a, h59b⟩, HI129.out, ⟨h133a, h133b⟩, ⟨h136a, h136b⟩⟩
  intro g b x1 m e x8 x10 W ⟨hG, hgb, hC, hZ, hB, hU, hb, hx1, he, hx8, hx10⟩
  have ⟨q0, q1, q2, q3, q4⟩ := hB.five; have qz := hB.2.2; have ql := hB.1
  refine anyC_sole 13 #[true, true, true, true, true, true, true, true, true, true, true, true, true, true] (fuel := 0) (by kernel_rfl) ?_
  simp only [List.getD_cons_succ, List.getD_cons_zero]
  go_wp2
  have hu := (Upd.setCell (p := ⟨b, 4, none⟩) (Upd.setCell (p := ⟨b, 3, none⟩) (Upd.setCell (p := ⟨b, 2, none⟩) (Upd.setCell (p := ⟨b, 1, none⟩) (Upd.setCell (p := ⟨b, 0, none⟩) (Upd.refl [b] W) (by simp) (.int .i64 x1)) (by simp) (.int .i64 e)) (by simp) (.int .i64 x8)) (by simp) (.int .i64 x10)) (by simp) (.slice none 0 0))
  have pr := PR.out
  have hrr := HRR.out
  have S9 : Hid (PS w (World.setCell (World.setCell (World.setCell (World.setCell (World.setCell W ⟨b, 0, none⟩ (.int .i64 x1)) ⟨b, 1, none⟩ (.int .i64 e)) ⟨b, 2, none⟩ (.int .i64 x8)) ⟨b, 3, none⟩ (.int .i64 x10)) ⟨b, 4, none⟩ (.slice none 0 0)) p R b [.int .i64 0, .int .i64 0, .int .i64 0, .int .i64 0, .slice none 0 0] [.int .i64 x1, .int .i64 e, .int .i64 x8, .int .i64 x10, .slice none 0 0]) := Lib.hid ⟨hC.upd hu (by simp; omega), hZ.upd hu (by simp; omega), (((((hB.set 0 (.int .i64 x1) (by simp)).set 1 (.int .i64 e) (by simp)).set 2 (.int .i64 x8) (by simp)).set 3 (.int .i64 x10) (by simp)).set 4 (.slice none 0 0) (by simp)), (U0.out.same hU).fresh_ hu (by simp; omega), by omega, Nat.ne_of_lt hb, PW.out, by omega⟩
  have G9 := hG.upd hu (by simpa using hgb)
  generalize (World.setCell (World.setCell (World.setCell (World.setCell (World.setCell W ⟨b, 0, none⟩ (.int .i64 x1)) ⟨b, 1, none⟩ (.int .i64 e)) ⟨b, 2, none⟩ (.int .i64 x8)) ⟨b, 3, none⟩ (.int .i64 x10)) ⟨b, 4, none⟩ (.slice none 0 0)) = W5 at *
  refine ⟨⟨⟨_, G9⟩, rfl⟩, ?_⟩
  refine anyC_done (by kernel_rfl) ?_
  have HX1 := Lib.hid hx1; have HE := Lib.hid he; have HX8 := Lib.hid hx8; have HX10 := Lib.hid hx10
  clear hne q0 q1 q2 q3 q4 qz ql hG hgb hC hZ hB hU hb hx1 he hx8 hx10 G9 hu pr hrr BR CW U0 CD UD
  have ⟨q0, q1, q2, q3, q4⟩ := S9.out.2.2.1.five; have qz := S9.out.2.2.1.2.2; have ql := S9.out.2.2.1.1
  have ⟨y0, y1, y2, y3, y4⟩ := S9.out.2.1.five; have yz := S9.out.2.1.2.2; have yl := S9.out.2.1.1
  have hne1 : ¬ b = R := by have := S9.out.2.2.2.2.2.1; omega
  have hne2 : ¬ R = b := by have := S9.out.2.2.2.2.2.1; omega
  go_wp2_with fail
  refine (l01Below_any _ p 3 (by decide) S9.out.1).mono ?_
  rintro e w138 ⟨x138, rfl, h138a, h138b, -, hC, hU⟩
  have h138b := h138b (by decide)
  clear q0 q1 q2 q3 q4 qz ql y0 y1 y2 y3 y4 yz yl hne1 hne2
  have S138 : Hid (PS w _ p R b [.int .i64 0, .int .i64 0, .int .i64 0, .int .i64 0, .slice none 0 0] [.int .i64 x1, .int .i64 e, .int .i64 x8, .int .i64 x10, .slice none 0 0]) := Lib.hid (S9.out.step hC hU)
  clear hC hU
  by_cases kx138 : x138 = 0
  rotate_left
  · have hkx138 : (x138 == 0) = false := by simpa using kx138
    have ⟨q0, q1, q2, q3, q4⟩ := S138.out.2.2.1.five; have qz := S138.out.2.2.1.2.2; have ql := S138.out.2.2.1.1
    have ⟨y0, y1, y2, y3, y4⟩ := S138.out.2.1.five; have yz := S138.out.2.1.2.2; have yl := S138.out.2.1.1
    have hne1 : ¬ b = R := by have := S138.out.2.2.2.2.2.1; omega
    have hne2 : ¬ R = b := by have := S138.out.2.2.2.2.2.1; omega
    go_wp2_with fail
    refine (l01Bytes_any _ p 30 (by decide) S138.out.1).mono ?_
    rintro e w139 ⟨v139, zs139, fp139, rfl, ho, hf, hzb, hzl, hC, hU⟩
    obtain ⟨a139, c139, rfl⟩ := own_shape ho.1
    have F139 : Hid (FA p R b fp139) := Lib.hid (fun x hx => by have h1 := Nat.lt_of_lt_of_le S138.out.2.2.1.1 (hf x hx); have h2 := Nat.lt_of_lt_of_le S138.out.1.lt (hf x hx); have h3 := Nat.lt_of_lt_of_le S138.out.2.1.1 (hf x hx); exact ⟨by omega, by omega, by omega⟩)
    have FR139 : Hid (Fresh w fp139) := Lib.hid (fun x hx => Nat.le_trans S138.out.2.2.2.1.size (hf x hx))
    have ZB139 := Lib.hid hzb
    have ZL139 : Hid (zs139.length ≤ 1481) := Lib.hid (by omega)
    have O139 := Lib.hid ho
    have S139 : Hid (PS w _ p R b [.int .i64 0, .int .i64 0, .int .i64 0, .int .i64 0, .slice none 0 0] [.int .i64 x1, .int .i64 e, .int .i64 x8, .int .i64 x10, .slice none 0 0]) := Lib.hid (S138.out.step hC hU)
    clear hC hU ho hf hzb hzl
    clear q0 q1 q2 q3 q4 qz ql y0 y1 y2 y3 y4 yz yl hne1 hne2
    have S140 : Hid (PS w (w139.setCell ⟨b, 4, none⟩ (.slice a139 zs139.length c139)) p R b [.int .i64 0, .int .i64 0, .int .i64 0, .int .i64 0, .slice none 0 0] [.int .i64 x1, .int .i64 e, .int .i64 x8, .int .i64 x10, .slice a139 zs139.length c139]) := Lib.hid (S139.out.set 4 (.slice a139 zs139.length c139) (by simp))
    have O140 : Hid (OwnB (w139.setCell ⟨b, 4, none⟩ (.slice a139 zs139.length c139)) _ _ _) := Lib.hid (S139.out.apart (W' := w139) O139.out F139.out (.slice a139 zs139.length c139))
    have ⟨q0, q1, q2, q3, q4⟩ := S139.out.2.2.1.five; have qz := S139.out.2.2.1.2.2; have ql := S139.out.2.2.1.1
    have ⟨y0, y1, y2, y3, y4⟩ := S139.out.2.1.five; have yz := S139.out.2.1.2.2; have yl := S139.out.2.1.1
    have hne1 : ¬ b = R := by have := S139.out.2.2.2.2.2.1; omega
    have hne2 : ¬ R = b := by have := S139.out.2.2.2.2.2.1; omega
    go_wp2_with fail
    refine (l01Below_any _ p 40 (by decide) S140.out.1).mono ?_
    rintro e w141 ⟨x141, rfl, h141a, h141b, -, hC, hU⟩
    have h141b := h141b (by decide)
    clear q0 q1 q2 q3 q4 qz ql y0 y1 y2 y3 y4 yz yl hne1 hne2
    have S141 : Hid (PS w _ p R b [.int .i64 0, .int .i64 0, .int .i64 0, .int .i64 0, .slice none 0 0] [.int .i64 x1, .int .i64 e, .int .i64 x8, .int .i64 x10, .slice a139 zs139.length c139]) := Lib.hid (S140.out.step hC hU)
    have O141 := Lib.hid (S140.out.keep O140.out F139.out hU)
    clear hC hU
    by_cases kx141 : x141 = 0
    rotate_left
    · have hkx141 : (x141 == 0) = false := by simpa using kx141
      have ⟨q0, q1, q2, q3, q4⟩ := S141.out.2.2.1.five; have qz := S141.out.2.2.1.2.2; have ql := S141.out.2.2.1.1
      have ⟨y0, y1, y2, y3, y4⟩ := S141.out.2.1.five; have yz := S141.out.2.1.2.2; have yl := S141.out.2.1.1
      have hne1 : ¬ b = R := by have := S141.out.2.2.2.2.2.1; omega
      have hne2 : ¬ R = b := by have := S141.out.2.2.2.2.2.1; omega
      go_wp2
      clear q0 q1 q2 q3 q4 qz ql y0 y1 y2 y3 y4 yz yl hne1 hne2
      have ⟨q0, q1, q2, q3, q4⟩ := S141.out.2.2.1.five; have qz := S141.out.2.2.1.2.2; have ql := S141.out.2.2.1.1
      have ⟨y0, y1, y2, y3, y4⟩ := S141.out.2.1.five; have yz := S141.out.2.1.2.2; have yl := S141.out.2.1.1
      have hne1 : ¬ b = R := by have := S141.out.2.2.2.2.2.1; omega
      have hne2 : ¬ R = b := by have := S141.out.2.2.2.2.2.1; omega
      have HR := Lib.hid (S141.out.retIp O141.out F139.out FR139.out ZB139.out ZL139.out (x1) (e) (x8) (x10) (by have := HX1.out; unfold I64; omega) HE.out (by have := HX8.out; unfold I64; omega) (by have := HX10.out; unfold I64; omega))
      refine bodyPost_ret (v := .agg #[.int .i64 x1, .int .i64 e, .int .i64 x8, .int .i64 x10, .slice a139 zs139.length c139]) ?_ rfl (HR.out _ ?_)
      · simp [results, Try.results106, go_sem, q0, q1, q2, q3, q4, qz, y0, y1, y2, y3, y4, yz, yl, hne1, hne2] <;> omega
      · ((repeat (first | (with_reducible refine Upd.setCell ?_ (by simp) _) | with_reducible exact Upd.refl _ _)))

    subst kx141
    have ⟨q0, q1, q2, q3, q4⟩ := S141.out.2.2.1.five; have qz := S141.out.2.2.1.2.2; have ql := S141.out.2.2.1.1
    have ⟨y0, y1, y2, y3, y4⟩ := S141.out.2.1.five; have yz := S141.out.2.1.2.2; have yl := S141.out.2.1.1
    have hne1 : ¬ b = R := by have := S141.out.2.2.2.2.2.1; omega
    have hne2 : ¬ R = b := by have := S141.out.2.2.2.2.2.1; omega
    go_wp2_with fail
    refine (l01Below_any _ p 2 (by decide) S141.out.1).mono ?_
    rintro e w142 ⟨x142, rfl, h142a, h142b, -, hC, hU⟩
    have h142b := h142b (by decide)
    clear q0 q1 q2 q3 q4 qz ql y0 y1 y2 y3 y4 yz yl hne1 hne2
    have S142 : Hid (PS w _ p R b [.int .i64 0, .int .i64 0, .int .i64 0, .int .i64 0, .slice none 0 0] [.int .i64 x1, .int .i64 e, .int .i64 x8, .int .i64 x10, .slice a139 zs139.length c139]) := Lib.hid (S141.out.step hC hU)
    have O142 := Lib.hid (S141.out.keep O141.out F139.out hU)
    clear hC hU
    obtain ⟨m143, hm143⟩ : ∃ m : Nat, (1480 : Int) - x142 = m := ⟨((1480 : Int) - x142).toNat, by omega⟩
    have hmb143 : m143 ≤ 1480 := by omega
    obtain ⟨i0, hi, hz0, hz1, hz2⟩ := info_parts Try.infoU8
    have ⟨q0, q1, q2, q3, q4⟩ := S142.out.2.2.1.five; have qz := S142.out.2.2.1.2.2; have ql := S142.out.2.2.1.1
    have ⟨y0, y1, y2, y3, y4⟩ := S142.out.2.1.five; have yz := S142.out.2.1.2.2; have yl := S142.out.2.1.1
    have hne1 : ¬ b = R := by have := S142.out.2.2.2.2.2.1; omega
    have hne2 : ¬ R = b := by have := S142.out.2.2.2.2.2.1; omega
    go_wp2_with (at_make; refine wpList_make_full _ rfl _ _ 22 rfl w142.heap.size 5 i0 (.int .u8 0) 1 Try.underlying22 hi hz0 hz1 .i64 .i64 _ _ m143 rfl rfl rfl rfl (by rw [hz2]; omega) (by unfold maxLen; omega) (Nat.le_refl _) ?_; intro w143 hown hgr; have hgw := Grow.of_grown hgr; clear q0 q1 q2 q3 q4 qz ql y0 y1 y2 y3 y4 yz yl; have S143 : Hid (PS w w143 p R b [.int .i64 0, .int .i64 0, .int .i64 0, .int .i64 0, .slice none 0 0] [.int .i64 x1, .int .i64 e, .int .i64 x8, .int .i64 x10, .slice a139 zs139.length c139]) := Lib.hid (S142.out.grow hgw); have ⟨q0, q1, q2, q3, q4⟩ := S143.out.2.2.1.five; have qz := S143.out.2.2.1.2.2; have ql := S143.out.2.2.1.1; have ⟨y0, y1, y2, y3, y4⟩ := S143.out.2.1.five; have yz := S143.out.2.1.2.2; have yl := S143.out.2.1.1)
    have O143 : Hid (OwnB w143 (.slice (some ⟨w142.heap.size, 0, none⟩) m143 m143) (List.replicate m143 0) [w142.heap.size]) := Lib.hid (by
      have ho : w143.ownsRow w142.heap.size 5 1 (.slice (some ⟨w142.heap.size, 0, none⟩) m143 m143) m143 ((List.replicate m143 (0 : Int)).map (Value.int .u8)) := by
        rw [List.map_replicate, ← toList_madeCells_one]
        simpa [Value.cells] using hown
      have e : (List.replicate m143 (0 : Int)).length = m143 := by simp
      have := (OwnR.of ho).1
      unfold OwnB
      rw [e]
      exact this)
    have FR143 : Hid (Fresh w [w142.heap.size]) := Lib.hid (fun x hx => by have h1 := S142.out.2.2.2.1.size; simp only [List.mem_cons, List.not_mem_nil, or_false] at hx; omega)
    have F143 : Hid (FA p R b [w142.heap.size]) := Lib.hid (fun x hx => by have h1 := S142.out.2.2.1.1; have h2 := S142.out.1.lt; have h3 := S142.out.2.1.1; simp only [List.mem_cons, List.not_mem_nil, or_false] at hx; exact ⟨by omega, by omega, by omega⟩)
    clear hown hgr hgw
    have S144 : Hid (PS w (w143.setCell ⟨b, 4, none⟩ (.slice (some ⟨w142.heap.size, 0, none⟩) m143 m143)) p R b [.int .i64 0, .int .i64 0, .int .i64 0, .int .i64 0, .slice none 0 0] [.int .i64 x1, .int .i64 e, .int .i64 x8, .int .i64 x10, .slice (some ⟨w142.heap.size, 0, none⟩) m143 m143]) := Lib.hid (S143.out.set 4 (.slice (some ⟨w142.heap.size, 0, none⟩) m143 m143) (by simp))
    have O144 : Hid (OwnB (w143.setCell ⟨b, 4, none⟩ (.slice (some ⟨w142.heap.size, 0, none⟩) m143 m143)) _ _ _) := Lib.hid (S143.out.apart (W' := w143) O143.out F143.out (.slice (some ⟨w142.heap.size, 0, none⟩) m143 m143))
    clear q0 q1 q2 q3 q4 qz ql y0 y1 y2 y3 y4 yz yl hne1 hne2
    generalize (w143.setCell ⟨b, 4, none⟩ (.slice (some ⟨w142.heap.size, 0, none⟩) m143 m143)) = WV at *
    have ⟨q0, q1, q2, q3, q4⟩ := S144.out.2.2.1.five; have qz := S144.out.2.2.1.2.2; have ql := S144.out.2.2.1.1
    have ⟨y0, y1, y2, y3, y4⟩ := S144.out.2.1.five; have yz := S144.out.2.1.2.2; have yl := S144.out.2.1.1
    have hne1 : ¬ b = R := by have := S144.out.2.2.2.2.2.1; omega
    have hne2 : ¬ R = b := by have := S144.out.2.2.2.2.2.1; omega
    have HR := Lib.hid (S144.out.retIp O144.out F143.out FR143.out (fun x hx => by have := List.eq_of_mem_replicate hx; omega) (by simp <;> omega) (x1) (e) (x8) (x10) (by have := HX1.out; unfold I64; omega) HE.out (by have := HX8.out; unfold I64; omega) (by have := HX10.out; unfold I64; omega))
    refine bodyPost_ret (v := .agg #[.int .i64 x1, .int .i64 e, .int .i64 x8, .int .i64 x10, .slice (some ⟨w142.heap.size, 0, none⟩) m143 m143]) ?_ rfl (HR.out _ ?_)
    · simp [results, Try.results106, go_sem, q0, q1, q2, q3, q4, qz, y0, y1, y2, y3, y4, yz, yl, hne1, hne2] <;> omega
    · ((repeat (first | (with_reducible refine Upd.setCell ?_ (by simp) _) | with_reducible exact Upd.refl _ _)))

  subst kx138
  have ⟨q0, q1, q2, q3, q4⟩ := S138.out.2.2.1.five; have qz := S138.out.2.2.1.2.2; have ql := S138.out.2.2.1.1
  have ⟨y0, y1, y2, y3, y4⟩ := S138.out.2.1.five; have yz := S138.out.2.1.2.2; have yl := S138.out.2.1.1
  have hne1 : ¬ b = R := by have := S138.out.2.2.2.2.2.1; omega
  have hne2 : ¬ R = b := by have := S138.out.2.2.2.2.2.1; omega
  go_wp2_with fail
  refine (l01Below_any _ p 3 (by decide) S138.out.1).mono ?_
  rintro e w145 ⟨x145, rfl, h145a, h145b, -, hC, hU⟩
  have h145b := h145b (by decide)
  clear q0 q1 q2 q3 q4 qz ql y0 y1 y2 y3 y4 yz yl hne1 hne2
  have S145 : Hid (PS w _ p R b [.int .i64 0, .int .i64 0, .int .i64 0, .int .i64 0, .slice none 0 0] [.int .i64 x1, .int .i64 e, .int .i64 x8, .int .i64 x10, .slice none 0 0]) := Lib.hid (S138.out.step hC hU)
  clear hC hU
  have S146 : Hid (PS w (w145.setCell ⟨b, 2, none⟩ (.int .i64 (4294967295 - x145))) p R b [.int .i64 0, .int .i64 0, .int .i64 0, .int .i64 0, .slice none 0 0] [.int .i64 x1, .int .i64 e, .int .i64 (4294967295 - x145), .int .i64 x10, .slice none 0 0]) := Lib.hid (S145.out.set 2 (.int .i64 (4294967295 - x145)) (by simp))
  have ⟨q0, q1, q2, q3, q4⟩ := S145.out.2.2.1.five; have qz := S145.out.2.2.1.2.2; have ql := S145.out.2.2.1.1
  have ⟨y0, y1, y2, y3, y4⟩ := S145.out.2.1.five; have yz := S145.out.2.1.2.2; have yl := S145.out.2.1.1
  have hne1 : ¬ b = R := by have := S145.out.2.2.2.2.2.1; omega
  have hne2 : ¬ R = b := by have := S145.out.2.2.2.2.2.1; omega
  go_wp2_with fail
  refine (l01Below_any _ p 70000 (by decide) S146.out.1).mono ?_
  rintro e w147 ⟨x147, rfl, h147a, h147b, -, hC, hU⟩
  have h147b := h147b (by decide)
  clear q0 q1 q2 q3 q4 qz ql y0 y1 y2 y3 y4 yz yl hne1 hne2
  have S147 : Hid (PS w _ p R b [.int .i64 0, .int .i64 0, .int .i64 0, .int .i64 0, .slice none 0 0] [.int .i64 x1, .int .i64 e, .int .i64 (4294967295 - x145), .int .i64 x10, .slice none 0 0]) := Lib.hid (S146.out.step hC hU)
  clear hC hU
  have S148 : Hid (PS w (w147.setCell ⟨b, 3, none⟩ (.int .i64 (167772160 + x147))) p R b [.int .i64 0, .int .i64 0, .int .i64 0, .int .i64 0, .slice none 0 0] [.int .i64 x1, .int .i64 e, .int .i64 (4294967295 - x145), .int .i64 (167772160 + x147), .slice none 0 0]) := Lib.hid (S147.out.set 3 (.int .i64 (167772160 + x147)) (by simp))
  have ⟨q0, q1, q2, q3, q4⟩ := S147.out.2.2.1.five; have qz := S147.out.2.2.1.2.2; have ql := S147.out.2.2.1.1
  have ⟨y0, y1, y2, y3, y4⟩ := S147.out.2.1.five; have yz := S147.out.2.1.2.2; have yl := S147.out.2.1.1
  have hne1 : ¬ b = R := by have := S147.out.2.2.2.2.2.1; omega
  have hne2 : ¬ R = b := by have := S147.out.2.2.2.2.2.1; omega
  go_wp2_with fail
  refine (l01Bytes_any _ p 30 (by decide) S148.out.1).mono ?_
  rintro e w149 ⟨v149, zs149, fp149, rfl, ho, hf, hzb, hzl, hC, hU⟩
  obtain ⟨a149, c149, rfl⟩ := own_shape ho.1
  have F149 : Hid (FA p R b fp149) := Lib.hid (fun x hx => by have h1 := Nat.lt_of_lt_of_le S148.out.2.2.1.1 (hf x hx); have h2 := Nat.lt_of_lt_of_le S148.out.1.lt (hf x hx); have h3 := Nat.lt_of_lt_of_le S148.out.2.1.1 (hf x hx); exact ⟨by omega, by omega, by omega⟩)
  have FR149 : Hid (Fresh w fp149) := Lib.hid (fun x hx => Nat.le_trans S148.out.2.2.2.1.size (hf x hx))
  have ZB149 := Lib.hid hzb
  have ZL149 : Hid (zs149.length ≤ 1481) := Lib.hid (by omega)
  have O149 := Lib.hid ho
  have S149 : Hid (PS w _ p R b [.int .i64 0, .int .i64 0, .int .i64 0, .int .i64 0, .slice none 0 0] [.int .i64 x1, .int .i64 e, .int .i64 (4294967295 - x145), .int .i64 (167772160 + x147), .slice none 0 0]) := Lib.hid (S148.out.step hC hU)
  clear hC hU ho hf hzb hzl
  clear q0 q1 q2 q3 q4 qz ql y0 y1 y2 y3 y4 yz yl hne1 hne2
  have S150 : Hid (PS w (w149.setCell ⟨b, 4, none⟩ (.slice a149 zs149.length c149)) p R b [.int .i64 0, .int .i64 0, .int .i64 0, .int .i64 0, .slice none 0 0] [.int .i64 x1, .int .i64 e, .int .i64 (4294967295 - x145), .int .i64 (167772160 + x147), .slice a149 zs149.length c149]) := Lib.hid (S149.out.set 4 (.slice a149 zs149.length c149) (by simp))
  have O150 : Hid (OwnB (w149.setCell ⟨b, 4, none⟩ (.slice a149 zs149.length c149)) _ _ _) := Lib.hid (S149.out.apart (W' := w149) O149.out F149.out (.slice a149 zs149.length c149))
  have ⟨q0, q1, q2, q3, q4⟩ := S149.out.2.2.1.five; have qz := S149.out.2.2.1.2.2; have ql := S149.out.2.2.1.1
  have ⟨y0, y1, y2, y3, y4⟩ := S149.out.2.1.five; have yz := S149.out.2.1.2.2; have yl := S149.out.2.1.1
  have hne1 : ¬ b = R := by have := S149.out.2.2.2.2.2.1; omega
  have hne2 : ¬ R = b := by have := S149.out.2.2.2.2.2.1; omega
  go_wp2_with fail
  refine (l01Below_any _ p 40 (by decide) S150.out.1).mono ?_
  rintro e w151 ⟨x151, rfl, h151a, h151b, -, hC, hU⟩
  have h151b := h151b (by decide)
  clear q0 q1 q2 q3 q4 qz ql y0 y1 y2 y3 y4 yz yl hne1 hne2
  have S151 : Hid (PS w _ p R b [.int .i64 0, .int .i64 0, .int .i64 0, .int .i64 0, .slice none 0 0] [.int .i64 x1, .int .i64 e, .int .i64 (4294967295 - x145), .int .i64 (167772160 + x147), .slice a149 zs149.length c149]) := Lib.hid (S150.out.step hC hU)
  have O151 := Lib.hid (S150.out.keep O150.out F149.out hU)
  clear hC hU
  by_cases kx151 : x151 = 0
  rotate_left
  · have hkx151 : (x151 == 0) = false := by simpa using kx151
    have ⟨q0, q1, q2, q3, q4⟩ := S151.out.2.2.1.five; have qz := S151.out.2.2.1.2.2; have ql := S151.out.2.2.1.1
    have ⟨y0, y1, y2, y3, y4⟩ := S151.out.2.1.five; have yz := S151.out.2.1.2.2; have yl := S151.out.2.1.1
    have hne1 : ¬ b = R := by have := S151.out.2.2.2.2.2.1; omega
    have hne2 : ¬ R = b := by have := S151.out.2.2.2.2.2.1; omega
    go_wp2
    clear q0 q1 q2 q3 q4 qz ql y0 y1 y2 y3 y4 yz yl hne1 hne2
    have ⟨q0, q1, q2, q3, q4⟩ := S151.out.2.2.1.five; have qz := S151.out.2.2.1.2.2; have ql := S151.out.2.2.1.1
    have ⟨y0, y1, y2, y3, y4⟩ := S151.out.2.1.five; have yz := S151.out.2.1.2.2; have yl := S151.out.2.1.1
    have hne1 : ¬ b = R := by have := S151.out.2.2.2.2.2.1; omega
    have hne2 : ¬ R = b := by have := S151.out.2.2.2.2.2.1; omega
    have HR := Lib.hid (S151.out.retIp O151.out F149.out FR149.out ZB149.out ZL149.out (x1) (e) (4294967295 - x145) (167772160 + x147) (by have := HX1.out; unfold I64; omega) HE.out (by unfold I64; omega) (by unfold I64; omega))
    refine bodyPost_ret (v := .agg #[.int .i64 x1, .int .i64 e, .int .i64 (4294967295 - x145), .int .i64 (167772160 + x147), .slice a149 zs149.length c149]) ?_ rfl (HR.out _ ?_)
    · simp [results, Try.results106, go_sem, q0, q1, q2, q3, q4, qz, y0, y1, y2, y3, y4, yz, yl, hne1, hne2] <;> omega
    · ((repeat (first | (with_reducible refine Upd.setCell ?_ (by simp) _) | with_reducible exact Upd.refl _ _)))

  subst kx151
  have ⟨q0, q1, q2, q3, q4⟩ := S151.out.2.2.1.five; have qz := S151.out.2.2.1.2.2; have ql := S151.out.2.2.1.1
  have ⟨y0, y1, y2, y3, y4⟩ := S151.out.2.1.five; have yz := S151.out.2.1.2.2; have yl := S151.out.2.1.1
  have hne1 : ¬ b = R := by have := S151.out.2.2.2.2.2.1; omega
  have hne2 : ¬ R = b := by have := S151.out.2.2.2.2.2.1; omega
  go_wp2_with fail
  refine (l01Below_any _ p 2 (by decide) S151.out.1).mono ?_
  rintro e w152 ⟨x152, rfl, h152a, h152b, -, hC, hU⟩
  have h152b := h152b (by decide)
  clear q0 q1 q2 q3 q4 qz ql y0 y1 y2 y3 y4 yz yl hne1 hne2
  have S152 : Hid (PS w _ p R b [.int .i64 0, .int .i64 0, .int .i64 0, .int .i64 0, .slice none 0 0] [.int .i64 x1, .int .i64 e, .int .i64 (4294967295 - x145), .int .i64 (167772160 + x147), .slice a149 zs149.length c149]) := Lib.hid (S151.out.step hC hU)
  have O152 := Lib.hid (S151.out.keep O151.out F149.out hU)
  clear hC hU
  obtain ⟨m153, hm153⟩ : ∃ m : Nat, (1480 : Int) - x152 = m := ⟨((1480 : Int) - x152).toNat, by omega⟩
  have hmb153 : m153 ≤ 1480 := by omega
  obtain ⟨i0, hi, hz0, hz1, hz2⟩ := info_parts Try.infoU8
  have ⟨q0, q1, q2, q3, q4⟩ := S152.out.2.2.1.five; have qz := S152.out.2.2.1.2.2; have ql := S152.out.2.2.1.1
  have ⟨y0, y1, y2, y3, y4⟩ := S152.out.2.1.five; have yz := S152.out.2.1.2.2; have yl := S152.out.2.1.1
  have hne1 : ¬ b = R := by have := S152.out.2.2.2.2.2.1; omega
  have hne2 : ¬ R = b := by have := S152.out.2.2.2.2.2.1; omega
  go_wp2_with (at_make; refine wpList_make_full _ rfl _ _ 22 rfl w152.heap.size 5 i0 (.int .u8 0) 1 Try.underlying22 hi hz0 hz1 .i64 .i64 _ _ m153 rfl rfl rfl rfl (by rw [hz2]; omega) (by unfold maxLen; omega) (Nat.le_refl _) ?_; intro w153 hown hgr; have hgw := Grow.of_grown hgr; clear q0 q1 q2 q3 q4 qz ql y0 y1 y2 y3 y4 yz yl; have S153 : Hid (PS w w153 p R b [.int .i64 0, .int .i64 0, .int .i64 0, .int .i64 0, .slice none 0 0] [.int .i64 x1, .int .i64 e, .int .i64 (4294967295 - x145), .int .i64 (167772160 + x147), .slice a149 zs149.length c149]) := Lib.hid (S152.out.grow hgw); have ⟨q0, q1, q2, q3, q4⟩ := S153.out.2.2.1.five; have qz := S153.out.2.2.1.2.2; have ql := S153.out.2.2.1.1; have ⟨y0, y1, y2, y3, y4⟩ := S153.out.2.1.five; have yz := S153.out.2.1.2.2; have yl := S153.out.2.1.1)
  have O153 : Hid (OwnB w153 (.slice (some ⟨w152.heap.size, 0, none⟩) m153 m153) (List.replicate m153 0) [w152.heap.size]) := Lib.hid (by
    have ho : w153.ownsRow w152.heap.size 5 1 (.slice (some ⟨w152.heap.size, 0, none⟩) m153 m153) m153 ((List.replicate m153 (0 : Int)).map (Value.int .u8)) := by
      rw [List.map_replicate, ← toList_madeCells_one]
      simpa [Value.cells] using hown
    have e : (List.replicate m153 (0 : Int)).length = m153 := by simp
    have := (OwnR.of ho).1
    unfold OwnB
    rw [e]
    exact this)
  have FR153 : Hid (Fresh w [w152.heap.size]) := Lib.hid (fun x hx => by have h1 := S152.out.2.2.2.1.size; simp only [List.mem_cons, List.not_mem_nil, or_false] at hx; omega)
  have F153 : Hid (FA p R b [w152.heap.size]) := Lib.hid (fun x hx => by have h1 := S152.out.2.2.1.1; have h2 := S152.out.1.lt; have h3 := S152.out.2.1.1; simp only [List.mem_cons, List.not_mem_nil, or_false] at hx; exact ⟨by omega, by omega, by omega⟩)
  clear hown hgr hgw
  have S154 : Hid (PS w (w153.setCell ⟨b, 4, none⟩ (.slice (some ⟨w152.heap.size, 0, none⟩) m153 m153)) p R b [.int .i64 0, .int .i64 0, .int .i64 0, .int .i64 0, .slice none 0 0] [.int .i64 x1, .int .i64 e, .int .i64 (4294967295 - x145), .int .i64 (167772160 + x147), .slice (some ⟨w152.heap.size, 0, none⟩) m153 m153]) := Lib.hid (S153.out.set 4 (.slice (some ⟨w152.heap.size, 0, none⟩) m153 m153) (by simp))
  have O154 : Hid (OwnB (w153.setCell ⟨b, 4, none⟩ (.slice (some ⟨w152.heap.size, 0, none⟩) m153 m153)) _ _ _) := Lib.hid (S153.out.apart (W' := w153) O153.out F153.out (.slice (some ⟨w152.heap.size, 0, none⟩) m153 m153))
  clear q0 q1 q2 q3 q4 qz ql y0 y1 y2 y3 y4 yz yl hne1 hne2
  generalize (w153.setCell ⟨b, 4, none⟩ (.slice (some ⟨w152.heap.size, 0, none⟩) m153 m153)) = WV at *
  have ⟨q0, q1, q2, q3, q4⟩ := S154.out.2.2.1.five; have qz := S154.out.2.2.1.2.2; have ql := S154.out.2.2.1.1
  have ⟨y0, y1, y2, y3, y4⟩ := S154.out.2.1.five; have yz := S154.out.2.1.2.2; have yl := S154.out.2.1.1
  have hne1 : ¬ b = R := by have := S154.out.2.2.2.2.2.1; omega
  have hne2 : ¬ R = b := by have := S154.out.2.2.2.2.2.1; omega
  have HR := Lib.hid (S154.out.retIp O154.out F153.out FR153.out (fun x hx => by have := List.eq_of_mem_replicate hx; omega) (by simp <;> omega) (x1) (e) (4294967295 - x145) (167772160 + x147) (by have := HX1.out; unfold I64; omega) HE.out (by unfold I64; omega) (by unfold I64; omega))
  refine bodyPost_ret (v := .agg #[.int .i64 x1, .int .i64 e, .int .i64 (4294967295 - x145), .int .i64 (167772160 + x147), .slice (some ⟨w152.heap.size, 0, none⟩) m153 m153]) ?_ rfl (HR.out _ ?_)
  · simp [results, Try.results106, go_sem, q0, q1, q2, q3, q4, qz, y0, y1, y2, y3, y4, yz, yl, hne1, hne2] <;> omega
  · ((repeat (first | (with_reducible refine Upd.setCell ?_ (by simp) _) | with_reducible exact Upd.refl _ _)))

--%
end Go.Proofs.Ytcldfodnblkeiaa
