/- IpRead: contracts of the code, the program's side (printed by girp.py). -/
import Derived.Test.YtcldfodnblkeiaaIrp
import Derived.Test.YtcldfodnblkeiaaIbi
import Derived.Test.YtcldfodnblkeiaaPr
import Derived.Test.YtcldfodnblkeiaaEqb
import Derived.WalkKit
import Derived.ProofKit
import Derived.Deep.QuietTactic
import Derived.BigQuiet
import Derived.Outline
import Derived.WalkSpells
namespace Go.Proofs.Ytcldfodnblkeiaa
open Go.ChangeShapes Go.WideShapes Go.ChangeAt Go.RowKit
set_option linter.unusedVariables false
set_option linter.unusedSimpArgs false
--%
theorem irF_1 {b : List Int} (h : ¬ (20 ≤ b.length ∧ b.length ≤ 1500)) : irF b = (zeroI, 1) := by unfold irF; rw [if_pos h]
theorem irF_2 {b : List Int} (h : 20 ≤ b.length ∧ b.length ≤ 1500) (h0 : ¬ b.getD 0 0 = 69) : irF b = (zeroI, 2) := by unfold irF; rw [if_neg (not_not_intro h), if_pos h0]
theorem irF_3 {b : List Int} (h : 20 ≤ b.length ∧ b.length ≤ 1500) (h0 : b.getD 0 0 = 69) (h1 : ¬ (b.getD 1 0 = 0 ∧ fld b 4 4 = 0)) : irF b = (zeroI, 3) := by
  unfold irF; rw [if_neg (not_not_intro h), if_neg (not_not_intro h0), if_pos h1]
theorem irF_4 {b : List Int} (h : 20 ≤ b.length ∧ b.length ≤ 1500) (h0 : b.getD 0 0 = 69) (h1 : b.getD 1 0 = 0 ∧ fld b 4 4 = 0) (h2 : ¬ fld b 2 2 = b.length) : irF b = (zeroI, 4) := by
  unfold irF; rw [if_neg (not_not_intro h), if_neg (not_not_intro h0), if_neg (not_not_intro h1), if_pos h2]
theorem irF_5 {b : List Int} (h : 20 ≤ b.length ∧ b.length ≤ 1500) (h0 : b.getD 0 0 = 69) (h1 : b.getD 1 0 = 0 ∧ fld b 4 4 = 0) (h2 : fld b 2 2 = b.length) (h3 : ¬ fld b 10 2 = 65535 - s16 0 (ihHead (irD b) 0)) : irF b = (zeroI, 5) := by
  unfold irF; rw [if_neg (not_not_intro h), if_neg (not_not_intro h0), if_neg (not_not_intro h1), if_neg (not_not_intro h2), if_neg h3]
theorem irF_0 {b : List Int} (h : 20 ≤ b.length ∧ b.length ≤ 1500) (h0 : b.getD 0 0 = 69) (h1 : b.getD 1 0 = 0 ∧ fld b 4 4 = 0) (h2 : fld b 2 2 = b.length) (h3 : fld b 10 2 = 65535 - s16 0 (ihHead (irD b) 0)) : irF b = (irD b, 0) := by
  unfold irF; rw [if_neg (not_not_intro h), if_neg (not_not_intro h0), if_neg (not_not_intro h1), if_neg (not_not_intro h2), if_pos h3]
--% IpReadI 46
set_option maxHeartbeats 1000000 in
theorem ipReadI_any (w : World) (v : Value) (d : DatB) (h : RdB w v d) (b : WfB d) (sm : SmB d) : Calls Try.prog 46 #[v] w (RetNew2 OwnIp (irF d).1 (.int .i64 (irF d).2) w) := by
  obtain ⟨a, c, rfl, hlc, hm, -, hcell⟩ := Rd.ints h
  unfold maxLen at hm
  have HZ : ∀ (w1 : World), Grow w w1 → ∀ k, RetNew2 OwnIp zeroI (.int .i64 k) w (.returned (.tuple #[.agg #[.int .i64 0, .int .i64 0, .int .i64 0, .int .i64 0, .slice none 0 0], .int .i64 k])) w1 := fun w1 hg k => ⟨_, [], rfl, ⟨_, rfl, ownB_nil _⟩, by simp [Fresh], hg⟩
  have HZ := Lib.hid HZ
  by_cases h20 : 20 ≤ d.length
  rotate_left
  · rw [irF_1 (by omega)]
    clear h b sm hcell
    go_enter Try.func46, Try.ntmps46
    go_wp2
    refine bodyPost_ret (v := .tuple #[.agg #[.int .i64 0, .int .i64 0, .int .i64 0, .int .i64 0, .slice none 0 0], .int .i64 1]) ?_ rfl (HZ.out _ ?_ _)
    · simp [results, Try.results46, go_sem]
    · ((repeat (first | with_reducible exact Grow.refl _ | (with_reducible refine Grow.alloc_ ?_ _) | (with_reducible refine Grow.setCell_ ?_ (by first | exact Nat.le_refl _ | (simp only [World.alloc, Array.size_push]; omega) | omega) _))))

  obtain ⟨b0, o0, rfl⟩ := RdB.at_ h (by omega)
  have hx : ∀ i : Nat, i < d.length → w.cell? ⟨b0, o0 + i, none⟩ = some (.int .u8 (d.getD i 0)) := fun i hi => by
    obtain ⟨_, _, e, hc⟩ := hcell i hi
    obtain ⟨rfl, rfl⟩ : b0 = _ ∧ o0 = _ := by simpa using e
    rw [hc]; simp [List.getElem?_eq_getElem hi]
  have HV := Lib.hid h; have HB : Hid (Bytes d) := Lib.hid b; have HS := Lib.hid sm
  have HX := Lib.hid hx
  clear h b sm hcell hx
  by_cases h15 : d.length ≤ 1500
  rotate_left
  · rw [irF_1 (by omega)]
    go_enter Try.func46, Try.ntmps46
    go_wp2
    refine bodyPost_ret (v := .tuple #[.agg #[.int .i64 0, .int .i64 0, .int .i64 0, .int .i64 0, .slice none 0 0], .int .i64 1]) ?_ rfl (HZ.out _ ?_ _)
    · simp [results, Try.results46, go_sem]
    · ((repeat (first | with_reducible exact Grow.refl _ | (with_reducible refine Grow.alloc_ ?_ _) | (with_reducible refine Grow.setCell_ ?_ (by first | exact Nat.le_refl _ | (simp only [World.alloc, Array.size_push]; omega) | omega) _))))

  have HH := Lib.hid (And.intro h20 h15)
  by_cases e0 : d.getD 0 0 = 69
  rotate_left
  · rw [irF_2 HH.out e0]
    have hb0 : (d.getD 0 0 != 69) = true := by simpa using e0
    have x0 := HX.out 0 (by omega)
    rw [Nat.add_zero] at x0
    have y0 := (Grow.alloc w (.cells #[.int .i64 0, .int .i64 0, .int .i64 0, .int .i64 0, .slice none 0 0] 47)).cell x0
    generalize d.getD 0 0 = v0 at *
    clear e0
    go_enter Try.func46, Try.ntmps46
    go_wp2
    refine bodyPost_ret (v := .tuple #[.agg #[.int .i64 0, .int .i64 0, .int .i64 0, .int .i64 0, .slice none 0 0], .int .i64 2]) ?_ rfl (HZ.out _ ?_ _)
    · simp [results, Try.results46, go_sem]
    · ((repeat (first | with_reducible exact Grow.refl _ | (with_reducible refine Grow.alloc_ ?_ _) | (with_reducible refine Grow.setCell_ ?_ (by first | exact Nat.le_refl _ | (simp only [World.alloc, Array.size_push]; omega) | omega) _))))

  have x0 := HX.out 0 (by omega)
  have x1 := HX.out 1 (by omega)
  rw [Nat.add_zero, e0] at x0
  by_cases e1 : d.getD 1 0 = 0
  rotate_left
  · rw [irF_3 HH.out e0 (by intro h; exact e1 h.1)]
    have hb1 : (d.getD 1 0 != 0) = true := by simpa using e1
    clear e0
    have y0 := (Grow.alloc w (.cells #[.int .i64 0, .int .i64 0, .int .i64 0, .int .i64 0, .slice none 0 0] 47)).cell x0
    have y1 := (Grow.alloc w (.cells #[.int .i64 0, .int .i64 0, .int .i64 0, .int .i64 0, .slice none 0 0] 47)).cell x1
    generalize d.getD 1 0 = v1 at *
    clear e1
    go_enter Try.func46, Try.ntmps46
    go_wp2
    refine bodyPost_ret (v := .tuple #[.agg #[.int .i64 0, .int .i64 0, .int .i64 0, .int .i64 0, .slice none 0 0], .int .i64 3]) ?_ rfl (HZ.out _ ?_ _)
    · simp [results, Try.results46, go_sem]
    · ((repeat (first | with_reducible exact Grow.refl _ | (with_reducible refine Grow.alloc_ ?_ _) | (with_reducible refine Grow.setCell_ ?_ (by first | exact Nat.le_refl _ | (simp only [World.alloc, Array.size_push]; omega) | omega) _))))


  rw [e1] at x1
  have y0 := (Grow.alloc w (.cells #[.int .i64 0, .int .i64 0, .int .i64 0, .int .i64 0, .slice none 0 0] 47)).cell x0
  have y1 := (Grow.alloc w (.cells #[.int .i64 0, .int .i64 0, .int .i64 0, .int .i64 0, .slice none 0 0] 47)).cell x1
  by_cases e4 : fld d 4 4 = 0
  rotate_left
  · rw [irF_3 HH.out e0 (by intro h; exact e4 h.2)]
    have hb4 : (fld d 4 4 != 0) = true := by simpa using e4
    clear e0 e1 e4
    go_enter Try.func46, Try.ntmps46
    go_wp2_with fail
    refine at_world (w := w) ?G (fun hG => (get_same (HV.out.grow hG) HB.out 4 4 (by omega) (by omega) (by omega)).mono ?_)
    case G => ((repeat (first | with_reducible exact Grow.refl _ | (with_reducible refine Grow.alloc_ ?_ _) | (with_reducible refine Grow.setCell_ ?_ (by first | exact Nat.le_refl _ | (simp only [World.alloc, Array.size_push]; omega) | omega) _))))
    rintro e wx ⟨rfl, rfl⟩
    clear hG
    go_wp2
    refine bodyPost_ret (v := .tuple #[.agg #[.int .i64 0, .int .i64 0, .int .i64 0, .int .i64 0, .slice none 0 0], .int .i64 3]) ?_ rfl (HZ.out _ ?_ _)
    · simp [results, Try.results46, go_sem]
    · ((repeat (first | with_reducible exact Grow.refl _ | (with_reducible refine Grow.alloc_ ?_ _) | (with_reducible refine Grow.setCell_ ?_ (by first | exact Nat.le_refl _ | (simp only [World.alloc, Array.size_push]; omega) | omega) _))))


  by_cases e2 : fld d 2 2 = d.length
  rotate_left
  · rw [irF_4 HH.out e0 ⟨e1, e4⟩ e2]
    have hb2 : (fld d 2 2 != (d.length : Int)) = true := by simpa using e2
    have E4 := Lib.hid e4
    clear e0 e1 e4 e2
    go_enter Try.func46, Try.ntmps46
    go_wp2_with fail
    refine at_world (w := w) ?G (fun hG => (get_same (HV.out.grow hG) HB.out 4 4 (by omega) (by omega) (by omega)).mono ?_)
    case G => ((repeat (first | with_reducible exact Grow.refl _ | (with_reducible refine Grow.alloc_ ?_ _) | (with_reducible refine Grow.setCell_ ?_ (by first | exact Nat.le_refl _ | (simp only [World.alloc, Array.size_push]; omega) | omega) _))))
    rintro e wx ⟨rfl, rfl⟩
    clear hG
    rw [E4.out]
    go_wp2_with fail
    refine at_world (w := w) ?G (fun hG => (get_same (HV.out.grow hG) HB.out 2 2 (by omega) (by omega) (by omega)).mono ?_)
    case G => ((repeat (first | with_reducible exact Grow.refl _ | (with_reducible refine Grow.alloc_ ?_ _) | (with_reducible refine Grow.setCell_ ?_ (by first | exact Nat.le_refl _ | (simp only [World.alloc, Array.size_push]; omega) | omega) _))))
    rintro e wx ⟨rfl, rfl⟩
    clear hG
    go_wp2
    refine bodyPost_ret (v := .tuple #[.agg #[.int .i64 0, .int .i64 0, .int .i64 0, .int .i64 0, .slice none 0 0], .int .i64 4]) ?_ rfl (HZ.out _ ?_ _)
    · simp [results, Try.results46, go_sem]
    · ((repeat (first | with_reducible exact Grow.refl _ | (with_reducible refine Grow.alloc_ ?_ _) | (with_reducible refine Grow.setCell_ ?_ (by first | exact Nat.le_refl _ | (simp only [World.alloc, Array.size_push]; omega) | omega) _))))

  have hx8 : ∀ x : Cl (Grow w), x.w.cell? ⟨b0, o0 + 8, none⟩ = some (.int .u8 (d.getD 8 0)) := fun x => x.ok.cell (HX.out 8 (by omega))
  have hx9 : ∀ x : Cl (Grow w), x.w.cell? ⟨b0, o0 + 9, none⟩ = some (.int .u8 (d.getD 9 0)) := fun x => x.ok.cell (HX.out 9 (by omega))
  have HT := Lib.hid (ir_test HB.out HH.out e0 e1 e4 e2)
  have R5 : Hid (¬ fld d 10 2 = 65535 - s16 0 (ihHead (irD d) 0) → irF d = (zeroI, 5)) := Lib.hid (irF_5 HH.out e0 ⟨e1, e4⟩ e2)
  have R0 : Hid (fld d 10 2 = 65535 - s16 0 (ihHead (irD d) 0) → irF d = (irD d, 0)) := Lib.hid (irF_0 HH.out e0 ⟨e1, e4⟩ e2)
  have hs20 : SmB (d.drop 20) := by have := HS.out; unfold SmB at *; simp; omega
  obtain ⟨PP, hPP⟩ : ∃ PP, irF d = PP := ⟨_, rfl⟩
  rw [hPP]
  have HP := Lib.hid hPP
  have hb8 : 0 ≤ d.getD 8 0 ∧ d.getD 8 0 ≤ 255 := by
    have e : d.getD 8 0 = d[8]'(by omega) := by simp [List.getElem?_eq_getElem (show 8 < d.length by omega)]
    rw [e]; have := HB.out _ (List.getElem_mem (l := d) (n := 8) (by omega)); omega
  have hb9 : 0 ≤ d.getD 9 0 ∧ d.getD 9 0 ≤ 255 := by
    have e : d.getD 9 0 = d[9]'(by omega) := by simp [List.getElem?_eq_getElem (show 9 < d.length by omega)]
    rw [e]; have := HB.out _ (List.getElem_mem (l := d) (n := 9) (by omega)); omega
  have hD : irD d = ⟨d.getD 8 0, d.getD 9 0, fld d 12 4, fld d 16 4, d.drop 20⟩ := rfl
  rw [hD] at R5 R0 HT
  clear hD
  generalize d.getD 8 0 = t8 at *
  generalize d.getD 9 0 = t9 at *
  obtain ⟨n5, hn5⟩ : ∃ n, (d.drop 20).length = n := ⟨_, rfl⟩
  have N5 := Lib.hid hn5; clear hn5
  obtain ⟨X, hX⟩ : ∃ X, ipF ⟨t8, t9, fld d 12 4, fld d 16 4, d.drop 20⟩ = X := ⟨_, rfl⟩
  have HXX := Lib.hid hX
  clear hPP hX
  have E4 := Lib.hid e4; have E2 := Lib.hid e2
  clear e0 e1 e4 e2
  by_cases hc20 : c = 20
  · subst hc20
    go_enter Try.func46, Try.ntmps46
    go_wp2_with fail
    refine at_world (w := w) ?G (fun hG => (get_same (HV.out.grow hG) HB.out 4 4 (by omega) (by omega) (by omega)).mono ?_)
    case G => ((repeat (first | with_reducible exact Grow.refl _ | (with_reducible refine Grow.alloc_ ?_ _) | (with_reducible refine Grow.setCell_ ?_ (by first | exact Nat.le_refl _ | (simp only [World.alloc, Array.size_push]; omega) | omega) _))))
    rintro e wx ⟨rfl, rfl⟩
    clear hG
    rw [E4.out]
    go_wp2_with fail
    refine at_world (w := w) ?G (fun hG => (get_same (HV.out.grow hG) HB.out 2 2 (by omega) (by omega) (by omega)).mono ?_)
    case G => ((repeat (first | with_reducible exact Grow.refl _ | (with_reducible refine Grow.alloc_ ?_ _) | (with_reducible refine Grow.setCell_ ?_ (by first | exact Nat.le_refl _ | (simp only [World.alloc, Array.size_push]; omega) | omega) _))))
    rintro e wx ⟨rfl, rfl⟩
    clear hG
    rw [E2.out]
    have GA := Lib.hid (Grow.alloc w (.cells #[.int .i64 0, .int .i64 0, .int .i64 0, .int .i64 0, .slice none 0 0] 47))
    have B0 := Lib.hid (Box.alloc w [.int .i64 0, .int .i64 0, .int .i64 0, .int .i64 0, .slice none 0 0] 47)
    generalize w.alloc (.cells #[.int .i64 0, .int .i64 0, .int .i64 0, .int .i64 0, .slice none 0 0] 47) = w2 at *
    have B0 : Hid (Box w2 w.heap.size [.int .i64 0, .int .i64 0, .int .i64 0, .int .i64 0, .slice none 0 0]) := B0
    clear y0 y1 x0 x1
    go_wp2_with fail
    have hne : Nonempty (Cl (Grow w)) := ⟨⟨w, Grow.refl _⟩⟩
    have D3 := Lib.hid (GA.out.trans (Grow.drewN w2 1))
    refine wp_region_mix (Cls (Grow w)) 20 #[false, false, false, false, false, false, false, false, false, false, false, false, false, false, false, false, false, false, false, false] (by kernel_rfl) (by kernel_rfl) ⟨⟨_, D3.out⟩, rfl⟩ ?_
    refine anyC_seg [0, 1, 2, 3, 4, 5, 6, 7, 8, 9, 11, 12, 14, 15] #[true, true, true, true, true, true, true, true, true, true, false, true, true, false, true, true, false, false, false, false] (fuel := 6) rfl (by kernel_rfl) ⟨⟨_, D3.out⟩, rfl⟩ ?_
    simp only [pickOps, List.getD_cons_succ, List.getD_cons_zero]
    repeat (go_big_quiet_step (fail))
    refine wpQuiet_nil ?_
    have S2 : Hid (w.heap.size < w2.heap.size) := Lib.hid (by have := B0.out.1; exact this)
    apply viaB (fun a5 c5 b W => Grow w W ∧ w.heap.size < b ∧ Box W w.heap.size [.int .i64 0, .int .i64 0, .int .i64 0, .int .i64 0, .slice none 0 0] ∧ Box W b [.int .i64 0, .int .i64 0, .int .i64 0, .int .i64 0, .slice none 0 0] ∧ ∃ fp, OwnB W (.slice a5 n5 c5) (d.drop 20) fp ∧ Fresh w2 fp ∧ b ∉ fp)
    · intro J
      refine anyC_two_ 10 18 #[true, true, true, true, true, true, true, true, true, true, true, true, true, false, true, true, false, false, false, false] #[true, true, true, true, true, true, true, true, true, true, false, true, true, false, true, true, false, false, true, false] (fuel := 5) (by kernel_rfl) ?_ ?_
      · simp only [List.getD_cons_succ, List.getD_cons_zero]
        go_wp2
        refine ⟨⟨⟨_, D3.out.alloc_ _⟩, rfl⟩, ?_⟩
        refine anyC_sole 10 #[true, true, true, true, true, true, true, true, true, true, true, true, true, false, true, true, false, false, true, false] (fuel := 4) (by kernel_rfl) ?_
        simp only [List.getD_cons_succ, List.getD_cons_zero]
        go_wp2_with fail
        refine (get_same (HV.out.grow (D3.out.alloc_ _)) HB.out 12 4 (by omega) (by omega) (by omega)).mono ?_
        rintro e wx ⟨rfl, rfl⟩
        go_wp2
        refine ⟨⟨⟨_, (D3.out.alloc_ _)⟩, rfl⟩, ?_⟩
        refine anyC_sole 13 #[true, true, true, true, true, true, true, true, true, true, true, true, true, true, true, true, false, false, true, false] (fuel := 3) (by kernel_rfl) ?_
        simp only [List.getD_cons_succ, List.getD_cons_zero]
        go_wp2_with fail
        refine (get_same (HV.out.grow (D3.out.alloc_ _)) HB.out 16 4 (by omega) (by omega) (by omega)).mono ?_
        rintro e wx ⟨rfl, rfl⟩
        go_wp2
        refine ⟨⟨⟨_, (D3.out.alloc_ _)⟩, rfl⟩, ?_⟩
        refine anyC_sole 16 #[true, true, true, true, true, true, true, true, true, true, true, true, true, true, true, true, true, false, true, false] (fuel := 2) (by kernel_rfl) ?_
        simp only [List.getD_cons_succ, List.getD_cons_zero]
        go_wp2_with fail
        refine (clone_B _ _ (d.drop 20) ((HV.out.tail_0 rfl h20 hlc (by decide)).grow (D3.out.alloc_ _)) hs20).mono ?_
        rintro e wc ⟨vc, fpc, rfl, ho, hf, hg⟩
        obtain ⟨a5, c5, rfl⟩ := own_shape ho.1
        rw [N5.out] at ho ⊢
        have OO := Lib.hid ho; have FF := Lib.hid (hf.older ((Grow.drewN w2 1).trans (Grow.alloc _ _))); have DC := Lib.hid ((D3.out.alloc_ _).trans hg); have BZ := Lib.hid (B0.out.grow (((Grow.drewN w2 1).trans (Grow.alloc _ _)).trans hg))
        have NF : Hid (_ ∉ fpc) := Lib.hid (fun hm => absurd (hf _ hm) (by simp only [World.alloc, Array.size_push]; exact Nat.not_succ_le_self _))
        have BB := Lib.hid ((Box.alloc _ [.int .i64 0, .int .i64 0, .int .i64 0, .int .i64 0, .slice none 0 0] 47).grow hg)
        clear ho hf hg
        go_wp2
        refine ⟨⟨⟨_, DC.out⟩, rfl⟩, ?_⟩
        refine anyC_seg [17] #[true, true, true, true, true, true, true, true, true, true, true, true, true, true, true, true, true, true, true, false] (fuel := 1) rfl (by kernel_rfl) ⟨⟨_, DC.out⟩, rfl⟩ ?_
        simp only [pickOps, List.getD_cons_succ, List.getD_cons_zero]
        repeat (go_big_quiet_step (fail))
        refine wpQuiet_nil ?_
        have BL : Hid (Box _ w2.heap.size _) := BB
        have NL : Hid (w2.heap.size ∉ fpc) := NF
        have SL := Lib.hid S2.out
        generalize hbz : w2.heap.size = bz
        rw [hbz] at BL NL SL
        exact J a5 c5 bz wc ⟨DC.out, SL.out, BZ.out, BL.out, fpc, OO.out, FF.out, NL.out⟩
      · simp only [List.getD_cons_succ, List.getD_cons_zero]
        go_wp2_with fail
        refine (get_same (HV.out.grow D3.out) HB.out 12 4 (by omega) (by omega) (by omega)).mono ?_
        rintro e wx ⟨rfl, rfl⟩
        go_wp2
        refine ⟨⟨⟨_, D3.out⟩, rfl⟩, ?_⟩
        refine anyC_two_ 13 18 #[true, true, true, true, true, true, true, true, true, true, true, true, true, true, true, true, false, false, false, false] #[true, true, true, true, true, true, true, true, true, true, true, true, true, false, true, true, false, false, true, false] (fuel := 4) (by kernel_rfl) ?_ ?_
        · simp only [List.getD_cons_succ, List.getD_cons_zero]
          go_wp2
          refine ⟨⟨⟨_, D3.out.alloc_ _⟩, rfl⟩, ?_⟩
          refine anyC_sole 13 #[true, true, true, true, true, true, true, true, true, true, true, true, true, true, true, true, false, false, true, false] (fuel := 3) (by kernel_rfl) ?_
          simp only [List.getD_cons_succ, List.getD_cons_zero]
          go_wp2_with fail
          refine (get_same (HV.out.grow (D3.out.alloc_ _)) HB.out 16 4 (by omega) (by omega) (by omega)).mono ?_
          rintro e wx ⟨rfl, rfl⟩
          go_wp2
          refine ⟨⟨⟨_, (D3.out.alloc_ _)⟩, rfl⟩, ?_⟩
          refine anyC_sole 16 #[true, true, true, true, true, true, true, true, true, true, true, true, true, true, true, true, true, false, true, false] (fuel := 2) (by kernel_rfl) ?_
          simp only [List.getD_cons_succ, List.getD_cons_zero]
          go_wp2_with fail
          refine (clone_B _ _ (d.drop 20) ((HV.out.tail_0 rfl h20 hlc (by decide)).grow (D3.out.alloc_ _)) hs20).mono ?_
          rintro e wc ⟨vc, fpc, rfl, ho, hf, hg⟩
          obtain ⟨a5, c5, rfl⟩ := own_shape ho.1
          rw [N5.out] at ho ⊢
          have OO := Lib.hid ho; have FF := Lib.hid (hf.older ((Grow.drewN w2 1).trans (Grow.alloc _ _))); have DC := Lib.hid ((D3.out.alloc_ _).trans hg); have BZ := Lib.hid (B0.out.grow (((Grow.drewN w2 1).trans (Grow.alloc _ _)).trans hg))
          have NF : Hid (_ ∉ fpc) := Lib.hid (fun hm => absurd (hf _ hm) (by simp only [World.alloc, Array.size_push]; exact Nat.not_succ_le_self _))
          have BB := Lib.hid ((Box.alloc _ [.int .i64 0, .int .i64 0, .int .i64 0, .int .i64 0, .slice none 0 0] 47).grow hg)
          clear ho hf hg
          go_wp2
          refine ⟨⟨⟨_, DC.out⟩, rfl⟩, ?_⟩
          refine anyC_seg [17] #[true, true, true, true, true, true, true, true, true, true, true, true, true, true, true, true, true, true, true, false] (fuel := 1) rfl (by kernel_rfl) ⟨⟨_, DC.out⟩, rfl⟩ ?_
          simp only [pickOps, List.getD_cons_succ, List.getD_cons_zero]
          repeat (go_big_quiet_step (fail))
          refine wpQuiet_nil ?_
          exact J _ _ _ _ ⟨DC.out, S2.out, BZ.out, BB.out, fpc, OO.out, FF.out, NF.out⟩
        · simp only [List.getD_cons_succ, List.getD_cons_zero]
          go_wp2_with fail
          refine (get_same (HV.out.grow D3.out) HB.out 16 4 (by omega) (by omega) (by omega)).mono ?_
          rintro e wx ⟨rfl, rfl⟩
          go_wp2
          refine ⟨⟨⟨_, D3.out⟩, rfl⟩, ?_⟩
          refine anyC_two_ 16 18 #[true, true, true, true, true, true, true, true, true, true, true, true, true, true, true, true, true, false, false, false] #[true, true, true, true, true, true, true, true, true, true, true, true, true, true, true, true, false, false, true, false] (fuel := 3) (by kernel_rfl) ?_ ?_
          · simp only [List.getD_cons_succ, List.getD_cons_zero]
            go_wp2
            refine ⟨⟨⟨_, D3.out.alloc_ _⟩, rfl⟩, ?_⟩
            refine anyC_sole 16 #[true, true, true, true, true, true, true, true, true, true, true, true, true, true, true, true, true, false, true, false] (fuel := 2) (by kernel_rfl) ?_
            simp only [List.getD_cons_succ, List.getD_cons_zero]
            go_wp2_with fail
            refine (clone_B _ _ (d.drop 20) ((HV.out.tail_0 rfl h20 hlc (by decide)).grow (D3.out.alloc_ _)) hs20).mono ?_
            rintro e wc ⟨vc, fpc, rfl, ho, hf, hg⟩
            obtain ⟨a5, c5, rfl⟩ := own_shape ho.1
            rw [N5.out] at ho ⊢
            have OO := Lib.hid ho; have FF := Lib.hid (hf.older ((Grow.drewN w2 1).trans (Grow.alloc _ _))); have DC := Lib.hid ((D3.out.alloc_ _).trans hg); have BZ := Lib.hid (B0.out.grow (((Grow.drewN w2 1).trans (Grow.alloc _ _)).trans hg))
            have NF : Hid (_ ∉ fpc) := Lib.hid (fun hm => absurd (hf _ hm) (by simp only [World.alloc, Array.size_push]; exact Nat.not_succ_le_self _))
            have BB := Lib.hid ((Box.alloc _ [.int .i64 0, .int .i64 0, .int .i64 0, .int .i64 0, .slice none 0 0] 47).grow hg)
            clear ho hf hg
            go_wp2
            refine ⟨⟨⟨_, DC.out⟩, rfl⟩, ?_⟩
            refine anyC_seg [17] #[true, true, true, true, true, true, true, true, true, true, true, true, true, true, true, true, true, true, true, false] (fuel := 1) rfl (by kernel_rfl) ⟨⟨_, DC.out⟩, rfl⟩ ?_
            simp only [pickOps, List.getD_cons_succ, List.getD_cons_zero]
            repeat (go_big_quiet_step (fail))
            refine wpQuiet_nil ?_
            exact J _ _ _ _ ⟨DC.out, S2.out, BZ.out, BB.out, fpc, OO.out, FF.out, NF.out⟩
          · simp only [List.getD_cons_succ, List.getD_cons_zero]
            go_wp2_with fail
            refine (clone_B _ _ (d.drop 20) ((HV.out.tail_0 rfl h20 hlc (by decide)).grow D3.out) hs20).mono ?_
            rintro e wc ⟨vc, fpc, rfl, ho, hf, hg⟩
            obtain ⟨a5, c5, rfl⟩ := own_shape ho.1
            rw [N5.out] at ho ⊢
            have OO := Lib.hid ho; have FF := Lib.hid (hf.older (Grow.drewN w2 1)); have DC := Lib.hid (D3.out.trans hg); have BZ := Lib.hid (B0.out.grow ((Grow.drewN w2 1).trans hg))
            have SC : Hid (w2.heap.size ≤ wc.heap.size) := Lib.hid (((Grow.drewN w2 1).trans hg).size)
            clear ho hf hg
            go_wp2
            refine ⟨⟨⟨_, DC.out⟩, rfl⟩, ?_⟩
            refine anyC_seg [17] #[true, true, true, true, true, true, true, true, true, true, true, true, true, true, true, true, true, true, false, false] (fuel := 2) rfl (by kernel_rfl) ⟨⟨_, DC.out⟩, rfl⟩ ?_
            simp only [pickOps, List.getD_cons_succ, List.getD_cons_zero]
            repeat (go_big_quiet_step (fail))
            refine wpQuiet_nil ?_
            refine anyC_sole 18 #[true, true, true, true, true, true, true, true, true, true, true, true, true, true, true, true, true, true, true, false] (fuel := 1) (by kernel_rfl) ?_
            simp only [List.getD_cons_succ, List.getD_cons_zero]
            go_wp2
            refine ⟨⟨⟨_, DC.out.alloc_ _⟩, rfl⟩, ?_⟩
            exact J _ _ _ _ ⟨DC.out.alloc_ _, Nat.lt_of_lt_of_le S2.out SC.out, BZ.out.grow (Grow.alloc _ _), Box.alloc _ _ _, fpc, OO.out.grow (Grow.alloc _ _), FF.out, fun hm => absurd (OO.out.here _ hm) (Nat.lt_irrefl _)⟩
    intro a5 c5 b W ⟨hw, hb, hZ, hB, fp5, ho, hf, hnn⟩
    have ⟨q0, q1, q2, q3, q4⟩ := hB.five; have hl := hB.1; have hff := hB.2.2
    refine anyC_sole 19 #[true, true, true, true, true, true, true, true, true, true, true, true, true, true, true, true, true, true, true, true] (fuel := 0) (by kernel_rfl) ?_
    simp only [List.getD_cons_succ, List.getD_cons_zero]
    go_wp2
    have HU := Lib.hid (Upd.setCell (p := ⟨b, 4, none⟩) (Upd.setCell (p := ⟨b, 3, none⟩) (Upd.setCell (p := ⟨b, 2, none⟩) (Upd.setCell (p := ⟨b, 1, none⟩) (Upd.setCell (p := ⟨b, 0, none⟩) (Upd.refl [b] W) (by simp) (.int .i64 t8)) (by simp) (.int .i64 t9)) (by simp) (.int .i64 (fld d 12 4))) (by simp) (.int .i64 (fld d 16 4))) (by simp) (.slice a5 n5 c5))
    have HW := Lib.hid (Grow.setCell_ (p := ⟨b, 4, none⟩) (Grow.setCell_ (p := ⟨b, 3, none⟩) (Grow.setCell_ (p := ⟨b, 2, none⟩) (Grow.setCell_ (p := ⟨b, 1, none⟩) (Grow.setCell_ (p := ⟨b, 0, none⟩) hw (Nat.le_of_lt hb) (.int .i64 t8)) (Nat.le_of_lt hb) (.int .i64 t9)) (Nat.le_of_lt hb) (.int .i64 (fld d 12 4))) (Nat.le_of_lt hb) (.int .i64 (fld d 16 4))) (Nat.le_of_lt hb) (.slice a5 n5 c5))
    have BP := Lib.hid (((((hB.set 0 (.int .i64 t8) (by simp)).set 1 (.int .i64 t9) (by simp)).set 2 (.int .i64 (fld d 12 4)) (by simp)).set 3 (.int .i64 (fld d 16 4)) (by simp)).set 4 (.slice a5 n5 c5) (by simp))
    have BZ := Lib.hid (hZ.upd HU.out (by simp; omega))
    have OP := Lib.hid (ho.upd HU.out (fun x hx hm => hnn (by simp at hm; exact hm ▸ hx)))
    clear HU
    generalize (World.setCell (World.setCell (World.setCell (World.setCell (World.setCell W ⟨b, 0, none⟩ (.int .i64 t8)) ⟨b, 1, none⟩ (.int .i64 t9)) ⟨b, 2, none⟩ (.int .i64 (fld d 12 4))) ⟨b, 3, none⟩ (.int .i64 (fld d 16 4))) ⟨b, 4, none⟩ (.slice a5 n5 c5)) = W5 at *
    refine ⟨⟨⟨_, HW.out⟩, rfl⟩, ?_⟩
    refine anyC_done (by kernel_rfl) ?_
    have HF := Lib.hid hf; have HN := Lib.hid hnn; have HL := Lib.hid hb
    clear hne q0 q1 q2 q3 q4 hl hff hw hZ hB ho hf hnn hb D3 B0 hx8 hx9
    have BP : Hid (Box W5 b [.int .i64 t8, .int .i64 t9, .int .i64 (fld d 12 4), .int .i64 (fld d 16 4), .slice a5 n5 c5]) := BP
    have ⟨q0, q1, q2, q3, q4⟩ := BP.out.five; have z0 := BP.out.2.2; have l0 := BP.out.1
    go_wp2_with fail
    refine at_world (w := W5) ?G (fun hG => (ipBytesI_any _ _ ⟨t8, t9, fld d 12 4, fld d 16 4, d.drop 20⟩ ⟨_, rfl, (OP.out.rd).grow hG⟩).mono ?_)
    case G => ((repeat (first | with_reducible exact Grow.refl _ | (with_reducible refine Grow.alloc_ ?_ _) | (with_reducible refine Grow.setCell_ ?_ (by first | exact Nat.le_refl _ | (simp only [World.alloc, Array.size_push]; omega) | omega) _))))
    rintro e w6 ⟨vx, fpx, rfl, hx, hfx, hg⟩
    have G6 := Lib.hid (hG.trans hg)
    rw [HXX.out] at hx ⊢
    obtain ⟨X, okx⟩ := X
    simp only at hx ⊢
    have RX := Lib.hid hx.rd
    clear hG hg hx hfx
    go_wp2_with fail
    refine at_world (w := w6) ?G (fun hG => (equal_B _ _ _ X d (RX.out.grow hG) (HV.out.grow (HW.out.trans (G6.out.trans hG)))).mono ?_)
    case G => ((repeat (first | with_reducible exact Grow.refl _ | (with_reducible refine Grow.alloc_ ?_ _) | (with_reducible refine Grow.setCell_ ?_ (by first | exact Nat.le_refl _ | (simp only [World.alloc, Array.size_push]; omega) | omega) _))))
    rintro e w7 ⟨rfl, hg⟩
    have G7 := Lib.hid (G6.out.trans (hG.trans hg))
    clear hG hg q0 q1 q2 q3 q4 z0 l0
    have H7 := Lib.hid (HW.out.trans G7.out)
    have BP7 := Lib.hid (BP.out.grow G7.out); have BZ7 := Lib.hid (BZ.out.grow G7.out); have OP7 := Lib.hid (OP.out.grow G7.out)
    have HR : Hid (∀ W8, Upd [w.heap.size, b] w7 W8 → RetNew2 OwnIp ⟨t8, t9, fld d 12 4, fld d 16 4, d.drop 20⟩ (.int .i64 0) w (.returned (.tuple #[.agg #[.int .i64 t8, .int .i64 t9, .int .i64 (fld d 12 4), .int .i64 (fld d 16 4), .slice a5 n5 c5], .int .i64 0])) W8) := Lib.hid (fun W8 hu => by
      refine ⟨_, fp5, rfl, ⟨_, rfl, ?_⟩, HF.out.older GA.out, ?_⟩
      · exact OP7.out.upd hu (fun x hx hm => by
          have h1 := HF.out x hx; have h2 := S2.out
          simp only [List.mem_cons, List.not_mem_nil, or_false] at hm
          rcases hm with rfl | rfl
          · omega
          · exact HN.out hx)
      · exact H7.out.then_upd hu (by intro x hx; have := HL.out; simp only [List.mem_cons, List.not_mem_nil, or_false] at hx; omega))
    have ⟨q0, q1, q2, q3, q4⟩ := BP7.out.five; have z0 := BP7.out.2.2; have l0 := BP7.out.1
    have ⟨y0, y1, y2, y3, y4⟩ := BZ7.out.five; have zz := BZ7.out.2.2; have l1 := BZ7.out.1; have hl := HL.out
    have hne1 : ¬ b = w.heap.size := by omega
    have hne2 : ¬ w.heap.size = b := by omega
    by_cases t5 : X = d
    rotate_left
    · obtain rfl : PP = (zeroI, 5) := HP.out.symm.trans (R5.out (fun h => t5 (by have := HT.out.2 h; rw [HXX.out] at this; exact this)))
      rw [show decide (X = d) = false by simpa using t5]
      clear t5
      go_wp2
      refine bodyPost_ret (v := .tuple #[.agg #[.int .i64 0, .int .i64 0, .int .i64 0, .int .i64 0, .slice none 0 0], .int .i64 5]) ?_ rfl (HZ.out _ (Grow.box_end (fq := [w.heap.size, b]) H7.out ?_ (by simp; omega)) _)
      · simp [results, Try.results46, go_sem, y0, y1, y2, y3, y4, zz, hne1, hne2] <;> omega
      · ((repeat (first | (with_reducible refine Upd.setCell ?_ (by simp) _) | with_reducible exact Upd.refl _ _)))
    obtain rfl : PP = (⟨t8, t9, fld d 12 4, fld d 16 4, d.drop 20⟩, 0) := HP.out.symm.trans (R0.out (HT.out.1 (by rw [HXX.out]; exact t5)))
    rw [show decide (X = d) = true by simpa using t5]
    clear t5
    go_wp2
    refine bodyPost_ret (v := .tuple #[.agg #[.int .i64 t8, .int .i64 t9, .int .i64 (fld d 12 4), .int .i64 (fld d 16 4), .slice a5 n5 c5], .int .i64 0]) ?_ rfl (HR.out _ ?_)
    · simp [results, Try.results46, go_sem, q0, q1, q2, q3, q4, z0, y0, y1, y2, y3, y4, zz, hne1, hne2] <;> omega
    · ((repeat (first | (with_reducible refine Upd.setCell ?_ (by simp) _) | with_reducible exact Upd.refl _ _)))

  · have HC20 := Lib.hid hc20
    go_enter Try.func46, Try.ntmps46
    go_wp2_with fail
    refine at_world (w := w) ?G (fun hG => (get_same (HV.out.grow hG) HB.out 4 4 (by omega) (by omega) (by omega)).mono ?_)
    case G => ((repeat (first | with_reducible exact Grow.refl _ | (with_reducible refine Grow.alloc_ ?_ _) | (with_reducible refine Grow.setCell_ ?_ (by first | exact Nat.le_refl _ | (simp only [World.alloc, Array.size_push]; omega) | omega) _))))
    rintro e wx ⟨rfl, rfl⟩
    clear hG
    rw [E4.out]
    go_wp2_with fail
    refine at_world (w := w) ?G (fun hG => (get_same (HV.out.grow hG) HB.out 2 2 (by omega) (by omega) (by omega)).mono ?_)
    case G => ((repeat (first | with_reducible exact Grow.refl _ | (with_reducible refine Grow.alloc_ ?_ _) | (with_reducible refine Grow.setCell_ ?_ (by first | exact Nat.le_refl _ | (simp only [World.alloc, Array.size_push]; omega) | omega) _))))
    rintro e wx ⟨rfl, rfl⟩
    clear hG
    rw [E2.out]
    have GA := Lib.hid (Grow.alloc w (.cells #[.int .i64 0, .int .i64 0, .int .i64 0, .int .i64 0, .slice none 0 0] 47))
    have B0 := Lib.hid (Box.alloc w [.int .i64 0, .int .i64 0, .int .i64 0, .int .i64 0, .slice none 0 0] 47)
    generalize w.alloc (.cells #[.int .i64 0, .int .i64 0, .int .i64 0, .int .i64 0, .slice none 0 0] 47) = w2 at *
    have B0 : Hid (Box w2 w.heap.size [.int .i64 0, .int .i64 0, .int .i64 0, .int .i64 0, .slice none 0 0]) := B0
    clear y0 y1 x0 x1
    go_wp2_with fail
    have hne : Nonempty (Cl (Grow w)) := ⟨⟨w, Grow.refl _⟩⟩
    have D3 := Lib.hid (GA.out.trans (Grow.drewN w2 1))
    refine wp_region_mix (Cls (Grow w)) 20 #[false, false, false, false, false, false, false, false, false, false, false, false, false, false, false, false, false, false, false, false] (by kernel_rfl) (by kernel_rfl) ⟨⟨_, D3.out⟩, rfl⟩ ?_
    refine anyC_seg [0, 1, 2, 3, 4, 5, 6, 7, 8, 9, 11, 12, 14, 15] #[true, true, true, true, true, true, true, true, true, true, false, true, true, false, true, true, false, false, false, false] (fuel := 6) rfl (by kernel_rfl) ⟨⟨_, D3.out⟩, rfl⟩ ?_
    simp only [pickOps, List.getD_cons_succ, List.getD_cons_zero]
    repeat (go_big_quiet_step (fail))
    refine wpQuiet_nil ?_
    have S2 : Hid (w.heap.size < w2.heap.size) := Lib.hid (by have := B0.out.1; exact this)
    apply viaB (fun a5 c5 b W => Grow w W ∧ w.heap.size < b ∧ Box W w.heap.size [.int .i64 0, .int .i64 0, .int .i64 0, .int .i64 0, .slice none 0 0] ∧ Box W b [.int .i64 0, .int .i64 0, .int .i64 0, .int .i64 0, .slice none 0 0] ∧ ∃ fp, OwnB W (.slice a5 n5 c5) (d.drop 20) fp ∧ Fresh w2 fp ∧ b ∉ fp)
    · intro J
      refine anyC_two_ 10 18 #[true, true, true, true, true, true, true, true, true, true, true, true, true, false, true, true, false, false, false, false] #[true, true, true, true, true, true, true, true, true, true, false, true, true, false, true, true, false, false, true, false] (fuel := 5) (by kernel_rfl) ?_ ?_
      · simp only [List.getD_cons_succ, List.getD_cons_zero]
        go_wp2
        refine ⟨⟨⟨_, D3.out.alloc_ _⟩, rfl⟩, ?_⟩
        refine anyC_sole 10 #[true, true, true, true, true, true, true, true, true, true, true, true, true, false, true, true, false, false, true, false] (fuel := 4) (by kernel_rfl) ?_
        simp only [List.getD_cons_succ, List.getD_cons_zero]
        go_wp2_with fail
        refine (get_same (HV.out.grow (D3.out.alloc_ _)) HB.out 12 4 (by omega) (by omega) (by omega)).mono ?_
        rintro e wx ⟨rfl, rfl⟩
        go_wp2
        refine ⟨⟨⟨_, (D3.out.alloc_ _)⟩, rfl⟩, ?_⟩
        refine anyC_sole 13 #[true, true, true, true, true, true, true, true, true, true, true, true, true, true, true, true, false, false, true, false] (fuel := 3) (by kernel_rfl) ?_
        simp only [List.getD_cons_succ, List.getD_cons_zero]
        go_wp2_with fail
        refine (get_same (HV.out.grow (D3.out.alloc_ _)) HB.out 16 4 (by omega) (by omega) (by omega)).mono ?_
        rintro e wx ⟨rfl, rfl⟩
        go_wp2
        refine ⟨⟨⟨_, (D3.out.alloc_ _)⟩, rfl⟩, ?_⟩
        refine anyC_sole 16 #[true, true, true, true, true, true, true, true, true, true, true, true, true, true, true, true, true, false, true, false] (fuel := 2) (by kernel_rfl) ?_
        simp only [List.getD_cons_succ, List.getD_cons_zero]
        go_wp2_with fail
        refine (clone_B _ _ (d.drop 20) ((HV.out.tail_ne rfl 20 h20 (by decide) HC20.out).grow (D3.out.alloc_ _)) hs20).mono ?_
        rintro e wc ⟨vc, fpc, rfl, ho, hf, hg⟩
        obtain ⟨a5, c5, rfl⟩ := own_shape ho.1
        rw [N5.out] at ho ⊢
        have OO := Lib.hid ho; have FF := Lib.hid (hf.older ((Grow.drewN w2 1).trans (Grow.alloc _ _))); have DC := Lib.hid ((D3.out.alloc_ _).trans hg); have BZ := Lib.hid (B0.out.grow (((Grow.drewN w2 1).trans (Grow.alloc _ _)).trans hg))
        have NF : Hid (_ ∉ fpc) := Lib.hid (fun hm => absurd (hf _ hm) (by simp only [World.alloc, Array.size_push]; exact Nat.not_succ_le_self _))
        have BB := Lib.hid ((Box.alloc _ [.int .i64 0, .int .i64 0, .int .i64 0, .int .i64 0, .slice none 0 0] 47).grow hg)
        clear ho hf hg
        go_wp2
        refine ⟨⟨⟨_, DC.out⟩, rfl⟩, ?_⟩
        refine anyC_seg [17] #[true, true, true, true, true, true, true, true, true, true, true, true, true, true, true, true, true, true, true, false] (fuel := 1) rfl (by kernel_rfl) ⟨⟨_, DC.out⟩, rfl⟩ ?_
        simp only [pickOps, List.getD_cons_succ, List.getD_cons_zero]
        repeat (go_big_quiet_step (fail))
        refine wpQuiet_nil ?_
        have BL : Hid (Box _ w2.heap.size _) := BB
        have NL : Hid (w2.heap.size ∉ fpc) := NF
        have SL := Lib.hid S2.out
        generalize hbz : w2.heap.size = bz
        rw [hbz] at BL NL SL
        exact J a5 c5 bz wc ⟨DC.out, SL.out, BZ.out, BL.out, fpc, OO.out, FF.out, NL.out⟩
      · simp only [List.getD_cons_succ, List.getD_cons_zero]
        go_wp2_with fail
        refine (get_same (HV.out.grow D3.out) HB.out 12 4 (by omega) (by omega) (by omega)).mono ?_
        rintro e wx ⟨rfl, rfl⟩
        go_wp2
        refine ⟨⟨⟨_, D3.out⟩, rfl⟩, ?_⟩
        refine anyC_two_ 13 18 #[true, true, true, true, true, true, true, true, true, true, true, true, true, true, true, true, false, false, false, false] #[true, true, true, true, true, true, true, true, true, true, true, true, true, false, true, true, false, false, true, false] (fuel := 4) (by kernel_rfl) ?_ ?_
        · simp only [List.getD_cons_succ, List.getD_cons_zero]
          go_wp2
          refine ⟨⟨⟨_, D3.out.alloc_ _⟩, rfl⟩, ?_⟩
          refine anyC_sole 13 #[true, true, true, true, true, true, true, true, true, true, true, true, true, true, true, true, false, false, true, false] (fuel := 3) (by kernel_rfl) ?_
          simp only [List.getD_cons_succ, List.getD_cons_zero]
          go_wp2_with fail
          refine (get_same (HV.out.grow (D3.out.alloc_ _)) HB.out 16 4 (by omega) (by omega) (by omega)).mono ?_
          rintro e wx ⟨rfl, rfl⟩
          go_wp2
          refine ⟨⟨⟨_, (D3.out.alloc_ _)⟩, rfl⟩, ?_⟩
          refine anyC_sole 16 #[true, true, true, true, true, true, true, true, true, true, true, true, true, true, true, true, true, false, true, false] (fuel := 2) (by kernel_rfl) ?_
          simp only [List.getD_cons_succ, List.getD_cons_zero]
          go_wp2_with fail
          refine (clone_B _ _ (d.drop 20) ((HV.out.tail_ne rfl 20 h20 (by decide) HC20.out).grow (D3.out.alloc_ _)) hs20).mono ?_
          rintro e wc ⟨vc, fpc, rfl, ho, hf, hg⟩
          obtain ⟨a5, c5, rfl⟩ := own_shape ho.1
          rw [N5.out] at ho ⊢
          have OO := Lib.hid ho; have FF := Lib.hid (hf.older ((Grow.drewN w2 1).trans (Grow.alloc _ _))); have DC := Lib.hid ((D3.out.alloc_ _).trans hg); have BZ := Lib.hid (B0.out.grow (((Grow.drewN w2 1).trans (Grow.alloc _ _)).trans hg))
          have NF : Hid (_ ∉ fpc) := Lib.hid (fun hm => absurd (hf _ hm) (by simp only [World.alloc, Array.size_push]; exact Nat.not_succ_le_self _))
          have BB := Lib.hid ((Box.alloc _ [.int .i64 0, .int .i64 0, .int .i64 0, .int .i64 0, .slice none 0 0] 47).grow hg)
          clear ho hf hg
          go_wp2
          refine ⟨⟨⟨_, DC.out⟩, rfl⟩, ?_⟩
          refine anyC_seg [17] #[true, true, true, true, true, true, true, true, true, true, true, true, true, true, true, true, true, true, true, false] (fuel := 1) rfl (by kernel_rfl) ⟨⟨_, DC.out⟩, rfl⟩ ?_
          simp only [pickOps, List.getD_cons_succ, List.getD_cons_zero]
          repeat (go_big_quiet_step (fail))
          refine wpQuiet_nil ?_
          exact J _ _ _ _ ⟨DC.out, S2.out, BZ.out, BB.out, fpc, OO.out, FF.out, NF.out⟩
        · simp only [List.getD_cons_succ, List.getD_cons_zero]
          go_wp2_with fail
          refine (get_same (HV.out.grow D3.out) HB.out 16 4 (by omega) (by omega) (by omega)).mono ?_
          rintro e wx ⟨rfl, rfl⟩
          go_wp2
          refine ⟨⟨⟨_, D3.out⟩, rfl⟩, ?_⟩
          refine anyC_two_ 16 18 #[true, true, true, true, true, true, true, true, true, true, true, true, true, true, true, true, true, false, false, false] #[true, true, true, true, true, true, true, true, true, true, true, true, true, true, true, true, false, false, true, false] (fuel := 3) (by kernel_rfl) ?_ ?_
          · simp only [List.getD_cons_succ, List.getD_cons_zero]
            go_wp2
            refine ⟨⟨⟨_, D3.out.alloc_ _⟩, rfl⟩, ?_⟩
            refine anyC_sole 16 #[true, true, true, true, true, true, true, true, true, true, true, true, true, true, true, true, true, false, true, false] (fuel := 2) (by kernel_rfl) ?_
            simp only [List.getD_cons_succ, List.getD_cons_zero]
            go_wp2_with fail
            refine (clone_B _ _ (d.drop 20) ((HV.out.tail_ne rfl 20 h20 (by decide) HC20.out).grow (D3.out.alloc_ _)) hs20).mono ?_
            rintro e wc ⟨vc, fpc, rfl, ho, hf, hg⟩
            obtain ⟨a5, c5, rfl⟩ := own_shape ho.1
            rw [N5.out] at ho ⊢
            have OO := Lib.hid ho; have FF := Lib.hid (hf.older ((Grow.drewN w2 1).trans (Grow.alloc _ _))); have DC := Lib.hid ((D3.out.alloc_ _).trans hg); have BZ := Lib.hid (B0.out.grow (((Grow.drewN w2 1).trans (Grow.alloc _ _)).trans hg))
            have NF : Hid (_ ∉ fpc) := Lib.hid (fun hm => absurd (hf _ hm) (by simp only [World.alloc, Array.size_push]; exact Nat.not_succ_le_self _))
            have BB := Lib.hid ((Box.alloc _ [.int .i64 0, .int .i64 0, .int .i64 0, .int .i64 0, .slice none 0 0] 47).grow hg)
            clear ho hf hg
            go_wp2
            refine ⟨⟨⟨_, DC.out⟩, rfl⟩, ?_⟩
            refine anyC_seg [17] #[true, true, true, true, true, true, true, true, true, true, true, true, true, true, true, true, true, true, true, false] (fuel := 1) rfl (by kernel_rfl) ⟨⟨_, DC.out⟩, rfl⟩ ?_
            simp only [pickOps, List.getD_cons_succ, List.getD_cons_zero]
            repeat (go_big_quiet_step (fail))
            refine wpQuiet_nil ?_
            exact J _ _ _ _ ⟨DC.out, S2.out, BZ.out, BB.out, fpc, OO.out, FF.out, NF.out⟩
          · simp only [List.getD_cons_succ, List.getD_cons_zero]
            go_wp2_with fail
            refine (clone_B _ _ (d.drop 20) ((HV.out.tail_ne rfl 20 h20 (by decide) HC20.out).grow D3.out) hs20).mono ?_
            rintro e wc ⟨vc, fpc, rfl, ho, hf, hg⟩
            obtain ⟨a5, c5, rfl⟩ := own_shape ho.1
            rw [N5.out] at ho ⊢
            have OO := Lib.hid ho; have FF := Lib.hid (hf.older (Grow.drewN w2 1)); have DC := Lib.hid (D3.out.trans hg); have BZ := Lib.hid (B0.out.grow ((Grow.drewN w2 1).trans hg))
            have SC : Hid (w2.heap.size ≤ wc.heap.size) := Lib.hid (((Grow.drewN w2 1).trans hg).size)
            clear ho hf hg
            go_wp2
            refine ⟨⟨⟨_, DC.out⟩, rfl⟩, ?_⟩
            refine anyC_seg [17] #[true, true, true, true, true, true, true, true, true, true, true, true, true, true, true, true, true, true, false, false] (fuel := 2) rfl (by kernel_rfl) ⟨⟨_, DC.out⟩, rfl⟩ ?_
            simp only [pickOps, List.getD_cons_succ, List.getD_cons_zero]
            repeat (go_big_quiet_step (fail))
            refine wpQuiet_nil ?_
            refine anyC_sole 18 #[true, true, true, true, true, true, true, true, true, true, true, true, true, true, true, true, true, true, true, false] (fuel := 1) (by kernel_rfl) ?_
            simp only [List.getD_cons_succ, List.getD_cons_zero]
            go_wp2
            refine ⟨⟨⟨_, DC.out.alloc_ _⟩, rfl⟩, ?_⟩
            exact J _ _ _ _ ⟨DC.out.alloc_ _, Nat.lt_of_lt_of_le S2.out SC.out, BZ.out.grow (Grow.alloc _ _), Box.alloc _ _ _, fpc, OO.out.grow (Grow.alloc _ _), FF.out, fun hm => absurd (OO.out.here _ hm) (Nat.lt_irrefl _)⟩
    intro a5 c5 b W ⟨hw, hb, hZ, hB, fp5, ho, hf, hnn⟩
    have ⟨q0, q1, q2, q3, q4⟩ := hB.five; have hl := hB.1; have hff := hB.2.2
    refine anyC_sole 19 #[true, true, true, true, true, true, true, true, true, true, true, true, true, true, true, true, true, true, true, true] (fuel := 0) (by kernel_rfl) ?_
    simp only [List.getD_cons_succ, List.getD_cons_zero]
    go_wp2
    have HU := Lib.hid (Upd.setCell (p := ⟨b, 4, none⟩) (Upd.setCell (p := ⟨b, 3, none⟩) (Upd.setCell (p := ⟨b, 2, none⟩) (Upd.setCell (p := ⟨b, 1, none⟩) (Upd.setCell (p := ⟨b, 0, none⟩) (Upd.refl [b] W) (by simp) (.int .i64 t8)) (by simp) (.int .i64 t9)) (by simp) (.int .i64 (fld d 12 4))) (by simp) (.int .i64 (fld d 16 4))) (by simp) (.slice a5 n5 c5))
    have HW := Lib.hid (Grow.setCell_ (p := ⟨b, 4, none⟩) (Grow.setCell_ (p := ⟨b, 3, none⟩) (Grow.setCell_ (p := ⟨b, 2, none⟩) (Grow.setCell_ (p := ⟨b, 1, none⟩) (Grow.setCell_ (p := ⟨b, 0, none⟩) hw (Nat.le_of_lt hb) (.int .i64 t8)) (Nat.le_of_lt hb) (.int .i64 t9)) (Nat.le_of_lt hb) (.int .i64 (fld d 12 4))) (Nat.le_of_lt hb) (.int .i64 (fld d 16 4))) (Nat.le_of_lt hb) (.slice a5 n5 c5))
    have BP := Lib.hid (((((hB.set 0 (.int .i64 t8) (by simp)).set 1 (.int .i64 t9) (by simp)).set 2 (.int .i64 (fld d 12 4)) (by simp)).set 3 (.int .i64 (fld d 16 4)) (by simp)).set 4 (.slice a5 n5 c5) (by simp))
    have BZ := Lib.hid (hZ.upd HU.out (by simp; omega))
    have OP := Lib.hid (ho.upd HU.out (fun x hx hm => hnn (by simp at hm; exact hm ▸ hx)))
    clear HU
    generalize (World.setCell (World.setCell (World.setCell (World.setCell (World.setCell W ⟨b, 0, none⟩ (.int .i64 t8)) ⟨b, 1, none⟩ (.int .i64 t9)) ⟨b, 2, none⟩ (.int .i64 (fld d 12 4))) ⟨b, 3, none⟩ (.int .i64 (fld d 16 4))) ⟨b, 4, none⟩ (.slice a5 n5 c5)) = W5 at *
    refine ⟨⟨⟨_, HW.out⟩, rfl⟩, ?_⟩
    refine anyC_done (by kernel_rfl) ?_
    have HF := Lib.hid hf; have HN := Lib.hid hnn; have HL := Lib.hid hb
    clear hne q0 q1 q2 q3 q4 hl hff hw hZ hB ho hf hnn hb D3 B0 hx8 hx9
    have BP : Hid (Box W5 b [.int .i64 t8, .int .i64 t9, .int .i64 (fld d 12 4), .int .i64 (fld d 16 4), .slice a5 n5 c5]) := BP
    have ⟨q0, q1, q2, q3, q4⟩ := BP.out.five; have z0 := BP.out.2.2; have l0 := BP.out.1
    go_wp2_with fail
    refine at_world (w := W5) ?G (fun hG => (ipBytesI_any _ _ ⟨t8, t9, fld d 12 4, fld d 16 4, d.drop 20⟩ ⟨_, rfl, (OP.out.rd).grow hG⟩).mono ?_)
    case G => ((repeat (first | with_reducible exact Grow.refl _ | (with_reducible refine Grow.alloc_ ?_ _) | (with_reducible refine Grow.setCell_ ?_ (by first | exact Nat.le_refl _ | (simp only [World.alloc, Array.size_push]; omega) | omega) _))))
    rintro e w6 ⟨vx, fpx, rfl, hx, hfx, hg⟩
    have G6 := Lib.hid (hG.trans hg)
    rw [HXX.out] at hx ⊢
    obtain ⟨X, okx⟩ := X
    simp only at hx ⊢
    have RX := Lib.hid hx.rd
    clear hG hg hx hfx
    go_wp2_with fail
    refine at_world (w := w6) ?G (fun hG => (equal_B _ _ _ X d (RX.out.grow hG) (HV.out.grow (HW.out.trans (G6.out.trans hG)))).mono ?_)
    case G => ((repeat (first | with_reducible exact Grow.refl _ | (with_reducible refine Grow.alloc_ ?_ _) | (with_reducible refine Grow.setCell_ ?_ (by first | exact Nat.le_refl _ | (simp only [World.alloc, Array.size_push]; omega) | omega) _))))
    rintro e w7 ⟨rfl, hg⟩
    have G7 := Lib.hid (G6.out.trans (hG.trans hg))
    clear hG hg q0 q1 q2 q3 q4 z0 l0
    have H7 := Lib.hid (HW.out.trans G7.out)
    have BP7 := Lib.hid (BP.out.grow G7.out); have BZ7 := Lib.hid (BZ.out.grow G7.out); have OP7 := Lib.hid (OP.out.grow G7.out)
    have HR : Hid (∀ W8, Upd [w.heap.size, b] w7 W8 → RetNew2 OwnIp ⟨t8, t9, fld d 12 4, fld d 16 4, d.drop 20⟩ (.int .i64 0) w (.returned (.tuple #[.agg #[.int .i64 t8, .int .i64 t9, .int .i64 (fld d 12 4), .int .i64 (fld d 16 4), .slice a5 n5 c5], .int .i64 0])) W8) := Lib.hid (fun W8 hu => by
      refine ⟨_, fp5, rfl, ⟨_, rfl, ?_⟩, HF.out.older GA.out, ?_⟩
      · exact OP7.out.upd hu (fun x hx hm => by
          have h1 := HF.out x hx; have h2 := S2.out
          simp only [List.mem_cons, List.not_mem_nil, or_false] at hm
          rcases hm with rfl | rfl
          · omega
          · exact HN.out hx)
      · exact H7.out.then_upd hu (by intro x hx; have := HL.out; simp only [List.mem_cons, List.not_mem_nil, or_false] at hx; omega))
    have ⟨q0, q1, q2, q3, q4⟩ := BP7.out.five; have z0 := BP7.out.2.2; have l0 := BP7.out.1
    have ⟨y0, y1, y2, y3, y4⟩ := BZ7.out.five; have zz := BZ7.out.2.2; have l1 := BZ7.out.1; have hl := HL.out
    have hne1 : ¬ b = w.heap.size := by omega
    have hne2 : ¬ w.heap.size = b := by omega
    by_cases t5 : X = d
    rotate_left
    · obtain rfl : PP = (zeroI, 5) := HP.out.symm.trans (R5.out (fun h => t5 (by have := HT.out.2 h; rw [HXX.out] at this; exact this)))
      rw [show decide (X = d) = false by simpa using t5]
      clear t5
      go_wp2
      refine bodyPost_ret (v := .tuple #[.agg #[.int .i64 0, .int .i64 0, .int .i64 0, .int .i64 0, .slice none 0 0], .int .i64 5]) ?_ rfl (HZ.out _ (Grow.box_end (fq := [w.heap.size, b]) H7.out ?_ (by simp; omega)) _)
      · simp [results, Try.results46, go_sem, y0, y1, y2, y3, y4, zz, hne1, hne2] <;> omega
      · ((repeat (first | (with_reducible refine Upd.setCell ?_ (by simp) _) | with_reducible exact Upd.refl _ _)))
    obtain rfl : PP = (⟨t8, t9, fld d 12 4, fld d 16 4, d.drop 20⟩, 0) := HP.out.symm.trans (R0.out (HT.out.1 (by rw [HXX.out]; exact t5)))
    rw [show decide (X = d) = true by simpa using t5]
    clear t5
    go_wp2
    refine bodyPost_ret (v := .tuple #[.agg #[.int .i64 t8, .int .i64 t9, .int .i64 (fld d 12 4), .int .i64 (fld d 16 4), .slice a5 n5 c5], .int .i64 0]) ?_ rfl (HR.out _ ?_)
    · simp [results, Try.results46, go_sem, q0, q1, q2, q3, q4, z0, y0, y1, y2, y3, y4, zz, hne1, hne2] <;> omega
    · ((repeat (first | (with_reducible refine Upd.setCell ?_ (by simp) _) | with_reducible exact Upd.refl _ _)))


--%
end Go.Proofs.Ytcldfodnblkeiaa
