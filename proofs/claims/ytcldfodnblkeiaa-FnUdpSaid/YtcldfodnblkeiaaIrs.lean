/- IpRead: contracts of the code, the reference's side (printed by girps.py). -/
import Derived.Test.YtcldfodnblkeiaaIri
import Derived.WalkKit
import Derived.ProofKit
import Derived.Deep.QuietTactic
import Derived.BigQuiet
import Derived.Outline
import Derived.WalkSpells
namespace Go.Proofs.Ytcldfodnblkeiaa
open Go.ChangeShapes Go.WideShapes Go.ChangeAt Go.RowKit
set_option linter.unusedVariables false
set_option linter.unusedSimpArgs false
--%
theorem viaL {G : Prop} {A C : Type} {F : Nat → A → C → Nat → World → Prop} (Facts : A → C → Nat → World → Prop)
    (h1 : (∀ g a c b W, Facts a c b W → F g a c b W) → G) (h2 : ∀ g a c b W, Facts a c b W → F g a c b W) : G := h1 h2
theorem Moved.notin {w : World} {v v' : Value} {b : Nat} (h : Moved w v v') (hb : b < w.heap.size) (hne : b ∉ fpOf v) : b ∉ fpOf v' := by
  intro hm
  unfold fpOf at hm hne
  cases e : v'.ownBlock with
  | none => rw [e] at hm; simp at hm
  | some g =>
    rw [e] at hm
    simp at hm
    subst hm
    rcases h _ e with h1 | h1
    · rw [h1] at hne; simp at hne
    · omega
--% IpReadS 45
set_option maxHeartbeats 1000000 in
theorem ipReadS_any (w : World) (v : Value) (d : DatB) (h : RdB w v d) (b : WfB d) (sm : SmB d) : Calls Try.prog 45 #[v] w (RetNew2 OwnIp (irF d).1 (.int .i64 (irF d).2) w) := by
  obtain ⟨a, c, rfl, hlc, hm, -, hcell⟩ := Rd.ints h
  unfold maxLen at hm
  have HZ : ∀ (w1 : World), Grow w w1 → ∀ k, RetNew2 OwnIp zeroI (.int .i64 k) w (.returned (.tuple #[.agg #[.int .i64 0, .int .i64 0, .int .i64 0, .int .i64 0, .slice none 0 0], .int .i64 k])) w1 := fun w1 hg k => ⟨_, [], rfl, ⟨_, rfl, ownB_nil _⟩, by simp [Fresh], hg⟩
  have HZ := Lib.hid HZ
  by_cases h20 : 20 ≤ d.length
  rotate_left
  · rw [irF_1 (by omega)]
    clear h b sm hcell
    go_enter Try.func45, Try.ntmps45
    go_wp2
    refine bodyPost_ret (v := .tuple #[.agg #[.int .i64 0, .int .i64 0, .int .i64 0, .int .i64 0, .slice none 0 0], .int .i64 1]) ?_ rfl (HZ.out _ ?_ _)
    · simp [results, Try.results45, go_sem]
    · ((repeat (first | with_reducible exact Grow.refl _ | (with_reducible refine Grow.alloc_ ?_ _) | (with_reducible refine Grow.setCell_ ?_ (by first | exact Nat.le_refl _ | (simp only [World.alloc, Array.size_push]; omega) | omega) _))))

  obtain ⟨b0, o0, rfl⟩ := RdB.at_ h (by omega)
  have hx : ∀ i : Nat, i < d.length → w.cell? ⟨b0, o0 + i, none⟩ = some (.int .u8 (d.getD i 0)) := fun i hi => by
    obtain ⟨_, _, e, hc⟩ := hcell i hi
    obtain ⟨rfl, rfl⟩ : b0 = _ ∧ o0 = _ := by simpa using e
    rw [hc]; simp [List.getElem?_eq_getElem hi]
  have HV := Lib.hid h; have HB : Hid (Bytes d) := Lib.hid b; have HS := Lib.hid sm
  have HX := Lib.hid hx
  clear h b sm hcell hx
  by_cases h15 : d.length ≤ 1500
  rotate_left
  · rw [irF_1 (by omega)]
    go_enter Try.func45, Try.ntmps45
    go_wp2
    refine bodyPost_ret (v := .tuple #[.agg #[.int .i64 0, .int .i64 0, .int .i64 0, .int .i64 0, .slice none 0 0], .int .i64 1]) ?_ rfl (HZ.out _ ?_ _)
    · simp [results, Try.results45, go_sem]
    · ((repeat (first | with_reducible exact Grow.refl _ | (with_reducible refine Grow.alloc_ ?_ _) | (with_reducible refine Grow.setCell_ ?_ (by first | exact Nat.le_refl _ | (simp only [World.alloc, Array.size_push]; omega) | omega) _))))

  have HH := Lib.hid (And.intro h20 h15)
  have GW := Lib.hid ((Grow.alloc w (.cells #[.int .i64 0, .int .i64 0, .int .i64 0, .int .i64 0, .slice none 0 0] 47)).trans (Grow.alloc _ (.cells #[.int .i64 0, .int .i64 0, .int .i64 0, .int .i64 0, .slice none 0 0] 47)))
  by_cases e0 : d.getD 0 0 = 69
  rotate_left
  · rw [irF_2 HH.out e0]
    have hb0 : (d.getD 0 0 != 69) = true := by simpa using e0
    have x0 := HX.out 0 (by omega)
    rw [Nat.add_zero] at x0
    have y0 := GW.out.cell x0
    generalize d.getD 0 0 = v0 at *
    clear e0
    go_enter Try.func45, Try.ntmps45
    go_wp2
    refine bodyPost_ret (v := .tuple #[.agg #[.int .i64 0, .int .i64 0, .int .i64 0, .int .i64 0, .slice none 0 0], .int .i64 2]) ?_ rfl (HZ.out _ ?_ _)
    · simp [results, Try.results45, go_sem]
    · ((repeat (first | with_reducible exact Grow.refl _ | (with_reducible refine Grow.alloc_ ?_ _) | (with_reducible refine Grow.setCell_ ?_ (by first | exact Nat.le_refl _ | (simp only [World.alloc, Array.size_push]; omega) | omega) _))))

  have x0 := HX.out 0 (by omega)
  have x1 := HX.out 1 (by omega)
  rw [Nat.add_zero, e0] at x0
  have y0 := GW.out.cell x0
  by_cases e1 : d.getD 1 0 = 0
  rotate_left
  · rw [irF_3 HH.out e0 (by intro h; exact e1 h.1)]
    have hb1 : (d.getD 1 0 != 0) = true := by simpa using e1
    clear e0
    have y1 := GW.out.cell x1
    generalize d.getD 1 0 = v1 at *
    clear e1
    go_enter Try.func45, Try.ntmps45
    go_wp2_with fail
    refine at_world (w := w) ?G (fun hG => (getS_fld (HV.out.grow hG) HB.out 4 4 (by omega) (by omega) (by omega)).mono ?_)
    case G => ((repeat (first | with_reducible exact Grow.refl _ | (with_reducible refine Grow.alloc_ ?_ _) | (with_reducible refine Grow.setCell_ ?_ (by first | exact Nat.le_refl _ | (simp only [World.alloc, Array.size_push]; omega) | omega) _))))
    rintro e wx ⟨rfl, rfl⟩
    clear hG
    go_wp2
    refine bodyPost_ret (v := .tuple #[.agg #[.int .i64 0, .int .i64 0, .int .i64 0, .int .i64 0, .slice none 0 0], .int .i64 3]) ?_ rfl (HZ.out _ ?_ _)
    · simp [results, Try.results45, go_sem]
    · ((repeat (first | with_reducible exact Grow.refl _ | (with_reducible refine Grow.alloc_ ?_ _) | (with_reducible refine Grow.setCell_ ?_ (by first | exact Nat.le_refl _ | (simp only [World.alloc, Array.size_push]; omega) | omega) _))))


  rw [e1] at x1
  have y1 := GW.out.cell x1
  by_cases e4 : fld d 4 4 = 0
  rotate_left
  · rw [irF_3 HH.out e0 (by intro h; exact e4 h.2)]
    have hb4 : (fld d 4 4 != 0) = true := by simpa using e4
    clear e0 e1 e4
    go_enter Try.func45, Try.ntmps45
    go_wp2_with fail
    refine at_world (w := w) ?G (fun hG => (getS_fld (HV.out.grow hG) HB.out 4 4 (by omega) (by omega) (by omega)).mono ?_)
    case G => ((repeat (first | with_reducible exact Grow.refl _ | (with_reducible refine Grow.alloc_ ?_ _) | (with_reducible refine Grow.setCell_ ?_ (by first | exact Nat.le_refl _ | (simp only [World.alloc, Array.size_push]; omega) | omega) _))))
    rintro e wx ⟨rfl, rfl⟩
    clear hG
    go_wp2
    refine bodyPost_ret (v := .tuple #[.agg #[.int .i64 0, .int .i64 0, .int .i64 0, .int .i64 0, .slice none 0 0], .int .i64 3]) ?_ rfl (HZ.out _ ?_ _)
    · simp [results, Try.results45, go_sem]
    · ((repeat (first | with_reducible exact Grow.refl _ | (with_reducible refine Grow.alloc_ ?_ _) | (with_reducible refine Grow.setCell_ ?_ (by first | exact Nat.le_refl _ | (simp only [World.alloc, Array.size_push]; omega) | omega) _))))


  by_cases e2 : fld d 2 2 = d.length
  rotate_left
  · rw [irF_4 HH.out e0 ⟨e1, e4⟩ e2]
    have hb2 : (fld d 2 2 != (d.length : Int)) = true := by simpa using e2
    have E4 := Lib.hid e4
    clear e0 e1 e4 e2
    go_enter Try.func45, Try.ntmps45
    go_wp2_with fail
    refine at_world (w := w) ?G (fun hG => (getS_fld (HV.out.grow hG) HB.out 4 4 (by omega) (by omega) (by omega)).mono ?_)
    case G => ((repeat (first | with_reducible exact Grow.refl _ | (with_reducible refine Grow.alloc_ ?_ _) | (with_reducible refine Grow.setCell_ ?_ (by first | exact Nat.le_refl _ | (simp only [World.alloc, Array.size_push]; omega) | omega) _))))
    rintro e wx ⟨rfl, rfl⟩
    clear hG
    rw [E4.out]
    go_wp2_with fail
    refine at_world (w := w) ?G (fun hG => (getS_fld (HV.out.grow hG) HB.out 2 2 (by omega) (by omega) (by omega)).mono ?_)
    case G => ((repeat (first | with_reducible exact Grow.refl _ | (with_reducible refine Grow.alloc_ ?_ _) | (with_reducible refine Grow.setCell_ ?_ (by first | exact Nat.le_refl _ | (simp only [World.alloc, Array.size_push]; omega) | omega) _))))
    rintro e wx ⟨rfl, rfl⟩
    clear hG
    go_wp2
    refine bodyPost_ret (v := .tuple #[.agg #[.int .i64 0, .int .i64 0, .int .i64 0, .int .i64 0, .slice none 0 0], .int .i64 4]) ?_ rfl (HZ.out _ ?_ _)
    · simp [results, Try.results45, go_sem]
    · ((repeat (first | with_reducible exact Grow.refl _ | (with_reducible refine Grow.alloc_ ?_ _) | (with_reducible refine Grow.setCell_ ?_ (by first | exact Nat.le_refl _ | (simp only [World.alloc, Array.size_push]; omega) | omega) _))))

  have hx8 : ∀ x : Cl (Grow w), x.w.cell? ⟨b0, o0 + 8, none⟩ = some (.int .u8 (d.getD 8 0)) := fun x => x.ok.cell (HX.out 8 (by omega))
  have hx9 : ∀ x : Cl (Grow w), x.w.cell? ⟨b0, o0 + 9, none⟩ = some (.int .u8 (d.getD 9 0)) := fun x => x.ok.cell (HX.out 9 (by omega))
  have R5 : Hid (¬ fld d 10 2 = 65535 - s16 0 (ihHead (irD d) 0) → irF d = (zeroI, 5)) := Lib.hid (irF_5 HH.out e0 ⟨e1, e4⟩ e2)
  have R0 : Hid (fld d 10 2 = 65535 - s16 0 (ihHead (irD d) 0) → irF d = (irD d, 0)) := Lib.hid (irF_0 HH.out e0 ⟨e1, e4⟩ e2)
  have hs20 : SmB (d.drop 20) := by have := HS.out; unfold SmB at *; simp; omega
  have hl20 : (d.drop 20).length = d.length - 20 := by simp
  obtain ⟨k1, k2, k3, k4, k5⟩ := ipOk_iff (ir_ok HB.out HH.out)
  have n1 := numOk1 k1; have n2 := numOk1 k2
  have N1 := Lib.hid n1; have N2 := Lib.hid n2; have N3 := Lib.hid k3; have N4 := Lib.hid k4; have N5 := Lib.hid k5
  have BH := Lib.hid (ihHead_bytes n1 n2 0)
  have SB := Lib.hid (s16_bd _ 0 BH.out (by decide))
  have hL0 := ihHead_len (irD d) 0
  have hb8 : 0 ≤ d.getD 8 0 ∧ d.getD 8 0 ≤ 255 := by
    have e : d.getD 8 0 = d[8]'(by omega) := by simp [List.getElem?_eq_getElem (show 8 < d.length by omega)]
    rw [e]; have := HB.out _ (List.getElem_mem (l := d) (n := 8) (by omega)); omega
  have hb9 : 0 ≤ d.getD 9 0 ∧ d.getD 9 0 ≤ 255 := by
    have e : d.getD 9 0 = d[9]'(by omega) := by simp [List.getElem?_eq_getElem (show 9 < d.length by omega)]
    rw [e]; have := HB.out _ (List.getElem_mem (l := d) (n := 9) (by omega)); omega
  have hD : irD d = ⟨d.getD 8 0, d.getD 9 0, fld d 12 4, fld d 16 4, d.drop 20⟩ := rfl
  rw [hD] at R5 R0 N1 N2 N3 N4 N5 BH SB hL0
  clear hD
  generalize d.getD 8 0 = t8 at *
  generalize d.getD 9 0 = t9 at *
  obtain ⟨n5, hn5⟩ : ∃ n, (d.drop 20).length = n := ⟨_, rfl⟩
  have NL := Lib.hid hn5
  rw [hn5] at hl20
  have HL20 := Lib.hid hl20
  clear hn5 hl20
  obtain ⟨sm, hsm⟩ : ∃ sm, 65535 - s16 0 (ihHead ⟨t8, t9, fld d 12 4, fld d 16 4, d.drop 20⟩ 0) = sm := ⟨_, rfl⟩
  have HSM := Lib.hid hsm
  rw [hsm] at R5 R0
  obtain ⟨PP, hPP⟩ : ∃ PP, irF d = PP := ⟨_, rfl⟩
  rw [hPP]
  have HP := Lib.hid hPP
  have E4 := Lib.hid e4; have E2 := Lib.hid e2
  clear hPP hsm e0 e1 e4 e2 k1 k2 k3 k4 k5 n1 n2
  by_cases hc20 : c = 20
  · subst hc20
    go_enter Try.func45, Try.ntmps45
    go_wp2_with fail
    refine at_world (w := w) ?G (fun hG => (getS_fld (HV.out.grow hG) HB.out 4 4 (by omega) (by omega) (by omega)).mono ?_)
    case G => ((repeat (first | with_reducible exact Grow.refl _ | (with_reducible refine Grow.alloc_ ?_ _) | (with_reducible refine Grow.setCell_ ?_ (by first | exact Nat.le_refl _ | (simp only [World.alloc, Array.size_push]; omega) | omega) _))))
    rintro e wx ⟨rfl, rfl⟩
    clear hG
    rw [E4.out]
    go_wp2_with fail
    refine at_world (w := w) ?G (fun hG => (getS_fld (HV.out.grow hG) HB.out 2 2 (by omega) (by omega) (by omega)).mono ?_)
    case G => ((repeat (first | with_reducible exact Grow.refl _ | (with_reducible refine Grow.alloc_ ?_ _) | (with_reducible refine Grow.setCell_ ?_ (by first | exact Nat.le_refl _ | (simp only [World.alloc, Array.size_push]; omega) | omega) _))))
    rintro e wx ⟨rfl, rfl⟩
    clear hG
    rw [E2.out]
    have B0 := Lib.hid ((Box.alloc w [.int .i64 0, .int .i64 0, .int .i64 0, .int .i64 0, .slice none 0 0] 47).grow (Grow.alloc _ (.cells #[.int .i64 0, .int .i64 0, .int .i64 0, .int .i64 0, .slice none 0 0] 47)))
    have BN := Lib.hid ((Box.alloc (w.alloc (.cells #[.int .i64 0, .int .i64 0, .int .i64 0, .int .i64 0, .slice none 0 0] 47)) [.int .i64 0, .int .i64 0, .int .i64 0, .int .i64 0, .slice none 0 0] 47).at_ (b' := w.heap.size + 1) (by simp only [World.alloc, Array.size_push]))
    generalize (w.alloc (.cells #[.int .i64 0, .int .i64 0, .int .i64 0, .int .i64 0, .slice none 0 0] 47)).alloc (.cells #[.int .i64 0, .int .i64 0, .int .i64 0, .int .i64 0, .slice none 0 0] 47) = w2 at *
    generalize hrq : w.heap.size + 1 = r at *
    have S2 : Hid (w.heap.size < r ∧ r < w2.heap.size) := Lib.hid ⟨by omega, BN.out.1⟩
    clear hrq y0 y1 x0 x1
    go_wp2_with fail
    have hne : Nonempty (Cl (Grow w)) := ⟨⟨w, Grow.refl _⟩⟩
    have D3 := Lib.hid (GW.out.trans (Grow.drewN w2 1))
    refine wp_region_mix (Cls (Grow w)) 15 #[false, false, false, false, false, false, false, false, false, false, false, false, false, false, false] (by kernel_rfl) (by kernel_rfl) ⟨⟨_, D3.out⟩, rfl⟩ ?_
    refine anyC_seg [0, 1, 2, 3, 4, 5, 6, 7, 9, 10] #[true, true, true, true, true, true, true, true, false, true, true, false, false, false, false] (fuel := 5) rfl (by kernel_rfl) ⟨⟨_, D3.out⟩, rfl⟩ ?_
    simp only [pickOps, List.getD_cons_succ, List.getD_cons_zero]
    repeat (go_big_quiet_step (fail))
    refine wpQuiet_nil ?_
    apply viaL (fun a5 c5 b W => Grow w W ∧ r < b ∧ Box W w.heap.size [.int .i64 0, .int .i64 0, .int .i64 0, .int .i64 0, .slice none 0 0] ∧ Box W r [.int .i64 0, .int .i64 0, .int .i64 0, .int .i64 0, .slice none 0 0] ∧ Box W b [.int .i64 0, .int .i64 0, .int .i64 0, .int .i64 0, .slice none 0 0] ∧ ∃ fp, OwnB W (.slice a5 n5 c5) (d.drop 20) fp ∧ Fresh w2 fp ∧ b ∉ fp)
    · intro J
      refine anyC_two_ 8 13 #[true, true, true, true, true, true, true, true, true, true, true, false, false, false, false] #[true, true, true, true, true, true, true, true, false, true, true, false, false, true, false] (fuel := 4) (by kernel_rfl) ?_ ?_
      · simp only [List.getD_cons_succ, List.getD_cons_zero]
        go_wp2
        have GZ := Lib.hid (D3.out.alloc_ (.cells #[.int .i64 0, .int .i64 0, .int .i64 0, .int .i64 0, .slice none 0 0] 47))
        have G2 := Lib.hid ((Grow.drewN w2 1).trans (Grow.alloc _ (.cells #[.int .i64 0, .int .i64 0, .int .i64 0, .int .i64 0, .slice none 0 0] 47)))
        have BB : Hid (Box ((w2.drewN 1).alloc (.cells #[.int .i64 0, .int .i64 0, .int .i64 0, .int .i64 0, .slice none 0 0] 47)) w2.heap.size [.int .i64 0, .int .i64 0, .int .i64 0, .int .i64 0, .slice none 0 0]) := Lib.hid (Box.alloc (w2.drewN 1) [.int .i64 0, .int .i64 0, .int .i64 0, .int .i64 0, .slice none 0 0] 47)
        have SL := Lib.hid S2.out
        refine ⟨⟨⟨_, GZ.out⟩, rfl⟩, ?_⟩
        generalize (w2.drewN 1).alloc (.cells #[.int .i64 0, .int .i64 0, .int .i64 0, .int .i64 0, .slice none 0 0] 47) = wz at *
        generalize hbz : w2.heap.size = bz
        rw [hbz] at BB SL
        have LZ : Hid (bz < wz.heap.size) := Lib.hid BB.out.1
        have HBZ := Lib.hid hbz
        refine anyC_sole 8 #[true, true, true, true, true, true, true, true, true, true, true, false, false, true, false] (fuel := 3) (by kernel_rfl) ?_
        simp only [List.getD_cons_succ, List.getD_cons_zero]
        go_wp2
        have GC := Lib.hid (GZ.out.alloc_ (.cells #[] 5))
        have A : Hid (Acc wz (wz.alloc (.cells #[] 5)) (.slice (some ⟨wz.heap.size, 0, none⟩) 0 0) []) := Lib.hid ⟨Grow.alloc _ _, World.ownsRow_lit wz #[] 0 (Nat.le_refl _) (by decide) rfl⟩
        refine ⟨⟨⟨_, GC.out⟩, rfl⟩, ?_⟩
        refine anyC_sole 11 #[true, true, true, true, true, true, true, true, true, true, true, true, false, true, false] (fuel := 2) (by kernel_rfl) ?_
        simp only [List.getD_cons_succ, List.getD_cons_zero]
        go_wp2_with (at_builtin; refine wpl_append Try.elemU8 rfl _ _ rfl wz.heap.size rfl A.out.2 n5 rfl ((HV.out.tail_0 rfl h20 hlc (by decide)).grow GC.out) (by simpa using NL.out) (oneCell_ints _ _) (by have := HL20.out; simp only [List.length_nil]; omega) (by have := HL20.out; unfold maxLen; simp only [List.length_nil]; omega) A.out.1.size ?_; intro v5 w5 hown hgr hmv)
        have A5 : Hid (Acc wz w5 v5 (d.drop 20)) := Lib.hid (A.out.onto (by rw [← NL.out] at hown; exact hown) hgr)
        have DC := Lib.hid (GZ.out.trans A5.out.1)
        have BB5 := Lib.hid (BB.out.grow A5.out.1)
        have BZ5 := Lib.hid (B0.out.grow (G2.out.trans A5.out.1)); have BN5 := Lib.hid (BN.out.grow (G2.out.trans A5.out.1))
        have NF : Hid (bz ∉ fpOf v5) := Lib.hid (fun hm => by have h1 := A5.out.own.2 _ hm; have h2 := LZ.out; omega)
        have O5 := Lib.hid A5.out.own
        clear hown hgr hmv
        obtain ⟨a5, c5, rfl⟩ := own_shape O5.out.1.1
        try rw [NL.out] at NF
        rw [NL.out] at O5 ⊢
        refine ⟨⟨⟨_, DC.out⟩, rfl⟩, ?_⟩
        refine anyC_seg [12] #[true, true, true, true, true, true, true, true, true, true, true, true, true, true, false] (fuel := 1) rfl (by kernel_rfl) ⟨⟨_, DC.out⟩, rfl⟩ ?_
        simp only [pickOps, List.getD_cons_succ, List.getD_cons_zero]
        repeat (go_big_quiet_step (fail))
        refine wpQuiet_nil ?_
        generalize hgz : wz.heap.size = gz
        exact J gz a5 c5 bz w5 ⟨DC.out, by have := SL.out; omega, BZ5.out, BN5.out, BB5.out, _, O5.out.1, fun x hx => Nat.le_trans (by have h1 := LZ.out; have h2 := HBZ.out; omega) (O5.out.2 x hx), NF.out⟩
      · simp only [List.getD_cons_succ, List.getD_cons_zero]
        go_wp2
        have GC := Lib.hid (D3.out.alloc_ (.cells #[] 5))
        have A : Hid (Acc (w2.drewN 1) ((w2.drewN 1).alloc (.cells #[] 5)) (.slice (some ⟨w2.heap.size, 0, none⟩) 0 0) []) := Lib.hid ⟨Grow.alloc _ _, World.ownsRow_lit (w2.drewN 1) #[] 0 (Nat.le_refl _) (by decide) rfl⟩
        refine ⟨⟨⟨_, GC.out⟩, rfl⟩, ?_⟩
        generalize (w2.drewN 1).alloc (.cells #[] 5) = wl at *
        have G2 := Lib.hid ((Grow.drewN w2 1).trans A.out.1)
        refine anyC_two_ 11 13 #[true, true, true, true, true, true, true, true, true, true, true, true, false, false, false] #[true, true, true, true, true, true, true, true, true, true, true, false, false, true, false] (fuel := 3) (by kernel_rfl) ?_ ?_
        · simp only [List.getD_cons_succ, List.getD_cons_zero]
          go_wp2
          have BB := Lib.hid (Box.alloc wl [.int .i64 0, .int .i64 0, .int .i64 0, .int .i64 0, .slice none 0 0] 47)
          have GC2 := Lib.hid (GC.out.alloc_ (.cells #[.int .i64 0, .int .i64 0, .int .i64 0, .int .i64 0, .slice none 0 0] 47))
          have LA := Lib.hid A.out.own.1.here
          have A2 := Lib.hid (A.out.grow (Grow.alloc wl (.cells #[.int .i64 0, .int .i64 0, .int .i64 0, .int .i64 0, .slice none 0 0] 47)))
          refine ⟨⟨⟨_, GC2.out⟩, rfl⟩, ?_⟩
          generalize wl.alloc (.cells #[.int .i64 0, .int .i64 0, .int .i64 0, .int .i64 0, .slice none 0 0] 47) = wz at *
          have NB : Hid (wl.heap.size ∉ fpOf (.slice (some ⟨w2.heap.size, 0, none⟩) 0 0)) := Lib.hid (fun hm => Nat.lt_irrefl _ (LA.out _ hm))
          have LZ : Hid (wl.heap.size < wz.heap.size) := Lib.hid BB.out.1
          have LR : Hid (r < wl.heap.size) := Lib.hid (Nat.lt_of_lt_of_le S2.out.2 G2.out.size)
          refine anyC_sole 11 #[true, true, true, true, true, true, true, true, true, true, true, true, false, true, false] (fuel := 2) (by kernel_rfl) ?_
          simp only [List.getD_cons_succ, List.getD_cons_zero]
          go_wp2_with (at_builtin; refine wpl_append Try.elemU8 rfl _ _ rfl (w2.drewN 1).heap.size rfl A2.out.2 n5 rfl ((HV.out.tail_0 rfl h20 hlc (by decide)).grow GC2.out) (by simpa using NL.out) (oneCell_ints _ _) (by have := HL20.out; simp only [List.length_nil]; omega) (by have := HL20.out; unfold maxLen; simp only [List.length_nil]; omega) A2.out.1.size ?_; intro v5 w5 hown hgr hmv)
          have A5 : Hid (Acc (w2.drewN 1) w5 v5 (d.drop 20)) := Lib.hid (A2.out.onto (by rw [← NL.out] at hown; exact hown) hgr)
          have DC := Lib.hid (D3.out.trans A5.out.1)
          have BB5 := Lib.hid (BB.out.upd (Upd.of_grown hgr) NB.out)
          have BZ5 := Lib.hid (B0.out.grow ((Grow.drewN w2 1).trans A5.out.1)); have BN5 := Lib.hid (BN.out.grow ((Grow.drewN w2 1).trans A5.out.1))
          have NF : Hid (wl.heap.size ∉ fpOf v5) := Lib.hid (hmv.notin LZ.out NB.out)
          have O5 := Lib.hid A5.out.own
          clear hown hgr hmv
          obtain ⟨a5, c5, rfl⟩ := own_shape O5.out.1.1
          try rw [NL.out] at NF
          rw [NL.out] at O5 ⊢
          refine ⟨⟨⟨_, DC.out⟩, rfl⟩, ?_⟩
          refine anyC_seg [12] #[true, true, true, true, true, true, true, true, true, true, true, true, true, true, false] (fuel := 1) rfl (by kernel_rfl) ⟨⟨_, DC.out⟩, rfl⟩ ?_
          simp only [pickOps, List.getD_cons_succ, List.getD_cons_zero]
          repeat (go_big_quiet_step (fail))
          refine wpQuiet_nil ?_
          exact J _ _ _ _ _ ⟨DC.out, LR.out, BZ5.out, BN5.out, BB5.out, _, O5.out.1, O5.out.2, NF.out⟩
        · simp only [List.getD_cons_succ, List.getD_cons_zero]
          go_wp2_with (at_builtin; refine wpl_append Try.elemU8 rfl _ _ rfl (w2.drewN 1).heap.size rfl A.out.2 n5 rfl ((HV.out.tail_0 rfl h20 hlc (by decide)).grow GC.out) (by simpa using NL.out) (oneCell_ints _ _) (by have := HL20.out; simp only [List.length_nil]; omega) (by have := HL20.out; unfold maxLen; simp only [List.length_nil]; omega) A.out.1.size ?_; intro v5 w5 hown hgr hmv)
          have A5 : Hid (Acc (w2.drewN 1) w5 v5 (d.drop 20)) := Lib.hid (A.out.onto (by rw [← NL.out] at hown; exact hown) hgr)
          have DC := Lib.hid (D3.out.trans A5.out.1)
          have G5 := Lib.hid ((Grow.drewN w2 1).trans A5.out.1)
          have BZ5 := Lib.hid (B0.out.grow G5.out); have BN5 := Lib.hid (BN.out.grow G5.out)
          have LR : Hid (r < w5.heap.size) := Lib.hid (Nat.lt_of_lt_of_le S2.out.2 G5.out.size)
          have O5 := Lib.hid A5.out.own
          clear hown hgr hmv
          obtain ⟨a5, c5, rfl⟩ := own_shape O5.out.1.1
          try rw [NL.out] at NF
          rw [NL.out] at O5 ⊢
          refine ⟨⟨⟨_, DC.out⟩, rfl⟩, ?_⟩
          refine anyC_seg [12] #[true, true, true, true, true, true, true, true, true, true, true, true, true, false, false] (fuel := 2) rfl (by kernel_rfl) ⟨⟨_, DC.out⟩, rfl⟩ ?_
          simp only [pickOps, List.getD_cons_succ, List.getD_cons_zero]
          repeat (go_big_quiet_step (fail))
          refine wpQuiet_nil ?_
          refine anyC_sole 13 #[true, true, true, true, true, true, true, true, true, true, true, true, true, true, false] (fuel := 1) (by kernel_rfl) ?_
          simp only [List.getD_cons_succ, List.getD_cons_zero]
          go_wp2
          refine ⟨⟨⟨_, DC.out.alloc_ _⟩, rfl⟩, ?_⟩
          exact J _ _ _ _ _ ⟨DC.out.alloc_ _, LR.out, BZ5.out.grow (Grow.alloc _ _), BN5.out.grow (Grow.alloc _ _), Box.alloc _ _ _, _, O5.out.1.grow (Grow.alloc _ _), O5.out.2, fun hm => absurd (O5.out.1.here _ hm) (Nat.lt_irrefl _)⟩
    intro glit a5 c5 b W ⟨hw, hb, hZ, hN, hB, fp5, ho, hf, hnn⟩
    have ⟨q0, q1, q2, q3, q4⟩ := hB.five; have hl := hB.1; have hff := hB.2.2
    have hwb : w.heap.size < b := by have := S2.out; omega
    refine anyC_sole 14 #[true, true, true, true, true, true, true, true, true, true, true, true, true, true, true] (fuel := 0) (by kernel_rfl) ?_
    simp only [List.getD_cons_succ, List.getD_cons_zero]
    go_wp2
    have HU := Lib.hid (Upd.setCell (p := ⟨b, 4, none⟩) (Upd.setCell (p := ⟨b, 3, none⟩) (Upd.setCell (p := ⟨b, 2, none⟩) (Upd.setCell (p := ⟨b, 1, none⟩) (Upd.setCell (p := ⟨b, 0, none⟩) (Upd.refl [b] W) (by simp) (.int .i64 t8)) (by simp) (.int .i64 t9)) (by simp) (.int .i64 0)) (by simp) (.int .i64 0)) (by simp) (.slice a5 n5 c5))
    have HW := Lib.hid (Grow.setCell_ (p := ⟨b, 4, none⟩) (Grow.setCell_ (p := ⟨b, 3, none⟩) (Grow.setCell_ (p := ⟨b, 2, none⟩) (Grow.setCell_ (p := ⟨b, 1, none⟩) (Grow.setCell_ (p := ⟨b, 0, none⟩) hw (Nat.le_of_lt hwb) (.int .i64 t8)) (Nat.le_of_lt hwb) (.int .i64 t9)) (Nat.le_of_lt hwb) (.int .i64 0)) (Nat.le_of_lt hwb) (.int .i64 0)) (Nat.le_of_lt hwb) (.slice a5 n5 c5))
    have BP := Lib.hid (((((hB.set 0 (.int .i64 t8) (by simp)).set 1 (.int .i64 t9) (by simp)).set 2 (.int .i64 0) (by simp)).set 3 (.int .i64 0) (by simp)).set 4 (.slice a5 n5 c5) (by simp))
    have BZ := Lib.hid (hZ.upd HU.out (by simp; omega))
    have BM := Lib.hid (hN.upd HU.out (by simp; omega))
    have OP := Lib.hid (ho.upd HU.out (fun x hx hm => hnn (by simp at hm; exact hm ▸ hx)))
    clear HU
    generalize (World.setCell (World.setCell (World.setCell (World.setCell (World.setCell W ⟨b, 0, none⟩ (.int .i64 t8)) ⟨b, 1, none⟩ (.int .i64 t9)) ⟨b, 2, none⟩ (.int .i64 0)) ⟨b, 3, none⟩ (.int .i64 0)) ⟨b, 4, none⟩ (.slice a5 n5 c5)) = W5 at *
    refine ⟨⟨⟨_, HW.out⟩, rfl⟩, ?_⟩
    refine anyC_done (by kernel_rfl) ?_
    have HF := Lib.hid hf; have HN := Lib.hid hnn; have HL : Hid (w.heap.size < r ∧ r < b ∧ w.heap.size < b) := Lib.hid ⟨S2.out.1, hb, hwb⟩
    clear hne q0 q1 q2 q3 q4 hl hff hw hZ hN hB ho hf hnn hb hwb D3 B0 BN hx8 hx9
    have BP : Hid (Box W5 b [.int .i64 t8, .int .i64 t9, .int .i64 0, .int .i64 0, .slice a5 n5 c5]) := BP
    have ⟨q0, q1, q2, q3, q4⟩ := BP.out.five; have z0 := BP.out.2.2; have l0 := BP.out.1
    have hL := HL.out
    have hne1 : ¬ b = w.heap.size := by omega
    have hne2 : ¬ w.heap.size = b := by omega
    have hne3 : ¬ b = r := by omega
    have hne4 : ¬ r = b := by omega
    have hne5 : ¬ r = w.heap.size := by omega
    have hne6 : ¬ w.heap.size = r := by omega
    go_wp2_with fail
    refine (getS_fld (HV.out.grow HW.out) HB.out 12 4 (by omega) (by omega) (by omega)).mono ?_
    rintro e wx ⟨rfl, rfl⟩
    go_wp2_with fail
    refine (getS_fld (HV.out.grow (Grow.setCell_ (p := ⟨b, 2, none⟩) HW.out (Nat.le_of_lt HL.out.2.2) (.int .i64 (fld d 12 4)))) HB.out 16 4 (by omega) (by omega) (by omega)).mono ?_
    rintro e wx ⟨rfl, rfl⟩
    go_wp2_with fail
    refine (getS_fld (HV.out.grow (Grow.setCell_ (p := ⟨b, 3, none⟩) (Grow.setCell_ (p := ⟨b, 2, none⟩) HW.out (Nat.le_of_lt HL.out.2.2) (.int .i64 (fld d 12 4))) (Nat.le_of_lt HL.out.2.2) (.int .i64 (fld d 16 4)))) HB.out 10 2 (by omega) (by omega) (by omega)).mono ?_
    rintro e wx ⟨rfl, rfl⟩
    go_wp2_with fail
    have U6 := Lib.hid (Upd.setCell (p := ⟨b, 3, none⟩) (Upd.setCell (p := ⟨b, 2, none⟩) (Upd.refl [b] W5) (by simp) (.int .i64 (fld d 12 4))) (by simp) (.int .i64 (fld d 16 4)))
    have H6 := Lib.hid (Grow.setCell_ (p := ⟨b, 3, none⟩) (Grow.setCell_ (p := ⟨b, 2, none⟩) HW.out (Nat.le_of_lt HL.out.2.2) (.int .i64 (fld d 12 4))) (Nat.le_of_lt HL.out.2.2) (.int .i64 (fld d 16 4)))
    have B6 := Lib.hid ((BP.out.set 2 (.int .i64 (fld d 12 4)) (by simp)).set 3 (.int .i64 (fld d 16 4)) (by simp))
    have BZ6 := Lib.hid (BZ.out.upd U6.out (by simp; omega)); have BM6 := Lib.hid (BM.out.upd U6.out (by simp; omega))
    have O6 := Lib.hid (OP.out.upd U6.out (fun x hx hm => HN.out (by simp at hm; exact hm ▸ hx)))
    clear U6
    generalize (World.setCell (World.setCell W5 ⟨b, 2, none⟩ (.int .i64 (fld d 12 4))) ⟨b, 3, none⟩ (.int .i64 (fld d 16 4))) = W6 at *
    have B6 : Hid (Box W6 b [.int .i64 t8, .int .i64 t9, .int .i64 (fld d 12 4), .int .i64 (fld d 16 4), .slice a5 n5 c5]) := B6
    clear q0 q1 q2 q3 q4 z0 l0
    refine at_world (w := W6) ?G (fun hG => (l03Head_any _ _ ⟨t8, t9, fld d 12 4, fld d 16 4, d.drop 20⟩ 0 ⟨_, rfl, (O6.out.rd).grow hG⟩ N5.out N1.out N2.out N3.out N4.out (by decide)).mono ?_)
    case G => ((repeat (first | with_reducible exact Grow.refl _ | (with_reducible refine Grow.alloc_ ?_ _) | (with_reducible refine Grow.setCell_ ?_ (by first | exact Nat.le_refl _ | (simp only [World.alloc, Array.size_push]; omega) | omega) _))))
    rintro e w7 ⟨vh, fph, rfl, hh, hfh, hg⟩
    have G7 := Lib.hid (hG.trans hg)
    have RH := Lib.hid hh.rd
    clear hG hg hh hfh
    have ⟨q0, q1, q2, q3, q4⟩ := (B6.out.grow G7.out).five; have z0 := (B6.out.grow G7.out).2.2; have l0 := (B6.out.grow G7.out).1
    have ⟨y0, y1, y2, y3, y4⟩ := (BZ6.out.grow G7.out).five; have zz := (BZ6.out.grow G7.out).2.2; have l1 := (BZ6.out.grow G7.out).1
    have ⟨x0, x1, x2, x3, x4⟩ := (BM6.out.grow G7.out).five; have xx := (BM6.out.grow G7.out).2.2; have l2 := (BM6.out.grow G7.out).1
    go_wp2_with fail
    refine (sum16S_any _ _ _ RH.out BH.out (by omega)).mono ?_
    rintro e wx ⟨rfl, rfl⟩
    rw [HSM.out]
    have H7 := Lib.hid (H6.out.trans G7.out)
    have HR : Hid (∀ W8, Upd [w.heap.size, r, b] w7 W8 → RetNew2 OwnIp ⟨t8, t9, fld d 12 4, fld d 16 4, d.drop 20⟩ (.int .i64 0) w (.returned (.tuple #[.agg #[.int .i64 t8, .int .i64 t9, .int .i64 (fld d 12 4), .int .i64 (fld d 16 4), .slice a5 n5 c5], .int .i64 0])) W8) := Lib.hid (fun W8 hu => by
      refine ⟨_, fp5, rfl, ⟨_, rfl, ?_⟩, HF.out.older GW.out, ?_⟩
      · exact (O6.out.grow G7.out).upd hu (fun x hx hm => by
          have h1 := HF.out x hx; have h2 := S2.out
          simp only [List.mem_cons, List.not_mem_nil, or_false] at hm
          rcases hm with rfl | rfl | rfl
          · omega
          · omega
          · exact HN.out hx)
      · exact H7.out.then_upd hu (by intro x hx; have := HL.out; simp only [List.mem_cons, List.not_mem_nil, or_false] at hx; omega))
    by_cases t5 : fld d 10 2 = sm
    rotate_left
    · obtain rfl : PP = (zeroI, 5) := HP.out.symm.trans (R5.out t5)
      have hb5 : (fld d 10 2 != sm) = true := by simpa using t5
      clear t5
      go_wp2
      refine bodyPost_ret (v := .tuple #[.agg #[.int .i64 0, .int .i64 0, .int .i64 0, .int .i64 0, .slice none 0 0], .int .i64 5]) ?_ rfl (HZ.out _ (Grow.box_end (fq := [w.heap.size, r, b]) H7.out ?_ (by simp; omega)) _)
      · simp [results, Try.results45, go_sem, y0, y1, y2, y3, y4, zz, x0, x1, x2, x3, x4, xx, hne1, hne2, hne3, hne4, hne5, hne6] <;> omega
      · ((repeat (first | (with_reducible refine Upd.setCell ?_ (by simp) _) | with_reducible exact Upd.refl _ _)))
    obtain rfl : PP = (⟨t8, t9, fld d 12 4, fld d 16 4, d.drop 20⟩, 0) := HP.out.symm.trans (R0.out t5)
    have hb5 : (fld d 10 2 != sm) = false := by simp [t5]
    clear t5
    go_wp2
    refine bodyPost_ret (v := .tuple #[.agg #[.int .i64 t8, .int .i64 t9, .int .i64 (fld d 12 4), .int .i64 (fld d 16 4), .slice a5 n5 c5], .int .i64 0]) ?_ rfl (HR.out _ ?_)
    · simp [results, Try.results45, go_sem, q0, q1, q2, q3, q4, z0, y0, y1, y2, y3, y4, zz, hne1, hne2, hne3, hne4, hne5, hne6] <;> omega
    · ((repeat (first | (with_reducible refine Upd.setCell ?_ (by simp) _) | with_reducible exact Upd.refl _ _)))

  · have HC20 := Lib.hid hc20
    go_enter Try.func45, Try.ntmps45
    go_wp2_with fail
    refine at_world (w := w) ?G (fun hG => (getS_fld (HV.out.grow hG) HB.out 4 4 (by omega) (by omega) (by omega)).mono ?_)
    case G => ((repeat (first | with_reducible exact Grow.refl _ | (with_reducible refine Grow.alloc_ ?_ _) | (with_reducible refine Grow.setCell_ ?_ (by first | exact Nat.le_refl _ | (simp only [World.alloc, Array.size_push]; omega) | omega) _))))
    rintro e wx ⟨rfl, rfl⟩
    clear hG
    rw [E4.out]
    go_wp2_with fail
    refine at_world (w := w) ?G (fun hG => (getS_fld (HV.out.grow hG) HB.out 2 2 (by omega) (by omega) (by omega)).mono ?_)
    case G => ((repeat (first | with_reducible exact Grow.refl _ | (with_reducible refine Grow.alloc_ ?_ _) | (with_reducible refine Grow.setCell_ ?_ (by first | exact Nat.le_refl _ | (simp only [World.alloc, Array.size_push]; omega) | omega) _))))
    rintro e wx ⟨rfl, rfl⟩
    clear hG
    rw [E2.out]
    have B0 := Lib.hid ((Box.alloc w [.int .i64 0, .int .i64 0, .int .i64 0, .int .i64 0, .slice none 0 0] 47).grow (Grow.alloc _ (.cells #[.int .i64 0, .int .i64 0, .int .i64 0, .int .i64 0, .slice none 0 0] 47)))
    have BN := Lib.hid ((Box.alloc (w.alloc (.cells #[.int .i64 0, .int .i64 0, .int .i64 0, .int .i64 0, .slice none 0 0] 47)) [.int .i64 0, .int .i64 0, .int .i64 0, .int .i64 0, .slice none 0 0] 47).at_ (b' := w.heap.size + 1) (by simp only [World.alloc, Array.size_push]))
    generalize (w.alloc (.cells #[.int .i64 0, .int .i64 0, .int .i64 0, .int .i64 0, .slice none 0 0] 47)).alloc (.cells #[.int .i64 0, .int .i64 0, .int .i64 0, .int .i64 0, .slice none 0 0] 47) = w2 at *
    generalize hrq : w.heap.size + 1 = r at *
    have S2 : Hid (w.heap.size < r ∧ r < w2.heap.size) := Lib.hid ⟨by omega, BN.out.1⟩
    clear hrq y0 y1 x0 x1
    go_wp2_with fail
    have hne : Nonempty (Cl (Grow w)) := ⟨⟨w, Grow.refl _⟩⟩
    have D3 := Lib.hid (GW.out.trans (Grow.drewN w2 1))
    refine wp_region_mix (Cls (Grow w)) 15 #[false, false, false, false, false, false, false, false, false, false, false, false, false, false, false] (by kernel_rfl) (by kernel_rfl) ⟨⟨_, D3.out⟩, rfl⟩ ?_
    refine anyC_seg [0, 1, 2, 3, 4, 5, 6, 7, 9, 10] #[true, true, true, true, true, true, true, true, false, true, true, false, false, false, false] (fuel := 5) rfl (by kernel_rfl) ⟨⟨_, D3.out⟩, rfl⟩ ?_
    simp only [pickOps, List.getD_cons_succ, List.getD_cons_zero]
    repeat (go_big_quiet_step (fail))
    refine wpQuiet_nil ?_
    apply viaL (fun a5 c5 b W => Grow w W ∧ r < b ∧ Box W w.heap.size [.int .i64 0, .int .i64 0, .int .i64 0, .int .i64 0, .slice none 0 0] ∧ Box W r [.int .i64 0, .int .i64 0, .int .i64 0, .int .i64 0, .slice none 0 0] ∧ Box W b [.int .i64 0, .int .i64 0, .int .i64 0, .int .i64 0, .slice none 0 0] ∧ ∃ fp, OwnB W (.slice a5 n5 c5) (d.drop 20) fp ∧ Fresh w2 fp ∧ b ∉ fp)
    · intro J
      refine anyC_two_ 8 13 #[true, true, true, true, true, true, true, true, true, true, true, false, false, false, false] #[true, true, true, true, true, true, true, true, false, true, true, false, false, true, false] (fuel := 4) (by kernel_rfl) ?_ ?_
      · simp only [List.getD_cons_succ, List.getD_cons_zero]
        go_wp2
        have GZ := Lib.hid (D3.out.alloc_ (.cells #[.int .i64 0, .int .i64 0, .int .i64 0, .int .i64 0, .slice none 0 0] 47))
        have G2 := Lib.hid ((Grow.drewN w2 1).trans (Grow.alloc _ (.cells #[.int .i64 0, .int .i64 0, .int .i64 0, .int .i64 0, .slice none 0 0] 47)))
        have BB : Hid (Box ((w2.drewN 1).alloc (.cells #[.int .i64 0, .int .i64 0, .int .i64 0, .int .i64 0, .slice none 0 0] 47)) w2.heap.size [.int .i64 0, .int .i64 0, .int .i64 0, .int .i64 0, .slice none 0 0]) := Lib.hid (Box.alloc (w2.drewN 1) [.int .i64 0, .int .i64 0, .int .i64 0, .int .i64 0, .slice none 0 0] 47)
        have SL := Lib.hid S2.out
        refine ⟨⟨⟨_, GZ.out⟩, rfl⟩, ?_⟩
        generalize (w2.drewN 1).alloc (.cells #[.int .i64 0, .int .i64 0, .int .i64 0, .int .i64 0, .slice none 0 0] 47) = wz at *
        generalize hbz : w2.heap.size = bz
        rw [hbz] at BB SL
        have LZ : Hid (bz < wz.heap.size) := Lib.hid BB.out.1
        have HBZ := Lib.hid hbz
        refine anyC_sole 8 #[true, true, true, true, true, true, true, true, true, true, true, false, false, true, false] (fuel := 3) (by kernel_rfl) ?_
        simp only [List.getD_cons_succ, List.getD_cons_zero]
        go_wp2
        have GC := Lib.hid (GZ.out.alloc_ (.cells #[] 5))
        have A : Hid (Acc wz (wz.alloc (.cells #[] 5)) (.slice (some ⟨wz.heap.size, 0, none⟩) 0 0) []) := Lib.hid ⟨Grow.alloc _ _, World.ownsRow_lit wz #[] 0 (Nat.le_refl _) (by decide) rfl⟩
        refine ⟨⟨⟨_, GC.out⟩, rfl⟩, ?_⟩
        refine anyC_sole 11 #[true, true, true, true, true, true, true, true, true, true, true, true, false, true, false] (fuel := 2) (by kernel_rfl) ?_
        simp only [List.getD_cons_succ, List.getD_cons_zero]
        go_wp2_with (at_builtin; refine wpl_append Try.elemU8 rfl _ _ rfl wz.heap.size rfl A.out.2 n5 rfl ((HV.out.tail_ne rfl 20 h20 (by decide) HC20.out).grow GC.out) (by simpa using NL.out) (oneCell_ints _ _) (by have := HL20.out; simp only [List.length_nil]; omega) (by have := HL20.out; unfold maxLen; simp only [List.length_nil]; omega) A.out.1.size ?_; intro v5 w5 hown hgr hmv)
        have A5 : Hid (Acc wz w5 v5 (d.drop 20)) := Lib.hid (A.out.onto (by rw [← NL.out] at hown; exact hown) hgr)
        have DC := Lib.hid (GZ.out.trans A5.out.1)
        have BB5 := Lib.hid (BB.out.grow A5.out.1)
        have BZ5 := Lib.hid (B0.out.grow (G2.out.trans A5.out.1)); have BN5 := Lib.hid (BN.out.grow (G2.out.trans A5.out.1))
        have NF : Hid (bz ∉ fpOf v5) := Lib.hid (fun hm => by have h1 := A5.out.own.2 _ hm; have h2 := LZ.out; omega)
        have O5 := Lib.hid A5.out.own
        clear hown hgr hmv
        obtain ⟨a5, c5, rfl⟩ := own_shape O5.out.1.1
        try rw [NL.out] at NF
        rw [NL.out] at O5 ⊢
        refine ⟨⟨⟨_, DC.out⟩, rfl⟩, ?_⟩
        refine anyC_seg [12] #[true, true, true, true, true, true, true, true, true, true, true, true, true, true, false] (fuel := 1) rfl (by kernel_rfl) ⟨⟨_, DC.out⟩, rfl⟩ ?_
        simp only [pickOps, List.getD_cons_succ, List.getD_cons_zero]
        repeat (go_big_quiet_step (fail))
        refine wpQuiet_nil ?_
        generalize hgz : wz.heap.size = gz
        exact J gz a5 c5 bz w5 ⟨DC.out, by have := SL.out; omega, BZ5.out, BN5.out, BB5.out, _, O5.out.1, fun x hx => Nat.le_trans (by have h1 := LZ.out; have h2 := HBZ.out; omega) (O5.out.2 x hx), NF.out⟩
      · simp only [List.getD_cons_succ, List.getD_cons_zero]
        go_wp2
        have GC := Lib.hid (D3.out.alloc_ (.cells #[] 5))
        have A : Hid (Acc (w2.drewN 1) ((w2.drewN 1).alloc (.cells #[] 5)) (.slice (some ⟨w2.heap.size, 0, none⟩) 0 0) []) := Lib.hid ⟨Grow.alloc _ _, World.ownsRow_lit (w2.drewN 1) #[] 0 (Nat.le_refl _) (by decide) rfl⟩
        refine ⟨⟨⟨_, GC.out⟩, rfl⟩, ?_⟩
        generalize (w2.drewN 1).alloc (.cells #[] 5) = wl at *
        have G2 := Lib.hid ((Grow.drewN w2 1).trans A.out.1)
        refine anyC_two_ 11 13 #[true, true, true, true, true, true, true, true, true, true, true, true, false, false, false] #[true, true, true, true, true, true, true, true, true, true, true, false, false, true, false] (fuel := 3) (by kernel_rfl) ?_ ?_
        · simp only [List.getD_cons_succ, List.getD_cons_zero]
          go_wp2
          have BB := Lib.hid (Box.alloc wl [.int .i64 0, .int .i64 0, .int .i64 0, .int .i64 0, .slice none 0 0] 47)
          have GC2 := Lib.hid (GC.out.alloc_ (.cells #[.int .i64 0, .int .i64 0, .int .i64 0, .int .i64 0, .slice none 0 0] 47))
          have LA := Lib.hid A.out.own.1.here
          have A2 := Lib.hid (A.out.grow (Grow.alloc wl (.cells #[.int .i64 0, .int .i64 0, .int .i64 0, .int .i64 0, .slice none 0 0] 47)))
          refine ⟨⟨⟨_, GC2.out⟩, rfl⟩, ?_⟩
          generalize wl.alloc (.cells #[.int .i64 0, .int .i64 0, .int .i64 0, .int .i64 0, .slice none 0 0] 47) = wz at *
          have NB : Hid (wl.heap.size ∉ fpOf (.slice (some ⟨w2.heap.size, 0, none⟩) 0 0)) := Lib.hid (fun hm => Nat.lt_irrefl _ (LA.out _ hm))
          have LZ : Hid (wl.heap.size < wz.heap.size) := Lib.hid BB.out.1
          have LR : Hid (r < wl.heap.size) := Lib.hid (Nat.lt_of_lt_of_le S2.out.2 G2.out.size)
          refine anyC_sole 11 #[true, true, true, true, true, true, true, true, true, true, true, true, false, true, false] (fuel := 2) (by kernel_rfl) ?_
          simp only [List.getD_cons_succ, List.getD_cons_zero]
          go_wp2_with (at_builtin; refine wpl_append Try.elemU8 rfl _ _ rfl (w2.drewN 1).heap.size rfl A2.out.2 n5 rfl ((HV.out.tail_ne rfl 20 h20 (by decide) HC20.out).grow GC2.out) (by simpa using NL.out) (oneCell_ints _ _) (by have := HL20.out; simp only [List.length_nil]; omega) (by have := HL20.out; unfold maxLen; simp only [List.length_nil]; omega) A2.out.1.size ?_; intro v5 w5 hown hgr hmv)
          have A5 : Hid (Acc (w2.drewN 1) w5 v5 (d.drop 20)) := Lib.hid (A2.out.onto (by rw [← NL.out] at hown; exact hown) hgr)
          have DC := Lib.hid (D3.out.trans A5.out.1)
          have BB5 := Lib.hid (BB.out.upd (Upd.of_grown hgr) NB.out)
          have BZ5 := Lib.hid (B0.out.grow ((Grow.drewN w2 1).trans A5.out.1)); have BN5 := Lib.hid (BN.out.grow ((Grow.drewN w2 1).trans A5.out.1))
          have NF : Hid (wl.heap.size ∉ fpOf v5) := Lib.hid (hmv.notin LZ.out NB.out)
          have O5 := Lib.hid A5.out.own
          clear hown hgr hmv
          obtain ⟨a5, c5, rfl⟩ := own_shape O5.out.1.1
          try rw [NL.out] at NF
          rw [NL.out] at O5 ⊢
          refine ⟨⟨⟨_, DC.out⟩, rfl⟩, ?_⟩
          refine anyC_seg [12] #[true, true, true, true, true, true, true, true, true, true, true, true, true, true, false] (fuel := 1) rfl (by kernel_rfl) ⟨⟨_, DC.out⟩, rfl⟩ ?_
          simp only [pickOps, List.getD_cons_succ, List.getD_cons_zero]
          repeat (go_big_quiet_step (fail))
          refine wpQuiet_nil ?_
          exact J _ _ _ _ _ ⟨DC.out, LR.out, BZ5.out, BN5.out, BB5.out, _, O5.out.1, O5.out.2, NF.out⟩
        · simp only [List.getD_cons_succ, List.getD_cons_zero]
          go_wp2_with (at_builtin; refine wpl_append Try.elemU8 rfl _ _ rfl (w2.drewN 1).heap.size rfl A.out.2 n5 rfl ((HV.out.tail_ne rfl 20 h20 (by decide) HC20.out).grow GC.out) (by simpa using NL.out) (oneCell_ints _ _) (by have := HL20.out; simp only [List.length_nil]; omega) (by have := HL20.out; unfold maxLen; simp only [List.length_nil]; omega) A.out.1.size ?_; intro v5 w5 hown hgr hmv)
          have A5 : Hid (Acc (w2.drewN 1) w5 v5 (d.drop 20)) := Lib.hid (A.out.onto (by rw [← NL.out] at hown; exact hown) hgr)
          have DC := Lib.hid (D3.out.trans A5.out.1)
          have G5 := Lib.hid ((Grow.drewN w2 1).trans A5.out.1)
          have BZ5 := Lib.hid (B0.out.grow G5.out); have BN5 := Lib.hid (BN.out.grow G5.out)
          have LR : Hid (r < w5.heap.size) := Lib.hid (Nat.lt_of_lt_of_le S2.out.2 G5.out.size)
          have O5 := Lib.hid A5.out.own
          clear hown hgr hmv
          obtain ⟨a5, c5, rfl⟩ := own_shape O5.out.1.1
          try rw [NL.out] at NF
          rw [NL.out] at O5 ⊢
          refine ⟨⟨⟨_, DC.out⟩, rfl⟩, ?_⟩
          refine anyC_seg [12] #[true, true, true, true, true, true, true, true, true, true, true, true, true, false, false] (fuel := 2) rfl (by kernel_rfl) ⟨⟨_, DC.out⟩, rfl⟩ ?_
          simp only [pickOps, List.getD_cons_succ, List.getD_cons_zero]
          repeat (go_big_quiet_step (fail))
          refine wpQuiet_nil ?_
          refine anyC_sole 13 #[true, true, true, true, true, true, true, true, true, true, true, true, true, true, false] (fuel := 1) (by kernel_rfl) ?_
          simp only [List.getD_cons_succ, List.getD_cons_zero]
          go_wp2
          refine ⟨⟨⟨_, DC.out.alloc_ _⟩, rfl⟩, ?_⟩
          exact J _ _ _ _ _ ⟨DC.out.alloc_ _, LR.out, BZ5.out.grow (Grow.alloc _ _), BN5.out.grow (Grow.alloc _ _), Box.alloc _ _ _, _, O5.out.1.grow (Grow.alloc _ _), O5.out.2, fun hm => absurd (O5.out.1.here _ hm) (Nat.lt_irrefl _)⟩
    intro glit a5 c5 b W ⟨hw, hb, hZ, hN, hB, fp5, ho, hf, hnn⟩
    have ⟨q0, q1, q2, q3, q4⟩ := hB.five; have hl := hB.1; have hff := hB.2.2
    have hwb : w.heap.size < b := by have := S2.out; omega
    refine anyC_sole 14 #[true, true, true, true, true, true, true, true, true, true, true, true, true, true, true] (fuel := 0) (by kernel_rfl) ?_
    simp only [List.getD_cons_succ, List.getD_cons_zero]
    go_wp2
    have HU := Lib.hid (Upd.setCell (p := ⟨b, 4, none⟩) (Upd.setCell (p := ⟨b, 3, none⟩) (Upd.setCell (p := ⟨b, 2, none⟩) (Upd.setCell (p := ⟨b, 1, none⟩) (Upd.setCell (p := ⟨b, 0, none⟩) (Upd.refl [b] W) (by simp) (.int .i64 t8)) (by simp) (.int .i64 t9)) (by simp) (.int .i64 0)) (by simp) (.int .i64 0)) (by simp) (.slice a5 n5 c5))
    have HW := Lib.hid (Grow.setCell_ (p := ⟨b, 4, none⟩) (Grow.setCell_ (p := ⟨b, 3, none⟩) (Grow.setCell_ (p := ⟨b, 2, none⟩) (Grow.setCell_ (p := ⟨b, 1, none⟩) (Grow.setCell_ (p := ⟨b, 0, none⟩) hw (Nat.le_of_lt hwb) (.int .i64 t8)) (Nat.le_of_lt hwb) (.int .i64 t9)) (Nat.le_of_lt hwb) (.int .i64 0)) (Nat.le_of_lt hwb) (.int .i64 0)) (Nat.le_of_lt hwb) (.slice a5 n5 c5))
    have BP := Lib.hid (((((hB.set 0 (.int .i64 t8) (by simp)).set 1 (.int .i64 t9) (by simp)).set 2 (.int .i64 0) (by simp)).set 3 (.int .i64 0) (by simp)).set 4 (.slice a5 n5 c5) (by simp))
    have BZ := Lib.hid (hZ.upd HU.out (by simp; omega))
    have BM := Lib.hid (hN.upd HU.out (by simp; omega))
    have OP := Lib.hid (ho.upd HU.out (fun x hx hm => hnn (by simp at hm; exact hm ▸ hx)))
    clear HU
    generalize (World.setCell (World.setCell (World.setCell (World.setCell (World.setCell W ⟨b, 0, none⟩ (.int .i64 t8)) ⟨b, 1, none⟩ (.int .i64 t9)) ⟨b, 2, none⟩ (.int .i64 0)) ⟨b, 3, none⟩ (.int .i64 0)) ⟨b, 4, none⟩ (.slice a5 n5 c5)) = W5 at *
    refine ⟨⟨⟨_, HW.out⟩, rfl⟩, ?_⟩
    refine anyC_done (by kernel_rfl) ?_
    have HF := Lib.hid hf; have HN := Lib.hid hnn; have HL : Hid (w.heap.size < r ∧ r < b ∧ w.heap.size < b) := Lib.hid ⟨S2.out.1, hb, hwb⟩
    clear hne q0 q1 q2 q3 q4 hl hff hw hZ hN hB ho hf hnn hb hwb D3 B0 BN hx8 hx9
    have BP : Hid (Box W5 b [.int .i64 t8, .int .i64 t9, .int .i64 0, .int .i64 0, .slice a5 n5 c5]) := BP
    have ⟨q0, q1, q2, q3, q4⟩ := BP.out.five; have z0 := BP.out.2.2; have l0 := BP.out.1
    have hL := HL.out
    have hne1 : ¬ b = w.heap.size := by omega
    have hne2 : ¬ w.heap.size = b := by omega
    have hne3 : ¬ b = r := by omega
    have hne4 : ¬ r = b := by omega
    have hne5 : ¬ r = w.heap.size := by omega
    have hne6 : ¬ w.heap.size = r := by omega
    go_wp2_with fail
    refine (getS_fld (HV.out.grow HW.out) HB.out 12 4 (by omega) (by omega) (by omega)).mono ?_
    rintro e wx ⟨rfl, rfl⟩
    go_wp2_with fail
    refine (getS_fld (HV.out.grow (Grow.setCell_ (p := ⟨b, 2, none⟩) HW.out (Nat.le_of_lt HL.out.2.2) (.int .i64 (fld d 12 4)))) HB.out 16 4 (by omega) (by omega) (by omega)).mono ?_
    rintro e wx ⟨rfl, rfl⟩
    go_wp2_with fail
    refine (getS_fld (HV.out.grow (Grow.setCell_ (p := ⟨b, 3, none⟩) (Grow.setCell_ (p := ⟨b, 2, none⟩) HW.out (Nat.le_of_lt HL.out.2.2) (.int .i64 (fld d 12 4))) (Nat.le_of_lt HL.out.2.2) (.int .i64 (fld d 16 4)))) HB.out 10 2 (by omega) (by omega) (by omega)).mono ?_
    rintro e wx ⟨rfl, rfl⟩
    go_wp2_with fail
    have U6 := Lib.hid (Upd.setCell (p := ⟨b, 3, none⟩) (Upd.setCell (p := ⟨b, 2, none⟩) (Upd.refl [b] W5) (by simp) (.int .i64 (fld d 12 4))) (by simp) (.int .i64 (fld d 16 4)))
    have H6 := Lib.hid (Grow.setCell_ (p := ⟨b, 3, none⟩) (Grow.setCell_ (p := ⟨b, 2, none⟩) HW.out (Nat.le_of_lt HL.out.2.2) (.int .i64 (fld d 12 4))) (Nat.le_of_lt HL.out.2.2) (.int .i64 (fld d 16 4)))
    have B6 := Lib.hid ((BP.out.set 2 (.int .i64 (fld d 12 4)) (by simp)).set 3 (.int .i64 (fld d 16 4)) (by simp))
    have BZ6 := Lib.hid (BZ.out.upd U6.out (by simp; omega)); have BM6 := Lib.hid (BM.out.upd U6.out (by simp; omega))
    have O6 := Lib.hid (OP.out.upd U6.out (fun x hx hm => HN.out (by simp at hm; exact hm ▸ hx)))
    clear U6
    generalize (World.setCell (World.setCell W5 ⟨b, 2, none⟩ (.int .i64 (fld d 12 4))) ⟨b, 3, none⟩ (.int .i64 (fld d 16 4))) = W6 at *
    have B6 : Hid (Box W6 b [.int .i64 t8, .int .i64 t9, .int .i64 (fld d 12 4), .int .i64 (fld d 16 4), .slice a5 n5 c5]) := B6
    clear q0 q1 q2 q3 q4 z0 l0
    refine at_world (w := W6) ?G (fun hG => (l03Head_any _ _ ⟨t8, t9, fld d 12 4, fld d 16 4, d.drop 20⟩ 0 ⟨_, rfl, (O6.out.rd).grow hG⟩ N5.out N1.out N2.out N3.out N4.out (by decide)).mono ?_)
    case G => ((repeat (first | with_reducible exact Grow.refl _ | (with_reducible refine Grow.alloc_ ?_ _) | (with_reducible refine Grow.setCell_ ?_ (by first | exact Nat.le_refl _ | (simp only [World.alloc, Array.size_push]; omega) | omega) _))))
    rintro e w7 ⟨vh, fph, rfl, hh, hfh, hg⟩
    have G7 := Lib.hid (hG.trans hg)
    have RH := Lib.hid hh.rd
    clear hG hg hh hfh
    have ⟨q0, q1, q2, q3, q4⟩ := (B6.out.grow G7.out).five; have z0 := (B6.out.grow G7.out).2.2; have l0 := (B6.out.grow G7.out).1
    have ⟨y0, y1, y2, y3, y4⟩ := (BZ6.out.grow G7.out).five; have zz := (BZ6.out.grow G7.out).2.2; have l1 := (BZ6.out.grow G7.out).1
    have ⟨x0, x1, x2, x3, x4⟩ := (BM6.out.grow G7.out).five; have xx := (BM6.out.grow G7.out).2.2; have l2 := (BM6.out.grow G7.out).1
    go_wp2_with fail
    refine (sum16S_any _ _ _ RH.out BH.out (by omega)).mono ?_
    rintro e wx ⟨rfl, rfl⟩
    rw [HSM.out]
    have H7 := Lib.hid (H6.out.trans G7.out)
    have HR : Hid (∀ W8, Upd [w.heap.size, r, b] w7 W8 → RetNew2 OwnIp ⟨t8, t9, fld d 12 4, fld d 16 4, d.drop 20⟩ (.int .i64 0) w (.returned (.tuple #[.agg #[.int .i64 t8, .int .i64 t9, .int .i64 (fld d 12 4), .int .i64 (fld d 16 4), .slice a5 n5 c5], .int .i64 0])) W8) := Lib.hid (fun W8 hu => by
      refine ⟨_, fp5, rfl, ⟨_, rfl, ?_⟩, HF.out.older GW.out, ?_⟩
      · exact (O6.out.grow G7.out).upd hu (fun x hx hm => by
          have h1 := HF.out x hx; have h2 := S2.out
          simp only [List.mem_cons, List.not_mem_nil, or_false] at hm
          rcases hm with rfl | rfl | rfl
          · omega
          · omega
          · exact HN.out hx)
      · exact H7.out.then_upd hu (by intro x hx; have := HL.out; simp only [List.mem_cons, List.not_mem_nil, or_false] at hx; omega))
    by_cases t5 : fld d 10 2 = sm
    rotate_left
    · obtain rfl : PP = (zeroI, 5) := HP.out.symm.trans (R5.out t5)
      have hb5 : (fld d 10 2 != sm) = true := by simpa using t5
      clear t5
      go_wp2
      refine bodyPost_ret (v := .tuple #[.agg #[.int .i64 0, .int .i64 0, .int .i64 0, .int .i64 0, .slice none 0 0], .int .i64 5]) ?_ rfl (HZ.out _ (Grow.box_end (fq := [w.heap.size, r, b]) H7.out ?_ (by simp; omega)) _)
      · simp [results, Try.results45, go_sem, y0, y1, y2, y3, y4, zz, x0, x1, x2, x3, x4, xx, hne1, hne2, hne3, hne4, hne5, hne6] <;> omega
      · ((repeat (first | (with_reducible refine Upd.setCell ?_ (by simp) _) | with_reducible exact Upd.refl _ _)))
    obtain rfl : PP = (⟨t8, t9, fld d 12 4, fld d 16 4, d.drop 20⟩, 0) := HP.out.symm.trans (R0.out t5)
    have hb5 : (fld d 10 2 != sm) = false := by simp [t5]
    clear t5
    go_wp2
    refine bodyPost_ret (v := .tuple #[.agg #[.int .i64 t8, .int .i64 t9, .int .i64 (fld d 12 4), .int .i64 (fld d 16 4), .slice a5 n5 c5], .int .i64 0]) ?_ rfl (HR.out _ ?_)
    · simp [results, Try.results45, go_sem, q0, q1, q2, q3, q4, z0, y0, y1, y2, y3, y4, zz, hne1, hne2, hne3, hne4, hne5, hne6] <;> omega
    · ((repeat (first | (with_reducible refine Upd.setCell ?_ (by simp) _) | with_reducible exact Upd.refl _ _)))


--%
end Go.Proofs.Ytcldfodnblkeiaa
