/- PacketRead: contracts of the code, the reference's side (printed by gprs.py). -/
import Derived.Test.YtcldfodnblkeiaaPr
import Derived.WalkKit
import Derived.ProofKit
import Derived.Deep.QuietTactic
import Derived.BigQuiet
import Derived.Outline
import Derived.WalkSpells
namespace Go.Proofs.Ytcldfodnblkeiaa
open Go.ChangeShapes Go.WideShapes Go.ChangeAt Go.RowKit
set_option linter.unusedVariables false
set_option linter.unusedSimpArgs false
--% PacketReadS 31
theorem pkOk_of {b : List Int} {T : Nat} (hb : Bytes b) (h : ¬ 4094 < prT b T) (hl : b.length ≤ T + 1504) : pkOk (prD b T) = typeB (fld b (T - 2) 2) := by
  have h1 := fld_le hb 0 6 (by omega); have h2 := fld_le hb 6 6 (by omega); have h3 := fld_le hb 14 2 (by omega)
  have h4 : inB (-1) 4094 (prT b T) = true := inB_true (by unfold prT; split <;> omega) (by omega)
  have h5 : ((b.drop T).take (b.length - 4 - T)).length ≤ 1500 := by simp; omega
  simp only [pkOk, prD, h4, inB_true h1.1 h1.2, inB_true h2.1 h2.2, h5, Bool.true_and, decide_true, Bool.and_true]
set_option maxHeartbeats 1000000 in
theorem packetReadS_any (w : World) (v : Value) (d : DatB) (h : RdB w v d) (b : WfB d) (sm : SmB d) : Calls Try.prog 31 #[v] w (RetNew2 OwnP (prF d).1 (.int .i64 (prF d).2) w) := by
  obtain ⟨a, c, rfl, hlc, hm, -, -⟩ := Rd.ints h
  unfold maxLen at hm
  have HZ : ∀ (w1 : World), Grow w w1 → ∀ k, RetNew2 OwnP zeroP (.int .i64 k) w (.returned (.tuple #[.agg #[.int .i64 0, .int .i64 0, .int .i64 0, .int .i64 0, .slice none 0 0], .int .i64 k])) w1 := fun w1 hg k => ⟨_, [], rfl, ⟨_, rfl, ownB_nil _⟩, by simp [Fresh], hg⟩
  have HZ := Lib.hid HZ
  unfold prF
  by_cases h14 : d.length < 14
  · rw [hdL_14 (.inl h14), prG_1 (by omega)]
    have HV := Lib.hid h
    clear h b sm
    go_enter Try.func31, Try.ntmps31
    go_wp2_with fail
    refine at_world (w := w) ?G (fun hG => (getNumS_no _ d 12 2 _ (HV.out.grow hG) (by omega) (by omega)).mono ?_)
    case G => ((repeat (first | with_reducible exact Grow.refl _ | (with_reducible refine Grow.alloc_ ?_ _) | (with_reducible refine Grow.setCell_ ?_ (by first | exact Nat.le_refl _ | (simp only [World.alloc, Array.size_push]; omega) | omega) _))))
    rintro e w1 ⟨rfl, rfl⟩
    go_wp2
    refine bodyPost_ret (v := .tuple #[.agg #[.int .i64 0, .int .i64 0, .int .i64 0, .int .i64 0, .slice none 0 0], .int .i64 1]) ?_ rfl (HZ.out _ ?_ _)
    · simp [results, Try.results31, go_sem]
    · ((repeat (first | with_reducible exact Grow.refl _ | (with_reducible refine Grow.alloc_ ?_ _) | (with_reducible refine Grow.setCell_ ?_ (by first | exact Nat.le_refl _ | (simp only [World.alloc, Array.size_push]; omega) | omega) _))))

  obtain ⟨b0, o0, rfl⟩ := RdB.at_ h (by omega)
  have HV := Lib.hid h; have HB : Hid (Bytes d) := Lib.hid b; have HS := Lib.hid sm
  clear h b sm
  by_cases tg : fld d 12 2 = 33024
  · rw [hdL_18 (by omega) tg]
    by_cases s1 : d.length < 18 + 4
    · rw [prG_1 s1]
      go_enter Try.func31, Try.ntmps31
      go_wp2_with fail
      refine at_world (w := w) ?G (fun hG => (getS_fld (HV.out.grow hG) HB.out 12 2 (by omega) (by omega) (by omega)).mono ?_)
      case G => ((repeat (first | with_reducible exact Grow.refl _ | (with_reducible refine Grow.alloc_ ?_ _) | (with_reducible refine Grow.setCell_ ?_ (by first | exact Nat.le_refl _ | (simp only [World.alloc, Array.size_push]; omega) | omega) _))))
      rintro e w1 ⟨rfl, rfl⟩
      rw [tg]
      clear hG
      go_wp2
      refine bodyPost_ret (v := .tuple #[.agg #[.int .i64 0, .int .i64 0, .int .i64 0, .int .i64 0, .slice none 0 0], .int .i64 1]) ?_ rfl (HZ.out _ ?_ _)
      · simp [results, Try.results31, go_sem]
      · ((repeat (first | with_reducible exact Grow.refl _ | (with_reducible refine Grow.alloc_ ?_ _) | (with_reducible refine Grow.setCell_ ?_ (by first | exact Nat.le_refl _ | (simp only [World.alloc, Array.size_push]; omega) | omega) _))))

    by_cases s2 : 18 + 1504 < d.length
    · rw [prG_2 s1 s2]
      go_enter Try.func31, Try.ntmps31
      go_wp2_with fail
      refine at_world (w := w) ?G (fun hG => (getS_fld (HV.out.grow hG) HB.out 12 2 (by omega) (by omega) (by omega)).mono ?_)
      case G => ((repeat (first | with_reducible exact Grow.refl _ | (with_reducible refine Grow.alloc_ ?_ _) | (with_reducible refine Grow.setCell_ ?_ (by first | exact Nat.le_refl _ | (simp only [World.alloc, Array.size_push]; omega) | omega) _))))
      rintro e w1 ⟨rfl, rfl⟩
      rw [tg]
      clear hG
      go_wp2
      refine bodyPost_ret (v := .tuple #[.agg #[.int .i64 0, .int .i64 0, .int .i64 0, .int .i64 0, .slice none 0 0], .int .i64 2]) ?_ rfl (HZ.out _ ?_ _)
      · simp [results, Try.results31, go_sem]
      · ((repeat (first | with_reducible exact Grow.refl _ | (with_reducible refine Grow.alloc_ ?_ _) | (with_reducible refine Grow.setCell_ ?_ (by first | exact Nat.le_refl _ | (simp only [World.alloc, Array.size_push]; omega) | omega) _))))

    obtain ⟨e4, he⟩ : ∃ e, d.length = e + 4 := ⟨d.length - 4, by omega⟩
    have hz : (d.length : Int) - 4 = (e4 : Int) := by omega
    have hz2 : ((d.length : Int) - 4).toNat = e4 := by omega
    have HE := Lib.hid he; clear he
    by_cases s3 : crcOf (d.take (d.length - 4)) = fld d (d.length - 4) 4
    rotate_left
    · rw [prG_3 s1 s2 s3]
      have hd4 : d.length - 4 = e4 := by have := HE.out; omega
      rw [hd4] at s3
      have c3 : (fld d e4 4 != crcOf (List.take e4 d)) = true := by simp only [bne_iff_ne, ne_eq]; exact fun e => s3 e.symm
      clear s3 hd4
      go_enter Try.func31, Try.ntmps31
      go_wp2_with fail
      refine at_world (w := w) ?G (fun hG => (getS_fld (HV.out.grow hG) HB.out 12 2 (by omega) (by omega) (by omega)).mono ?_)
      case G => ((repeat (first | with_reducible exact Grow.refl _ | (with_reducible refine Grow.alloc_ ?_ _) | (with_reducible refine Grow.setCell_ ?_ (by first | exact Nat.le_refl _ | (simp only [World.alloc, Array.size_push]; omega) | omega) _))))
      rintro e w1 ⟨rfl, rfl⟩
      rw [tg]
      clear hG
      go_wp2_with fail
      refine at_world (w := w) ?G (fun hG => (getS_fld (HV.out.grow hG) HB.out e4 4 (by omega) (by omega) (by have := HE.out; omega)).mono ?_)
      case G => ((repeat (first | with_reducible exact Grow.refl _ | (with_reducible refine Grow.alloc_ ?_ _) | (with_reducible refine Grow.setCell_ ?_ (by first | exact Nat.le_refl _ | (simp only [World.alloc, Array.size_push]; omega) | omega) _))))
      rintro e wx ⟨rfl, rfl⟩
      clear hG
      go_wp2_with fail
      refine at_world (w := w) ?G (fun hG => (crcS_any _ _ _ ((HV.out.take_ e4 (by have := HE.out; omega)).grow hG) (HB.out.take _) (by have := HS.out; have := HE.out; unfold SmB at *; simp; omega)).mono ?_)
      case G => ((repeat (first | with_reducible exact Grow.refl _ | (with_reducible refine Grow.alloc_ ?_ _) | (with_reducible refine Grow.setCell_ ?_ (by first | exact Nat.le_refl _ | (simp only [World.alloc, Array.size_push]; omega) | omega) _))))
      rintro e w1 ⟨rfl, rfl⟩
      clear hG
      go_wp2
      refine bodyPost_ret (v := .tuple #[.agg #[.int .i64 0, .int .i64 0, .int .i64 0, .int .i64 0, .slice none 0 0], .int .i64 3]) ?_ rfl (HZ.out _ ?_ _)
      · simp [results, Try.results31, go_sem]
      · ((repeat (first | with_reducible exact Grow.refl _ | (with_reducible refine Grow.alloc_ ?_ _) | (with_reducible refine Grow.setCell_ ?_ (by first | exact Nat.le_refl _ | (simp only [World.alloc, Array.size_push]; omega) | omega) _))))

    have hn : 18 ≤ e4 := by have := HE.out; omega
    have hbl : ((d.drop 18).take (e4 - 18)).length = e4 - 18 := by have := HE.out; simp; omega
    have hbs : SmB ((d.drop 18).take (e4 - 18)) := by have := HS.out; unfold SmB at *; omega
    have hp : prT d 18 = (fld d 14 2) := rfl
    rw [prG_r s1 s2 s3]
    by_cases s4 : 4094 < fld d 14 2
    · rw [prR_4 (by rw [hp]; exact s4)]
      have hd4 : d.length - 4 = e4 := by have := HE.out; omega
      rw [hd4] at s3
      have c3 : (fld d e4 4 != crcOf (List.take e4 d)) = false := by rw [s3]; exact bne_self_eq_false _
      clear s3 hd4
      go_enter Try.func31, Try.ntmps31
      go_wp2_with fail
      refine at_world (w := w) ?G (fun hG => (getS_fld (HV.out.grow hG) HB.out 12 2 (by omega) (by omega) (by omega)).mono ?_)
      case G => ((repeat (first | with_reducible exact Grow.refl _ | (with_reducible refine Grow.alloc_ ?_ _) | (with_reducible refine Grow.setCell_ ?_ (by first | exact Nat.le_refl _ | (simp only [World.alloc, Array.size_push]; omega) | omega) _))))
      rintro e w1 ⟨rfl, rfl⟩
      rw [tg]
      clear hG
      go_wp2_with fail
      refine at_world (w := w) ?G (fun hG => (getS_fld (HV.out.grow hG) HB.out e4 4 (by omega) (by omega) (by have := HE.out; omega)).mono ?_)
      case G => ((repeat (first | with_reducible exact Grow.refl _ | (with_reducible refine Grow.alloc_ ?_ _) | (with_reducible refine Grow.setCell_ ?_ (by first | exact Nat.le_refl _ | (simp only [World.alloc, Array.size_push]; omega) | omega) _))))
      rintro e wx ⟨rfl, rfl⟩
      clear hG
      go_wp2_with fail
      refine at_world (w := w) ?G (fun hG => (crcS_any _ _ _ ((HV.out.take_ e4 (by have := HE.out; omega)).grow hG) (HB.out.take _) (by have := HS.out; have := HE.out; unfold SmB at *; simp; omega)).mono ?_)
      case G => ((repeat (first | with_reducible exact Grow.refl _ | (with_reducible refine Grow.alloc_ ?_ _) | (with_reducible refine Grow.setCell_ ?_ (by first | exact Nat.le_refl _ | (simp only [World.alloc, Array.size_push]; omega) | omega) _))))
      rintro e w1 ⟨rfl, rfl⟩
      clear hG
      go_wp2_with fail
      have GW := Lib.hid (((Grow.alloc w (.cells #[.int .i64 0, .int .i64 0, .int .i64 0, .int .i64 0, .slice none 0 0] 27)).trans (Grow.alloc _ (.cells #[.int .i64 0, .int .i64 0, .int .i64 0, .int .i64 0, .slice none 0 0] 27))).trans (Grow.alloc _ (.cells #[.int .i64 0, .int .i64 0, .int .i64 (-1), .int .i64 0, .slice none 0 0] 27)))
      have B0 := Lib.hid ((Box.alloc w [.int .i64 0, .int .i64 0, .int .i64 0, .int .i64 0, .slice none 0 0] 27).grow ((Grow.alloc _ (.cells #[.int .i64 0, .int .i64 0, .int .i64 0, .int .i64 0, .slice none 0 0] 27)).trans (Grow.alloc _ (.cells #[.int .i64 0, .int .i64 0, .int .i64 (-1), .int .i64 0, .slice none 0 0] 27))))
      have BN := Lib.hid (((Box.alloc (w.alloc (.cells #[.int .i64 0, .int .i64 0, .int .i64 0, .int .i64 0, .slice none 0 0] 27)) [.int .i64 0, .int .i64 0, .int .i64 0, .int .i64 0, .slice none 0 0] 27).grow (Grow.alloc _ (.cells #[.int .i64 0, .int .i64 0, .int .i64 (-1), .int .i64 0, .slice none 0 0] 27))).at_ (b' := w.heap.size + 1) (by simp only [World.alloc, Array.size_push]))
      have B1 := Lib.hid ((Box.alloc ((w.alloc (.cells #[.int .i64 0, .int .i64 0, .int .i64 0, .int .i64 0, .slice none 0 0] 27)).alloc (.cells #[.int .i64 0, .int .i64 0, .int .i64 0, .int .i64 0, .slice none 0 0] 27)) [.int .i64 0, .int .i64 0, .int .i64 (-1), .int .i64 0, .slice none 0 0] 27).at_ (b' := w.heap.size + 1 + 1) (by simp only [World.alloc, Array.size_push]))
      generalize ((w.alloc (.cells #[.int .i64 0, .int .i64 0, .int .i64 0, .int .i64 0, .slice none 0 0] 27)).alloc (.cells #[.int .i64 0, .int .i64 0, .int .i64 0, .int .i64 0, .slice none 0 0] 27)).alloc (.cells #[.int .i64 0, .int .i64 0, .int .i64 (-1), .int .i64 0, .slice none 0 0] 27) = W1 at *
      generalize hrq : w.heap.size + 1 = r at *
      generalize hbq : r + 1 = b at *
      have HL : Hid (w.heap.size < b) := Lib.hid (by omega)
      have HL2 : Hid (w.heap.size < r ∧ r < b) := Lib.hid (by omega)
      clear hrq hbq
      refine (getS_fld (HV.out.grow GW.out) HB.out 0 6 (by omega) (by omega) (by omega)).mono ?_
      rintro e wx ⟨rfl, rfl⟩
      have ⟨q0, q1, q2, q3, q4⟩ := B1.out.five; have z0 := B1.out.2.2; have l0 := B1.out.1
      have ⟨y0, y1, y2, y3, y4⟩ := B0.out.five; have zz := B0.out.2.2; have l1 := B0.out.1; have hl := HL.out
      have ⟨x0, x1, x2, x3, x4⟩ := BN.out.five; have xx := BN.out.2.2; have l2 := BN.out.1; have hl2 := HL2.out
      have hne1 : ¬ b = w.heap.size := by omega
      have hne2 : ¬ w.heap.size = b := by omega
      have hne3 : ¬ b = r := by omega
      have hne4 : ¬ r = b := by omega
      have hne5 : ¬ r = w.heap.size := by omega
      have hne6 : ¬ w.heap.size = r := by omega
      go_wp2_with fail
      refine (getS_fld (HV.out.grow (Grow.setCell_ (p := ⟨b, 0, none⟩) GW.out (Nat.le_of_lt HL.out) (.int .i64 (fld d 0 6)))) HB.out 6 6 (by omega) (by omega) (by omega)).mono ?_
      rintro e wx ⟨rfl, rfl⟩
      go_wp2_with fail
      refine (getS_fld (HV.out.grow (Grow.setCell_ (p := ⟨b, 1, none⟩) (Grow.setCell_ (p := ⟨b, 0, none⟩) GW.out (Nat.le_of_lt HL.out) (.int .i64 (fld d 0 6))) (Nat.le_of_lt HL.out) (.int .i64 (fld d 6 6)))) HB.out 14 2 (by omega) (by omega) (by omega)).mono ?_
      rintro e wx ⟨rfl, rfl⟩
      go_wp2
      refine bodyPost_ret (v := .tuple #[.agg #[.int .i64 0, .int .i64 0, .int .i64 0, .int .i64 0, .slice none 0 0], .int .i64 4]) ?_ rfl (HZ.out _ (Grow.box_end (fq := [w.heap.size, r, b]) GW.out ?_ (by simp; omega)) _)
      · simp [results, Try.results31, go_sem, y0, y1, y2, y3, y4, zz, x0, x1, x2, x3, x4, xx, hne1, hne2, hne3, hne4, hne5, hne6] <;> omega
      · ((repeat (first | (with_reducible refine Upd.setCell ?_ (by simp) _) | with_reducible exact Upd.refl _ _)))

    have S4 := Lib.hid s4
    obtain ⟨PP, hPP⟩ : ∃ PP, prR d 18 = PP := ⟨_, rfl⟩
    rw [hPP]
    have HP := Lib.hid hPP
    clear hPP
    have hk : pkOk (prD d 18) = typeB (fld d 16 2) := pkOk_of HB.out (by rw [hp]; exact s4) (by omega)
    have HK := Lib.hid hk
    clear hk s4
    have hbd : (prD d 18).body = ((d.drop 18).take (e4 - 18)) := by
      have := HE.out
      show List.take (d.length - 4 - 18) (d.drop 18) = _
      rw [show d.length - 4 - 18 = e4 - 18 by omega]
    have HBD := Lib.hid hbd
    clear hbd
    have S5 : Hid (fld d 14 2 ≤ 4094) := Lib.hid (by have := S4.out; omega)
    have s5 := S5.out
    have hd4 : d.length - 4 = e4 := by have := HE.out; omega
    rw [hd4] at s3
    have c3 : (fld d e4 4 != crcOf (List.take e4 d)) = false := by rw [s3]; exact bne_self_eq_false _
    clear s3 hd4
    go_enter Try.func31, Try.ntmps31
    go_wp2_with fail
    refine at_world (w := w) ?G (fun hG => (getS_fld (HV.out.grow hG) HB.out 12 2 (by omega) (by omega) (by omega)).mono ?_)
    case G => ((repeat (first | with_reducible exact Grow.refl _ | (with_reducible refine Grow.alloc_ ?_ _) | (with_reducible refine Grow.setCell_ ?_ (by first | exact Nat.le_refl _ | (simp only [World.alloc, Array.size_push]; omega) | omega) _))))
    rintro e w1 ⟨rfl, rfl⟩
    rw [tg]
    clear hG
    go_wp2_with fail
    refine at_world (w := w) ?G (fun hG => (getS_fld (HV.out.grow hG) HB.out e4 4 (by omega) (by omega) (by have := HE.out; omega)).mono ?_)
    case G => ((repeat (first | with_reducible exact Grow.refl _ | (with_reducible refine Grow.alloc_ ?_ _) | (with_reducible refine Grow.setCell_ ?_ (by first | exact Nat.le_refl _ | (simp only [World.alloc, Array.size_push]; omega) | omega) _))))
    rintro e wx ⟨rfl, rfl⟩
    clear hG
    go_wp2_with fail
    refine at_world (w := w) ?G (fun hG => (crcS_any _ _ _ ((HV.out.take_ e4 (by have := HE.out; omega)).grow hG) (HB.out.take _) (by have := HS.out; have := HE.out; unfold SmB at *; simp; omega)).mono ?_)
    case G => ((repeat (first | with_reducible exact Grow.refl _ | (with_reducible refine Grow.alloc_ ?_ _) | (with_reducible refine Grow.setCell_ ?_ (by first | exact Nat.le_refl _ | (simp only [World.alloc, Array.size_push]; omega) | omega) _))))
    rintro e w1 ⟨rfl, rfl⟩
    clear hG
    go_wp2_with fail
    have GW := Lib.hid (((Grow.alloc w (.cells #[.int .i64 0, .int .i64 0, .int .i64 0, .int .i64 0, .slice none 0 0] 27)).trans (Grow.alloc _ (.cells #[.int .i64 0, .int .i64 0, .int .i64 0, .int .i64 0, .slice none 0 0] 27))).trans (Grow.alloc _ (.cells #[.int .i64 0, .int .i64 0, .int .i64 (-1), .int .i64 0, .slice none 0 0] 27)))
    have B0 := Lib.hid ((Box.alloc w [.int .i64 0, .int .i64 0, .int .i64 0, .int .i64 0, .slice none 0 0] 27).grow ((Grow.alloc _ (.cells #[.int .i64 0, .int .i64 0, .int .i64 0, .int .i64 0, .slice none 0 0] 27)).trans (Grow.alloc _ (.cells #[.int .i64 0, .int .i64 0, .int .i64 (-1), .int .i64 0, .slice none 0 0] 27))))
    have BN := Lib.hid (((Box.alloc (w.alloc (.cells #[.int .i64 0, .int .i64 0, .int .i64 0, .int .i64 0, .slice none 0 0] 27)) [.int .i64 0, .int .i64 0, .int .i64 0, .int .i64 0, .slice none 0 0] 27).grow (Grow.alloc _ (.cells #[.int .i64 0, .int .i64 0, .int .i64 (-1), .int .i64 0, .slice none 0 0] 27))).at_ (b' := w.heap.size + 1) (by simp only [World.alloc, Array.size_push]))
    have B1 := Lib.hid ((Box.alloc ((w.alloc (.cells #[.int .i64 0, .int .i64 0, .int .i64 0, .int .i64 0, .slice none 0 0] 27)).alloc (.cells #[.int .i64 0, .int .i64 0, .int .i64 0, .int .i64 0, .slice none 0 0] 27)) [.int .i64 0, .int .i64 0, .int .i64 (-1), .int .i64 0, .slice none 0 0] 27).at_ (b' := w.heap.size + 1 + 1) (by simp only [World.alloc, Array.size_push]))
    generalize ((w.alloc (.cells #[.int .i64 0, .int .i64 0, .int .i64 0, .int .i64 0, .slice none 0 0] 27)).alloc (.cells #[.int .i64 0, .int .i64 0, .int .i64 0, .int .i64 0, .slice none 0 0] 27)).alloc (.cells #[.int .i64 0, .int .i64 0, .int .i64 (-1), .int .i64 0, .slice none 0 0] 27) = W1 at *
    generalize hrq : w.heap.size + 1 = r at *
    generalize hbq : r + 1 = b at *
    have HL : Hid (w.heap.size < b) := Lib.hid (by omega)
    have HL2 : Hid (w.heap.size < r ∧ r < b) := Lib.hid (by omega)
    clear hrq hbq
    refine (getS_fld (HV.out.grow GW.out) HB.out 0 6 (by omega) (by omega) (by omega)).mono ?_
    rintro e wx ⟨rfl, rfl⟩
    have ⟨q0, q1, q2, q3, q4⟩ := B1.out.five; have z0 := B1.out.2.2; have l0 := B1.out.1
    have ⟨y0, y1, y2, y3, y4⟩ := B0.out.five; have zz := B0.out.2.2; have l1 := B0.out.1; have hl := HL.out
    have ⟨x0, x1, x2, x3, x4⟩ := BN.out.five; have xx := BN.out.2.2; have l2 := BN.out.1; have hl2 := HL2.out
    have hne1 : ¬ b = w.heap.size := by omega
    have hne2 : ¬ w.heap.size = b := by omega
    have hne3 : ¬ b = r := by omega
    have hne4 : ¬ r = b := by omega
    have hne5 : ¬ r = w.heap.size := by omega
    have hne6 : ¬ w.heap.size = r := by omega
    go_wp2_with fail
    refine (getS_fld (HV.out.grow (Grow.setCell_ (p := ⟨b, 0, none⟩) GW.out (Nat.le_of_lt HL.out) (.int .i64 (fld d 0 6)))) HB.out 6 6 (by omega) (by omega) (by omega)).mono ?_
    rintro e wx ⟨rfl, rfl⟩
    go_wp2_with fail
    refine (getS_fld (HV.out.grow (Grow.setCell_ (p := ⟨b, 1, none⟩) (Grow.setCell_ (p := ⟨b, 0, none⟩) GW.out (Nat.le_of_lt HL.out) (.int .i64 (fld d 0 6))) (Nat.le_of_lt HL.out) (.int .i64 (fld d 6 6)))) HB.out 14 2 (by omega) (by omega) (by omega)).mono ?_
    rintro e wx ⟨rfl, rfl⟩
    go_wp2_with fail
    refine (getS_fld (HV.out.grow (Grow.setCell_ (p := ⟨b, 2, none⟩) (Grow.setCell_ (p := ⟨b, 1, none⟩) (Grow.setCell_ (p := ⟨b, 0, none⟩) GW.out (Nat.le_of_lt HL.out) (.int .i64 (fld d 0 6))) (Nat.le_of_lt HL.out) (.int .i64 (fld d 6 6))) (Nat.le_of_lt HL.out) (.int .i64 (fld d 14 2)))) HB.out 16 2 (by omega) (by omega) (by omega)).mono ?_
    rintro e wx ⟨rfl, rfl⟩
    have GX := Lib.hid (Grow.setCell_ (p := ⟨b, 3, none⟩) (Grow.setCell_ (p := ⟨b, 2, none⟩) (Grow.setCell_ (p := ⟨b, 1, none⟩) (Grow.setCell_ (p := ⟨b, 0, none⟩) GW.out (Nat.le_of_lt HL.out) (.int .i64 (fld d 0 6))) (Nat.le_of_lt HL.out) (.int .i64 (fld d 6 6))) (Nat.le_of_lt HL.out) (.int .i64 (fld d 14 2))) (Nat.le_of_lt HL.out) (.int .i64 (fld d 16 2)))
    have hsz : (World.setCell (World.setCell (World.setCell (World.setCell W1 ⟨b, 0, none⟩ (.int .i64 (fld d 0 6))) ⟨b, 1, none⟩ (.int .i64 (fld d 6 6))) ⟨b, 2, none⟩ (.int .i64 (fld d 14 2))) ⟨b, 3, none⟩ (.int .i64 (fld d 16 2))).heap.size = W1.heap.size := by simp only [size_set]
    have RD := Lib.hid ((HV.out.cut 18 (e4 - 18) (by have := HE.out; omega) (by have := HE.out; omega)).grow (GX.out.trans (Grow.alloc _ (.cells #[] 5))))
    have OL := World.ownsRow_lit (base := W1.heap.size) (e := 5) (size := 1) (World.setCell (World.setCell (World.setCell (World.setCell W1 ⟨b, 0, none⟩ (.int .i64 (fld d 0 6))) ⟨b, 1, none⟩ (.int .i64 (fld d 6 6))) ⟨b, 2, none⟩ (.int .i64 (fld d 14 2))) ⟨b, 3, none⟩ (.int .i64 (fld d 16 2))) #[] 0 (by rw [hsz]; exact Nat.le_refl _) (by decide) rfl
    rw [hsz] at OL
    have OL := Lib.hid OL
    have HSZ := Lib.hid hsz
    have BX := Lib.hid ((((B1.out.set 0 (.int .i64 (fld d 0 6)) (by simp)).set 1 (.int .i64 (fld d 6 6)) (by simp)).set 2 (.int .i64 (fld d 14 2)) (by simp)).set 3 (.int .i64 (fld d 16 2)) (by simp))
    have UX := Lib.hid (Upd.setCell (p := ⟨b, 3, none⟩) (Upd.setCell (p := ⟨b, 2, none⟩) (Upd.setCell (p := ⟨b, 1, none⟩) (Upd.setCell (p := ⟨b, 0, none⟩) (Upd.refl [b] W1) (by simp) (.int .i64 (fld d 0 6))) (by simp) (.int .i64 (fld d 6 6))) (by simp) (.int .i64 (fld d 14 2))) (by simp) (.int .i64 (fld d 16 2)))
    clear hsz
    go_wp2_with (first | (at_builtin; refine wpl_append Try.elemU8 rfl _ _ rfl W1.heap.size rfl OL.out ((d.drop 18).take (e4 - 18)).length rfl RD.out (by simp) (oneCell_ints _ _) (by omega) (by unfold maxLen; omega) (by simp) ?_; intro v2 w2 hown hgr hmv; obtain ⟨fp2, ho, hf, hg2⟩ := copied (w := (World.setCell (World.setCell (World.setCell (World.setCell W1 ⟨b, 0, none⟩ (.int .i64 (fld d 0 6))) ⟨b, 1, none⟩ (.int .i64 (fld d 6 6))) ⟨b, 2, none⟩ (.int .i64 (fld d 14 2))) ⟨b, 3, none⟩ (.int .i64 (fld d 16 2)))) (by rw [HSZ.out]; exact hown) (by rw [HSZ.out]; exact hgr); clear hown hgr hmv; obtain ⟨a2, c2, rfl⟩ := own_shape ho.1; rw [hbl] at ho ⊢; have HO := Lib.hid ho; have HF := Lib.hid hf; have HG2 := Lib.hid hg2; have BY := Lib.hid (BX.out.grow hg2); have BZ0 := Lib.hid ((B0.out.upd UX.out (by simp; omega)).grow hg2); have BZ1 := Lib.hid ((BN.out.upd UX.out (by simp; omega)).grow hg2); clear ho hf hg2; have ⟨p0, p1, p2, p3, p4⟩ := BY.out.five; have pz := BY.out.2.2; have pl := BY.out.1) | fail)
    clear p0 p1 p2 p3 p4 pz pl
    have U5 := Lib.hid (Upd.setCell (p := ⟨b, 4, none⟩) (Upd.refl [b] w2) (by simp) (.slice a2 (e4 - 18) c2))
    have BP := Lib.hid (BY.out.set 4 (.slice a2 (e4 - 18) c2) (by simp))
    have BZ0 := Lib.hid (BZ0.out.upd U5.out (by simp; omega))
    have BZ1 := Lib.hid (BZ1.out.upd U5.out (by simp; omega))
    have OP := Lib.hid (HO.out.upd U5.out (fun x hx hm => by have h1 := HF.out x hx; have h2 := HSZ.out; simp only [List.mem_cons, List.not_mem_nil, or_false] at hm; omega))
    have GP := Lib.hid (Grow.setCell_ (p := ⟨b, 4, none⟩) (GX.out.trans HG2.out) (Nat.le_of_lt HL.out) (.slice a2 (e4 - 18) c2))
    clear U5
    generalize World.setCell w2 ⟨b, 4, none⟩ (.slice a2 (e4 - 18) c2) = W5 at *
    refine (packetOkS _ _ (prD d 18) ⟨_, rfl, by rw [HBD.out]; exact OP.out.rd⟩).mono ?_
    rintro e w6 ⟨rfl, hg⟩
    rw [HK.out]
    have G6 := Lib.hid (GP.out.trans hg)
    have HR : Hid (∀ W7, Upd [w.heap.size, r, b] w6 W7 → RetNew2 OwnP (prD d 18) (.int .i64 0) w (.returned (.tuple #[.agg #[.int .i64 (fld d 0 6), .int .i64 (fld d 6 6), .int .i64 (fld d 14 2), .int .i64 (fld d 16 2), .slice a2 (e4 - 18) c2], .int .i64 0])) W7) := Lib.hid (fun W7 hu => by
      refine ⟨_, fp2, rfl, ⟨_, rfl, ?_⟩, HF.out.older GX.out, ?_⟩
      · rw [HBD.out]
        exact (OP.out.grow hg).upd hu (fun x hx hm => by
          have h1 := HF.out x hx; have h2 := HSZ.out
          simp only [List.mem_cons, List.not_mem_nil, or_false] at hm; omega)
      · exact G6.out.then_upd hu (by intro x hx; simp only [List.mem_cons, List.not_mem_nil, or_false] at hx; omega))
    clear q0 q1 q2 q3 q4 y0 y1 y2 y3 y4 x0 x1 x2 x3 x4 z0 zz xx
    have ⟨q0, q1, q2, q3, q4⟩ := (BP.out.grow hg).five; have z0 := (BP.out.grow hg).2.2; have l00 := (BP.out.grow hg).1
    have ⟨y0, y1, y2, y3, y4⟩ := (BZ0.out.grow hg).five; have zz := (BZ0.out.grow hg).2.2; have l11 := (BZ0.out.grow hg).1
    have ⟨x0, x1, x2, x3, x4⟩ := (BZ1.out.grow hg).five; have xx := (BZ1.out.grow hg).2.2; have l22 := (BZ1.out.grow hg).1
    clear hg
    cases hty : typeB (fld d 16 2)
    · obtain rfl : PP = (zeroP, 5) := HP.out.symm.trans (prR_5 (by rw [hp]; have := S4.out; omega) hty)
      go_wp2
      refine bodyPost_ret (v := .tuple #[.agg #[.int .i64 0, .int .i64 0, .int .i64 0, .int .i64 0, .slice none 0 0], .int .i64 5]) ?_ rfl (HZ.out _ (Grow.box_end (fq := [w.heap.size, r, b]) G6.out ?_ (by simp; omega)) _)
      · simp [results, Try.results31, go_sem, y0, y1, y2, y3, y4, zz, x0, x1, x2, x3, x4, xx, hne1, hne2, hne3, hne4, hne5, hne6] <;> omega
      · ((repeat (first | (with_reducible refine Upd.setCell ?_ (by simp) _) | with_reducible exact Upd.refl _ _)))
    obtain rfl : PP = (prD d 18, 0) := HP.out.symm.trans (prR_0 (by rw [hp]; have := S4.out; omega) hty)
    go_wp2
    refine bodyPost_ret (v := .tuple #[.agg #[.int .i64 (fld d 0 6), .int .i64 (fld d 6 6), .int .i64 (fld d 14 2), .int .i64 (fld d 16 2), .slice a2 (e4 - 18) c2], .int .i64 0]) ?_ rfl (HR.out _ ?_)
    · simp [results, Try.results31, go_sem, q0, q1, q2, q3, q4, z0, y0, y1, y2, y3, y4, zz, x0, x1, x2, x3, x4, xx, hne1, hne2, hne3, hne4, hne5, hne6] <;> omega
    · ((repeat (first | (with_reducible refine Upd.setCell ?_ (by simp) _) | with_reducible exact Upd.refl _ _)))

  rw [hdL_14 (.inr tg)]
  have tb : (fld d 12 2 == 33024) = false := by simpa using tg
  clear tg
  by_cases s1 : d.length < 14 + 4
  · rw [prG_1 s1]
    go_enter Try.func31, Try.ntmps31
    go_wp2_with fail
    refine at_world (w := w) ?G (fun hG => (getS_fld (HV.out.grow hG) HB.out 12 2 (by omega) (by omega) (by omega)).mono ?_)
    case G => ((repeat (first | with_reducible exact Grow.refl _ | (with_reducible refine Grow.alloc_ ?_ _) | (with_reducible refine Grow.setCell_ ?_ (by first | exact Nat.le_refl _ | (simp only [World.alloc, Array.size_push]; omega) | omega) _))))
    rintro e w1 ⟨rfl, rfl⟩
    clear hG
    go_wp2
    refine bodyPost_ret (v := .tuple #[.agg #[.int .i64 0, .int .i64 0, .int .i64 0, .int .i64 0, .slice none 0 0], .int .i64 1]) ?_ rfl (HZ.out _ ?_ _)
    · simp [results, Try.results31, go_sem]
    · ((repeat (first | with_reducible exact Grow.refl _ | (with_reducible refine Grow.alloc_ ?_ _) | (with_reducible refine Grow.setCell_ ?_ (by first | exact Nat.le_refl _ | (simp only [World.alloc, Array.size_push]; omega) | omega) _))))

  by_cases s2 : 14 + 1504 < d.length
  · rw [prG_2 s1 s2]
    go_enter Try.func31, Try.ntmps31
    go_wp2_with fail
    refine at_world (w := w) ?G (fun hG => (getS_fld (HV.out.grow hG) HB.out 12 2 (by omega) (by omega) (by omega)).mono ?_)
    case G => ((repeat (first | with_reducible exact Grow.refl _ | (with_reducible refine Grow.alloc_ ?_ _) | (with_reducible refine Grow.setCell_ ?_ (by first | exact Nat.le_refl _ | (simp only [World.alloc, Array.size_push]; omega) | omega) _))))
    rintro e w1 ⟨rfl, rfl⟩
    clear hG
    go_wp2
    refine bodyPost_ret (v := .tuple #[.agg #[.int .i64 0, .int .i64 0, .int .i64 0, .int .i64 0, .slice none 0 0], .int .i64 2]) ?_ rfl (HZ.out _ ?_ _)
    · simp [results, Try.results31, go_sem]
    · ((repeat (first | with_reducible exact Grow.refl _ | (with_reducible refine Grow.alloc_ ?_ _) | (with_reducible refine Grow.setCell_ ?_ (by first | exact Nat.le_refl _ | (simp only [World.alloc, Array.size_push]; omega) | omega) _))))

  obtain ⟨e4, he⟩ : ∃ e, d.length = e + 4 := ⟨d.length - 4, by omega⟩
  have hz : (d.length : Int) - 4 = (e4 : Int) := by omega
  have hz2 : ((d.length : Int) - 4).toNat = e4 := by omega
  have HE := Lib.hid he; clear he
  by_cases s3 : crcOf (d.take (d.length - 4)) = fld d (d.length - 4) 4
  rotate_left
  · rw [prG_3 s1 s2 s3]
    have hd4 : d.length - 4 = e4 := by have := HE.out; omega
    rw [hd4] at s3
    have c3 : (fld d e4 4 != crcOf (List.take e4 d)) = true := by simp only [bne_iff_ne, ne_eq]; exact fun e => s3 e.symm
    clear s3 hd4
    go_enter Try.func31, Try.ntmps31
    go_wp2_with fail
    refine at_world (w := w) ?G (fun hG => (getS_fld (HV.out.grow hG) HB.out 12 2 (by omega) (by omega) (by omega)).mono ?_)
    case G => ((repeat (first | with_reducible exact Grow.refl _ | (with_reducible refine Grow.alloc_ ?_ _) | (with_reducible refine Grow.setCell_ ?_ (by first | exact Nat.le_refl _ | (simp only [World.alloc, Array.size_push]; omega) | omega) _))))
    rintro e w1 ⟨rfl, rfl⟩
    clear hG
    go_wp2_with fail
    refine at_world (w := w) ?G (fun hG => (getS_fld (HV.out.grow hG) HB.out e4 4 (by omega) (by omega) (by have := HE.out; omega)).mono ?_)
    case G => ((repeat (first | with_reducible exact Grow.refl _ | (with_reducible refine Grow.alloc_ ?_ _) | (with_reducible refine Grow.setCell_ ?_ (by first | exact Nat.le_refl _ | (simp only [World.alloc, Array.size_push]; omega) | omega) _))))
    rintro e wx ⟨rfl, rfl⟩
    clear hG
    go_wp2_with fail
    refine at_world (w := w) ?G (fun hG => (crcS_any _ _ _ ((HV.out.take_ e4 (by have := HE.out; omega)).grow hG) (HB.out.take _) (by have := HS.out; have := HE.out; unfold SmB at *; simp; omega)).mono ?_)
    case G => ((repeat (first | with_reducible exact Grow.refl _ | (with_reducible refine Grow.alloc_ ?_ _) | (with_reducible refine Grow.setCell_ ?_ (by first | exact Nat.le_refl _ | (simp only [World.alloc, Array.size_push]; omega) | omega) _))))
    rintro e w1 ⟨rfl, rfl⟩
    clear hG
    go_wp2
    refine bodyPost_ret (v := .tuple #[.agg #[.int .i64 0, .int .i64 0, .int .i64 0, .int .i64 0, .slice none 0 0], .int .i64 3]) ?_ rfl (HZ.out _ ?_ _)
    · simp [results, Try.results31, go_sem]
    · ((repeat (first | with_reducible exact Grow.refl _ | (with_reducible refine Grow.alloc_ ?_ _) | (with_reducible refine Grow.setCell_ ?_ (by first | exact Nat.le_refl _ | (simp only [World.alloc, Array.size_push]; omega) | omega) _))))

  have hn : 14 ≤ e4 := by have := HE.out; omega
  have hbl : ((d.drop 14).take (e4 - 14)).length = e4 - 14 := by have := HE.out; simp; omega
  have hbs : SmB ((d.drop 14).take (e4 - 14)) := by have := HS.out; unfold SmB at *; omega
  have hp : prT d 14 = (-1) := rfl
  rw [prG_r s1 s2 s3]
  have s4 : ¬ (4094 : Int) < -1 := by decide
  have S4 := Lib.hid s4
  obtain ⟨PP, hPP⟩ : ∃ PP, prR d 14 = PP := ⟨_, rfl⟩
  rw [hPP]
  have HP := Lib.hid hPP
  clear hPP
  have hk : pkOk (prD d 14) = typeB (fld d 12 2) := pkOk_of HB.out (by rw [hp]; exact s4) (by omega)
  have HK := Lib.hid hk
  clear hk s4
  have hbd : (prD d 14).body = ((d.drop 14).take (e4 - 14)) := by
    have := HE.out
    show List.take (d.length - 4 - 14) (d.drop 14) = _
    rw [show d.length - 4 - 14 = e4 - 14 by omega]
  have HBD := Lib.hid hbd
  clear hbd
  have hd4 : d.length - 4 = e4 := by have := HE.out; omega
  rw [hd4] at s3
  have c3 : (fld d e4 4 != crcOf (List.take e4 d)) = false := by rw [s3]; exact bne_self_eq_false _
  clear s3 hd4
  go_enter Try.func31, Try.ntmps31
  go_wp2_with fail
  refine at_world (w := w) ?G (fun hG => (getS_fld (HV.out.grow hG) HB.out 12 2 (by omega) (by omega) (by omega)).mono ?_)
  case G => ((repeat (first | with_reducible exact Grow.refl _ | (with_reducible refine Grow.alloc_ ?_ _) | (with_reducible refine Grow.setCell_ ?_ (by first | exact Nat.le_refl _ | (simp only [World.alloc, Array.size_push]; omega) | omega) _))))
  rintro e w1 ⟨rfl, rfl⟩
  clear hG
  go_wp2_with fail
  refine at_world (w := w) ?G (fun hG => (getS_fld (HV.out.grow hG) HB.out e4 4 (by omega) (by omega) (by have := HE.out; omega)).mono ?_)
  case G => ((repeat (first | with_reducible exact Grow.refl _ | (with_reducible refine Grow.alloc_ ?_ _) | (with_reducible refine Grow.setCell_ ?_ (by first | exact Nat.le_refl _ | (simp only [World.alloc, Array.size_push]; omega) | omega) _))))
  rintro e wx ⟨rfl, rfl⟩
  clear hG
  go_wp2_with fail
  refine at_world (w := w) ?G (fun hG => (crcS_any _ _ _ ((HV.out.take_ e4 (by have := HE.out; omega)).grow hG) (HB.out.take _) (by have := HS.out; have := HE.out; unfold SmB at *; simp; omega)).mono ?_)
  case G => ((repeat (first | with_reducible exact Grow.refl _ | (with_reducible refine Grow.alloc_ ?_ _) | (with_reducible refine Grow.setCell_ ?_ (by first | exact Nat.le_refl _ | (simp only [World.alloc, Array.size_push]; omega) | omega) _))))
  rintro e w1 ⟨rfl, rfl⟩
  clear hG
  go_wp2_with fail
  have GW := Lib.hid (((Grow.alloc w (.cells #[.int .i64 0, .int .i64 0, .int .i64 0, .int .i64 0, .slice none 0 0] 27)).trans (Grow.alloc _ (.cells #[.int .i64 0, .int .i64 0, .int .i64 0, .int .i64 0, .slice none 0 0] 27))).trans (Grow.alloc _ (.cells #[.int .i64 0, .int .i64 0, .int .i64 (-1), .int .i64 0, .slice none 0 0] 27)))
  have B0 := Lib.hid ((Box.alloc w [.int .i64 0, .int .i64 0, .int .i64 0, .int .i64 0, .slice none 0 0] 27).grow ((Grow.alloc _ (.cells #[.int .i64 0, .int .i64 0, .int .i64 0, .int .i64 0, .slice none 0 0] 27)).trans (Grow.alloc _ (.cells #[.int .i64 0, .int .i64 0, .int .i64 (-1), .int .i64 0, .slice none 0 0] 27))))
  have BN := Lib.hid (((Box.alloc (w.alloc (.cells #[.int .i64 0, .int .i64 0, .int .i64 0, .int .i64 0, .slice none 0 0] 27)) [.int .i64 0, .int .i64 0, .int .i64 0, .int .i64 0, .slice none 0 0] 27).grow (Grow.alloc _ (.cells #[.int .i64 0, .int .i64 0, .int .i64 (-1), .int .i64 0, .slice none 0 0] 27))).at_ (b' := w.heap.size + 1) (by simp only [World.alloc, Array.size_push]))
  have B1 := Lib.hid ((Box.alloc ((w.alloc (.cells #[.int .i64 0, .int .i64 0, .int .i64 0, .int .i64 0, .slice none 0 0] 27)).alloc (.cells #[.int .i64 0, .int .i64 0, .int .i64 0, .int .i64 0, .slice none 0 0] 27)) [.int .i64 0, .int .i64 0, .int .i64 (-1), .int .i64 0, .slice none 0 0] 27).at_ (b' := w.heap.size + 1 + 1) (by simp only [World.alloc, Array.size_push]))
  generalize ((w.alloc (.cells #[.int .i64 0, .int .i64 0, .int .i64 0, .int .i64 0, .slice none 0 0] 27)).alloc (.cells #[.int .i64 0, .int .i64 0, .int .i64 0, .int .i64 0, .slice none 0 0] 27)).alloc (.cells #[.int .i64 0, .int .i64 0, .int .i64 (-1), .int .i64 0, .slice none 0 0] 27) = W1 at *
  generalize hrq : w.heap.size + 1 = r at *
  generalize hbq : r + 1 = b at *
  have HL : Hid (w.heap.size < b) := Lib.hid (by omega)
  have HL2 : Hid (w.heap.size < r ∧ r < b) := Lib.hid (by omega)
  clear hrq hbq
  refine (getS_fld (HV.out.grow GW.out) HB.out 0 6 (by omega) (by omega) (by omega)).mono ?_
  rintro e wx ⟨rfl, rfl⟩
  have ⟨q0, q1, q2, q3, q4⟩ := B1.out.five; have z0 := B1.out.2.2; have l0 := B1.out.1
  have ⟨y0, y1, y2, y3, y4⟩ := B0.out.five; have zz := B0.out.2.2; have l1 := B0.out.1; have hl := HL.out
  have ⟨x0, x1, x2, x3, x4⟩ := BN.out.five; have xx := BN.out.2.2; have l2 := BN.out.1; have hl2 := HL2.out
  have hne1 : ¬ b = w.heap.size := by omega
  have hne2 : ¬ w.heap.size = b := by omega
  have hne3 : ¬ b = r := by omega
  have hne4 : ¬ r = b := by omega
  have hne5 : ¬ r = w.heap.size := by omega
  have hne6 : ¬ w.heap.size = r := by omega
  go_wp2_with fail
  refine (getS_fld (HV.out.grow (Grow.setCell_ (p := ⟨b, 0, none⟩) GW.out (Nat.le_of_lt HL.out) (.int .i64 (fld d 0 6)))) HB.out 6 6 (by omega) (by omega) (by omega)).mono ?_
  rintro e wx ⟨rfl, rfl⟩
  go_wp2_with fail
  refine (getS_fld (HV.out.grow (Grow.setCell_ (p := ⟨b, 1, none⟩) (Grow.setCell_ (p := ⟨b, 0, none⟩) GW.out (Nat.le_of_lt HL.out) (.int .i64 (fld d 0 6))) (Nat.le_of_lt HL.out) (.int .i64 (fld d 6 6)))) HB.out 12 2 (by omega) (by omega) (by omega)).mono ?_
  rintro e wx ⟨rfl, rfl⟩
  have GX := Lib.hid (Grow.setCell_ (p := ⟨b, 3, none⟩) (Grow.setCell_ (p := ⟨b, 1, none⟩) (Grow.setCell_ (p := ⟨b, 0, none⟩) GW.out (Nat.le_of_lt HL.out) (.int .i64 (fld d 0 6))) (Nat.le_of_lt HL.out) (.int .i64 (fld d 6 6))) (Nat.le_of_lt HL.out) (.int .i64 (fld d 12 2)))
  have hsz : (World.setCell (World.setCell (World.setCell W1 ⟨b, 0, none⟩ (.int .i64 (fld d 0 6))) ⟨b, 1, none⟩ (.int .i64 (fld d 6 6))) ⟨b, 3, none⟩ (.int .i64 (fld d 12 2))).heap.size = W1.heap.size := by simp only [size_set]
  have RD := Lib.hid ((HV.out.cut 14 (e4 - 14) (by have := HE.out; omega) (by have := HE.out; omega)).grow (GX.out.trans (Grow.alloc _ (.cells #[] 5))))
  have OL := World.ownsRow_lit (base := W1.heap.size) (e := 5) (size := 1) (World.setCell (World.setCell (World.setCell W1 ⟨b, 0, none⟩ (.int .i64 (fld d 0 6))) ⟨b, 1, none⟩ (.int .i64 (fld d 6 6))) ⟨b, 3, none⟩ (.int .i64 (fld d 12 2))) #[] 0 (by rw [hsz]; exact Nat.le_refl _) (by decide) rfl
  rw [hsz] at OL
  have OL := Lib.hid OL
  have HSZ := Lib.hid hsz
  have BX := Lib.hid (((B1.out.set 0 (.int .i64 (fld d 0 6)) (by simp)).set 1 (.int .i64 (fld d 6 6)) (by simp)).set 3 (.int .i64 (fld d 12 2)) (by simp))
  have UX := Lib.hid (Upd.setCell (p := ⟨b, 3, none⟩) (Upd.setCell (p := ⟨b, 1, none⟩) (Upd.setCell (p := ⟨b, 0, none⟩) (Upd.refl [b] W1) (by simp) (.int .i64 (fld d 0 6))) (by simp) (.int .i64 (fld d 6 6))) (by simp) (.int .i64 (fld d 12 2)))
  clear hsz
  go_wp2_with (first | (at_builtin; refine wpl_append Try.elemU8 rfl _ _ rfl W1.heap.size rfl OL.out ((d.drop 14).take (e4 - 14)).length rfl RD.out (by simp) (oneCell_ints _ _) (by omega) (by unfold maxLen; omega) (by simp) ?_; intro v2 w2 hown hgr hmv; obtain ⟨fp2, ho, hf, hg2⟩ := copied (w := (World.setCell (World.setCell (World.setCell W1 ⟨b, 0, none⟩ (.int .i64 (fld d 0 6))) ⟨b, 1, none⟩ (.int .i64 (fld d 6 6))) ⟨b, 3, none⟩ (.int .i64 (fld d 12 2)))) (by rw [HSZ.out]; exact hown) (by rw [HSZ.out]; exact hgr); clear hown hgr hmv; obtain ⟨a2, c2, rfl⟩ := own_shape ho.1; rw [hbl] at ho ⊢; have HO := Lib.hid ho; have HF := Lib.hid hf; have HG2 := Lib.hid hg2; have BY := Lib.hid (BX.out.grow hg2); have BZ0 := Lib.hid ((B0.out.upd UX.out (by simp; omega)).grow hg2); have BZ1 := Lib.hid ((BN.out.upd UX.out (by simp; omega)).grow hg2); clear ho hf hg2; have ⟨p0, p1, p2, p3, p4⟩ := BY.out.five; have pz := BY.out.2.2; have pl := BY.out.1) | fail)
  clear p0 p1 p2 p3 p4 pz pl
  have U5 := Lib.hid (Upd.setCell (p := ⟨b, 4, none⟩) (Upd.refl [b] w2) (by simp) (.slice a2 (e4 - 14) c2))
  have BP := Lib.hid (BY.out.set 4 (.slice a2 (e4 - 14) c2) (by simp))
  have BZ0 := Lib.hid (BZ0.out.upd U5.out (by simp; omega))
  have BZ1 := Lib.hid (BZ1.out.upd U5.out (by simp; omega))
  have OP := Lib.hid (HO.out.upd U5.out (fun x hx hm => by have h1 := HF.out x hx; have h2 := HSZ.out; simp only [List.mem_cons, List.not_mem_nil, or_false] at hm; omega))
  have GP := Lib.hid (Grow.setCell_ (p := ⟨b, 4, none⟩) (GX.out.trans HG2.out) (Nat.le_of_lt HL.out) (.slice a2 (e4 - 14) c2))
  clear U5
  generalize World.setCell w2 ⟨b, 4, none⟩ (.slice a2 (e4 - 14) c2) = W5 at *
  refine (packetOkS _ _ (prD d 14) ⟨_, rfl, by rw [HBD.out]; exact OP.out.rd⟩).mono ?_
  rintro e w6 ⟨rfl, hg⟩
  rw [HK.out]
  have G6 := Lib.hid (GP.out.trans hg)
  have HR : Hid (∀ W7, Upd [w.heap.size, r, b] w6 W7 → RetNew2 OwnP (prD d 14) (.int .i64 0) w (.returned (.tuple #[.agg #[.int .i64 (fld d 0 6), .int .i64 (fld d 6 6), .int .i64 (-1), .int .i64 (fld d 12 2), .slice a2 (e4 - 14) c2], .int .i64 0])) W7) := Lib.hid (fun W7 hu => by
    refine ⟨_, fp2, rfl, ⟨_, rfl, ?_⟩, HF.out.older GX.out, ?_⟩
    · rw [HBD.out]
      exact (OP.out.grow hg).upd hu (fun x hx hm => by
        have h1 := HF.out x hx; have h2 := HSZ.out
        simp only [List.mem_cons, List.not_mem_nil, or_false] at hm; omega)
    · exact G6.out.then_upd hu (by intro x hx; simp only [List.mem_cons, List.not_mem_nil, or_false] at hx; omega))
  clear q0 q1 q2 q3 q4 y0 y1 y2 y3 y4 x0 x1 x2 x3 x4 z0 zz xx
  have ⟨q0, q1, q2, q3, q4⟩ := (BP.out.grow hg).five; have z0 := (BP.out.grow hg).2.2; have l00 := (BP.out.grow hg).1
  have ⟨y0, y1, y2, y3, y4⟩ := (BZ0.out.grow hg).five; have zz := (BZ0.out.grow hg).2.2; have l11 := (BZ0.out.grow hg).1
  have ⟨x0, x1, x2, x3, x4⟩ := (BZ1.out.grow hg).five; have xx := (BZ1.out.grow hg).2.2; have l22 := (BZ1.out.grow hg).1
  clear hg
  cases hty : typeB (fld d 12 2)
  · obtain rfl : PP = (zeroP, 5) := HP.out.symm.trans (prR_5 (by rw [hp]; have := S4.out; omega) hty)
    go_wp2
    refine bodyPost_ret (v := .tuple #[.agg #[.int .i64 0, .int .i64 0, .int .i64 0, .int .i64 0, .slice none 0 0], .int .i64 5]) ?_ rfl (HZ.out _ (Grow.box_end (fq := [w.heap.size, r, b]) G6.out ?_ (by simp; omega)) _)
    · simp [results, Try.results31, go_sem, y0, y1, y2, y3, y4, zz, x0, x1, x2, x3, x4, xx, hne1, hne2, hne3, hne4, hne5, hne6] <;> omega
    · ((repeat (first | (with_reducible refine Upd.setCell ?_ (by simp) _) | with_reducible exact Upd.refl _ _)))
  obtain rfl : PP = (prD d 14, 0) := HP.out.symm.trans (prR_0 (by rw [hp]; have := S4.out; omega) hty)
  go_wp2
  refine bodyPost_ret (v := .tuple #[.agg #[.int .i64 (fld d 0 6), .int .i64 (fld d 6 6), .int .i64 (-1), .int .i64 (fld d 12 2), .slice a2 (e4 - 14) c2], .int .i64 0]) ?_ rfl (HR.out _ ?_)
  · simp [results, Try.results31, go_sem, q0, q1, q2, q3, q4, z0, y0, y1, y2, y3, y4, zz, x0, x1, x2, x3, x4, xx, hne1, hne2, hne3, hne4, hne5, hne6] <;> omega
  · ((repeat (first | (with_reducible refine Upd.setCell ?_ (by simp) _) | with_reducible exact Upd.refl _ _)))

--%
end Go.Proofs.Ytcldfodnblkeiaa
