/- PacketRead: contracts of the code (printed by gpr.py). -/
import Derived.Test.YtcldfodnblkeiaaUr
import Derived.Test.YtcldfodnblkeiaaCrc
import Derived.Test.YtcldfodnblkeiaaPok
import Derived.Test.YtcldfodnblkeiaaTag
import Derived.Test.YtcldfodnblkeiaaFk
import Derived.WalkKit
import Derived.ProofKit
import Derived.Deep.QuietTactic
import Derived.BigQuiet
import Derived.Outline
import Derived.WalkSpells
namespace Go.Proofs.Ytcldfodnblkeiaa
open Go.ChangeShapes Go.WideShapes Go.ChangeAt Go.RowKit
set_option linter.unusedVariables false
set_option linter.unusedSimpArgs false
--%
def hdL (b : List Int) : Nat := if 14 ≤ b.length ∧ fld b 12 2 = 33024 then 18 else 14
def prT (b : List Int) (T : Nat) : Int := if T = 18 then fld b 14 2 else -1
def prD (b : List Int) (T : Nat) : PacketD := ⟨fld b 0 6, fld b 6 6, prT b T, fld b (T - 2) 2, (b.drop T).take (b.length - 4 - T)⟩
def prR (b : List Int) (T : Nat) : PacketD × Int := if 4094 < prT b T then (zeroP, 4) else if typeB (fld b (T - 2) 2) = true then (prD b T, 0) else (zeroP, 5)
def prG (b : List Int) (T : Nat) : PacketD × Int :=
  if b.length < T + 4 then (zeroP, 1) else if T + 1504 < b.length then (zeroP, 2) else if ¬ crcOf (b.take (b.length - 4)) = fld b (b.length - 4) 4 then (zeroP, 3)
  else if 4094 < prT b T then (zeroP, 4) else if typeB (fld b (T - 2) 2) = true then (prD b T, 0) else (zeroP, 5)
def prF (b : List Int) : PacketD × Int := prG b (hdL b)
theorem hdL_18 {b : List Int} (h : 14 ≤ b.length) (h1 : fld b 12 2 = 33024) : hdL b = 18 := by simp [hdL, h, h1]
theorem hdL_14 {b : List Int} (h : b.length < 14 ∨ fld b 12 2 ≠ 33024) : hdL b = 14 := by unfold hdL; rw [if_neg]; omega
theorem prG_1 {b : List Int} {T : Nat} (h : b.length < T + 4) : prG b T = (zeroP, 1) := by simp [prG, h]
theorem prG_2 {b : List Int} {T : Nat} (h : ¬ b.length < T + 4) (h2 : T + 1504 < b.length) : prG b T = (zeroP, 2) := by simp [prG, h, h2]
theorem prG_3 {b : List Int} {T : Nat} (h : ¬ b.length < T + 4) (h2 : ¬ T + 1504 < b.length) (h3 : ¬ crcOf (b.take (b.length - 4)) = fld b (b.length - 4) 4) : prG b T = (zeroP, 3) := by simp [prG, h, h2, h3]
theorem prG_r {b : List Int} {T : Nat} (h : ¬ b.length < T + 4) (h2 : ¬ T + 1504 < b.length) (h3 : crcOf (b.take (b.length - 4)) = fld b (b.length - 4) 4) :
    prG b T = prR b T := by simp [prG, prR, h, h2, h3]
--% 76
theorem getI_fld {w : World} {v : Value} {zs : List Int} (h : RdB w v zs) (hb : Bytes zs) (lo m : Nat) (h1 : 1 ≤ m) (h6 : m ≤ 6) (hl : lo + m ≤ zs.length) :
    Calls Try.prog 76 #[v, .int .i64 lo, .int .i64 m] w (Ret2Int (fld zs lo m) true w) := getNumI_yes v zs lo m w h hb h1 h6 hl
--% 86
theorem get_end {w : World} {b o n cap : Nat} {zs : List Int} (h : RdB w (.slice (some ⟨b, o, none⟩) n cap) zs) (hb : Bytes zs) (lo m : Nat) (hhn : lo + m ≤ n) (hc : lo < cap) (hm : m ≤ 6) :
    Calls Try.prog 86 #[.slice (some ⟨b, o + lo, none⟩) m (cap - lo)] w (RetV (.int .i64 (fld zs lo m)) w) := get_cut h hb lo m hhn hc hm
theorem prR_4 {b : List Int} {T : Nat} (h : 4094 < prT b T) : prR b T = (zeroP, 4) := by simp [prR, h]
theorem prR_5 {b : List Int} {T : Nat} (h : ¬ 4094 < prT b T) (h2 : typeB (fld b (T - 2) 2) = false) : prR b T = (zeroP, 5) := by simp [prR, h, h2]
theorem prR_0 {b : List Int} {T : Nat} (h : ¬ 4094 < prT b T) (h2 : typeB (fld b (T - 2) 2) = true) : prR b T = (prD b T, 0) := by simp [prR, h, h2]
--% 86
theorem get_same {w : World} {b o n cap : Nat} {zs : List Int} (h : RdB w (.slice (some ⟨b, o, none⟩) n cap) zs) (hb : Bytes zs) (lo m : Nat) (hhn : lo + m ≤ n) (hc : lo < cap) (hm : m ≤ 6) :
    Calls Try.prog 86 #[.slice (some ⟨b, o + lo, none⟩) m (cap - lo)] w (fun e w' => e = .returned (.int .i64 (fld zs lo m)) ∧ w = w') :=
  (get_any _ ((zs.drop lo).take m) w (h.cut lo m hhn hc) ((hb.drop _).take _) (by simp; omega)).mono fun _ _ ⟨he, hw⟩ => ⟨he, hw⟩
theorem get_same0 {w : World} {b o n cap : Nat} {zs : List Int} (h : RdB w (.slice (some ⟨b, o, none⟩) n cap) zs) (hb : Bytes zs) (m : Nat) (hhn : m ≤ n) (hc : 0 < cap) (hm : m ≤ 6) :
    Calls Try.prog 86 #[.slice (some ⟨b, o, none⟩) m cap] w (fun e w' => e = .returned (.int .i64 (fld zs 0 m)) ∧ w = w') := get_same h hb 0 m (by omega) hc hm
--%
theorem RdB.take_ {w : World} {b o n cap : Nat} {zs : List Int} (h : RdB w (.slice (some ⟨b, o, none⟩) n cap) zs) (m : Nat) (hhn : m ≤ n) (hc : 0 < cap := by omega) : RdB w (.slice (some ⟨b, o, none⟩) m cap) (zs.take m) := by
  have := h.cut 0 m (by omega) hc
  simpa using this
--% PacketReadI 33
set_option maxHeartbeats 1000000 in
theorem packetReadI_any (w : World) (v : Value) (d : DatB) (h : RdB w v d) (b : WfB d) (sm : SmB d) : Calls Try.prog 33 #[v] w (RetNew2 OwnP (prF d).1 (.int .i64 (prF d).2) w) := by
  obtain ⟨a, c, rfl, hlc, hm, -, -⟩ := Rd.ints h
  unfold maxLen at hm
  have HZ : ∀ (w1 : World), Grow w w1 → ∀ k, RetNew2 OwnP zeroP (.int .i64 k) w (.returned (.tuple #[.agg #[.int .i64 0, .int .i64 0, .int .i64 0, .int .i64 0, .slice none 0 0], .int .i64 k])) w1 := fun w1 hg k => ⟨_, [], rfl, ⟨_, rfl, ownB_nil _⟩, by simp [Fresh], hg⟩
  have HZ := Lib.hid HZ
  unfold prF
  by_cases h14 : d.length < 14
  · rw [hdL_14 (.inl h14), prG_1 (by omega)]
    have HV := Lib.hid h
    clear h b sm
    go_enter Try.func33, Try.ntmps33
    go_wp2_with fail
    refine at_world (w := w) ?G (fun hG => (getNumI_no _ d 12 2 _ (HV.out.grow hG) (by omega) (by omega)).mono ?_)
    case G => ((repeat (first | with_reducible exact Grow.refl _ | (with_reducible refine Grow.alloc_ ?_ _) | (with_reducible refine Grow.setCell_ ?_ (by first | exact Nat.le_refl _ | (simp only [World.alloc, Array.size_push]; omega) | omega) _))))
    rintro e w1 ⟨rfl, rfl⟩
    go_wp2
    refine bodyPost_ret (v := .tuple #[.agg #[.int .i64 0, .int .i64 0, .int .i64 0, .int .i64 0, .slice none 0 0], .int .i64 1]) ?_ rfl (HZ.out _ ?_ _)
    · simp [results, Try.results33, go_sem]
    · ((repeat (first | with_reducible exact Grow.refl _ | (with_reducible refine Grow.alloc_ ?_ _) | (with_reducible refine Grow.setCell_ ?_ (by first | exact Nat.le_refl _ | (simp only [World.alloc, Array.size_push]; omega) | omega) _))))

  obtain ⟨b0, o0, rfl⟩ := RdB.at_ h (by omega)
  have HV := Lib.hid h; have HB : Hid (Bytes d) := Lib.hid b; have HS := Lib.hid sm
  clear h b sm
  by_cases tg : fld d 12 2 = 33024
  · rw [hdL_18 (by omega) tg]
    by_cases s1 : d.length < 18 + 4
    · rw [prG_1 s1]
      go_enter Try.func33, Try.ntmps33
      go_wp2_with fail
      refine at_world (w := w) ?G (fun hG => (getI_fld (HV.out.grow hG) HB.out 12 2 (by omega) (by omega) (by omega)).mono ?_)
      case G => ((repeat (first | with_reducible exact Grow.refl _ | (with_reducible refine Grow.alloc_ ?_ _) | (with_reducible refine Grow.setCell_ ?_ (by first | exact Nat.le_refl _ | (simp only [World.alloc, Array.size_push]; omega) | omega) _))))
      rintro e w1 ⟨rfl, rfl⟩
      rw [tg]
      clear hG
      go_wp2
      refine bodyPost_ret (v := .tuple #[.agg #[.int .i64 0, .int .i64 0, .int .i64 0, .int .i64 0, .slice none 0 0], .int .i64 1]) ?_ rfl (HZ.out _ ?_ _)
      · simp [results, Try.results33, go_sem]
      · ((repeat (first | with_reducible exact Grow.refl _ | (with_reducible refine Grow.alloc_ ?_ _) | (with_reducible refine Grow.setCell_ ?_ (by first | exact Nat.le_refl _ | (simp only [World.alloc, Array.size_push]; omega) | omega) _))))

    by_cases s2 : 18 + 1504 < d.length
    · rw [prG_2 s1 s2]
      go_enter Try.func33, Try.ntmps33
      go_wp2_with fail
      refine at_world (w := w) ?G (fun hG => (getI_fld (HV.out.grow hG) HB.out 12 2 (by omega) (by omega) (by omega)).mono ?_)
      case G => ((repeat (first | with_reducible exact Grow.refl _ | (with_reducible refine Grow.alloc_ ?_ _) | (with_reducible refine Grow.setCell_ ?_ (by first | exact Nat.le_refl _ | (simp only [World.alloc, Array.size_push]; omega) | omega) _))))
      rintro e w1 ⟨rfl, rfl⟩
      rw [tg]
      clear hG
      go_wp2
      refine bodyPost_ret (v := .tuple #[.agg #[.int .i64 0, .int .i64 0, .int .i64 0, .int .i64 0, .slice none 0 0], .int .i64 2]) ?_ rfl (HZ.out _ ?_ _)
      · simp [results, Try.results33, go_sem]
      · ((repeat (first | with_reducible exact Grow.refl _ | (with_reducible refine Grow.alloc_ ?_ _) | (with_reducible refine Grow.setCell_ ?_ (by first | exact Nat.le_refl _ | (simp only [World.alloc, Array.size_push]; omega) | omega) _))))

    obtain ⟨e4, he⟩ : ∃ e, d.length = e + 4 := ⟨d.length - 4, by omega⟩
    have hz : (d.length : Int) - 4 = (e4 : Int) := by omega
    have hz2 : ((d.length : Int) - 4).toNat = e4 := by omega
    have HE := Lib.hid he; clear he
    by_cases s3 : crcOf (d.take (d.length - 4)) = fld d (d.length - 4) 4
    rotate_left
    · rw [prG_3 s1 s2 s3]
      have hd4 : d.length - 4 = e4 := by have := HE.out; omega
      rw [hd4] at s3
      have c3 : (crcOf (List.take e4 d) != fld d e4 4) = true := by simpa using s3
      clear s3 hd4
      go_enter Try.func33, Try.ntmps33
      go_wp2_with fail
      refine at_world (w := w) ?G (fun hG => (getI_fld (HV.out.grow hG) HB.out 12 2 (by omega) (by omega) (by omega)).mono ?_)
      case G => ((repeat (first | with_reducible exact Grow.refl _ | (with_reducible refine Grow.alloc_ ?_ _) | (with_reducible refine Grow.setCell_ ?_ (by first | exact Nat.le_refl _ | (simp only [World.alloc, Array.size_push]; omega) | omega) _))))
      rintro e w1 ⟨rfl, rfl⟩
      rw [tg]
      clear hG
      go_wp2_with fail
      have hne : Nonempty (Cl (Grow w)) := ⟨⟨w, Grow.refl _⟩⟩
      have GA := Lib.hid (Grow.alloc w (.cells #[.int .i64 0, .int .i64 0, .int .i64 0, .int .i64 0, .slice none 0 0] 27))
      have D0 := Lib.hid (Grow.drewN (w.alloc (.cells #[.int .i64 0, .int .i64 0, .int .i64 0, .int .i64 0, .slice none 0 0] 27)) 1)
      refine wp_region_mix (Cls (Grow w)) 10 #[false, false, false, false, false, false, false, false, false, false] (by kernel_rfl) (by kernel_rfl) ⟨⟨_, GA.out.trans D0.out⟩, rfl⟩ ?_
      refine anyC_seg [0, 1, 2, 4, 5, 6] #[true, true, true, false, true, true, true, false, false, false] (fuel := 4) rfl (by kernel_rfl) ⟨⟨_, GA.out.trans D0.out⟩, rfl⟩ ?_
      simp only [pickOps, List.getD_cons_succ, List.getD_cons_zero]
      repeat (go_big_quiet_step (fail))
      refine wpQuiet_nil ?_
      refine anyC_sole 3 #[true, true, true, true, true, true, true, false, false, false] (fuel := 3) (by kernel_rfl) ?_
      simp only [List.getD_cons_succ, List.getD_cons_zero]
      go_wp2_with fail
      refine (crcI_any _ _ _ ((HV.out.take_ e4 (by have := HE.out; omega)).grow (GA.out.trans D0.out)) (HB.out.take _) (by have := HS.out; have := HE.out; unfold SmB at *; simp; omega)).mono ?_
      rintro e w1 ⟨rfl, rfl⟩
      have D1 := Lib.hid D0.out
      go_wp2
      refine ⟨⟨⟨_, GA.out.trans D1.out⟩, rfl⟩, ?_⟩
      refine anyC_sole 7 #[true, true, true, true, true, true, true, true, false, false] (fuel := 2) (by kernel_rfl) ?_
      simp only [List.getD_cons_succ, List.getD_cons_zero]
      go_wp2_with fail
      refine (get_cut (HV.out.grow (GA.out.trans D1.out)) HB.out e4 (d.length - e4) (by have := HE.out; omega) (by have := HE.out; omega) (by have := HE.out; omega)).mono ?_
      rintro e w2 ⟨rfl, hg⟩
      rw [show d.length - e4 = 4 by have := HE.out; omega]
      have D2 := Lib.hid (D1.out.trans hg)
      clear hg
      go_wp2
      refine ⟨⟨⟨_, GA.out.trans D2.out⟩, rfl⟩, ?_⟩
      refine anyC_seg [8, 9] #[true, true, true, true, true, true, true, true, true, true] (fuel := 0) rfl (by kernel_rfl) ⟨⟨_, GA.out.trans D2.out⟩, rfl⟩ ?_
      simp only [pickOps, List.getD_cons_succ, List.getD_cons_zero]
      repeat (go_big_quiet_step (fail))
      refine wpQuiet_nil ?_
      refine anyC_done (by kernel_rfl) ?_
      clear hne D0 D1
      have B0 := Lib.hid ((Box.alloc w [.int .i64 0, .int .i64 0, .int .i64 0, .int .i64 0, .slice none 0 0] 27).grow D2.out)
      have ⟨q0, q1, q2, q3, q4⟩ := B0.out.five
      have z0 := B0.out.2.2
      have l0 := B0.out.1
      go_wp2
      refine bodyPost_ret (v := .tuple #[.agg #[.int .i64 0, .int .i64 0, .int .i64 0, .int .i64 0, .slice none 0 0], .int .i64 3]) ?_ rfl (HZ.out _ (Grow.box_end (fq := [w.heap.size]) (GA.out.trans D2.out) ?_ (by simp)) _)
      · simp [results, Try.results33, go_sem, q0, q1, q2, q3, q4, z0] <;> omega
      · ((repeat (first | (with_reducible refine Upd.setCell ?_ (by simp) _) | with_reducible exact Upd.refl _ _)))

    rw [prG_r s1 s2 s3]
    have hn : 18 ≤ e4 := by have := HE.out; omega
    have hbl : ((d.drop 18).take (e4 - 18)).length = e4 - 18 := by have := HE.out; simp; omega
    have hbs : SmB ((d.drop 18).take (e4 - 18)) := by have := HS.out; unfold SmB at *; omega
    obtain ⟨PP, hPP⟩ : ∃ PP, prR d 18 = PP := ⟨_, rfl⟩
    rw [hPP]
    have HP := Lib.hid hPP
    clear hPP
    have hd4 : d.length - 4 = e4 := by have := HE.out; omega
    rw [hd4] at s3
    have c3 : (crcOf (List.take e4 d) != fld d e4 4) = false := by simpa using s3
    clear s3 hd4
    go_enter Try.func33, Try.ntmps33
    go_wp2_with fail
    refine at_world (w := w) ?G (fun hG => (getI_fld (HV.out.grow hG) HB.out 12 2 (by omega) (by omega) (by omega)).mono ?_)
    case G => ((repeat (first | with_reducible exact Grow.refl _ | (with_reducible refine Grow.alloc_ ?_ _) | (with_reducible refine Grow.setCell_ ?_ (by first | exact Nat.le_refl _ | (simp only [World.alloc, Array.size_push]; omega) | omega) _))))
    rintro e w1 ⟨rfl, rfl⟩
    rw [tg]
    clear hG
    go_wp2_with fail
    have hne : Nonempty (Cl (Grow w)) := ⟨⟨w, Grow.refl _⟩⟩
    have GA := Lib.hid (Grow.alloc w (.cells #[.int .i64 0, .int .i64 0, .int .i64 0, .int .i64 0, .slice none 0 0] 27))
    have D0 := Lib.hid (Grow.drewN (w.alloc (.cells #[.int .i64 0, .int .i64 0, .int .i64 0, .int .i64 0, .slice none 0 0] 27)) 1)
    refine wp_region_mix (Cls (Grow w)) 10 #[false, false, false, false, false, false, false, false, false, false] (by kernel_rfl) (by kernel_rfl) ⟨⟨_, GA.out.trans D0.out⟩, rfl⟩ ?_
    refine anyC_seg [0, 1, 2, 4, 5, 6] #[true, true, true, false, true, true, true, false, false, false] (fuel := 4) rfl (by kernel_rfl) ⟨⟨_, GA.out.trans D0.out⟩, rfl⟩ ?_
    simp only [pickOps, List.getD_cons_succ, List.getD_cons_zero]
    repeat (go_big_quiet_step (fail))
    refine wpQuiet_nil ?_
    refine anyC_sole 3 #[true, true, true, true, true, true, true, false, false, false] (fuel := 3) (by kernel_rfl) ?_
    simp only [List.getD_cons_succ, List.getD_cons_zero]
    go_wp2_with fail
    refine (crcI_any _ _ _ ((HV.out.take_ e4 (by have := HE.out; omega)).grow (GA.out.trans D0.out)) (HB.out.take _) (by have := HS.out; have := HE.out; unfold SmB at *; simp; omega)).mono ?_
    rintro e w1 ⟨rfl, rfl⟩
    have D1 := Lib.hid D0.out
    go_wp2
    refine ⟨⟨⟨_, GA.out.trans D1.out⟩, rfl⟩, ?_⟩
    refine anyC_sole 7 #[true, true, true, true, true, true, true, true, false, false] (fuel := 2) (by kernel_rfl) ?_
    simp only [List.getD_cons_succ, List.getD_cons_zero]
    go_wp2_with fail
    refine (get_cut (HV.out.grow (GA.out.trans D1.out)) HB.out e4 (d.length - e4) (by have := HE.out; omega) (by have := HE.out; omega) (by have := HE.out; omega)).mono ?_
    rintro e w2 ⟨rfl, hg⟩
    rw [show d.length - e4 = 4 by have := HE.out; omega]
    have D2 := Lib.hid (D1.out.trans hg)
    clear hg
    go_wp2
    refine ⟨⟨⟨_, GA.out.trans D2.out⟩, rfl⟩, ?_⟩
    refine anyC_seg [8, 9] #[true, true, true, true, true, true, true, true, true, true] (fuel := 0) rfl (by kernel_rfl) ⟨⟨_, GA.out.trans D2.out⟩, rfl⟩ ?_
    simp only [pickOps, List.getD_cons_succ, List.getD_cons_zero]
    repeat (go_big_quiet_step (fail))
    refine wpQuiet_nil ?_
    refine anyC_done (by kernel_rfl) ?_
    clear hne D0 D1
    have B0 := Lib.hid ((Box.alloc w [.int .i64 0, .int .i64 0, .int .i64 0, .int .i64 0, .slice none 0 0] 27).grow D2.out)
    go_wp2_with fail
    have hne : Nonempty (Cl (Grow w)) := ⟨⟨w, Grow.refl _⟩⟩
    have D3 := Lib.hid (GA.out.trans (D2.out.trans (Grow.drewN w2 1)))
    refine wp_region_mix (Cls (Grow w)) 20 #[false, false, false, false, false, false, false, false, false, false, false, false, false, false, false, false, false, false, false, false] (by kernel_rfl) (by kernel_rfl) ⟨⟨_, D3.out⟩, rfl⟩ ?_
    refine anyC_seg [0, 1, 3, 4, 6, 7, 8, 9, 10, 12, 13, 14, 15] #[true, true, false, true, true, false, true, true, true, true, true, false, true, true, true, true, false, false, false, false] (fuel := 7) rfl (by kernel_rfl) ⟨⟨_, D3.out⟩, rfl⟩ ?_
    simp only [pickOps, List.getD_cons_succ, List.getD_cons_zero]
    repeat (go_big_quiet_step (fail))
    refine wpQuiet_nil ?_
    have S2 : Hid (w.heap.size < w2.heap.size) := Lib.hid (by have := B0.out.1; exact this)
    apply viaB (fun a5 c5 b W => Grow w W ∧ w.heap.size < b ∧ Box W w.heap.size [.int .i64 0, .int .i64 0, .int .i64 0, .int .i64 0, .slice none 0 0] ∧ Box W b [.int .i64 0, .int .i64 0, .int .i64 0, .int .i64 0, .slice none 0 0] ∧ ∃ fp, OwnB W (.slice a5 (e4 - 18) c5) ((d.drop 18).take (e4 - 18)) fp ∧ Fresh w2 fp ∧ b ∉ fp)
    · intro J
      refine anyC_two_ 2 18 #[true, true, true, true, true, false, true, true, true, true, true, false, true, true, true, true, false, false, false, false] #[true, true, false, true, true, false, true, true, true, true, true, false, true, true, true, true, false, false, true, false] (fuel := 6) (by kernel_rfl) ?_ ?_
      · simp only [List.getD_cons_succ, List.getD_cons_zero]
        go_wp2
        refine ⟨⟨⟨_, D3.out.alloc_ _⟩, rfl⟩, ?_⟩
        refine anyC_sole 2 #[true, true, true, true, true, false, true, true, true, true, true, false, true, true, true, true, false, false, true, false] (fuel := 5) (by kernel_rfl) ?_
        simp only [List.getD_cons_succ, List.getD_cons_zero]
        go_wp2_with fail
        refine (get_same0 (HV.out.grow (D3.out.alloc_ _)) HB.out 6 (by omega) (by omega) (by omega)).mono ?_
        rintro e wx ⟨rfl, rfl⟩
        go_wp2
        refine ⟨⟨⟨_, (D3.out.alloc_ _)⟩, rfl⟩, ?_⟩
        refine anyC_sole 5 #[true, true, true, true, true, true, true, true, true, true, true, false, true, true, true, true, false, false, true, false] (fuel := 4) (by kernel_rfl) ?_
        simp only [List.getD_cons_succ, List.getD_cons_zero]
        go_wp2_with fail
        refine (get_same (HV.out.grow (D3.out.alloc_ _)) HB.out 6 6 (by omega) (by omega) (by omega)).mono ?_
        rintro e wx ⟨rfl, rfl⟩
        go_wp2
        refine ⟨⟨⟨_, (D3.out.alloc_ _)⟩, rfl⟩, ?_⟩
        refine anyC_sole 11 #[true, true, true, true, true, true, true, true, true, true, true, true, true, true, true, true, false, false, true, false] (fuel := 3) (by kernel_rfl) ?_
        simp only [List.getD_cons_succ, List.getD_cons_zero]
        go_wp2_with fail
        refine (get_same (HV.out.grow (D3.out.alloc_ _)) HB.out 16 2 (by omega) (by omega) (by omega)).mono ?_
        rintro e wx ⟨rfl, rfl⟩
        go_wp2
        refine ⟨⟨⟨_, (D3.out.alloc_ _)⟩, rfl⟩, ?_⟩
        refine anyC_sole 16 #[true, true, true, true, true, true, true, true, true, true, true, true, true, true, true, true, true, false, true, false] (fuel := 2) (by kernel_rfl) ?_
        simp only [List.getD_cons_succ, List.getD_cons_zero]
        go_wp2_with fail
        refine (clone_B _ _ ((d.drop 18).take (e4 - 18)) ((HV.out.cut 18 (e4 - 18) (by have := HE.out; omega) (by have := HE.out; omega)).grow (D3.out.alloc_ _)) hbs).mono ?_
        rintro e wc ⟨vc, fpc, rfl, ho, hf, hg⟩
        obtain ⟨a5, c5, rfl⟩ := own_shape ho.1
        rw [hbl] at ho ⊢
        have OO := Lib.hid ho; have FF := Lib.hid (hf.older ((Grow.drewN w2 1).trans (Grow.alloc _ _))); have DC := Lib.hid ((D3.out.alloc_ _).trans hg); have BZ := Lib.hid (B0.out.grow (((Grow.drewN w2 1).trans (Grow.alloc _ _)).trans hg))
        have NF : Hid (_ ∉ fpc) := Lib.hid (fun hm => absurd (hf _ hm) (by simp only [World.alloc, Array.size_push]; exact Nat.not_succ_le_self _))
        have BB := Lib.hid ((Box.alloc _ [.int .i64 0, .int .i64 0, .int .i64 0, .int .i64 0, .slice none 0 0] 27).grow hg)
        clear ho hf hg
        go_wp2
        refine ⟨⟨⟨_, DC.out⟩, rfl⟩, ?_⟩
        refine anyC_seg [17] #[true, true, true, true, true, true, true, true, true, true, true, true, true, true, true, true, true, true, true, false] (fuel := 1) rfl (by kernel_rfl) ⟨⟨_, DC.out⟩, rfl⟩ ?_
        simp only [pickOps, List.getD_cons_succ, List.getD_cons_zero]
        repeat (go_big_quiet_step (fail))
        refine wpQuiet_nil ?_
        have BL : Hid (Box _ w2.heap.size _) := BB
        have NL : Hid (w2.heap.size ∉ fpc) := NF
        have SL := Lib.hid S2.out
        generalize hbz : w2.heap.size = bz
        rw [hbz] at BL NL SL
        exact J a5 c5 bz wc ⟨DC.out, SL.out, BZ.out, BL.out, fpc, OO.out, FF.out, NL.out⟩
      · simp only [List.getD_cons_succ, List.getD_cons_zero]
        go_wp2_with fail
        refine (get_same0 (HV.out.grow D3.out) HB.out 6 (by omega) (by omega) (by omega)).mono ?_
        rintro e wx ⟨rfl, rfl⟩
        go_wp2
        refine ⟨⟨⟨_, D3.out⟩, rfl⟩, ?_⟩
        refine anyC_two_ 5 18 #[true, true, true, true, true, true, true, true, true, true, true, false, true, true, true, true, false, false, false, false] #[true, true, true, true, true, false, true, true, true, true, true, false, true, true, true, true, false, false, true, false] (fuel := 5) (by kernel_rfl) ?_ ?_
        · simp only [List.getD_cons_succ, List.getD_cons_zero]
          go_wp2
          refine ⟨⟨⟨_, D3.out.alloc_ _⟩, rfl⟩, ?_⟩
          refine anyC_sole 5 #[true, true, true, true, true, true, true, true, true, true, true, false, true, true, true, true, false, false, true, false] (fuel := 4) (by kernel_rfl) ?_
          simp only [List.getD_cons_succ, List.getD_cons_zero]
          go_wp2_with fail
          refine (get_same (HV.out.grow (D3.out.alloc_ _)) HB.out 6 6 (by omega) (by omega) (by omega)).mono ?_
          rintro e wx ⟨rfl, rfl⟩
          go_wp2
          refine ⟨⟨⟨_, (D3.out.alloc_ _)⟩, rfl⟩, ?_⟩
          refine anyC_sole 11 #[true, true, true, true, true, true, true, true, true, true, true, true, true, true, true, true, false, false, true, false] (fuel := 3) (by kernel_rfl) ?_
          simp only [List.getD_cons_succ, List.getD_cons_zero]
          go_wp2_with fail
          refine (get_same (HV.out.grow (D3.out.alloc_ _)) HB.out 16 2 (by omega) (by omega) (by omega)).mono ?_
          rintro e wx ⟨rfl, rfl⟩
          go_wp2
          refine ⟨⟨⟨_, (D3.out.alloc_ _)⟩, rfl⟩, ?_⟩
          refine anyC_sole 16 #[true, true, true, true, true, true, true, true, true, true, true, true, true, true, true, true, true, false, true, false] (fuel := 2) (by kernel_rfl) ?_
          simp only [List.getD_cons_succ, List.getD_cons_zero]
          go_wp2_with fail
          refine (clone_B _ _ ((d.drop 18).take (e4 - 18)) ((HV.out.cut 18 (e4 - 18) (by have := HE.out; omega) (by have := HE.out; omega)).grow (D3.out.alloc_ _)) hbs).mono ?_
          rintro e wc ⟨vc, fpc, rfl, ho, hf, hg⟩
          obtain ⟨a5, c5, rfl⟩ := own_shape ho.1
          rw [hbl] at ho ⊢
          have OO := Lib.hid ho; have FF := Lib.hid (hf.older ((Grow.drewN w2 1).trans (Grow.alloc _ _))); have DC := Lib.hid ((D3.out.alloc_ _).trans hg); have BZ := Lib.hid (B0.out.grow (((Grow.drewN w2 1).trans (Grow.alloc _ _)).trans hg))
          have NF : Hid (_ ∉ fpc) := Lib.hid (fun hm => absurd (hf _ hm) (by simp only [World.alloc, Array.size_push]; exact Nat.not_succ_le_self _))
          have BB := Lib.hid ((Box.alloc _ [.int .i64 0, .int .i64 0, .int .i64 0, .int .i64 0, .slice none 0 0] 27).grow hg)
          clear ho hf hg
          go_wp2
          refine ⟨⟨⟨_, DC.out⟩, rfl⟩, ?_⟩
          refine anyC_seg [17] #[true, true, true, true, true, true, true, true, true, true, true, true, true, true, true, true, true, true, true, false] (fuel := 1) rfl (by kernel_rfl) ⟨⟨_, DC.out⟩, rfl⟩ ?_
          simp only [pickOps, List.getD_cons_succ, List.getD_cons_zero]
          repeat (go_big_quiet_step (fail))
          refine wpQuiet_nil ?_
          exact J _ _ _ _ ⟨DC.out, S2.out, BZ.out, BB.out, fpc, OO.out, FF.out, NF.out⟩
        · simp only [List.getD_cons_succ, List.getD_cons_zero]
          go_wp2_with fail
          refine (get_same (HV.out.grow D3.out) HB.out 6 6 (by omega) (by omega) (by omega)).mono ?_
          rintro e wx ⟨rfl, rfl⟩
          go_wp2
          refine ⟨⟨⟨_, D3.out⟩, rfl⟩, ?_⟩
          refine anyC_two_ 11 18 #[true, true, true, true, true, true, true, true, true, true, true, true, true, true, true, true, false, false, false, false] #[true, true, true, true, true, true, true, true, true, true, true, false, true, true, true, true, false, false, true, false] (fuel := 4) (by kernel_rfl) ?_ ?_
          · simp only [List.getD_cons_succ, List.getD_cons_zero]
            go_wp2
            refine ⟨⟨⟨_, D3.out.alloc_ _⟩, rfl⟩, ?_⟩
            refine anyC_sole 11 #[true, true, true, true, true, true, true, true, true, true, true, true, true, true, true, true, false, false, true, false] (fuel := 3) (by kernel_rfl) ?_
            simp only [List.getD_cons_succ, List.getD_cons_zero]
            go_wp2_with fail
            refine (get_same (HV.out.grow (D3.out.alloc_ _)) HB.out 16 2 (by omega) (by omega) (by omega)).mono ?_
            rintro e wx ⟨rfl, rfl⟩
            go_wp2
            refine ⟨⟨⟨_, (D3.out.alloc_ _)⟩, rfl⟩, ?_⟩
            refine anyC_sole 16 #[true, true, true, true, true, true, true, true, true, true, true, true, true, true, true, true, true, false, true, false] (fuel := 2) (by kernel_rfl) ?_
            simp only [List.getD_cons_succ, List.getD_cons_zero]
            go_wp2_with fail
            refine (clone_B _ _ ((d.drop 18).take (e4 - 18)) ((HV.out.cut 18 (e4 - 18) (by have := HE.out; omega) (by have := HE.out; omega)).grow (D3.out.alloc_ _)) hbs).mono ?_
            rintro e wc ⟨vc, fpc, rfl, ho, hf, hg⟩
            obtain ⟨a5, c5, rfl⟩ := own_shape ho.1
            rw [hbl] at ho ⊢
            have OO := Lib.hid ho; have FF := Lib.hid (hf.older ((Grow.drewN w2 1).trans (Grow.alloc _ _))); have DC := Lib.hid ((D3.out.alloc_ _).trans hg); have BZ := Lib.hid (B0.out.grow (((Grow.drewN w2 1).trans (Grow.alloc _ _)).trans hg))
            have NF : Hid (_ ∉ fpc) := Lib.hid (fun hm => absurd (hf _ hm) (by simp only [World.alloc, Array.size_push]; exact Nat.not_succ_le_self _))
            have BB := Lib.hid ((Box.alloc _ [.int .i64 0, .int .i64 0, .int .i64 0, .int .i64 0, .slice none 0 0] 27).grow hg)
            clear ho hf hg
            go_wp2
            refine ⟨⟨⟨_, DC.out⟩, rfl⟩, ?_⟩
            refine anyC_seg [17] #[true, true, true, true, true, true, true, true, true, true, true, true, true, true, true, true, true, true, true, false] (fuel := 1) rfl (by kernel_rfl) ⟨⟨_, DC.out⟩, rfl⟩ ?_
            simp only [pickOps, List.getD_cons_succ, List.getD_cons_zero]
            repeat (go_big_quiet_step (fail))
            refine wpQuiet_nil ?_
            exact J _ _ _ _ ⟨DC.out, S2.out, BZ.out, BB.out, fpc, OO.out, FF.out, NF.out⟩
          · simp only [List.getD_cons_succ, List.getD_cons_zero]
            go_wp2_with fail
            refine (get_same (HV.out.grow D3.out) HB.out 16 2 (by omega) (by omega) (by omega)).mono ?_
            rintro e wx ⟨rfl, rfl⟩
            go_wp2
            refine ⟨⟨⟨_, D3.out⟩, rfl⟩, ?_⟩
            refine anyC_two_ 16 18 #[true, true, true, true, true, true, true, true, true, true, true, true, true, true, true, true, true, false, false, false] #[true, true, true, true, true, true, true, true, true, true, true, true, true, true, true, true, false, false, true, false] (fuel := 3) (by kernel_rfl) ?_ ?_
            · simp only [List.getD_cons_succ, List.getD_cons_zero]
              go_wp2
              refine ⟨⟨⟨_, D3.out.alloc_ _⟩, rfl⟩, ?_⟩
              refine anyC_sole 16 #[true, true, true, true, true, true, true, true, true, true, true, true, true, true, true, true, true, false, true, false] (fuel := 2) (by kernel_rfl) ?_
              simp only [List.getD_cons_succ, List.getD_cons_zero]
              go_wp2_with fail
              refine (clone_B _ _ ((d.drop 18).take (e4 - 18)) ((HV.out.cut 18 (e4 - 18) (by have := HE.out; omega) (by have := HE.out; omega)).grow (D3.out.alloc_ _)) hbs).mono ?_
              rintro e wc ⟨vc, fpc, rfl, ho, hf, hg⟩
              obtain ⟨a5, c5, rfl⟩ := own_shape ho.1
              rw [hbl] at ho ⊢
              have OO := Lib.hid ho; have FF := Lib.hid (hf.older ((Grow.drewN w2 1).trans (Grow.alloc _ _))); have DC := Lib.hid ((D3.out.alloc_ _).trans hg); have BZ := Lib.hid (B0.out.grow (((Grow.drewN w2 1).trans (Grow.alloc _ _)).trans hg))
              have NF : Hid (_ ∉ fpc) := Lib.hid (fun hm => absurd (hf _ hm) (by simp only [World.alloc, Array.size_push]; exact Nat.not_succ_le_self _))
              have BB := Lib.hid ((Box.alloc _ [.int .i64 0, .int .i64 0, .int .i64 0, .int .i64 0, .slice none 0 0] 27).grow hg)
              clear ho hf hg
              go_wp2
              refine ⟨⟨⟨_, DC.out⟩, rfl⟩, ?_⟩
              refine anyC_seg [17] #[true, true, true, true, true, true, true, true, true, true, true, true, true, true, true, true, true, true, true, false] (fuel := 1) rfl (by kernel_rfl) ⟨⟨_, DC.out⟩, rfl⟩ ?_
              simp only [pickOps, List.getD_cons_succ, List.getD_cons_zero]
              repeat (go_big_quiet_step (fail))
              refine wpQuiet_nil ?_
              exact J _ _ _ _ ⟨DC.out, S2.out, BZ.out, BB.out, fpc, OO.out, FF.out, NF.out⟩
            · simp only [List.getD_cons_succ, List.getD_cons_zero]
              go_wp2_with fail
              refine (clone_B _ _ ((d.drop 18).take (e4 - 18)) ((HV.out.cut 18 (e4 - 18) (by have := HE.out; omega) (by have := HE.out; omega)).grow D3.out) hbs).mono ?_
              rintro e wc ⟨vc, fpc, rfl, ho, hf, hg⟩
              obtain ⟨a5, c5, rfl⟩ := own_shape ho.1
              rw [hbl] at ho ⊢
              have OO := Lib.hid ho; have FF := Lib.hid (hf.older (Grow.drewN w2 1)); have DC := Lib.hid (D3.out.trans hg); have BZ := Lib.hid (B0.out.grow ((Grow.drewN w2 1).trans hg))
              have SC : Hid (w2.heap.size ≤ wc.heap.size) := Lib.hid (((Grow.drewN w2 1).trans hg).size)
              clear ho hf hg
              go_wp2
              refine ⟨⟨⟨_, DC.out⟩, rfl⟩, ?_⟩
              refine anyC_seg [17] #[true, true, true, true, true, true, true, true, true, true, true, true, true, true, true, true, true, true, false, false] (fuel := 2) rfl (by kernel_rfl) ⟨⟨_, DC.out⟩, rfl⟩ ?_
              simp only [pickOps, List.getD_cons_succ, List.getD_cons_zero]
              repeat (go_big_quiet_step (fail))
              refine wpQuiet_nil ?_
              refine anyC_sole 18 #[true, true, true, true, true, true, true, true, true, true, true, true, true, true, true, true, true, true, true, false] (fuel := 1) (by kernel_rfl) ?_
              simp only [List.getD_cons_succ, List.getD_cons_zero]
              go_wp2
              refine ⟨⟨⟨_, DC.out.alloc_ _⟩, rfl⟩, ?_⟩
              exact J _ _ _ _ ⟨DC.out.alloc_ _, Nat.lt_of_lt_of_le S2.out SC.out, BZ.out.grow (Grow.alloc _ _), Box.alloc _ _ _, fpc, OO.out.grow (Grow.alloc _ _), FF.out, fun hm => absurd (OO.out.here _ hm) (Nat.lt_irrefl _)⟩
    intro a5 c5 b W ⟨hw, hb, hZ, hB, fp5, ho, hf, hnn⟩
    have ⟨q0, q1, q2, q3, q4⟩ := hB.five; have hl := hB.1; have hff := hB.2.2
    refine anyC_sole 19 #[true, true, true, true, true, true, true, true, true, true, true, true, true, true, true, true, true, true, true, true] (fuel := 0) (by kernel_rfl) ?_
    simp only [List.getD_cons_succ, List.getD_cons_zero]
    go_wp2
    have HU := Lib.hid (Upd.setCell (p := ⟨b, 4, none⟩) (Upd.setCell (p := ⟨b, 3, none⟩) (Upd.setCell (p := ⟨b, 2, none⟩) (Upd.setCell (p := ⟨b, 1, none⟩) (Upd.setCell (p := ⟨b, 0, none⟩) (Upd.refl [b] W) (by simp) (.int .i64 (fld d 0 6))) (by simp) (.int .i64 (fld d 6 6))) (by simp) (.int .i64 (-1))) (by simp) (.int .i64 (fld d 16 2))) (by simp) (.slice a5 (e4 - 18) c5))
    have HW := Lib.hid (Grow.setCell_ (p := ⟨b, 4, none⟩) (Grow.setCell_ (p := ⟨b, 3, none⟩) (Grow.setCell_ (p := ⟨b, 2, none⟩) (Grow.setCell_ (p := ⟨b, 1, none⟩) (Grow.setCell_ (p := ⟨b, 0, none⟩) hw (Nat.le_of_lt hb) (.int .i64 (fld d 0 6))) (Nat.le_of_lt hb) (.int .i64 (fld d 6 6))) (Nat.le_of_lt hb) (.int .i64 (-1))) (Nat.le_of_lt hb) (.int .i64 (fld d 16 2))) (Nat.le_of_lt hb) (.slice a5 (e4 - 18) c5))
    have BP := Lib.hid (((((hB.set 0 (.int .i64 (fld d 0 6)) (by simp)).set 1 (.int .i64 (fld d 6 6)) (by simp)).set 2 (.int .i64 (-1)) (by simp)).set 3 (.int .i64 (fld d 16 2)) (by simp)).set 4 (.slice a5 (e4 - 18) c5) (by simp))
    have BZ := Lib.hid (hZ.upd HU.out (by simp; omega))
    have OP := Lib.hid (ho.upd HU.out (fun x hx hm => hnn (by simp at hm; exact hm ▸ hx)))
    clear HU
    generalize (World.setCell (World.setCell (World.setCell (World.setCell (World.setCell W ⟨b, 0, none⟩ (.int .i64 (fld d 0 6))) ⟨b, 1, none⟩ (.int .i64 (fld d 6 6))) ⟨b, 2, none⟩ (.int .i64 (-1))) ⟨b, 3, none⟩ (.int .i64 (fld d 16 2))) ⟨b, 4, none⟩ (.slice a5 (e4 - 18) c5)) = W5 at *
    refine ⟨⟨⟨_, HW.out⟩, rfl⟩, ?_⟩
    refine anyC_done (by kernel_rfl) ?_
    have HF := Lib.hid hf; have HN := Lib.hid hnn; have HL := Lib.hid hb
    clear hne q0 q1 q2 q3 q4 hl hff hw hZ hB ho hf hnn hb D3 B0
    have BP : Hid (Box W5 b [.int .i64 (fld d 0 6), .int .i64 (fld d 6 6), .int .i64 (-1), .int .i64 (fld d 16 2), .slice a5 (e4 - 18) c5]) := BP
    have hp : prT d 18 = (fld d 14 2) := rfl
    have HR : Hid (∀ W6, Upd [w.heap.size, b] W5 W6 → RetNew2 OwnP (prD d 18) (.int .i64 0) w (.returned (.tuple #[.agg #[.int .i64 (fld d 0 6), .int .i64 (fld d 6 6), .int .i64 (fld d 14 2), .int .i64 (fld d 16 2), .slice a5 (e4 - 18) c5], .int .i64 0])) W6) := Lib.hid (fun W6 hu => by
      have hbd : (prD d 18).body = ((d.drop 18).take (e4 - 18)) := by
        have := HE.out
        show List.take (d.length - 4 - 18) (d.drop 18) = _
        rw [show d.length - 4 - 18 = e4 - 18 by omega]
      refine ⟨_, fp5, rfl, ⟨.slice a5 (e4 - 18) c5, rfl, ?_⟩, HF.out.older (GA.out.trans D2.out), ?_⟩
      · rw [hbd]
        exact OP.out.upd hu (fun x hx hm => by
          have h1 := HF.out x hx; have h2 := S2.out
          simp only [List.mem_cons, List.not_mem_nil, or_false] at hm
          rcases hm with rfl | rfl
          · omega
          · exact HN.out hx)
      · exact HW.out.then_upd hu (by intro x hx; have := HL.out; simp only [List.mem_cons, List.not_mem_nil, or_false] at hx; omega))
    have ⟨q0, q1, q2, q3, q4⟩ := BP.out.five; have z0 := BP.out.2.2; have l0 := BP.out.1
    have ⟨y0, y1, y2, y3, y4⟩ := BZ.out.five; have zz := BZ.out.2.2; have l1 := BZ.out.1; have hl := HL.out
    have hne1 : ¬ b = w.heap.size := by omega
    have hne2 : ¬ w.heap.size = b := by omega
    go_wp2_with fail
    refine (get_same (HV.out.grow HW.out) HB.out 14 2 (by omega) (by omega) (by omega)).mono ?_
    rintro e wx ⟨rfl, rfl⟩
    go_wp2_with fail
    refine (isTag_any _ _).mono ?_
    rintro e wx ⟨rfl, rfl⟩
    by_cases s4 : 4094 < fld d 14 2
    · obtain rfl : PP = (zeroP, 4) := HP.out.symm.trans (prR_4 s4)
      rw [inB_false (.inr s4)]
      go_wp2
      refine bodyPost_ret (v := .tuple #[.agg #[.int .i64 0, .int .i64 0, .int .i64 0, .int .i64 0, .slice none 0 0], .int .i64 4]) ?_ rfl (HZ.out _ (Grow.box_end (fq := [w.heap.size, b]) HW.out ?_ (by simp; omega)) _)
      · simp [results, Try.results33, go_sem, y0, y1, y2, y3, y4, zz, hne1, hne2] <;> omega
      · ((repeat (first | (with_reducible refine Upd.setCell ?_ (by simp) _) | with_reducible exact Upd.refl _ _)))

    have S4 := Lib.hid s4
    rw [inB_true (by have := fld_le HB.out 14 2 (by omega); omega) (by omega)]
    go_wp2_with fail
    refine (isType_any _ _).mono ?_
    rintro e wx ⟨rfl, rfl⟩
    cases hty : typeB (fld d 16 2)
    · obtain rfl : PP = (zeroP, 5) := HP.out.symm.trans (prR_5 (by rw [hp]; have := S4.out; omega) hty)
      go_wp2
      refine bodyPost_ret (v := .tuple #[.agg #[.int .i64 0, .int .i64 0, .int .i64 0, .int .i64 0, .slice none 0 0], .int .i64 5]) ?_ rfl (HZ.out _ (Grow.box_end (fq := [w.heap.size, b]) HW.out ?_ (by simp; omega)) _)
      · simp [results, Try.results33, go_sem, y0, y1, y2, y3, y4, zz, hne1, hne2] <;> omega
      · ((repeat (first | (with_reducible refine Upd.setCell ?_ (by simp) _) | with_reducible exact Upd.refl _ _)))

    obtain rfl : PP = (prD d 18, 0) := HP.out.symm.trans (prR_0 (by rw [hp]; have := S4.out; omega) hty)
    go_wp2
    refine bodyPost_ret (v := .tuple #[.agg #[.int .i64 (fld d 0 6), .int .i64 (fld d 6 6), .int .i64 (fld d 14 2), .int .i64 (fld d 16 2), .slice a5 (e4 - 18) c5], .int .i64 0]) ?_ rfl (HR.out _ ?_)
    · simp [results, Try.results33, go_sem, q0, q1, q2, q3, q4, z0, y0, y1, y2, y3, y4, zz, hne1, hne2] <;> omega
    · ((repeat (first | (with_reducible refine Upd.setCell ?_ (by simp) _) | with_reducible exact Upd.refl _ _)))

  rw [hdL_14 (.inr tg)]
  have tb : (fld d 12 2 == 33024) = false := by simpa using tg
  clear tg
  by_cases s1 : d.length < 14 + 4
  · rw [prG_1 s1]
    go_enter Try.func33, Try.ntmps33
    go_wp2_with fail
    refine at_world (w := w) ?G (fun hG => (getI_fld (HV.out.grow hG) HB.out 12 2 (by omega) (by omega) (by omega)).mono ?_)
    case G => ((repeat (first | with_reducible exact Grow.refl _ | (with_reducible refine Grow.alloc_ ?_ _) | (with_reducible refine Grow.setCell_ ?_ (by first | exact Nat.le_refl _ | (simp only [World.alloc, Array.size_push]; omega) | omega) _))))
    rintro e w1 ⟨rfl, rfl⟩
    clear hG
    go_wp2
    refine bodyPost_ret (v := .tuple #[.agg #[.int .i64 0, .int .i64 0, .int .i64 0, .int .i64 0, .slice none 0 0], .int .i64 1]) ?_ rfl (HZ.out _ ?_ _)
    · simp [results, Try.results33, go_sem]
    · ((repeat (first | with_reducible exact Grow.refl _ | (with_reducible refine Grow.alloc_ ?_ _) | (with_reducible refine Grow.setCell_ ?_ (by first | exact Nat.le_refl _ | (simp only [World.alloc, Array.size_push]; omega) | omega) _))))

  by_cases s2 : 14 + 1504 < d.length
  · rw [prG_2 s1 s2]
    go_enter Try.func33, Try.ntmps33
    go_wp2_with fail
    refine at_world (w := w) ?G (fun hG => (getI_fld (HV.out.grow hG) HB.out 12 2 (by omega) (by omega) (by omega)).mono ?_)
    case G => ((repeat (first | with_reducible exact Grow.refl _ | (with_reducible refine Grow.alloc_ ?_ _) | (with_reducible refine Grow.setCell_ ?_ (by first | exact Nat.le_refl _ | (simp only [World.alloc, Array.size_push]; omega) | omega) _))))
    rintro e w1 ⟨rfl, rfl⟩
    clear hG
    go_wp2
    refine bodyPost_ret (v := .tuple #[.agg #[.int .i64 0, .int .i64 0, .int .i64 0, .int .i64 0, .slice none 0 0], .int .i64 2]) ?_ rfl (HZ.out _ ?_ _)
    · simp [results, Try.results33, go_sem]
    · ((repeat (first | with_reducible exact Grow.refl _ | (with_reducible refine Grow.alloc_ ?_ _) | (with_reducible refine Grow.setCell_ ?_ (by first | exact Nat.le_refl _ | (simp only [World.alloc, Array.size_push]; omega) | omega) _))))

  obtain ⟨e4, he⟩ : ∃ e, d.length = e + 4 := ⟨d.length - 4, by omega⟩
  have hz : (d.length : Int) - 4 = (e4 : Int) := by omega
  have hz2 : ((d.length : Int) - 4).toNat = e4 := by omega
  have HE := Lib.hid he; clear he
  by_cases s3 : crcOf (d.take (d.length - 4)) = fld d (d.length - 4) 4
  rotate_left
  · rw [prG_3 s1 s2 s3]
    have hd4 : d.length - 4 = e4 := by have := HE.out; omega
    rw [hd4] at s3
    have c3 : (crcOf (List.take e4 d) != fld d e4 4) = true := by simpa using s3
    clear s3 hd4
    go_enter Try.func33, Try.ntmps33
    go_wp2_with fail
    refine at_world (w := w) ?G (fun hG => (getI_fld (HV.out.grow hG) HB.out 12 2 (by omega) (by omega) (by omega)).mono ?_)
    case G => ((repeat (first | with_reducible exact Grow.refl _ | (with_reducible refine Grow.alloc_ ?_ _) | (with_reducible refine Grow.setCell_ ?_ (by first | exact Nat.le_refl _ | (simp only [World.alloc, Array.size_push]; omega) | omega) _))))
    rintro e w1 ⟨rfl, rfl⟩
    clear hG
    go_wp2_with fail
    have hne : Nonempty (Cl (Grow w)) := ⟨⟨w, Grow.refl _⟩⟩
    have GA := Lib.hid (Grow.alloc w (.cells #[.int .i64 0, .int .i64 0, .int .i64 0, .int .i64 0, .slice none 0 0] 27))
    have D0 := Lib.hid (Grow.drewN (w.alloc (.cells #[.int .i64 0, .int .i64 0, .int .i64 0, .int .i64 0, .slice none 0 0] 27)) 1)
    refine wp_region_mix (Cls (Grow w)) 10 #[false, false, false, false, false, false, false, false, false, false] (by kernel_rfl) (by kernel_rfl) ⟨⟨_, GA.out.trans D0.out⟩, rfl⟩ ?_
    refine anyC_seg [0, 1, 2, 4, 5, 6] #[true, true, true, false, true, true, true, false, false, false] (fuel := 4) rfl (by kernel_rfl) ⟨⟨_, GA.out.trans D0.out⟩, rfl⟩ ?_
    simp only [pickOps, List.getD_cons_succ, List.getD_cons_zero]
    repeat (go_big_quiet_step (fail))
    refine wpQuiet_nil ?_
    refine anyC_sole 3 #[true, true, true, true, true, true, true, false, false, false] (fuel := 3) (by kernel_rfl) ?_
    simp only [List.getD_cons_succ, List.getD_cons_zero]
    go_wp2_with fail
    refine (crcI_any _ _ _ ((HV.out.take_ e4 (by have := HE.out; omega)).grow (GA.out.trans D0.out)) (HB.out.take _) (by have := HS.out; have := HE.out; unfold SmB at *; simp; omega)).mono ?_
    rintro e w1 ⟨rfl, rfl⟩
    have D1 := Lib.hid D0.out
    go_wp2
    refine ⟨⟨⟨_, GA.out.trans D1.out⟩, rfl⟩, ?_⟩
    refine anyC_sole 7 #[true, true, true, true, true, true, true, true, false, false] (fuel := 2) (by kernel_rfl) ?_
    simp only [List.getD_cons_succ, List.getD_cons_zero]
    go_wp2_with fail
    refine (get_cut (HV.out.grow (GA.out.trans D1.out)) HB.out e4 (d.length - e4) (by have := HE.out; omega) (by have := HE.out; omega) (by have := HE.out; omega)).mono ?_
    rintro e w2 ⟨rfl, hg⟩
    rw [show d.length - e4 = 4 by have := HE.out; omega]
    have D2 := Lib.hid (D1.out.trans hg)
    clear hg
    go_wp2
    refine ⟨⟨⟨_, GA.out.trans D2.out⟩, rfl⟩, ?_⟩
    refine anyC_seg [8, 9] #[true, true, true, true, true, true, true, true, true, true] (fuel := 0) rfl (by kernel_rfl) ⟨⟨_, GA.out.trans D2.out⟩, rfl⟩ ?_
    simp only [pickOps, List.getD_cons_succ, List.getD_cons_zero]
    repeat (go_big_quiet_step (fail))
    refine wpQuiet_nil ?_
    refine anyC_done (by kernel_rfl) ?_
    clear hne D0 D1
    have B0 := Lib.hid ((Box.alloc w [.int .i64 0, .int .i64 0, .int .i64 0, .int .i64 0, .slice none 0 0] 27).grow D2.out)
    have ⟨q0, q1, q2, q3, q4⟩ := B0.out.five
    have z0 := B0.out.2.2
    have l0 := B0.out.1
    go_wp2
    refine bodyPost_ret (v := .tuple #[.agg #[.int .i64 0, .int .i64 0, .int .i64 0, .int .i64 0, .slice none 0 0], .int .i64 3]) ?_ rfl (HZ.out _ (Grow.box_end (fq := [w.heap.size]) (GA.out.trans D2.out) ?_ (by simp)) _)
    · simp [results, Try.results33, go_sem, q0, q1, q2, q3, q4, z0] <;> omega
    · ((repeat (first | (with_reducible refine Upd.setCell ?_ (by simp) _) | with_reducible exact Upd.refl _ _)))

  rw [prG_r s1 s2 s3]
  have hn : 14 ≤ e4 := by have := HE.out; omega
  have hbl : ((d.drop 14).take (e4 - 14)).length = e4 - 14 := by have := HE.out; simp; omega
  have hbs : SmB ((d.drop 14).take (e4 - 14)) := by have := HS.out; unfold SmB at *; omega
  obtain ⟨PP, hPP⟩ : ∃ PP, prR d 14 = PP := ⟨_, rfl⟩
  rw [hPP]
  have HP := Lib.hid hPP
  clear hPP
  have hd4 : d.length - 4 = e4 := by have := HE.out; omega
  rw [hd4] at s3
  have c3 : (crcOf (List.take e4 d) != fld d e4 4) = false := by simpa using s3
  clear s3 hd4
  go_enter Try.func33, Try.ntmps33
  go_wp2_with fail
  refine at_world (w := w) ?G (fun hG => (getI_fld (HV.out.grow hG) HB.out 12 2 (by omega) (by omega) (by omega)).mono ?_)
  case G => ((repeat (first | with_reducible exact Grow.refl _ | (with_reducible refine Grow.alloc_ ?_ _) | (with_reducible refine Grow.setCell_ ?_ (by first | exact Nat.le_refl _ | (simp only [World.alloc, Array.size_push]; omega) | omega) _))))
  rintro e w1 ⟨rfl, rfl⟩
  clear hG
  go_wp2_with fail
  have hne : Nonempty (Cl (Grow w)) := ⟨⟨w, Grow.refl _⟩⟩
  have GA := Lib.hid (Grow.alloc w (.cells #[.int .i64 0, .int .i64 0, .int .i64 0, .int .i64 0, .slice none 0 0] 27))
  have D0 := Lib.hid (Grow.drewN (w.alloc (.cells #[.int .i64 0, .int .i64 0, .int .i64 0, .int .i64 0, .slice none 0 0] 27)) 1)
  refine wp_region_mix (Cls (Grow w)) 10 #[false, false, false, false, false, false, false, false, false, false] (by kernel_rfl) (by kernel_rfl) ⟨⟨_, GA.out.trans D0.out⟩, rfl⟩ ?_
  refine anyC_seg [0, 1, 2, 4, 5, 6] #[true, true, true, false, true, true, true, false, false, false] (fuel := 4) rfl (by kernel_rfl) ⟨⟨_, GA.out.trans D0.out⟩, rfl⟩ ?_
  simp only [pickOps, List.getD_cons_succ, List.getD_cons_zero]
  repeat (go_big_quiet_step (fail))
  refine wpQuiet_nil ?_
  refine anyC_sole 3 #[true, true, true, true, true, true, true, false, false, false] (fuel := 3) (by kernel_rfl) ?_
  simp only [List.getD_cons_succ, List.getD_cons_zero]
  go_wp2_with fail
  refine (crcI_any _ _ _ ((HV.out.take_ e4 (by have := HE.out; omega)).grow (GA.out.trans D0.out)) (HB.out.take _) (by have := HS.out; have := HE.out; unfold SmB at *; simp; omega)).mono ?_
  rintro e w1 ⟨rfl, rfl⟩
  have D1 := Lib.hid D0.out
  go_wp2
  refine ⟨⟨⟨_, GA.out.trans D1.out⟩, rfl⟩, ?_⟩
  refine anyC_sole 7 #[true, true, true, true, true, true, true, true, false, false] (fuel := 2) (by kernel_rfl) ?_
  simp only [List.getD_cons_succ, List.getD_cons_zero]
  go_wp2_with fail
  refine (get_cut (HV.out.grow (GA.out.trans D1.out)) HB.out e4 (d.length - e4) (by have := HE.out; omega) (by have := HE.out; omega) (by have := HE.out; omega)).mono ?_
  rintro e w2 ⟨rfl, hg⟩
  rw [show d.length - e4 = 4 by have := HE.out; omega]
  have D2 := Lib.hid (D1.out.trans hg)
  clear hg
  go_wp2
  refine ⟨⟨⟨_, GA.out.trans D2.out⟩, rfl⟩, ?_⟩
  refine anyC_seg [8, 9] #[true, true, true, true, true, true, true, true, true, true] (fuel := 0) rfl (by kernel_rfl) ⟨⟨_, GA.out.trans D2.out⟩, rfl⟩ ?_
  simp only [pickOps, List.getD_cons_succ, List.getD_cons_zero]
  repeat (go_big_quiet_step (fail))
  refine wpQuiet_nil ?_
  refine anyC_done (by kernel_rfl) ?_
  clear hne D0 D1
  have B0 := Lib.hid ((Box.alloc w [.int .i64 0, .int .i64 0, .int .i64 0, .int .i64 0, .slice none 0 0] 27).grow D2.out)
  go_wp2_with fail
  have hne : Nonempty (Cl (Grow w)) := ⟨⟨w, Grow.refl _⟩⟩
  have D3 := Lib.hid (GA.out.trans (D2.out.trans (Grow.drewN w2 1)))
  refine wp_region_mix (Cls (Grow w)) 20 #[false, false, false, false, false, false, false, false, false, false, false, false, false, false, false, false, false, false, false, false] (by kernel_rfl) (by kernel_rfl) ⟨⟨_, D3.out⟩, rfl⟩ ?_
  refine anyC_seg [0, 1, 3, 4, 6, 7, 8, 9, 10, 12, 13, 14, 15] #[true, true, false, true, true, false, true, true, true, true, true, false, true, true, true, true, false, false, false, false] (fuel := 7) rfl (by kernel_rfl) ⟨⟨_, D3.out⟩, rfl⟩ ?_
  simp only [pickOps, List.getD_cons_succ, List.getD_cons_zero]
  repeat (go_big_quiet_step (fail))
  refine wpQuiet_nil ?_
  have S2 : Hid (w.heap.size < w2.heap.size) := Lib.hid (by have := B0.out.1; exact this)
  apply viaB (fun a5 c5 b W => Grow w W ∧ w.heap.size < b ∧ Box W w.heap.size [.int .i64 0, .int .i64 0, .int .i64 0, .int .i64 0, .slice none 0 0] ∧ Box W b [.int .i64 0, .int .i64 0, .int .i64 0, .int .i64 0, .slice none 0 0] ∧ ∃ fp, OwnB W (.slice a5 (e4 - 14) c5) ((d.drop 14).take (e4 - 14)) fp ∧ Fresh w2 fp ∧ b ∉ fp)
  · intro J
    refine anyC_two_ 2 18 #[true, true, true, true, true, false, true, true, true, true, true, false, true, true, true, true, false, false, false, false] #[true, true, false, true, true, false, true, true, true, true, true, false, true, true, true, true, false, false, true, false] (fuel := 6) (by kernel_rfl) ?_ ?_
    · simp only [List.getD_cons_succ, List.getD_cons_zero]
      go_wp2
      refine ⟨⟨⟨_, D3.out.alloc_ _⟩, rfl⟩, ?_⟩
      refine anyC_sole 2 #[true, true, true, true, true, false, true, true, true, true, true, false, true, true, true, true, false, false, true, false] (fuel := 5) (by kernel_rfl) ?_
      simp only [List.getD_cons_succ, List.getD_cons_zero]
      go_wp2_with fail
      refine (get_same0 (HV.out.grow (D3.out.alloc_ _)) HB.out 6 (by omega) (by omega) (by omega)).mono ?_
      rintro e wx ⟨rfl, rfl⟩
      go_wp2
      refine ⟨⟨⟨_, (D3.out.alloc_ _)⟩, rfl⟩, ?_⟩
      refine anyC_sole 5 #[true, true, true, true, true, true, true, true, true, true, true, false, true, true, true, true, false, false, true, false] (fuel := 4) (by kernel_rfl) ?_
      simp only [List.getD_cons_succ, List.getD_cons_zero]
      go_wp2_with fail
      refine (get_same (HV.out.grow (D3.out.alloc_ _)) HB.out 6 6 (by omega) (by omega) (by omega)).mono ?_
      rintro e wx ⟨rfl, rfl⟩
      go_wp2
      refine ⟨⟨⟨_, (D3.out.alloc_ _)⟩, rfl⟩, ?_⟩
      refine anyC_sole 11 #[true, true, true, true, true, true, true, true, true, true, true, true, true, true, true, true, false, false, true, false] (fuel := 3) (by kernel_rfl) ?_
      simp only [List.getD_cons_succ, List.getD_cons_zero]
      go_wp2_with fail
      refine (get_same (HV.out.grow (D3.out.alloc_ _)) HB.out 12 2 (by omega) (by omega) (by omega)).mono ?_
      rintro e wx ⟨rfl, rfl⟩
      go_wp2
      refine ⟨⟨⟨_, (D3.out.alloc_ _)⟩, rfl⟩, ?_⟩
      refine anyC_sole 16 #[true, true, true, true, true, true, true, true, true, true, true, true, true, true, true, true, true, false, true, false] (fuel := 2) (by kernel_rfl) ?_
      simp only [List.getD_cons_succ, List.getD_cons_zero]
      go_wp2_with fail
      refine (clone_B _ _ ((d.drop 14).take (e4 - 14)) ((HV.out.cut 14 (e4 - 14) (by have := HE.out; omega) (by have := HE.out; omega)).grow (D3.out.alloc_ _)) hbs).mono ?_
      rintro e wc ⟨vc, fpc, rfl, ho, hf, hg⟩
      obtain ⟨a5, c5, rfl⟩ := own_shape ho.1
      rw [hbl] at ho ⊢
      have OO := Lib.hid ho; have FF := Lib.hid (hf.older ((Grow.drewN w2 1).trans (Grow.alloc _ _))); have DC := Lib.hid ((D3.out.alloc_ _).trans hg); have BZ := Lib.hid (B0.out.grow (((Grow.drewN w2 1).trans (Grow.alloc _ _)).trans hg))
      have NF : Hid (_ ∉ fpc) := Lib.hid (fun hm => absurd (hf _ hm) (by simp only [World.alloc, Array.size_push]; exact Nat.not_succ_le_self _))
      have BB := Lib.hid ((Box.alloc _ [.int .i64 0, .int .i64 0, .int .i64 0, .int .i64 0, .slice none 0 0] 27).grow hg)
      clear ho hf hg
      go_wp2
      refine ⟨⟨⟨_, DC.out⟩, rfl⟩, ?_⟩
      refine anyC_seg [17] #[true, true, true, true, true, true, true, true, true, true, true, true, true, true, true, true, true, true, true, false] (fuel := 1) rfl (by kernel_rfl) ⟨⟨_, DC.out⟩, rfl⟩ ?_
      simp only [pickOps, List.getD_cons_succ, List.getD_cons_zero]
      repeat (go_big_quiet_step (fail))
      refine wpQuiet_nil ?_
      have BL : Hid (Box _ w2.heap.size _) := BB
      have NL : Hid (w2.heap.size ∉ fpc) := NF
      have SL := Lib.hid S2.out
      generalize hbz : w2.heap.size = bz
      rw [hbz] at BL NL SL
      exact J a5 c5 bz wc ⟨DC.out, SL.out, BZ.out, BL.out, fpc, OO.out, FF.out, NL.out⟩
    · simp only [List.getD_cons_succ, List.getD_cons_zero]
      go_wp2_with fail
      refine (get_same0 (HV.out.grow D3.out) HB.out 6 (by omega) (by omega) (by omega)).mono ?_
      rintro e wx ⟨rfl, rfl⟩
      go_wp2
      refine ⟨⟨⟨_, D3.out⟩, rfl⟩, ?_⟩
      refine anyC_two_ 5 18 #[true, true, true, true, true, true, true, true, true, true, true, false, true, true, true, true, false, false, false, false] #[true, true, true, true, true, false, true, true, true, true, true, false, true, true, true, true, false, false, true, false] (fuel := 5) (by kernel_rfl) ?_ ?_
      · simp only [List.getD_cons_succ, List.getD_cons_zero]
        go_wp2
        refine ⟨⟨⟨_, D3.out.alloc_ _⟩, rfl⟩, ?_⟩
        refine anyC_sole 5 #[true, true, true, true, true, true, true, true, true, true, true, false, true, true, true, true, false, false, true, false] (fuel := 4) (by kernel_rfl) ?_
        simp only [List.getD_cons_succ, List.getD_cons_zero]
        go_wp2_with fail
        refine (get_same (HV.out.grow (D3.out.alloc_ _)) HB.out 6 6 (by omega) (by omega) (by omega)).mono ?_
        rintro e wx ⟨rfl, rfl⟩
        go_wp2
        refine ⟨⟨⟨_, (D3.out.alloc_ _)⟩, rfl⟩, ?_⟩
        refine anyC_sole 11 #[true, true, true, true, true, true, true, true, true, true, true, true, true, true, true, true, false, false, true, false] (fuel := 3) (by kernel_rfl) ?_
        simp only [List.getD_cons_succ, List.getD_cons_zero]
        go_wp2_with fail
        refine (get_same (HV.out.grow (D3.out.alloc_ _)) HB.out 12 2 (by omega) (by omega) (by omega)).mono ?_
        rintro e wx ⟨rfl, rfl⟩
        go_wp2
        refine ⟨⟨⟨_, (D3.out.alloc_ _)⟩, rfl⟩, ?_⟩
        refine anyC_sole 16 #[true, true, true, true, true, true, true, true, true, true, true, true, true, true, true, true, true, false, true, false] (fuel := 2) (by kernel_rfl) ?_
        simp only [List.getD_cons_succ, List.getD_cons_zero]
        go_wp2_with fail
        refine (clone_B _ _ ((d.drop 14).take (e4 - 14)) ((HV.out.cut 14 (e4 - 14) (by have := HE.out; omega) (by have := HE.out; omega)).grow (D3.out.alloc_ _)) hbs).mono ?_
        rintro e wc ⟨vc, fpc, rfl, ho, hf, hg⟩
        obtain ⟨a5, c5, rfl⟩ := own_shape ho.1
        rw [hbl] at ho ⊢
        have OO := Lib.hid ho; have FF := Lib.hid (hf.older ((Grow.drewN w2 1).trans (Grow.alloc _ _))); have DC := Lib.hid ((D3.out.alloc_ _).trans hg); have BZ := Lib.hid (B0.out.grow (((Grow.drewN w2 1).trans (Grow.alloc _ _)).trans hg))
        have NF : Hid (_ ∉ fpc) := Lib.hid (fun hm => absurd (hf _ hm) (by simp only [World.alloc, Array.size_push]; exact Nat.not_succ_le_self _))
        have BB := Lib.hid ((Box.alloc _ [.int .i64 0, .int .i64 0, .int .i64 0, .int .i64 0, .slice none 0 0] 27).grow hg)
        clear ho hf hg
        go_wp2
        refine ⟨⟨⟨_, DC.out⟩, rfl⟩, ?_⟩
        refine anyC_seg [17] #[true, true, true, true, true, true, true, true, true, true, true, true, true, true, true, true, true, true, true, false] (fuel := 1) rfl (by kernel_rfl) ⟨⟨_, DC.out⟩, rfl⟩ ?_
        simp only [pickOps, List.getD_cons_succ, List.getD_cons_zero]
        repeat (go_big_quiet_step (fail))
        refine wpQuiet_nil ?_
        exact J _ _ _ _ ⟨DC.out, S2.out, BZ.out, BB.out, fpc, OO.out, FF.out, NF.out⟩
      · simp only [List.getD_cons_succ, List.getD_cons_zero]
        go_wp2_with fail
        refine (get_same (HV.out.grow D3.out) HB.out 6 6 (by omega) (by omega) (by omega)).mono ?_
        rintro e wx ⟨rfl, rfl⟩
        go_wp2
        refine ⟨⟨⟨_, D3.out⟩, rfl⟩, ?_⟩
        refine anyC_two_ 11 18 #[true, true, true, true, true, true, true, true, true, true, true, true, true, true, true, true, false, false, false, false] #[true, true, true, true, true, true, true, true, true, true, true, false, true, true, true, true, false, false, true, false] (fuel := 4) (by kernel_rfl) ?_ ?_
        · simp only [List.getD_cons_succ, List.getD_cons_zero]
          go_wp2
          refine ⟨⟨⟨_, D3.out.alloc_ _⟩, rfl⟩, ?_⟩
          refine anyC_sole 11 #[true, true, true, true, true, true, true, true, true, true, true, true, true, true, true, true, false, false, true, false] (fuel := 3) (by kernel_rfl) ?_
          simp only [List.getD_cons_succ, List.getD_cons_zero]
          go_wp2_with fail
          refine (get_same (HV.out.grow (D3.out.alloc_ _)) HB.out 12 2 (by omega) (by omega) (by omega)).mono ?_
          rintro e wx ⟨rfl, rfl⟩
          go_wp2
          refine ⟨⟨⟨_, (D3.out.alloc_ _)⟩, rfl⟩, ?_⟩
          refine anyC_sole 16 #[true, true, true, true, true, true, true, true, true, true, true, true, true, true, true, true, true, false, true, false] (fuel := 2) (by kernel_rfl) ?_
          simp only [List.getD_cons_succ, List.getD_cons_zero]
          go_wp2_with fail
          refine (clone_B _ _ ((d.drop 14).take (e4 - 14)) ((HV.out.cut 14 (e4 - 14) (by have := HE.out; omega) (by have := HE.out; omega)).grow (D3.out.alloc_ _)) hbs).mono ?_
          rintro e wc ⟨vc, fpc, rfl, ho, hf, hg⟩
          obtain ⟨a5, c5, rfl⟩ := own_shape ho.1
          rw [hbl] at ho ⊢
          have OO := Lib.hid ho; have FF := Lib.hid (hf.older ((Grow.drewN w2 1).trans (Grow.alloc _ _))); have DC := Lib.hid ((D3.out.alloc_ _).trans hg); have BZ := Lib.hid (B0.out.grow (((Grow.drewN w2 1).trans (Grow.alloc _ _)).trans hg))
          have NF : Hid (_ ∉ fpc) := Lib.hid (fun hm => absurd (hf _ hm) (by simp only [World.alloc, Array.size_push]; exact Nat.not_succ_le_self _))
          have BB := Lib.hid ((Box.alloc _ [.int .i64 0, .int .i64 0, .int .i64 0, .int .i64 0, .slice none 0 0] 27).grow hg)
          clear ho hf hg
          go_wp2
          refine ⟨⟨⟨_, DC.out⟩, rfl⟩, ?_⟩
          refine anyC_seg [17] #[true, true, true, true, true, true, true, true, true, true, true, true, true, true, true, true, true, true, true, false] (fuel := 1) rfl (by kernel_rfl) ⟨⟨_, DC.out⟩, rfl⟩ ?_
          simp only [pickOps, List.getD_cons_succ, List.getD_cons_zero]
          repeat (go_big_quiet_step (fail))
          refine wpQuiet_nil ?_
          exact J _ _ _ _ ⟨DC.out, S2.out, BZ.out, BB.out, fpc, OO.out, FF.out, NF.out⟩
        · simp only [List.getD_cons_succ, List.getD_cons_zero]
          go_wp2_with fail
          refine (get_same (HV.out.grow D3.out) HB.out 12 2 (by omega) (by omega) (by omega)).mono ?_
          rintro e wx ⟨rfl, rfl⟩
          go_wp2
          refine ⟨⟨⟨_, D3.out⟩, rfl⟩, ?_⟩
          refine anyC_two_ 16 18 #[true, true, true, true, true, true, true, true, true, true, true, true, true, true, true, true, true, false, false, false] #[true, true, true, true, true, true, true, true, true, true, true, true, true, true, true, true, false, false, true, false] (fuel := 3) (by kernel_rfl) ?_ ?_
          · simp only [List.getD_cons_succ, List.getD_cons_zero]
            go_wp2
            refine ⟨⟨⟨_, D3.out.alloc_ _⟩, rfl⟩, ?_⟩
            refine anyC_sole 16 #[true, true, true, true, true, true, true, true, true, true, true, true, true, true, true, true, true, false, true, false] (fuel := 2) (by kernel_rfl) ?_
            simp only [List.getD_cons_succ, List.getD_cons_zero]
            go_wp2_with fail
            refine (clone_B _ _ ((d.drop 14).take (e4 - 14)) ((HV.out.cut 14 (e4 - 14) (by have := HE.out; omega) (by have := HE.out; omega)).grow (D3.out.alloc_ _)) hbs).mono ?_
            rintro e wc ⟨vc, fpc, rfl, ho, hf, hg⟩
            obtain ⟨a5, c5, rfl⟩ := own_shape ho.1
            rw [hbl] at ho ⊢
            have OO := Lib.hid ho; have FF := Lib.hid (hf.older ((Grow.drewN w2 1).trans (Grow.alloc _ _))); have DC := Lib.hid ((D3.out.alloc_ _).trans hg); have BZ := Lib.hid (B0.out.grow (((Grow.drewN w2 1).trans (Grow.alloc _ _)).trans hg))
            have NF : Hid (_ ∉ fpc) := Lib.hid (fun hm => absurd (hf _ hm) (by simp only [World.alloc, Array.size_push]; exact Nat.not_succ_le_self _))
            have BB := Lib.hid ((Box.alloc _ [.int .i64 0, .int .i64 0, .int .i64 0, .int .i64 0, .slice none 0 0] 27).grow hg)
            clear ho hf hg
            go_wp2
            refine ⟨⟨⟨_, DC.out⟩, rfl⟩, ?_⟩
            refine anyC_seg [17] #[true, true, true, true, true, true, true, true, true, true, true, true, true, true, true, true, true, true, true, false] (fuel := 1) rfl (by kernel_rfl) ⟨⟨_, DC.out⟩, rfl⟩ ?_
            simp only [pickOps, List.getD_cons_succ, List.getD_cons_zero]
            repeat (go_big_quiet_step (fail))
            refine wpQuiet_nil ?_
            exact J _ _ _ _ ⟨DC.out, S2.out, BZ.out, BB.out, fpc, OO.out, FF.out, NF.out⟩
          · simp only [List.getD_cons_succ, List.getD_cons_zero]
            go_wp2_with fail
            refine (clone_B _ _ ((d.drop 14).take (e4 - 14)) ((HV.out.cut 14 (e4 - 14) (by have := HE.out; omega) (by have := HE.out; omega)).grow D3.out) hbs).mono ?_
            rintro e wc ⟨vc, fpc, rfl, ho, hf, hg⟩
            obtain ⟨a5, c5, rfl⟩ := own_shape ho.1
            rw [hbl] at ho ⊢
            have OO := Lib.hid ho; have FF := Lib.hid (hf.older (Grow.drewN w2 1)); have DC := Lib.hid (D3.out.trans hg); have BZ := Lib.hid (B0.out.grow ((Grow.drewN w2 1).trans hg))
            have SC : Hid (w2.heap.size ≤ wc.heap.size) := Lib.hid (((Grow.drewN w2 1).trans hg).size)
            clear ho hf hg
            go_wp2
            refine ⟨⟨⟨_, DC.out⟩, rfl⟩, ?_⟩
            refine anyC_seg [17] #[true, true, true, true, true, true, true, true, true, true, true, true, true, true, true, true, true, true, false, false] (fuel := 2) rfl (by kernel_rfl) ⟨⟨_, DC.out⟩, rfl⟩ ?_
            simp only [pickOps, List.getD_cons_succ, List.getD_cons_zero]
            repeat (go_big_quiet_step (fail))
            refine wpQuiet_nil ?_
            refine anyC_sole 18 #[true, true, true, true, true, true, true, true, true, true, true, true, true, true, true, true, true, true, true, false] (fuel := 1) (by kernel_rfl) ?_
            simp only [List.getD_cons_succ, List.getD_cons_zero]
            go_wp2
            refine ⟨⟨⟨_, DC.out.alloc_ _⟩, rfl⟩, ?_⟩
            exact J _ _ _ _ ⟨DC.out.alloc_ _, Nat.lt_of_lt_of_le S2.out SC.out, BZ.out.grow (Grow.alloc _ _), Box.alloc _ _ _, fpc, OO.out.grow (Grow.alloc _ _), FF.out, fun hm => absurd (OO.out.here _ hm) (Nat.lt_irrefl _)⟩
  intro a5 c5 b W ⟨hw, hb, hZ, hB, fp5, ho, hf, hnn⟩
  have ⟨q0, q1, q2, q3, q4⟩ := hB.five; have hl := hB.1; have hff := hB.2.2
  refine anyC_sole 19 #[true, true, true, true, true, true, true, true, true, true, true, true, true, true, true, true, true, true, true, true] (fuel := 0) (by kernel_rfl) ?_
  simp only [List.getD_cons_succ, List.getD_cons_zero]
  go_wp2
  have HU := Lib.hid (Upd.setCell (p := ⟨b, 4, none⟩) (Upd.setCell (p := ⟨b, 3, none⟩) (Upd.setCell (p := ⟨b, 2, none⟩) (Upd.setCell (p := ⟨b, 1, none⟩) (Upd.setCell (p := ⟨b, 0, none⟩) (Upd.refl [b] W) (by simp) (.int .i64 (fld d 0 6))) (by simp) (.int .i64 (fld d 6 6))) (by simp) (.int .i64 (-1))) (by simp) (.int .i64 (fld d 12 2))) (by simp) (.slice a5 (e4 - 14) c5))
  have HW := Lib.hid (Grow.setCell_ (p := ⟨b, 4, none⟩) (Grow.setCell_ (p := ⟨b, 3, none⟩) (Grow.setCell_ (p := ⟨b, 2, none⟩) (Grow.setCell_ (p := ⟨b, 1, none⟩) (Grow.setCell_ (p := ⟨b, 0, none⟩) hw (Nat.le_of_lt hb) (.int .i64 (fld d 0 6))) (Nat.le_of_lt hb) (.int .i64 (fld d 6 6))) (Nat.le_of_lt hb) (.int .i64 (-1))) (Nat.le_of_lt hb) (.int .i64 (fld d 12 2))) (Nat.le_of_lt hb) (.slice a5 (e4 - 14) c5))
  have BP := Lib.hid (((((hB.set 0 (.int .i64 (fld d 0 6)) (by simp)).set 1 (.int .i64 (fld d 6 6)) (by simp)).set 2 (.int .i64 (-1)) (by simp)).set 3 (.int .i64 (fld d 12 2)) (by simp)).set 4 (.slice a5 (e4 - 14) c5) (by simp))
  have BZ := Lib.hid (hZ.upd HU.out (by simp; omega))
  have OP := Lib.hid (ho.upd HU.out (fun x hx hm => hnn (by simp at hm; exact hm ▸ hx)))
  clear HU
  generalize (World.setCell (World.setCell (World.setCell (World.setCell (World.setCell W ⟨b, 0, none⟩ (.int .i64 (fld d 0 6))) ⟨b, 1, none⟩ (.int .i64 (fld d 6 6))) ⟨b, 2, none⟩ (.int .i64 (-1))) ⟨b, 3, none⟩ (.int .i64 (fld d 12 2))) ⟨b, 4, none⟩ (.slice a5 (e4 - 14) c5)) = W5 at *
  refine ⟨⟨⟨_, HW.out⟩, rfl⟩, ?_⟩
  refine anyC_done (by kernel_rfl) ?_
  have HF := Lib.hid hf; have HN := Lib.hid hnn; have HL := Lib.hid hb
  clear hne q0 q1 q2 q3 q4 hl hff hw hZ hB ho hf hnn hb D3 B0
  have BP : Hid (Box W5 b [.int .i64 (fld d 0 6), .int .i64 (fld d 6 6), .int .i64 (-1), .int .i64 (fld d 12 2), .slice a5 (e4 - 14) c5]) := BP
  have hp : prT d 14 = (-1) := rfl
  have HR : Hid (∀ W6, Upd [w.heap.size, b] W5 W6 → RetNew2 OwnP (prD d 14) (.int .i64 0) w (.returned (.tuple #[.agg #[.int .i64 (fld d 0 6), .int .i64 (fld d 6 6), .int .i64 (-1), .int .i64 (fld d 12 2), .slice a5 (e4 - 14) c5], .int .i64 0])) W6) := Lib.hid (fun W6 hu => by
    have hbd : (prD d 14).body = ((d.drop 14).take (e4 - 14)) := by
      have := HE.out
      show List.take (d.length - 4 - 14) (d.drop 14) = _
      rw [show d.length - 4 - 14 = e4 - 14 by omega]
    refine ⟨_, fp5, rfl, ⟨.slice a5 (e4 - 14) c5, rfl, ?_⟩, HF.out.older (GA.out.trans D2.out), ?_⟩
    · rw [hbd]
      exact OP.out.upd hu (fun x hx hm => by
        have h1 := HF.out x hx; have h2 := S2.out
        simp only [List.mem_cons, List.not_mem_nil, or_false] at hm
        rcases hm with rfl | rfl
        · omega
        · exact HN.out hx)
    · exact HW.out.then_upd hu (by intro x hx; have := HL.out; simp only [List.mem_cons, List.not_mem_nil, or_false] at hx; omega))
  have ⟨q0, q1, q2, q3, q4⟩ := BP.out.five; have z0 := BP.out.2.2; have l0 := BP.out.1
  have ⟨y0, y1, y2, y3, y4⟩ := BZ.out.five; have zz := BZ.out.2.2; have l1 := BZ.out.1; have hl := HL.out
  have hne1 : ¬ b = w.heap.size := by omega
  have hne2 : ¬ w.heap.size = b := by omega
  go_wp2_with fail
  refine (isTag_any _ _).mono ?_
  rintro e wx ⟨rfl, rfl⟩
  have s4 : ¬ (4094 : Int) < -1 := by decide
  have S4 := Lib.hid s4
  rw [inB_true (by decide) (by decide)]
  go_wp2_with fail
  refine (isType_any _ _).mono ?_
  rintro e wx ⟨rfl, rfl⟩
  cases hty : typeB (fld d 12 2)
  · obtain rfl : PP = (zeroP, 5) := HP.out.symm.trans (prR_5 (by rw [hp]; have := S4.out; omega) hty)
    go_wp2
    refine bodyPost_ret (v := .tuple #[.agg #[.int .i64 0, .int .i64 0, .int .i64 0, .int .i64 0, .slice none 0 0], .int .i64 5]) ?_ rfl (HZ.out _ (Grow.box_end (fq := [w.heap.size, b]) HW.out ?_ (by simp; omega)) _)
    · simp [results, Try.results33, go_sem, y0, y1, y2, y3, y4, zz, hne1, hne2] <;> omega
    · ((repeat (first | (with_reducible refine Upd.setCell ?_ (by simp) _) | with_reducible exact Upd.refl _ _)))

  obtain rfl : PP = (prD d 14, 0) := HP.out.symm.trans (prR_0 (by rw [hp]; have := S4.out; omega) hty)
  go_wp2
  refine bodyPost_ret (v := .tuple #[.agg #[.int .i64 (fld d 0 6), .int .i64 (fld d 6 6), .int .i64 (-1), .int .i64 (fld d 12 2), .slice a5 (e4 - 14) c5], .int .i64 0]) ?_ rfl (HR.out _ ?_)
  · simp [results, Try.results33, go_sem, q0, q1, q2, q3, q4, z0, y0, y1, y2, y3, y4, zz, hne1, hne2] <;> omega
  · ((repeat (first | (with_reducible refine Upd.setCell ?_ (by simp) _) | with_reducible exact Upd.refl _ _)))

--%
end Go.Proofs.Ytcldfodnblkeiaa
