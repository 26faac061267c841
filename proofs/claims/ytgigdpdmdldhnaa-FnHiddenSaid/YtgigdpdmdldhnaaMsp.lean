/- Hits, Covers of the reference model: contracts of the code (printed by gs.py). -/
import Derived.Test.YtgigdpdmdldhnaaMok
import Derived.WalkKit
import Derived.ProofKit
import Derived.Deep.QuietTactic
import Derived.BigQuiet
import Derived.Outline
import Derived.WalkSpells
namespace Go.Proofs.Ytgigdpdmdldhnaa
open Go.ChangeShapes Go.WideShapes Go.ChangeAt Go.RowKit
set_option linter.unusedVariables false
set_option linter.unusedSimpArgs false
--%
def bitV (n : Int) (i : Nat) : Int := if n.toNat.testBit i then 1 else 0
theorem bitV_1 {n : Int} {i : Nat} (h : n.toNat.testBit i = true) : bitV n i = 1 := by simp [bitV, h]
theorem bitV_0 {n : Int} {i : Nat} (h : n.toNat.testBit i = false) : bitV n i = 0 := by simp [bitV, h]
theorem bitV_01 (n : Int) (i : Nat) : 0 ≤ bitV n i ∧ bitV n i ≤ 1 := by unfold bitV; split <;> omega
theorem bitV_eq {n m : Int} {i : Nat} : bitV n i = bitV m i ↔ n.toNat.testBit i = m.toNat.testBit i := by
  unfold bitV
  cases n.toNat.testBit i <;> cases m.toNat.testBit i <;> simp
theorem fit_lt {k : Nat} {v : Int} {nb : Nat} (h : fitB (k : Nat) v = true) (hn : fieldBits k = nb) : v.toNat < 2 ^ nb := by
  have h1 := fitB_iff.1 h
  rcases bits_full (k : Int) with ⟨e, e2, _⟩ | ⟨e, e2, _⟩ | ⟨e, e2, _⟩ | ⟨e, e2, _⟩ | ⟨_, _, h3⟩
  · obtain rfl : nb = 8 := by omega
    omega
  · obtain rfl : nb = 48 := by omega
    omega
  · obtain rfl : nb = 16 := by omega
    omega
  · obtain rfl : nb = 32 := by omega
    omega
  · omega
theorem bits_nb (k : Nat) : ∃ nb : Nat, fieldBits k = nb ∧ nb ≤ 48 := ⟨(fieldBits k).toNat, by have := bits_full (k : Int); omega, by have := bits_full (k : Int); omega⟩
--% l05Bit 133
theorem l05Bit_any (n : Int) (i : Nat) (h0 : 0 ≤ n) (h1 : n ≤ 9223372036854775807) (hi : i < 64) (w : World) : Calls Try.prog 133 #[.int .i64 n, .int .i64 i] w (RetV (.int .i64 (bitV n i)) w) := by
  have hb := shr_bit h0 h1 i
  have hm : min i 64 = i := by omega
  have HB : Hid (bits .and .i64 (n / 2 ^ i) 1 = bitV n i) := Lib.hid hb
  clear hb
  go_enter Try.func133, Try.ntmps133
  go_wp2
  go_ret
  exact ⟨ret_int HB.out, Grow.refl _⟩
--% HitsS 103
theorem hitsS_any (w : World) (V U : Value) (a : DatM) (b : DatH) (h : RdM w V a) (h2 : RdH w U b) (wa : WfM a) (wb : WfH b) : Calls Try.prog 103 #[V, U] w (RetV (.bool (hitOk a b.vs)) w) := by
  obtain ⟨v0, v1, rfl, hv0, hv1⟩ := h
  obtain ⟨v2, rfl, hv2⟩ := h2
  have R0 := Lib.hid hv0
  obtain ⟨a0, c0, rfl, hlc0, hm0, hn0, hc0⟩ := Rd.ints hv0
  have H0 := Lib.hid hc0
  unfold maxLen at hm0
  clear hv0 hn0 hc0
  have R1 := Lib.hid hv1
  obtain ⟨a1, c1, rfl, hlc1, hm1, hn1, hc1⟩ := Rd.ints hv1
  have H1 := Lib.hid hc1
  unfold maxLen at hm1
  clear hv1 hn1 hc1
  have R2 := Lib.hid hv2
  obtain ⟨a2, c2, rfl, hlc2, hm2, hn2, hc2⟩ := Rd.ints hv2
  have H2 := Lib.hid hc2
  unfold maxLen at hm2
  clear hv2 hn2 hc2
  cases hoka : mtOk a
  · have HE : Hid ((hitOk a b.vs) = false) := Lib.hid (by simp [hitOk, hoka])
    go_enter Try.func103, Try.ntmps103
    go_wp2_with fail
    refine at_world (w := w) ?G (fun hG => (matchOkS_any _ _ a ⟨_, _, rfl, R0.out.grow hG, R1.out.grow hG⟩ wa).mono ?_)
    case G => ((repeat (first | with_reducible exact Grow.refl _ | (with_reducible refine Grow.alloc_ ?_ _) | (with_reducible refine Grow.setCell_ ?_ (by first | exact Nat.le_refl _ | (simp only [World.alloc, Array.size_push]; omega) | omega) _))))
    rintro e w1 ⟨rfl, hg⟩
    rw [hoka]
    have G1 := Lib.hid (hG.trans hg)
    have BA := Lib.hid ((Box.alloc w _ _).grow ((Grow.alloc _ _).trans hg))
    have BB := Lib.hid (((Box.alloc (w.alloc _) _ _).grow hg).at_ (b' := w.heap.size + 1) (by simp only [World.alloc, Array.size_push]))
    clear hG hg
    go_wp2
    go_ret
    exact ⟨ret_bool HE.out.symm, G1.out⟩
  cases hokb : hdOk b.vs
  · have HE : Hid ((hitOk a b.vs) = false) := Lib.hid (by simp [hitOk, hokb])
    go_enter Try.func103, Try.ntmps103
    go_wp2_with fail
    refine at_world (w := w) ?G (fun hG => (matchOkS_any _ _ a ⟨_, _, rfl, R0.out.grow hG, R1.out.grow hG⟩ wa).mono ?_)
    case G => ((repeat (first | with_reducible exact Grow.refl _ | (with_reducible refine Grow.alloc_ ?_ _) | (with_reducible refine Grow.setCell_ ?_ (by first | exact Nat.le_refl _ | (simp only [World.alloc, Array.size_push]; omega) | omega) _))))
    rintro e w1 ⟨rfl, hg⟩
    rw [hoka]
    have G1 := Lib.hid (hG.trans hg)
    have BA := Lib.hid ((Box.alloc w _ _).grow ((Grow.alloc _ _).trans hg))
    have BB := Lib.hid (((Box.alloc (w.alloc _) _ _).grow hg).at_ (b' := w.heap.size + 1) (by simp only [World.alloc, Array.size_push]))
    clear hG hg
    have r0 := BB.out.one
    go_wp2_with fail
    refine (headOkS_any _ _ b ⟨_, rfl, R2.out.grow G1.out⟩).mono ?_
    rintro e w2 ⟨rfl, hg⟩
    rw [hokb]
    have G2 := Lib.hid (G1.out.trans hg)
    have BA := Lib.hid (BA.out.grow hg)
    have BB := Lib.hid (BB.out.grow hg)
    clear hg r0
    go_wp2
    go_ret
    exact ⟨ret_bool HE.out.symm, G2.out⟩
  have KA := Lib.hid (mtOk_at hoka)
  have KB := Lib.hid (hdOk_at hokb)
  have L0 := Lib.hid (mtOk_iff.1 hoka).1; have L1 := Lib.hid (hdOk_at (mtOk_iff.1 hoka).2.1).1
  have L2 := Lib.hid (hdOk_at hokb).1
  have HY : Hid ((∀ i, i < 8 → hitAt a b.vs i = true) → (hitOk a b.vs) = true) := Lib.hid (fun h => by simp [hitOk, hoka, hokb, allB_true h])
  have HN : Hid (∀ i, i < 8 → hitAt a b.vs i = false → (hitOk a b.vs) = false) := Lib.hid (fun i hi h => by simp [hitOk, allB_false i hi h])
  go_enter Try.func103, Try.ntmps103
  go_wp2_with fail
  refine at_world (w := w) ?G (fun hG => (matchOkS_any _ _ a ⟨_, _, rfl, R0.out.grow hG, R1.out.grow hG⟩ wa).mono ?_)
  case G => ((repeat (first | with_reducible exact Grow.refl _ | (with_reducible refine Grow.alloc_ ?_ _) | (with_reducible refine Grow.setCell_ ?_ (by first | exact Nat.le_refl _ | (simp only [World.alloc, Array.size_push]; omega) | omega) _))))
  rintro e w1 ⟨rfl, hg⟩
  rw [hoka]
  have G1 := Lib.hid (hG.trans hg)
  have BA := Lib.hid ((Box.alloc w _ _).grow ((Grow.alloc _ _).trans hg))
  have BB := Lib.hid (((Box.alloc (w.alloc _) _ _).grow hg).at_ (b' := w.heap.size + 1) (by simp only [World.alloc, Array.size_push]))
  clear hG hg
  have r0 := BB.out.one
  go_wp2_with fail
  refine (headOkS_any _ _ b ⟨_, rfl, R2.out.grow G1.out⟩).mono ?_
  rintro e w2 ⟨rfl, hg⟩
  rw [hokb]
  have G2 := Lib.hid (G1.out.trans hg)
  have BA := Lib.hid (BA.out.grow hg)
  have BB := Lib.hid (BB.out.grow hg)
  clear hg r0
  go_wp2
  go_loopw [5] (fun i wr => ∃ k : Nat, k ≤ 8 ∧ i = .int .i64 k ∧ (∀ j, j < k → hitAt a b.vs j = true) ∧ Grow w2 wr) (fun i _ => 8 - (intOf i).toNat)
  case atStart => exact ⟨0, Nat.zero_le _, rfl, fun j hj => absurd hj (Nat.not_lt_zero _), Grow.refl _⟩
  case round =>
    obtain ⟨k, hk, rfl, hal, hgr⟩ := hrel
    have HA := Lib.hid hal; have HW := Lib.hid hgr
    clear hal hgr
    by_cases hlt : k < 8
    · skip
      have hl0 : k < a.vs.length := by rw [L0.out]; exact hlt
      obtain ⟨b0, o0, rfl, hcs0⟩ := H0.out k hl0
      have C0 := Lib.hid hcs0
      have hd0 : nv a.vs k = a.vs[k].toNat := by unfold nv; rw [getD_at hl0]
      clear hcs0
      have hl1 : k < a.ms.length := by rw [L1.out]; exact hlt
      obtain ⟨b1, o1, rfl, hcs1⟩ := H1.out k hl1
      have C1 := Lib.hid hcs1
      have hd1 : nv a.ms k = a.ms[k].toNat := by unfold nv; rw [getD_at hl1]
      clear hcs1
      have hl2 : k < b.vs.length := by rw [L2.out]; exact hlt
      obtain ⟨b2, o2, rfl, hcs2⟩ := H2.out k hl2
      have C2 := Lib.hid hcs2
      have hd2 : nv b.vs k = b.vs[k].toNat := by unfold nv; rw [getD_at hl2]
      clear hcs2
      have ka := KA.out k hlt
      rw [getD_at hl0, getD_at hl1] at ka
      have ka1 := fitB_bd ka.1
      have kb0 := KB.out.2 k hlt
      rw [getD_at hl2] at kb0
      have kb := fitB_bd kb0
      obtain ⟨nb, hnb, hnb48⟩ := bits_nb k
      have KF := Lib.hid (fun w => fieldBitsS_any (k : Nat) w)
      rw [hnb] at KF
      have hml := fit_lt ka.1 hnb
      have hsub : a.vs[k].toNat ||| a.ms[k].toNat = a.ms[k].toNat := by rw [← hd0, ← hd1]; exact ka.2.2.2
      have hiff := hit_iff (h := b.vs[k].toNat) hml hsub
      have HT : Hid ((∀ q, q < nb → a.ms[k].toNat.testBit q = true → a.vs[k].toNat.testBit q = b.vs[k].toNat.testBit q) → hitAt a b.vs k = true) := Lib.hid (fun h => by unfold hitAt; rw [hd0, hd1, hd2]; exact decide_eq_true (hiff.2 h))
      have HT2 : Hid (hitAt a b.vs k = true → ∀ q, q < nb → a.ms[k].toNat.testBit q = true → a.vs[k].toNat.testBit q = b.vs[k].toNat.testBit q) := Lib.hid (fun h => by unfold hitAt at h; rw [hd0, hd1, hd2] at h; exact hiff.1 (of_decide_eq_true h))
      clear hml hiff hsub
      have kav : 0 ≤ a.vs[k] ∧ a.vs[k] ≤ 281474976710655 := by omega
      have HD := Lib.hid (And.intro ka ka1); clear ka
      go_wp2
      obtain ⟨wo, hwo⟩ : ∃ wo : World, wo = wr := ⟨_, rfl⟩
      subst hwo
      rw [show decide ((k : Int) < 8) = true from decide_eq_true (by omega)]
      go_loopw [6] (fun i wr => ∃ j : Nat, j ≤ nb ∧ i = .int .i64 j ∧ (∀ q, q < j → a.ms[k].toNat.testBit q = true → a.vs[k].toNat.testBit q = b.vs[k].toNat.testBit q) ∧ Grow wo wr) (fun i _ => nb - (intOf i).toNat)
      case atStart => exact ⟨0, Nat.zero_le _, rfl, fun j hj => absurd hj (Nat.not_lt_zero _), Grow.refl _⟩
      case round =>
        obtain ⟨j, hj, rfl, hpq, hgi⟩ := hrel
        have HP := Lib.hid hpq; clear hpq
        by_cases hjl : j < nb
        · skip
          have J0 := Lib.hid (l05Bit_any a.vs[k] j (by omega) (by omega) (by omega))
          have J1 := Lib.hid (l05Bit_any a.ms[k] j (by omega) (by omega) (by omega))
          have J2 := Lib.hid (l05Bit_any b.vs[k] j (by omega) (by omega) (by omega))
          cases tm : a.ms[k].toNat.testBit j
          · skip
            go_wp2_with fail
            refine (KF.out _).mono ?_
            rintro e wq ⟨rfl, hg⟩
            have HQ := Lib.hid ((HW.out.trans hgi).trans hg)
            have HI := Lib.hid (hgi.trans hg)
            clear hgi hg
            go_wp2_with fail
            have HG := Lib.hid (G2.out.trans HQ.out)
            have BAk := Lib.hid (BA.out.grow HQ.out)
            have BBk := Lib.hid (BB.out.grow HQ.out)
            have hne : Nonempty (Cl (Grow wq)) := ⟨⟨wq, Grow.refl _⟩⟩
            have ⟨p0, p1⟩ := BAk.out.two_
            have p2 := BBk.out.one_
            have x0 : ∀ x : Cl (Grow wq), x.w.cell? ⟨b0, o0 + k, none⟩ = some (.int .i64 a.vs[k]) := fun x => x.ok.cell (HG.out.cell C0.out)
            have x1 : ∀ x : Cl (Grow wq), x.w.cell? ⟨b1, o1 + k, none⟩ = some (.int .i64 a.ms[k]) := fun x => x.ok.cell (HG.out.cell C1.out)
            have x2 : ∀ x : Cl (Grow wq), x.w.cell? ⟨b2, o2 + k, none⟩ = some (.int .i64 b.vs[k]) := fun x => x.ok.cell (HG.out.cell C2.out)
            refine wp_region_mix (Cls (Grow wq)) 25 #[false, false, false, false, false, false, false, false, false, false, false, false, false, false, false, false, false, false, false, false, false, false, false, false, false] (by kernel_rfl) (by kernel_rfl) ⟨⟨_, Grow.drewN _ 1⟩, rfl⟩ ?_
            refine anyC_seg [0, 1, 2, 3, 4, 5] #[true, true, true, true, true, true, false, false, false, false, false, false, false, false, false, false, false, false, false, false, false, false, false, false, false] (fuel := 19) rfl (by kernel_rfl) ⟨⟨_, Grow.drewN _ 1⟩, rfl⟩ ?_
            simp only [pickOps, List.getD_cons_succ, List.getD_cons_zero]
            repeat (go_big_quiet_step (fail))
            refine wpQuiet_nil ?_
            refine anyC_sole 6 #[true, true, true, true, true, true, true, false, false, false, false, false, false, false, false, false, false, false, false, false, false, false, false, false, false] (fuel := 18) (by kernel_rfl) ?_
            simp only [List.getD_cons_succ, List.getD_cons_zero]
            go_wp2_with fail
            refine (J1.out _).mono ?_
            rintro e w3 ⟨rfl, hg⟩
            rw [bitV_0 tm]
            have D0 := Lib.hid ((Grow.drewN _ 1).trans hg); clear hg
            go_wp2
            refine ⟨⟨⟨_, D0.out⟩, rfl⟩, ?_⟩
            refine anyC_seg [7, 8, 9, 10, 11, 12, 13, 14, 16, 17, 18, 19, 20, 21] #[true, true, true, true, true, true, true, true, true, true, true, true, true, true, true, false, true, true, true, true, true, true, false, false, false] (fuel := 4) rfl (by kernel_rfl) ⟨⟨_, D0.out⟩, rfl⟩ ?_
            simp only [pickOps, List.getD_cons_succ, List.getD_cons_zero]
            repeat (go_big_quiet_step (fail))
            refine wpQuiet_nil ?_
            refine anyC_sole 15 #[true, true, true, true, true, true, true, true, true, true, true, true, true, true, true, true, true, true, true, true, true, true, false, false, false] (fuel := 3) (by kernel_rfl) ?_
            simp only [List.getD_cons_succ, List.getD_cons_zero]
            go_wp2
            refine ⟨⟨⟨_, D0.out⟩, rfl⟩, ?_⟩
            refine anyC_sole 22 #[true, true, true, true, true, true, true, true, true, true, true, true, true, true, true, true, true, true, true, true, true, true, true, false, false] (fuel := 2) (by kernel_rfl) ?_
            simp only [List.getD_cons_succ, List.getD_cons_zero]
            go_wp2
            refine ⟨⟨⟨_, D0.out⟩, rfl⟩, ?_⟩
            refine anyC_seg [23, 24] #[true, true, true, true, true, true, true, true, true, true, true, true, true, true, true, true, true, true, true, true, true, true, true, true, true] (fuel := 0) rfl (by kernel_rfl) ⟨⟨_, D0.out⟩, rfl⟩ ?_
            simp only [pickOps, List.getD_cons_succ, List.getD_cons_zero]
            repeat (go_big_quiet_step (fail))
            refine wpQuiet_nil ?_
            refine anyC_done (by kernel_rfl) ?_
            go_wp2
            go_roundw
            case rel =>
              refine ⟨j + 1, by omega, by go_num, fun q hq => ?_, HI.out.trans (D0.out)⟩
              rcases Nat.lt_or_ge q j with h' | h'
              · exact HP.out q h'
              · obtain rfl : q = j := by omega
                intro hq; rw [tm] at hq; cases hq
            case measure => simp [intOf]; omega

          by_cases tv : a.vs[k].toNat.testBit j = b.vs[k].toNat.testBit j
          · have hbn : (bitV a.vs[k] j != bitV b.vs[k] j) = false := by rw [bitV_eq.2 tv]; simp
            go_wp2_with fail
            refine (KF.out _).mono ?_
            rintro e wq ⟨rfl, hg⟩
            have HQ := Lib.hid ((HW.out.trans hgi).trans hg)
            have HI := Lib.hid (hgi.trans hg)
            clear hgi hg
            go_wp2_with fail
            have HG := Lib.hid (G2.out.trans HQ.out)
            have BAk := Lib.hid (BA.out.grow HQ.out)
            have BBk := Lib.hid (BB.out.grow HQ.out)
            have hne : Nonempty (Cl (Grow wq)) := ⟨⟨wq, Grow.refl _⟩⟩
            have ⟨p0, p1⟩ := BAk.out.two_
            have p2 := BBk.out.one_
            have x0 : ∀ x : Cl (Grow wq), x.w.cell? ⟨b0, o0 + k, none⟩ = some (.int .i64 a.vs[k]) := fun x => x.ok.cell (HG.out.cell C0.out)
            have x1 : ∀ x : Cl (Grow wq), x.w.cell? ⟨b1, o1 + k, none⟩ = some (.int .i64 a.ms[k]) := fun x => x.ok.cell (HG.out.cell C1.out)
            have x2 : ∀ x : Cl (Grow wq), x.w.cell? ⟨b2, o2 + k, none⟩ = some (.int .i64 b.vs[k]) := fun x => x.ok.cell (HG.out.cell C2.out)
            refine wp_region_mix (Cls (Grow wq)) 25 #[false, false, false, false, false, false, false, false, false, false, false, false, false, false, false, false, false, false, false, false, false, false, false, false, false] (by kernel_rfl) (by kernel_rfl) ⟨⟨_, Grow.drewN _ 1⟩, rfl⟩ ?_
            refine anyC_seg [0, 1, 2, 3, 4, 5] #[true, true, true, true, true, true, false, false, false, false, false, false, false, false, false, false, false, false, false, false, false, false, false, false, false] (fuel := 19) rfl (by kernel_rfl) ⟨⟨_, Grow.drewN _ 1⟩, rfl⟩ ?_
            simp only [pickOps, List.getD_cons_succ, List.getD_cons_zero]
            repeat (go_big_quiet_step (fail))
            refine wpQuiet_nil ?_
            refine anyC_sole 6 #[true, true, true, true, true, true, true, false, false, false, false, false, false, false, false, false, false, false, false, false, false, false, false, false, false] (fuel := 18) (by kernel_rfl) ?_
            simp only [List.getD_cons_succ, List.getD_cons_zero]
            go_wp2_with fail
            refine (J1.out _).mono ?_
            rintro e w3 ⟨rfl, hg⟩
            rw [bitV_1 tm]
            have D0 := Lib.hid ((Grow.drewN _ 1).trans hg); clear hg
            go_wp2
            refine ⟨⟨⟨_, D0.out⟩, rfl⟩, ?_⟩
            refine anyC_seg [7, 8, 9, 10, 11, 12, 13, 14, 16, 17, 18, 19, 20, 21] #[true, true, true, true, true, true, true, true, true, true, true, true, true, true, true, false, true, true, true, true, true, true, false, false, false] (fuel := 4) rfl (by kernel_rfl) ⟨⟨_, D0.out⟩, rfl⟩ ?_
            simp only [pickOps, List.getD_cons_succ, List.getD_cons_zero]
            repeat (go_big_quiet_step (fail))
            refine wpQuiet_nil ?_
            refine anyC_sole 15 #[true, true, true, true, true, true, true, true, true, true, true, true, true, true, true, true, true, true, true, true, true, true, false, false, false] (fuel := 3) (by kernel_rfl) ?_
            simp only [List.getD_cons_succ, List.getD_cons_zero]
            go_wp2_with fail
            refine (J0.out _).mono ?_
            rintro e w4 ⟨rfl, hg⟩

            have D1 := Lib.hid ((D0.out).trans hg); clear hg
            go_wp2
            refine ⟨⟨⟨_, D1.out⟩, rfl⟩, ?_⟩
            refine anyC_sole 22 #[true, true, true, true, true, true, true, true, true, true, true, true, true, true, true, true, true, true, true, true, true, true, true, false, false] (fuel := 2) (by kernel_rfl) ?_
            simp only [List.getD_cons_succ, List.getD_cons_zero]
            go_wp2_with fail
            refine (J2.out _).mono ?_
            rintro e w5 ⟨rfl, hg⟩

            have D2 := Lib.hid ((D1.out).trans hg); clear hg
            go_wp2
            refine ⟨⟨⟨_, D2.out⟩, rfl⟩, ?_⟩
            refine anyC_seg [23, 24] #[true, true, true, true, true, true, true, true, true, true, true, true, true, true, true, true, true, true, true, true, true, true, true, true, true] (fuel := 0) rfl (by kernel_rfl) ⟨⟨_, D2.out⟩, rfl⟩ ?_
            simp only [pickOps, List.getD_cons_succ, List.getD_cons_zero]
            repeat (go_big_quiet_step (fail))
            refine wpQuiet_nil ?_
            refine anyC_done (by kernel_rfl) ?_
            go_wp2
            go_roundw
            case rel =>
              refine ⟨j + 1, by omega, by go_num, fun q hq => ?_, HI.out.trans (D2.out)⟩
              rcases Nat.lt_or_ge q j with h' | h'
              · exact HP.out q h'
              · obtain rfl : q = j := by omega
                exact fun _ => tv
            case measure => simp [intOf]; omega

          · have hbn : (bitV a.vs[k] j != bitV b.vs[k] j) = true := by simpa using fun h => tv (bitV_eq.1 h)
            have HE : Hid (hitOk a b.vs = false) := Lib.hid (HN.out k hlt (by
              cases hh : hitAt a b.vs k
              · rfl
              · exact absurd (HT2.out hh j hjl tm) tv))
            go_wp2_with fail
            refine (KF.out _).mono ?_
            rintro e wq ⟨rfl, hg⟩
            have HQ := Lib.hid ((HW.out.trans hgi).trans hg)
            have HI := Lib.hid (hgi.trans hg)
            clear hgi hg
            go_wp2_with fail
            have HG := Lib.hid (G2.out.trans HQ.out)
            have BAk := Lib.hid (BA.out.grow HQ.out)
            have BBk := Lib.hid (BB.out.grow HQ.out)
            have hne : Nonempty (Cl (Grow wq)) := ⟨⟨wq, Grow.refl _⟩⟩
            have ⟨p0, p1⟩ := BAk.out.two_
            have p2 := BBk.out.one_
            have x0 : ∀ x : Cl (Grow wq), x.w.cell? ⟨b0, o0 + k, none⟩ = some (.int .i64 a.vs[k]) := fun x => x.ok.cell (HG.out.cell C0.out)
            have x1 : ∀ x : Cl (Grow wq), x.w.cell? ⟨b1, o1 + k, none⟩ = some (.int .i64 a.ms[k]) := fun x => x.ok.cell (HG.out.cell C1.out)
            have x2 : ∀ x : Cl (Grow wq), x.w.cell? ⟨b2, o2 + k, none⟩ = some (.int .i64 b.vs[k]) := fun x => x.ok.cell (HG.out.cell C2.out)
            refine wp_region_mix (Cls (Grow wq)) 25 #[false, false, false, false, false, false, false, false, false, false, false, false, false, false, false, false, false, false, false, false, false, false, false, false, false] (by kernel_rfl) (by kernel_rfl) ⟨⟨_, Grow.drewN _ 1⟩, rfl⟩ ?_
            refine anyC_seg [0, 1, 2, 3, 4, 5] #[true, true, true, true, true, true, false, false, false, false, false, false, false, false, false, false, false, false, false, false, false, false, false, false, false] (fuel := 19) rfl (by kernel_rfl) ⟨⟨_, Grow.drewN _ 1⟩, rfl⟩ ?_
            simp only [pickOps, List.getD_cons_succ, List.getD_cons_zero]
            repeat (go_big_quiet_step (fail))
            refine wpQuiet_nil ?_
            refine anyC_sole 6 #[true, true, true, true, true, true, true, false, false, false, false, false, false, false, false, false, false, false, false, false, false, false, false, false, false] (fuel := 18) (by kernel_rfl) ?_
            simp only [List.getD_cons_succ, List.getD_cons_zero]
            go_wp2_with fail
            refine (J1.out _).mono ?_
            rintro e w3 ⟨rfl, hg⟩
            rw [bitV_1 tm]
            have D0 := Lib.hid ((Grow.drewN _ 1).trans hg); clear hg
            go_wp2
            refine ⟨⟨⟨_, D0.out⟩, rfl⟩, ?_⟩
            refine anyC_seg [7, 8, 9, 10, 11, 12, 13, 14, 16, 17, 18, 19, 20, 21] #[true, true, true, true, true, true, true, true, true, true, true, true, true, true, true, false, true, true, true, true, true, true, false, false, false] (fuel := 4) rfl (by kernel_rfl) ⟨⟨_, D0.out⟩, rfl⟩ ?_
            simp only [pickOps, List.getD_cons_succ, List.getD_cons_zero]
            repeat (go_big_quiet_step (fail))
            refine wpQuiet_nil ?_
            refine anyC_sole 15 #[true, true, true, true, true, true, true, true, true, true, true, true, true, true, true, true, true, true, true, true, true, true, false, false, false] (fuel := 3) (by kernel_rfl) ?_
            simp only [List.getD_cons_succ, List.getD_cons_zero]
            go_wp2_with fail
            refine (J0.out _).mono ?_
            rintro e w4 ⟨rfl, hg⟩

            have D1 := Lib.hid ((D0.out).trans hg); clear hg
            go_wp2
            refine ⟨⟨⟨_, D1.out⟩, rfl⟩, ?_⟩
            refine anyC_sole 22 #[true, true, true, true, true, true, true, true, true, true, true, true, true, true, true, true, true, true, true, true, true, true, true, false, false] (fuel := 2) (by kernel_rfl) ?_
            simp only [List.getD_cons_succ, List.getD_cons_zero]
            go_wp2_with fail
            refine (J2.out _).mono ?_
            rintro e w5 ⟨rfl, hg⟩

            have D2 := Lib.hid ((D1.out).trans hg); clear hg
            go_wp2
            refine ⟨⟨⟨_, D2.out⟩, rfl⟩, ?_⟩
            refine anyC_seg [23, 24] #[true, true, true, true, true, true, true, true, true, true, true, true, true, true, true, true, true, true, true, true, true, true, true, true, true] (fuel := 0) rfl (by kernel_rfl) ⟨⟨_, D2.out⟩, rfl⟩ ?_
            simp only [pickOps, List.getD_cons_succ, List.getD_cons_zero]
            repeat (go_big_quiet_step (fail))
            refine wpQuiet_nil ?_
            refine anyC_done (by kernel_rfl) ?_
            go_wp2
            go_ret
            exact ⟨ret_bool HE.out.symm, HG.out.trans (D2.out)⟩

        · obtain rfl : j = nb := by omega
          have HK : Hid (hitAt a b.vs k = true) := Lib.hid (HT.out HP.out)
          go_wp2_with fail
          refine (KF.out _).mono ?_
          rintro e wq ⟨rfl, hg⟩
          have HQ := Lib.hid ((HW.out.trans hgi).trans hg)
          clear hgi hg
          go_wp2
          go_roundw
          case rel => exact ⟨k + 1, by omega, by go_num, below_succ (p := fun j => hitAt a b.vs j) HA.out HK.out, HQ.out⟩
          case measure => simp [intOf]; omega
    · obtain rfl : k = 8 := by omega
      have HE := Lib.hid (HY.out HA.out)
      go_wp2
      go_ret
      exact ⟨ret_bool HE.out.symm, G2.out.trans HW.out⟩
--% CoversS 107
theorem coversS_any (w : World) (V U : Value) (a : DatM) (b : DatM) (h : RdM w V a) (h2 : RdM w U b) (wa : WfM a) (wb : WfM b) : Calls Try.prog 107 #[V, U] w (RetV (.bool (cvOk a b)) w) := by
  obtain ⟨v0, v1, rfl, hv0, hv1⟩ := h
  obtain ⟨v2, v3, rfl, hv2, hv3⟩ := h2
  have R0 := Lib.hid hv0
  obtain ⟨a0, c0, rfl, hlc0, hm0, hn0, hc0⟩ := Rd.ints hv0
  have H0 := Lib.hid hc0
  unfold maxLen at hm0
  clear hv0 hn0 hc0
  have R1 := Lib.hid hv1
  obtain ⟨a1, c1, rfl, hlc1, hm1, hn1, hc1⟩ := Rd.ints hv1
  have H1 := Lib.hid hc1
  unfold maxLen at hm1
  clear hv1 hn1 hc1
  have R2 := Lib.hid hv2
  obtain ⟨a2, c2, rfl, hlc2, hm2, hn2, hc2⟩ := Rd.ints hv2
  have H2 := Lib.hid hc2
  unfold maxLen at hm2
  clear hv2 hn2 hc2
  have R3 := Lib.hid hv3
  obtain ⟨a3, c3, rfl, hlc3, hm3, hn3, hc3⟩ := Rd.ints hv3
  have H3 := Lib.hid hc3
  unfold maxLen at hm3
  clear hv3 hn3 hc3
  cases hoka : mtOk a
  · have HE : Hid ((cvOk a b) = false) := Lib.hid (by simp [cvOk, hoka])
    go_enter Try.func107, Try.ntmps107
    go_wp2_with fail
    refine at_world (w := w) ?G (fun hG => (matchOkS_any _ _ a ⟨_, _, rfl, R0.out.grow hG, R1.out.grow hG⟩ wa).mono ?_)
    case G => ((repeat (first | with_reducible exact Grow.refl _ | (with_reducible refine Grow.alloc_ ?_ _) | (with_reducible refine Grow.setCell_ ?_ (by first | exact Nat.le_refl _ | (simp only [World.alloc, Array.size_push]; omega) | omega) _))))
    rintro e w1 ⟨rfl, hg⟩
    rw [hoka]
    have G1 := Lib.hid (hG.trans hg)
    have BA := Lib.hid ((Box.alloc w _ _).grow ((Grow.alloc _ _).trans hg))
    have BB := Lib.hid (((Box.alloc (w.alloc _) _ _).grow hg).at_ (b' := w.heap.size + 1) (by simp only [World.alloc, Array.size_push]))
    clear hG hg
    go_wp2
    go_ret
    exact ⟨ret_bool HE.out.symm, G1.out⟩
  cases hokb : mtOk b
  · have HE : Hid ((cvOk a b) = false) := Lib.hid (by simp [cvOk, hokb])
    go_enter Try.func107, Try.ntmps107
    go_wp2_with fail
    refine at_world (w := w) ?G (fun hG => (matchOkS_any _ _ a ⟨_, _, rfl, R0.out.grow hG, R1.out.grow hG⟩ wa).mono ?_)
    case G => ((repeat (first | with_reducible exact Grow.refl _ | (with_reducible refine Grow.alloc_ ?_ _) | (with_reducible refine Grow.setCell_ ?_ (by first | exact Nat.le_refl _ | (simp only [World.alloc, Array.size_push]; omega) | omega) _))))
    rintro e w1 ⟨rfl, hg⟩
    rw [hoka]
    have G1 := Lib.hid (hG.trans hg)
    have BA := Lib.hid ((Box.alloc w _ _).grow ((Grow.alloc _ _).trans hg))
    have BB := Lib.hid (((Box.alloc (w.alloc _) _ _).grow hg).at_ (b' := w.heap.size + 1) (by simp only [World.alloc, Array.size_push]))
    clear hG hg
    have ⟨r0, r1⟩ := BB.out.two
    go_wp2_with fail
    refine (matchOkS_any _ _ b ⟨_, _, rfl, R2.out.grow G1.out, R3.out.grow G1.out⟩ wb).mono ?_
    rintro e w2 ⟨rfl, hg⟩
    rw [hokb]
    have G2 := Lib.hid (G1.out.trans hg)
    have BA := Lib.hid (BA.out.grow hg)
    have BB := Lib.hid (BB.out.grow hg)
    clear hg r0 r1
    go_wp2
    go_ret
    exact ⟨ret_bool HE.out.symm, G2.out⟩
  have KA := Lib.hid (mtOk_at hoka)
  have KB := Lib.hid (mtOk_at hokb)
  have L0 := Lib.hid (mtOk_iff.1 hoka).1; have L1 := Lib.hid (hdOk_at (mtOk_iff.1 hoka).2.1).1
  have L2 := Lib.hid (mtOk_iff.1 hokb).1; have L3 := Lib.hid (hdOk_at (mtOk_iff.1 hokb).2.1).1
  have HY : Hid ((∀ i, i < 8 → cvAt a b i = true) → (cvOk a b) = true) := Lib.hid (fun h => by simp [cvOk, hoka, hokb, allB_true h])
  have HN : Hid (∀ i, i < 8 → cvAt a b i = false → (cvOk a b) = false) := Lib.hid (fun i hi h => by simp [cvOk, allB_false i hi h])
  go_enter Try.func107, Try.ntmps107
  go_wp2_with fail
  refine at_world (w := w) ?G (fun hG => (matchOkS_any _ _ a ⟨_, _, rfl, R0.out.grow hG, R1.out.grow hG⟩ wa).mono ?_)
  case G => ((repeat (first | with_reducible exact Grow.refl _ | (with_reducible refine Grow.alloc_ ?_ _) | (with_reducible refine Grow.setCell_ ?_ (by first | exact Nat.le_refl _ | (simp only [World.alloc, Array.size_push]; omega) | omega) _))))
  rintro e w1 ⟨rfl, hg⟩
  rw [hoka]
  have G1 := Lib.hid (hG.trans hg)
  have BA := Lib.hid ((Box.alloc w _ _).grow ((Grow.alloc _ _).trans hg))
  have BB := Lib.hid (((Box.alloc (w.alloc _) _ _).grow hg).at_ (b' := w.heap.size + 1) (by simp only [World.alloc, Array.size_push]))
  clear hG hg
  have ⟨r0, r1⟩ := BB.out.two
  go_wp2_with fail
  refine (matchOkS_any _ _ b ⟨_, _, rfl, R2.out.grow G1.out, R3.out.grow G1.out⟩ wb).mono ?_
  rintro e w2 ⟨rfl, hg⟩
  rw [hokb]
  have G2 := Lib.hid (G1.out.trans hg)
  have BA := Lib.hid (BA.out.grow hg)
  have BB := Lib.hid (BB.out.grow hg)
  clear hg r0 r1
  go_wp2
  go_loopw [5] (fun i wr => ∃ k : Nat, k ≤ 8 ∧ i = .int .i64 k ∧ (∀ j, j < k → cvAt a b j = true) ∧ Grow w2 wr) (fun i _ => 8 - (intOf i).toNat)
  case atStart => exact ⟨0, Nat.zero_le _, rfl, fun j hj => absurd hj (Nat.not_lt_zero _), Grow.refl _⟩
  case round =>
    obtain ⟨k, hk, rfl, hal, hgr⟩ := hrel
    have HA := Lib.hid hal; have HW := Lib.hid hgr
    clear hal hgr
    by_cases hlt : k < 8
    · skip
      have hl0 : k < a.vs.length := by rw [L0.out]; exact hlt
      obtain ⟨b0, o0, rfl, hcs0⟩ := H0.out k hl0
      have C0 := Lib.hid hcs0
      have hd0 : nv a.vs k = a.vs[k].toNat := by unfold nv; rw [getD_at hl0]
      clear hcs0
      have hl1 : k < a.ms.length := by rw [L1.out]; exact hlt
      obtain ⟨b1, o1, rfl, hcs1⟩ := H1.out k hl1
      have C1 := Lib.hid hcs1
      have hd1 : nv a.ms k = a.ms[k].toNat := by unfold nv; rw [getD_at hl1]
      clear hcs1
      have hl2 : k < b.vs.length := by rw [L2.out]; exact hlt
      obtain ⟨b2, o2, rfl, hcs2⟩ := H2.out k hl2
      have C2 := Lib.hid hcs2
      have hd2 : nv b.vs k = b.vs[k].toNat := by unfold nv; rw [getD_at hl2]
      clear hcs2
      have hl3 : k < b.ms.length := by rw [L3.out]; exact hlt
      obtain ⟨b3, o3, rfl, hcs3⟩ := H3.out k hl3
      have C3 := Lib.hid hcs3
      have hd3 : nv b.ms k = b.ms[k].toNat := by unfold nv; rw [getD_at hl3]
      clear hcs3
      have ka := KA.out k hlt
      rw [getD_at hl0, getD_at hl1] at ka
      have ka1 := fitB_bd ka.1
      have kb := KB.out k hlt
      rw [getD_at hl2, getD_at hl3] at kb
      have kb1 := fitB_bd kb.1
      obtain ⟨nb, hnb, hnb48⟩ := bits_nb k
      have KF := Lib.hid (fun w => fieldBitsS_any (k : Nat) w)
      rw [hnb] at KF
      have hml := fit_lt ka.1 hnb
      have hsub : a.vs[k].toNat ||| a.ms[k].toNat = a.ms[k].toNat := by rw [← hd0, ← hd1]; exact ka.2.2.2
      have hiff := cover_iff (bm := b.ms[k].toNat) (bv := b.vs[k].toNat) hml hsub
      have HT : Hid ((∀ q, q < nb → a.ms[k].toNat.testBit q = true → b.ms[k].toNat.testBit q = true ∧ a.vs[k].toNat.testBit q = b.vs[k].toNat.testBit q) → cvAt a b k = true) := Lib.hid (fun h => by have h2 := hiff.2 h; unfold cvAt; rw [hd0, hd1, hd2, hd3, decide_eq_true h2.1, decide_eq_true h2.2]; rfl)
      have HT2 : Hid (cvAt a b k = true → ∀ q, q < nb → a.ms[k].toNat.testBit q = true → b.ms[k].toNat.testBit q = true ∧ a.vs[k].toNat.testBit q = b.vs[k].toNat.testBit q) := Lib.hid (fun h => by unfold cvAt at h; rw [hd0, hd1, hd2, hd3] at h; simp only [Bool.and_eq_true, decide_eq_true_eq] at h; exact hiff.1 h)
      clear hml hiff hsub
      have kav : 0 ≤ a.vs[k] ∧ a.vs[k] ≤ 281474976710655 := by omega
      have kbv : 0 ≤ b.vs[k] ∧ b.vs[k] ≤ 281474976710655 := by omega
      have HD := Lib.hid (And.intro ka ka1); clear ka
      go_wp2
      obtain ⟨wo, hwo⟩ : ∃ wo : World, wo = wr := ⟨_, rfl⟩
      subst hwo
      rw [show decide ((k : Int) < 8) = true from decide_eq_true (by omega)]
      go_loopw [6] (fun i wr => ∃ j : Nat, j ≤ nb ∧ i = .int .i64 j ∧ (∀ q, q < j → a.ms[k].toNat.testBit q = true → b.ms[k].toNat.testBit q = true ∧ a.vs[k].toNat.testBit q = b.vs[k].toNat.testBit q) ∧ Grow wo wr) (fun i _ => nb - (intOf i).toNat)
      case atStart => exact ⟨0, Nat.zero_le _, rfl, fun j hj => absurd hj (Nat.not_lt_zero _), Grow.refl _⟩
      case round =>
        obtain ⟨j, hj, rfl, hpq, hgi⟩ := hrel
        have HP := Lib.hid hpq; clear hpq
        by_cases hjl : j < nb
        · skip
          have J0 := Lib.hid (l05Bit_any a.vs[k] j (by omega) (by omega) (by omega))
          have J1 := Lib.hid (l05Bit_any a.ms[k] j (by omega) (by omega) (by omega))
          have J2 := Lib.hid (l05Bit_any b.vs[k] j (by omega) (by omega) (by omega))
          have J3 := Lib.hid (l05Bit_any b.ms[k] j (by omega) (by omega) (by omega))
          cases tm : a.ms[k].toNat.testBit j
          · skip
            go_wp2_with fail
            refine (KF.out _).mono ?_
            rintro e wq ⟨rfl, hg⟩
            have HQ := Lib.hid ((HW.out.trans hgi).trans hg)
            have HI := Lib.hid (hgi.trans hg)
            clear hgi hg
            go_wp2_with fail
            have HG := Lib.hid (G2.out.trans HQ.out)
            have BAk := Lib.hid (BA.out.grow HQ.out)
            have BBk := Lib.hid (BB.out.grow HQ.out)
            have hne : Nonempty (Cl (Grow wq)) := ⟨⟨wq, Grow.refl _⟩⟩
            have ⟨p0, p1⟩ := BAk.out.two_
            have ⟨p2, p3⟩ := BBk.out.two_
            have x0 : ∀ x : Cl (Grow wq), x.w.cell? ⟨b0, o0 + k, none⟩ = some (.int .i64 a.vs[k]) := fun x => x.ok.cell (HG.out.cell C0.out)
            have x1 : ∀ x : Cl (Grow wq), x.w.cell? ⟨b1, o1 + k, none⟩ = some (.int .i64 a.ms[k]) := fun x => x.ok.cell (HG.out.cell C1.out)
            have x2 : ∀ x : Cl (Grow wq), x.w.cell? ⟨b2, o2 + k, none⟩ = some (.int .i64 b.vs[k]) := fun x => x.ok.cell (HG.out.cell C2.out)
            have x3 : ∀ x : Cl (Grow wq), x.w.cell? ⟨b3, o3 + k, none⟩ = some (.int .i64 b.ms[k]) := fun x => x.ok.cell (HG.out.cell C3.out)
            refine wp_region_mix (Cls (Grow wq)) 35 #[false, false, false, false, false, false, false, false, false, false, false, false, false, false, false, false, false, false, false, false, false, false, false, false, false, false, false, false, false, false, false, false, false, false, false] (by kernel_rfl) (by kernel_rfl) ⟨⟨_, Grow.drewN _ 1⟩, rfl⟩ ?_
            refine anyC_seg [0, 1, 2, 3, 4, 5] #[true, true, true, true, true, true, false, false, false, false, false, false, false, false, false, false, false, false, false, false, false, false, false, false, false, false, false, false, false, false, false, false, false, false, false] (fuel := 29) rfl (by kernel_rfl) ⟨⟨_, Grow.drewN _ 1⟩, rfl⟩ ?_
            simp only [pickOps, List.getD_cons_succ, List.getD_cons_zero]
            repeat (go_big_quiet_step (fail))
            refine wpQuiet_nil ?_
            refine anyC_sole 6 #[true, true, true, true, true, true, true, false, false, false, false, false, false, false, false, false, false, false, false, false, false, false, false, false, false, false, false, false, false, false, false, false, false, false, false] (fuel := 28) (by kernel_rfl) ?_
            simp only [List.getD_cons_succ, List.getD_cons_zero]
            go_wp2_with fail
            refine (J1.out _).mono ?_
            rintro e w3 ⟨rfl, hg⟩
            rw [bitV_0 tm]
            have D0 := Lib.hid ((Grow.drewN _ 1).trans hg); clear hg
            go_wp2
            refine ⟨⟨⟨_, D0.out⟩, rfl⟩, ?_⟩
            refine anyC_seg [7, 8, 9, 10, 11, 12, 13, 14] #[true, true, true, true, true, true, true, true, true, true, true, true, true, true, true, false, false, false, false, false, false, false, false, false, false, false, false, false, false, false, false, false, false, false, false] (fuel := 20) rfl (by kernel_rfl) ⟨⟨_, D0.out⟩, rfl⟩ ?_
            simp only [pickOps, List.getD_cons_succ, List.getD_cons_zero]
            repeat (go_big_quiet_step (fail))
            refine wpQuiet_nil ?_
            refine anyC_sole 15 #[true, true, true, true, true, true, true, true, true, true, true, true, true, true, true, true, false, false, false, false, false, false, false, false, false, false, false, false, false, false, false, false, false, false, false] (fuel := 19) (by kernel_rfl) ?_
            simp only [List.getD_cons_succ, List.getD_cons_zero]
            go_wp2
            refine ⟨⟨⟨_, D0.out⟩, rfl⟩, ?_⟩
            refine anyC_seg [16, 17, 18, 19, 20, 21, 22, 23, 25, 26, 27, 28, 29, 30] #[true, true, true, true, true, true, true, true, true, true, true, true, true, true, true, true, true, true, true, true, true, true, true, true, false, true, true, true, true, true, true, false, false, false, false] (fuel := 5) rfl (by kernel_rfl) ⟨⟨_, D0.out⟩, rfl⟩ ?_
            simp only [pickOps, List.getD_cons_succ, List.getD_cons_zero]
            repeat (go_big_quiet_step (fail))
            refine wpQuiet_nil ?_
            refine anyC_sole 24 #[true, true, true, true, true, true, true, true, true, true, true, true, true, true, true, true, true, true, true, true, true, true, true, true, true, true, true, true, true, true, true, false, false, false, false] (fuel := 4) (by kernel_rfl) ?_
            simp only [List.getD_cons_succ, List.getD_cons_zero]
            go_wp2
            refine ⟨⟨⟨_, D0.out⟩, rfl⟩, ?_⟩
            refine anyC_sole 31 #[true, true, true, true, true, true, true, true, true, true, true, true, true, true, true, true, true, true, true, true, true, true, true, true, true, true, true, true, true, true, true, true, false, false, false] (fuel := 3) (by kernel_rfl) ?_
            simp only [List.getD_cons_succ, List.getD_cons_zero]
            go_wp2
            refine ⟨⟨⟨_, D0.out⟩, rfl⟩, ?_⟩
            refine anyC_seg [32, 33, 34] #[true, true, true, true, true, true, true, true, true, true, true, true, true, true, true, true, true, true, true, true, true, true, true, true, true, true, true, true, true, true, true, true, true, true, true] (fuel := 0) rfl (by kernel_rfl) ⟨⟨_, D0.out⟩, rfl⟩ ?_
            simp only [pickOps, List.getD_cons_succ, List.getD_cons_zero]
            repeat (go_big_quiet_step (fail))
            refine wpQuiet_nil ?_
            refine anyC_done (by kernel_rfl) ?_
            go_wp2
            go_roundw
            case rel =>
              refine ⟨j + 1, by omega, by go_num, fun q hq => ?_, HI.out.trans (D0.out)⟩
              rcases Nat.lt_or_ge q j with h' | h'
              · exact HP.out q h'
              · obtain rfl : q = j := by omega
                intro hq; rw [tm] at hq; cases hq
            case measure => simp [intOf]; omega

          cases tb : b.ms[k].toNat.testBit j
          · have HE : Hid (cvOk a b = false) := Lib.hid (HN.out k hlt (by
              cases hh : cvAt a b k
              · rfl
              · have := (HT2.out hh j hjl tm).1; rw [tb] at this; cases this))
            go_wp2_with fail
            refine (KF.out _).mono ?_
            rintro e wq ⟨rfl, hg⟩
            have HQ := Lib.hid ((HW.out.trans hgi).trans hg)
            have HI := Lib.hid (hgi.trans hg)
            clear hgi hg
            go_wp2_with fail
            have HG := Lib.hid (G2.out.trans HQ.out)
            have BAk := Lib.hid (BA.out.grow HQ.out)
            have BBk := Lib.hid (BB.out.grow HQ.out)
            have hne : Nonempty (Cl (Grow wq)) := ⟨⟨wq, Grow.refl _⟩⟩
            have ⟨p0, p1⟩ := BAk.out.two_
            have ⟨p2, p3⟩ := BBk.out.two_
            have x0 : ∀ x : Cl (Grow wq), x.w.cell? ⟨b0, o0 + k, none⟩ = some (.int .i64 a.vs[k]) := fun x => x.ok.cell (HG.out.cell C0.out)
            have x1 : ∀ x : Cl (Grow wq), x.w.cell? ⟨b1, o1 + k, none⟩ = some (.int .i64 a.ms[k]) := fun x => x.ok.cell (HG.out.cell C1.out)
            have x2 : ∀ x : Cl (Grow wq), x.w.cell? ⟨b2, o2 + k, none⟩ = some (.int .i64 b.vs[k]) := fun x => x.ok.cell (HG.out.cell C2.out)
            have x3 : ∀ x : Cl (Grow wq), x.w.cell? ⟨b3, o3 + k, none⟩ = some (.int .i64 b.ms[k]) := fun x => x.ok.cell (HG.out.cell C3.out)
            refine wp_region_mix (Cls (Grow wq)) 35 #[false, false, false, false, false, false, false, false, false, false, false, false, false, false, false, false, false, false, false, false, false, false, false, false, false, false, false, false, false, false, false, false, false, false, false] (by kernel_rfl) (by kernel_rfl) ⟨⟨_, Grow.drewN _ 1⟩, rfl⟩ ?_
            refine anyC_seg [0, 1, 2, 3, 4, 5] #[true, true, true, true, true, true, false, false, false, false, false, false, false, false, false, false, false, false, false, false, false, false, false, false, false, false, false, false, false, false, false, false, false, false, false] (fuel := 29) rfl (by kernel_rfl) ⟨⟨_, Grow.drewN _ 1⟩, rfl⟩ ?_
            simp only [pickOps, List.getD_cons_succ, List.getD_cons_zero]
            repeat (go_big_quiet_step (fail))
            refine wpQuiet_nil ?_
            refine anyC_sole 6 #[true, true, true, true, true, true, true, false, false, false, false, false, false, false, false, false, false, false, false, false, false, false, false, false, false, false, false, false, false, false, false, false, false, false, false] (fuel := 28) (by kernel_rfl) ?_
            simp only [List.getD_cons_succ, List.getD_cons_zero]
            go_wp2_with fail
            refine (J1.out _).mono ?_
            rintro e w3 ⟨rfl, hg⟩
            rw [bitV_1 tm]
            have D0 := Lib.hid ((Grow.drewN _ 1).trans hg); clear hg
            go_wp2
            refine ⟨⟨⟨_, D0.out⟩, rfl⟩, ?_⟩
            refine anyC_seg [7, 8, 9, 10, 11, 12, 13, 14] #[true, true, true, true, true, true, true, true, true, true, true, true, true, true, true, false, false, false, false, false, false, false, false, false, false, false, false, false, false, false, false, false, false, false, false] (fuel := 20) rfl (by kernel_rfl) ⟨⟨_, D0.out⟩, rfl⟩ ?_
            simp only [pickOps, List.getD_cons_succ, List.getD_cons_zero]
            repeat (go_big_quiet_step (fail))
            refine wpQuiet_nil ?_
            refine anyC_sole 15 #[true, true, true, true, true, true, true, true, true, true, true, true, true, true, true, true, false, false, false, false, false, false, false, false, false, false, false, false, false, false, false, false, false, false, false] (fuel := 19) (by kernel_rfl) ?_
            simp only [List.getD_cons_succ, List.getD_cons_zero]
            go_wp2_with fail
            refine (J3.out _).mono ?_
            rintro e w4 ⟨rfl, hg⟩
            rw [bitV_0 tb]
            have D1 := Lib.hid ((D0.out).trans hg); clear hg
            go_wp2
            refine ⟨⟨⟨_, D1.out⟩, rfl⟩, ?_⟩
            refine anyC_seg [16, 17, 18, 19, 20, 21, 22, 23, 25, 26, 27, 28, 29, 30] #[true, true, true, true, true, true, true, true, true, true, true, true, true, true, true, true, true, true, true, true, true, true, true, true, false, true, true, true, true, true, true, false, false, false, false] (fuel := 5) rfl (by kernel_rfl) ⟨⟨_, D1.out⟩, rfl⟩ ?_
            simp only [pickOps, List.getD_cons_succ, List.getD_cons_zero]
            repeat (go_big_quiet_step (fail))
            refine wpQuiet_nil ?_
            refine anyC_sole 24 #[true, true, true, true, true, true, true, true, true, true, true, true, true, true, true, true, true, true, true, true, true, true, true, true, true, true, true, true, true, true, true, false, false, false, false] (fuel := 4) (by kernel_rfl) ?_
            simp only [List.getD_cons_succ, List.getD_cons_zero]
            go_wp2
            refine ⟨⟨⟨_, D1.out⟩, rfl⟩, ?_⟩
            refine anyC_sole 31 #[true, true, true, true, true, true, true, true, true, true, true, true, true, true, true, true, true, true, true, true, true, true, true, true, true, true, true, true, true, true, true, true, false, false, false] (fuel := 3) (by kernel_rfl) ?_
            simp only [List.getD_cons_succ, List.getD_cons_zero]
            go_wp2
            refine ⟨⟨⟨_, D1.out⟩, rfl⟩, ?_⟩
            refine anyC_seg [32, 33, 34] #[true, true, true, true, true, true, true, true, true, true, true, true, true, true, true, true, true, true, true, true, true, true, true, true, true, true, true, true, true, true, true, true, true, true, true] (fuel := 0) rfl (by kernel_rfl) ⟨⟨_, D1.out⟩, rfl⟩ ?_
            simp only [pickOps, List.getD_cons_succ, List.getD_cons_zero]
            repeat (go_big_quiet_step (fail))
            refine wpQuiet_nil ?_
            refine anyC_done (by kernel_rfl) ?_
            go_wp2
            go_ret
            exact ⟨ret_bool HE.out.symm, HG.out.trans (D1.out)⟩

          by_cases tv : a.vs[k].toNat.testBit j = b.vs[k].toNat.testBit j
          · have hbn : (bitV a.vs[k] j != bitV b.vs[k] j) = false := by rw [bitV_eq.2 tv]; simp
            go_wp2_with fail
            refine (KF.out _).mono ?_
            rintro e wq ⟨rfl, hg⟩
            have HQ := Lib.hid ((HW.out.trans hgi).trans hg)
            have HI := Lib.hid (hgi.trans hg)
            clear hgi hg
            go_wp2_with fail
            have HG := Lib.hid (G2.out.trans HQ.out)
            have BAk := Lib.hid (BA.out.grow HQ.out)
            have BBk := Lib.hid (BB.out.grow HQ.out)
            have hne : Nonempty (Cl (Grow wq)) := ⟨⟨wq, Grow.refl _⟩⟩
            have ⟨p0, p1⟩ := BAk.out.two_
            have ⟨p2, p3⟩ := BBk.out.two_
            have x0 : ∀ x : Cl (Grow wq), x.w.cell? ⟨b0, o0 + k, none⟩ = some (.int .i64 a.vs[k]) := fun x => x.ok.cell (HG.out.cell C0.out)
            have x1 : ∀ x : Cl (Grow wq), x.w.cell? ⟨b1, o1 + k, none⟩ = some (.int .i64 a.ms[k]) := fun x => x.ok.cell (HG.out.cell C1.out)
            have x2 : ∀ x : Cl (Grow wq), x.w.cell? ⟨b2, o2 + k, none⟩ = some (.int .i64 b.vs[k]) := fun x => x.ok.cell (HG.out.cell C2.out)
            have x3 : ∀ x : Cl (Grow wq), x.w.cell? ⟨b3, o3 + k, none⟩ = some (.int .i64 b.ms[k]) := fun x => x.ok.cell (HG.out.cell C3.out)
            refine wp_region_mix (Cls (Grow wq)) 35 #[false, false, false, false, false, false, false, false, false, false, false, false, false, false, false, false, false, false, false, false, false, false, false, false, false, false, false, false, false, false, false, false, false, false, false] (by kernel_rfl) (by kernel_rfl) ⟨⟨_, Grow.drewN _ 1⟩, rfl⟩ ?_
            refine anyC_seg [0, 1, 2, 3, 4, 5] #[true, true, true, true, true, true, false, false, false, false, false, false, false, false, false, false, false, false, false, false, false, false, false, false, false, false, false, false, false, false, false, false, false, false, false] (fuel := 29) rfl (by kernel_rfl) ⟨⟨_, Grow.drewN _ 1⟩, rfl⟩ ?_
            simp only [pickOps, List.getD_cons_succ, List.getD_cons_zero]
            repeat (go_big_quiet_step (fail))
            refine wpQuiet_nil ?_
            refine anyC_sole 6 #[true, true, true, true, true, true, true, false, false, false, false, false, false, false, false, false, false, false, false, false, false, false, false, false, false, false, false, false, false, false, false, false, false, false, false] (fuel := 28) (by kernel_rfl) ?_
            simp only [List.getD_cons_succ, List.getD_cons_zero]
            go_wp2_with fail
            refine (J1.out _).mono ?_
            rintro e w3 ⟨rfl, hg⟩
            rw [bitV_1 tm]
            have D0 := Lib.hid ((Grow.drewN _ 1).trans hg); clear hg
            go_wp2
            refine ⟨⟨⟨_, D0.out⟩, rfl⟩, ?_⟩
            refine anyC_seg [7, 8, 9, 10, 11, 12, 13, 14] #[true, true, true, true, true, true, true, true, true, true, true, true, true, true, true, false, false, false, false, false, false, false, false, false, false, false, false, false, false, false, false, false, false, false, false] (fuel := 20) rfl (by kernel_rfl) ⟨⟨_, D0.out⟩, rfl⟩ ?_
            simp only [pickOps, List.getD_cons_succ, List.getD_cons_zero]
            repeat (go_big_quiet_step (fail))
            refine wpQuiet_nil ?_
            refine anyC_sole 15 #[true, true, true, true, true, true, true, true, true, true, true, true, true, true, true, true, false, false, false, false, false, false, false, false, false, false, false, false, false, false, false, false, false, false, false] (fuel := 19) (by kernel_rfl) ?_
            simp only [List.getD_cons_succ, List.getD_cons_zero]
            go_wp2_with fail
            refine (J3.out _).mono ?_
            rintro e w4 ⟨rfl, hg⟩
            rw [bitV_1 tb]
            have D1 := Lib.hid ((D0.out).trans hg); clear hg
            go_wp2
            refine ⟨⟨⟨_, D1.out⟩, rfl⟩, ?_⟩
            refine anyC_seg [16, 17, 18, 19, 20, 21, 22, 23, 25, 26, 27, 28, 29, 30] #[true, true, true, true, true, true, true, true, true, true, true, true, true, true, true, true, true, true, true, true, true, true, true, true, false, true, true, true, true, true, true, false, false, false, false] (fuel := 5) rfl (by kernel_rfl) ⟨⟨_, D1.out⟩, rfl⟩ ?_
            simp only [pickOps, List.getD_cons_succ, List.getD_cons_zero]
            repeat (go_big_quiet_step (fail))
            refine wpQuiet_nil ?_
            refine anyC_sole 24 #[true, true, true, true, true, true, true, true, true, true, true, true, true, true, true, true, true, true, true, true, true, true, true, true, true, true, true, true, true, true, true, false, false, false, false] (fuel := 4) (by kernel_rfl) ?_
            simp only [List.getD_cons_succ, List.getD_cons_zero]
            go_wp2_with fail
            refine (J0.out _).mono ?_
            rintro e w5 ⟨rfl, hg⟩

            have D2 := Lib.hid ((D1.out).trans hg); clear hg
            go_wp2
            refine ⟨⟨⟨_, D2.out⟩, rfl⟩, ?_⟩
            refine anyC_sole 31 #[true, true, true, true, true, true, true, true, true, true, true, true, true, true, true, true, true, true, true, true, true, true, true, true, true, true, true, true, true, true, true, true, false, false, false] (fuel := 3) (by kernel_rfl) ?_
            simp only [List.getD_cons_succ, List.getD_cons_zero]
            go_wp2_with fail
            refine (J2.out _).mono ?_
            rintro e w6 ⟨rfl, hg⟩

            have D3 := Lib.hid ((D2.out).trans hg); clear hg
            go_wp2
            refine ⟨⟨⟨_, D3.out⟩, rfl⟩, ?_⟩
            refine anyC_seg [32, 33, 34] #[true, true, true, true, true, true, true, true, true, true, true, true, true, true, true, true, true, true, true, true, true, true, true, true, true, true, true, true, true, true, true, true, true, true, true] (fuel := 0) rfl (by kernel_rfl) ⟨⟨_, D3.out⟩, rfl⟩ ?_
            simp only [pickOps, List.getD_cons_succ, List.getD_cons_zero]
            repeat (go_big_quiet_step (fail))
            refine wpQuiet_nil ?_
            refine anyC_done (by kernel_rfl) ?_
            go_wp2
            go_roundw
            case rel =>
              refine ⟨j + 1, by omega, by go_num, fun q hq => ?_, HI.out.trans (D3.out)⟩
              rcases Nat.lt_or_ge q j with h' | h'
              · exact HP.out q h'
              · obtain rfl : q = j := by omega
                exact fun _ => ⟨tb, tv⟩
            case measure => simp [intOf]; omega

          · have hbn : (bitV a.vs[k] j != bitV b.vs[k] j) = true := by simpa using fun h => tv (bitV_eq.1 h)
            have HE : Hid (cvOk a b = false) := Lib.hid (HN.out k hlt (by
              cases hh : cvAt a b k
              · rfl
              · exact absurd (HT2.out hh j hjl tm).2 tv))
            go_wp2_with fail
            refine (KF.out _).mono ?_
            rintro e wq ⟨rfl, hg⟩
            have HQ := Lib.hid ((HW.out.trans hgi).trans hg)
            have HI := Lib.hid (hgi.trans hg)
            clear hgi hg
            go_wp2_with fail
            have HG := Lib.hid (G2.out.trans HQ.out)
            have BAk := Lib.hid (BA.out.grow HQ.out)
            have BBk := Lib.hid (BB.out.grow HQ.out)
            have hne : Nonempty (Cl (Grow wq)) := ⟨⟨wq, Grow.refl _⟩⟩
            have ⟨p0, p1⟩ := BAk.out.two_
            have ⟨p2, p3⟩ := BBk.out.two_
            have x0 : ∀ x : Cl (Grow wq), x.w.cell? ⟨b0, o0 + k, none⟩ = some (.int .i64 a.vs[k]) := fun x => x.ok.cell (HG.out.cell C0.out)
            have x1 : ∀ x : Cl (Grow wq), x.w.cell? ⟨b1, o1 + k, none⟩ = some (.int .i64 a.ms[k]) := fun x => x.ok.cell (HG.out.cell C1.out)
            have x2 : ∀ x : Cl (Grow wq), x.w.cell? ⟨b2, o2 + k, none⟩ = some (.int .i64 b.vs[k]) := fun x => x.ok.cell (HG.out.cell C2.out)
            have x3 : ∀ x : Cl (Grow wq), x.w.cell? ⟨b3, o3 + k, none⟩ = some (.int .i64 b.ms[k]) := fun x => x.ok.cell (HG.out.cell C3.out)
            refine wp_region_mix (Cls (Grow wq)) 35 #[false, false, false, false, false, false, false, false, false, false, false, false, false, false, false, false, false, false, false, false, false, false, false, false, false, false, false, false, false, false, false, false, false, false, false] (by kernel_rfl) (by kernel_rfl) ⟨⟨_, Grow.drewN _ 1⟩, rfl⟩ ?_
            refine anyC_seg [0, 1, 2, 3, 4, 5] #[true, true, true, true, true, true, false, false, false, false, false, false, false, false, false, false, false, false, false, false, false, false, false, false, false, false, false, false, false, false, false, false, false, false, false] (fuel := 29) rfl (by kernel_rfl) ⟨⟨_, Grow.drewN _ 1⟩, rfl⟩ ?_
            simp only [pickOps, List.getD_cons_succ, List.getD_cons_zero]
            repeat (go_big_quiet_step (fail))
            refine wpQuiet_nil ?_
            refine anyC_sole 6 #[true, true, true, true, true, true, true, false, false, false, false, false, false, false, false, false, false, false, false, false, false, false, false, false, false, false, false, false, false, false, false, false, false, false, false] (fuel := 28) (by kernel_rfl) ?_
            simp only [List.getD_cons_succ, List.getD_cons_zero]
            go_wp2_with fail
            refine (J1.out _).mono ?_
            rintro e w3 ⟨rfl, hg⟩
            rw [bitV_1 tm]
            have D0 := Lib.hid ((Grow.drewN _ 1).trans hg); clear hg
            go_wp2
            refine ⟨⟨⟨_, D0.out⟩, rfl⟩, ?_⟩
            refine anyC_seg [7, 8, 9, 10, 11, 12, 13, 14] #[true, true, true, true, true, true, true, true, true, true, true, true, true, true, true, false, false, false, false, false, false, false, false, false, false, false, false, false, false, false, false, false, false, false, false] (fuel := 20) rfl (by kernel_rfl) ⟨⟨_, D0.out⟩, rfl⟩ ?_
            simp only [pickOps, List.getD_cons_succ, List.getD_cons_zero]
            repeat (go_big_quiet_step (fail))
            refine wpQuiet_nil ?_
            refine anyC_sole 15 #[true, true, true, true, true, true, true, true, true, true, true, true, true, true, true, true, false, false, false, false, false, false, false, false, false, false, false, false, false, false, false, false, false, false, false] (fuel := 19) (by kernel_rfl) ?_
            simp only [List.getD_cons_succ, List.getD_cons_zero]
            go_wp2_with fail
            refine (J3.out _).mono ?_
            rintro e w4 ⟨rfl, hg⟩
            rw [bitV_1 tb]
            have D1 := Lib.hid ((D0.out).trans hg); clear hg
            go_wp2
            refine ⟨⟨⟨_, D1.out⟩, rfl⟩, ?_⟩
            refine anyC_seg [16, 17, 18, 19, 20, 21, 22, 23, 25, 26, 27, 28, 29, 30] #[true, true, true, true, true, true, true, true, true, true, true, true, true, true, true, true, true, true, true, true, true, true, true, true, false, true, true, true, true, true, true, false, false, false, false] (fuel := 5) rfl (by kernel_rfl) ⟨⟨_, D1.out⟩, rfl⟩ ?_
            simp only [pickOps, List.getD_cons_succ, List.getD_cons_zero]
            repeat (go_big_quiet_step (fail))
            refine wpQuiet_nil ?_
            refine anyC_sole 24 #[true, true, true, true, true, true, true, true, true, true, true, true, true, true, true, true, true, true, true, true, true, true, true, true, true, true, true, true, true, true, true, false, false, false, false] (fuel := 4) (by kernel_rfl) ?_
            simp only [List.getD_cons_succ, List.getD_cons_zero]
            go_wp2_with fail
            refine (J0.out _).mono ?_
            rintro e w5 ⟨rfl, hg⟩

            have D2 := Lib.hid ((D1.out).trans hg); clear hg
            go_wp2
            refine ⟨⟨⟨_, D2.out⟩, rfl⟩, ?_⟩
            refine anyC_sole 31 #[true, true, true, true, true, true, true, true, true, true, true, true, true, true, true, true, true, true, true, true, true, true, true, true, true, true, true, true, true, true, true, true, false, false, false] (fuel := 3) (by kernel_rfl) ?_
            simp only [List.getD_cons_succ, List.getD_cons_zero]
            go_wp2_with fail
            refine (J2.out _).mono ?_
            rintro e w6 ⟨rfl, hg⟩

            have D3 := Lib.hid ((D2.out).trans hg); clear hg
            go_wp2
            refine ⟨⟨⟨_, D3.out⟩, rfl⟩, ?_⟩
            refine anyC_seg [32, 33, 34] #[true, true, true, true, true, true, true, true, true, true, true, true, true, true, true, true, true, true, true, true, true, true, true, true, true, true, true, true, true, true, true, true, true, true, true] (fuel := 0) rfl (by kernel_rfl) ⟨⟨_, D3.out⟩, rfl⟩ ?_
            simp only [pickOps, List.getD_cons_succ, List.getD_cons_zero]
            repeat (go_big_quiet_step (fail))
            refine wpQuiet_nil ?_
            refine anyC_done (by kernel_rfl) ?_
            go_wp2
            go_ret
            exact ⟨ret_bool HE.out.symm, HG.out.trans (D3.out)⟩

        · obtain rfl : j = nb := by omega
          have HK : Hid (cvAt a b k = true) := Lib.hid (HT.out HP.out)
          go_wp2_with fail
          refine (KF.out _).mono ?_
          rintro e wq ⟨rfl, hg⟩
          have HQ := Lib.hid ((HW.out.trans hgi).trans hg)
          clear hgi hg
          go_wp2
          go_roundw
          case rel => exact ⟨k + 1, by omega, by go_num, below_succ (p := fun j => cvAt a b j) HA.out HK.out, HQ.out⟩
          case measure => simp [intOf]; omega
    · obtain rfl : k = 8 := by omega
      have HE := Lib.hid (HY.out HA.out)
      go_wp2
      go_ret
      exact ⟨ret_bool HE.out.symm, G2.out.trans HW.out⟩
--%
end Go.Proofs.Ytgigdpdmdldhnaa
