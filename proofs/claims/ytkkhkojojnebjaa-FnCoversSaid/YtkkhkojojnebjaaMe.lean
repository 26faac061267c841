/- MeetOf and Meets of the reference model: contracts of the code (printed by gme.py). -/
import Derived.Test.YtkkhkojojnebjaaMf
import Derived.Test.YtkkhkojojnebjaaMsp
import Derived.WalkKit
import Derived.ProofKit
import Derived.Deep.QuietTactic
import Derived.BigQuiet
import Derived.Outline
import Derived.WalkSpells
namespace Go.Proofs.Ytkkhkojojnebjaa
open Go.ChangeShapes Go.WideShapes Go.ChangeAt Go.RowKit
set_option linter.unusedVariables false
set_option linter.unusedSimpArgs false
--%
theorem meetF_yes {a b : MatchD} (h : meOk a b = true) : meetF a b = (orM a b, true) := by simp [meetF, h]
theorem meetF_no {a b : MatchD} (h : meOk a b = false) : meetF a b = (zeroM, false) := by simp [meetF, h]
theorem meetF_sm (a b : MatchD) : SmM (meetF a b).1 := by
  unfold meetF orM; split <;> simp [SmM, sizeM, zeroM]
theorem meetF_2 (a b : MatchD) : (meetF a b).2 = meOk a b := by unfold meetF; cases h : meOk a b <;> simp
def orL (xs ys : List Int) : List Int := (List.range 8).map fun i => ((nv xs i ||| nv ys i : Nat) : Int)
theorem orL_len (xs ys : List Int) : (orL xs ys).length = 8 := by simp [orL]
theorem orL_at (xs ys : List Int) (k : Nat) (h : k < 8) : (orL xs ys)[k]'(by rw [orL_len]; exact h) = ((nv xs k ||| nv ys k : Nat) : Int) := by simp [orL]
theorem orM_eq (a b : MatchD) : orM a b = ⟨orL a.vs b.vs, orL a.ms b.ms⟩ := rfl
--% MeetOfS 48
set_option maxHeartbeats 2000000 in
set_option maxRecDepth 20000 in
theorem meetOfS_any (w : World) (V U : Value) (a b : DatM) (h : RdM w V a) (h2 : RdM w U b) (wa : WfM a) (wb : WfM b) : Calls Try.prog 48 #[V, U] w (RetNew2 OwnM (meetF a b).1 (.bool (meetF a b).2) w) := by
  have HZ : ∀ (w1 : World), Grow w w1 → RetNew2 OwnM zeroM (.bool false) w (.returned (.tuple #[.agg #[.slice none 0 0, .slice none 0 0], .bool false])) w1 := fun w1 hg => ⟨_, [], rfl, ownM_nil _, by simp [Fresh], hg⟩
  have HZ := Lib.hid HZ
  obtain ⟨v0, v1, rfl, hv0, hv1⟩ := h
  obtain ⟨v2, v3, rfl, hv2, hv3⟩ := h2
  have R0 := Lib.hid hv0
  obtain ⟨a0, c0, rfl, hlc0, hm0, hn0, hc0⟩ := Rd.ints hv0
  have H0 := Lib.hid hc0
  unfold maxLen at hm0
  clear hv0 hn0 hc0
  have R1 := Lib.hid hv1
  obtain ⟨a1, c1, rfl, hlc1, hm1, hn1, hc1⟩ := Rd.ints hv1
  have H1 := Lib.hid hc1
  unfold maxLen at hm1
  clear hv1 hn1 hc1
  have R2 := Lib.hid hv2
  obtain ⟨a2, c2, rfl, hlc2, hm2, hn2, hc2⟩ := Rd.ints hv2
  have H2 := Lib.hid hc2
  unfold maxLen at hm2
  clear hv2 hn2 hc2
  have R3 := Lib.hid hv3
  obtain ⟨a3, c3, rfl, hlc3, hm3, hn3, hc3⟩ := Rd.ints hv3
  have H3 := Lib.hid hc3
  unfold maxLen at hm3
  clear hv3 hn3 hc3
  cases hoka : mtOk a
  · rw [meetF_no (by simp [meOk, hoka])]
    go_enter Try.func48, Try.ntmps48
    go_wp2_with fail
    refine at_world (w := w) ?G (fun hG => (matchOkS_any _ _ a ⟨_, _, rfl, R0.out.grow hG, R1.out.grow hG⟩ wa).mono ?_)
    case G => ((repeat (first | with_reducible exact Grow.refl _ | (with_reducible refine Grow.alloc_ ?_ _) | (with_reducible refine Grow.setCell_ ?_ (by first | exact Nat.le_refl _ | (simp only [World.alloc, Array.size_push]; omega) | omega) _))))
    rintro e w1 ⟨rfl, hg⟩
    rw [hoka]
    have G1 := Lib.hid (hG.trans hg)
    have BA := Lib.hid ((Box.alloc w _ _).grow ((Grow.alloc _ _).trans ((Grow.alloc _ _).trans hg)))
    have BB := Lib.hid (((Box.alloc (w.alloc _) _ _).grow ((Grow.alloc _ _).trans hg)).at_ (b' := w.heap.size + 1) (by simp only [World.alloc, Array.size_push]))
    have BR := Lib.hid (((Box.alloc ((w.alloc _).alloc _) _ _).grow hg).at_ (b' := w.heap.size + 1 + 1) (by simp only [World.alloc, Array.size_push]))
    clear hG hg
    have ⟨t0, t1⟩ := BR.out.two
    have z0 := BR.out.2.2
    have l0 := BR.out.1
    go_wp2
    refine bodyPost_ret (v := .tuple #[.agg #[.slice none 0 0, .slice none 0 0], .bool false]) ?_ rfl (HZ.out _ (G1.out.box_end (fq := [w.heap.size + 1 + 1]) ?_ (by intro b hb; simp only [List.mem_cons, List.not_mem_nil, or_false] at hb; omega)))
    · simp [results, Try.results48, go_sem, t0, t1, z0, l0]
    · ((repeat (first | with_reducible exact Upd.refl _ _ | (with_reducible refine Upd.setCell ?_ (by simp) _))))
  cases hokb : mtOk b
  · rw [meetF_no (by simp [meOk, hokb])]
    go_enter Try.func48, Try.ntmps48
    go_wp2_with fail
    refine at_world (w := w) ?G (fun hG => (matchOkS_any _ _ a ⟨_, _, rfl, R0.out.grow hG, R1.out.grow hG⟩ wa).mono ?_)
    case G => ((repeat (first | with_reducible exact Grow.refl _ | (with_reducible refine Grow.alloc_ ?_ _) | (with_reducible refine Grow.setCell_ ?_ (by first | exact Nat.le_refl _ | (simp only [World.alloc, Array.size_push]; omega) | omega) _))))
    rintro e w1 ⟨rfl, hg⟩
    rw [hoka]
    have G1 := Lib.hid (hG.trans hg)
    have BA := Lib.hid ((Box.alloc w _ _).grow ((Grow.alloc _ _).trans ((Grow.alloc _ _).trans hg)))
    have BB := Lib.hid (((Box.alloc (w.alloc _) _ _).grow ((Grow.alloc _ _).trans hg)).at_ (b' := w.heap.size + 1) (by simp only [World.alloc, Array.size_push]))
    have BR := Lib.hid (((Box.alloc ((w.alloc _).alloc _) _ _).grow hg).at_ (b' := w.heap.size + 1 + 1) (by simp only [World.alloc, Array.size_push]))
    clear hG hg
    have ⟨r0, r1⟩ := BB.out.two
    go_wp2_with fail
    refine (matchOkS_any _ _ b ⟨_, _, rfl, R2.out.grow G1.out, R3.out.grow G1.out⟩ wb).mono ?_
    rintro e w2 ⟨rfl, hg⟩
    rw [hokb]
    have G2 := Lib.hid (G1.out.trans hg)
    have BA := Lib.hid (BA.out.grow hg)
    have BB := Lib.hid (BB.out.grow hg)
    have BR := Lib.hid (BR.out.grow hg)
    clear hg r0 r1
    have ⟨t0, t1⟩ := BR.out.two
    have z0 := BR.out.2.2
    have l0 := BR.out.1
    go_wp2
    refine bodyPost_ret (v := .tuple #[.agg #[.slice none 0 0, .slice none 0 0], .bool false]) ?_ rfl (HZ.out _ (G2.out.box_end (fq := [w.heap.size + 1 + 1]) ?_ (by intro b hb; simp only [List.mem_cons, List.not_mem_nil, or_false] at hb; omega)))
    · simp [results, Try.results48, go_sem, t0, t1, z0, l0]
    · ((repeat (first | with_reducible exact Upd.refl _ _ | (with_reducible refine Upd.setCell ?_ (by simp) _))))
  have KA := Lib.hid (mtOk_at hoka)
  have KB := Lib.hid (mtOk_at hokb)
  have L0 := Lib.hid (mtOk_iff.1 hoka).1; have L1 := Lib.hid (hdOk_at (mtOk_iff.1 hoka).2.1).1
  have L2 := Lib.hid (mtOk_iff.1 hokb).1; have L3 := Lib.hid (hdOk_at (mtOk_iff.1 hokb).2.1).1
  have HY : Hid ((∀ i, i < 8 → meAt a b i = true) → meOk a b = true) := Lib.hid (fun h => by simp [meOk, hoka, hokb, allB_true h])
  have HN : Hid (∀ i, i < 8 → meAt a b i = false → meOk a b = false) := Lib.hid (fun i hi h => by simp [meOk, allB_false i hi h])
  go_enter Try.func48, Try.ntmps48
  go_wp2_with fail
  refine at_world (w := w) ?G (fun hG => (matchOkS_any _ _ a ⟨_, _, rfl, R0.out.grow hG, R1.out.grow hG⟩ wa).mono ?_)
  case G => ((repeat (first | with_reducible exact Grow.refl _ | (with_reducible refine Grow.alloc_ ?_ _) | (with_reducible refine Grow.setCell_ ?_ (by first | exact Nat.le_refl _ | (simp only [World.alloc, Array.size_push]; omega) | omega) _))))
  rintro e w1 ⟨rfl, hg⟩
  rw [hoka]
  have G1 := Lib.hid (hG.trans hg)
  have BA := Lib.hid ((Box.alloc w _ _).grow ((Grow.alloc _ _).trans ((Grow.alloc _ _).trans hg)))
  have BB := Lib.hid (((Box.alloc (w.alloc _) _ _).grow ((Grow.alloc _ _).trans hg)).at_ (b' := w.heap.size + 1) (by simp only [World.alloc, Array.size_push]))
  have BR := Lib.hid (((Box.alloc ((w.alloc _).alloc _) _ _).grow hg).at_ (b' := w.heap.size + 1 + 1) (by simp only [World.alloc, Array.size_push]))
  clear hG hg
  have ⟨r0, r1⟩ := BB.out.two
  go_wp2_with fail
  refine (matchOkS_any _ _ b ⟨_, _, rfl, R2.out.grow G1.out, R3.out.grow G1.out⟩ wb).mono ?_
  rintro e w2 ⟨rfl, hg⟩
  rw [hokb]
  have G2 := Lib.hid (G1.out.trans hg)
  have BA := Lib.hid (BA.out.grow hg)
  have BB := Lib.hid (BB.out.grow hg)
  have BR := Lib.hid (BR.out.grow hg)
  clear hg r0 r1
  go_wp2_with fail
  refine (matchAllS_any _).mono ?_
  rintro e w3 ⟨v4, fp4, rfl, ho, hf, hg⟩
  obtain ⟨g1, g2, e1, e2, rfl, o1, o2, hd, n1, n2, l1, l2⟩ := ownM_open ho hf
  have BS := Lib.hid (Bld.start hg 41 o1 o2 hd n1 n2 l1 l2)
  clear ho hf o1 o2 hd n1 n2 l1 l2 hg
  go_wp2
  generalize w3.alloc (Obj.cells #[Value.slice (some ⟨g1, 0, none⟩) 8 e1, Value.slice (some ⟨g2, 0, none⟩) 8 e2] 41) = W0 at *
  go_loopw [7] (fun i wr => ∃ k : Nat, k ≤ 8 ∧ i = .int .i64 k ∧ (∀ j, j < k → meAt a b j = true) ∧ Bld w2 wr w3.heap.size g1 g2 e1 e2 ⟨partZ (orL a.vs b.vs) k, partZ (orL a.ms b.ms) k⟩) (fun i _ => 8 - (intOf i).toNat)
  case atStart => exact ⟨0, Nat.zero_le _, rfl, fun j hj => absurd hj (Nat.not_lt_zero _), by rw [partZ_0, partZ_0]; exact BS.out⟩
  case round =>
    obtain ⟨k, hk, rfl, hal, hbl⟩ := hrel
    have HA := Lib.hid hal; have BL := Lib.hid hbl
    have HW := Lib.hid hbl.grow
    clear hal hbl
    by_cases hlt : k < 8
    · skip
      have hl0 : k < a.vs.length := by rw [L0.out]; exact hlt
      obtain ⟨b0, o0, rfl, hcs0⟩ := H0.out k hl0
      have C0 := Lib.hid hcs0
      have hd0 : nv a.vs k = a.vs[k].toNat := by unfold nv; rw [getD_at hl0]
      clear hcs0
      have hl1 : k < a.ms.length := by rw [L1.out]; exact hlt
      obtain ⟨b1, o1, rfl, hcs1⟩ := H1.out k hl1
      have C1 := Lib.hid hcs1
      have hd1 : nv a.ms k = a.ms[k].toNat := by unfold nv; rw [getD_at hl1]
      clear hcs1
      have hl2 : k < b.vs.length := by rw [L2.out]; exact hlt
      obtain ⟨b2, o2, rfl, hcs2⟩ := H2.out k hl2
      have C2 := Lib.hid hcs2
      have hd2 : nv b.vs k = b.vs[k].toNat := by unfold nv; rw [getD_at hl2]
      clear hcs2
      have hl3 : k < b.ms.length := by rw [L3.out]; exact hlt
      obtain ⟨b3, o3, rfl, hcs3⟩ := H3.out k hl3
      have C3 := Lib.hid hcs3
      have hd3 : nv b.ms k = b.ms[k].toNat := by unfold nv; rw [getD_at hl3]
      clear hcs3
      have ka := KA.out k hlt
      rw [getD_at hl0, getD_at hl1] at ka
      have ka1 := fitB_bd ka.1
      have kb := KB.out k hlt
      rw [getD_at hl2, getD_at hl3] at kb
      have kb1 := fitB_bd kb.1
      obtain ⟨nb, hnb, hnb48⟩ := bits_nb k
      have KF := Lib.hid (fun w => fieldBitsS_any (k : Nat) w)
      rw [hnb] at KF
      have hml := fit_lt ka.1 hnb
      have hiff := meet_iff (bm := b.ms[k].toNat) (av := a.vs[k].toNat) (bv := b.vs[k].toNat) hml
      have HT : Hid ((∀ q, q < nb → a.ms[k].toNat.testBit q = true → b.ms[k].toNat.testBit q = true → a.vs[k].toNat.testBit q = b.vs[k].toNat.testBit q) → meAt a b k = true) := Lib.hid (fun h => by unfold meAt; rw [hd0, hd1, hd2, hd3]; exact decide_eq_true (hiff.2 h))
      have HT2 : Hid (meAt a b k = true → ∀ q, q < nb → a.ms[k].toNat.testBit q = true → b.ms[k].toNat.testBit q = true → a.vs[k].toNat.testBit q = b.vs[k].toNat.testBit q) := Lib.hid (fun h => by unfold meAt at h; rw [hd0, hd1, hd2, hd3] at h; exact hiff.1 (of_decide_eq_true h))
      have kav : 0 ≤ a.vs[k] ∧ a.vs[k] ≤ 281474976710656 := by omega
      have kbv : 0 ≤ b.vs[k] ∧ b.vs[k] ≤ 281474976710656 := by omega
      have OM : Hid (bits .or .i64 a.ms[k] b.ms[k] = ((nv a.ms k ||| nv b.ms k : Nat) : Int)) := Lib.hid (by rw [hd1, hd3]; exact or_i64 (by omega) (by omega) (by omega) (by omega))
      have OV : Hid (bits .or .i64 a.vs[k] b.vs[k] = ((nv a.vs k ||| nv b.vs k : Nat) : Int)) := Lib.hid (by rw [hd0, hd2]; exact or_i64 (by omega) (by omega) (by omega) (by omega))
      clear hml hiff
      have HD := Lib.hid (And.intro ka ka1); clear ka hd0 hd1 hd2 hd3
      go_wp2
      obtain ⟨wo, hwo⟩ : ∃ wo : World, wo = wr := ⟨_, rfl⟩
      subst hwo
      rw [show decide ((k : Int) < 8) = true from decide_eq_true (by omega)]
      go_loopw [8] (fun i wr => ∃ j : Nat, j ≤ nb ∧ i = .int .i64 j ∧ (∀ q, q < j → a.ms[k].toNat.testBit q = true → b.ms[k].toNat.testBit q = true → a.vs[k].toNat.testBit q = b.vs[k].toNat.testBit q) ∧ Grow wo wr) (fun i _ => nb - (intOf i).toNat)
      case atStart => exact ⟨0, Nat.zero_le _, rfl, fun j hj => absurd hj (Nat.not_lt_zero _), Grow.refl _⟩
      case round =>
        obtain ⟨j, hj, rfl, hpq, hgi⟩ := hrel
        have HP := Lib.hid hpq; clear hpq
        by_cases hjl : j < nb
        · skip
          have J0 := Lib.hid (l05Bit_any a.vs[k] j (by omega) (by omega) (by omega))
          have J1 := Lib.hid (l05Bit_any a.ms[k] j (by omega) (by omega) (by omega))
          have J2 := Lib.hid (l05Bit_any b.vs[k] j (by omega) (by omega) (by omega))
          have J3 := Lib.hid (l05Bit_any b.ms[k] j (by omega) (by omega) (by omega))
          cases tm : a.ms[k].toNat.testBit j
          · skip
            go_wp2_with fail
            refine (KF.out _).mono ?_
            rintro e wq ⟨rfl, hg⟩
            have HQ := Lib.hid ((HW.out.trans hgi).trans hg)
            have HI := Lib.hid (hgi.trans hg)
            clear hgi hg
            go_wp2_with fail
            have HG := Lib.hid (G2.out.trans HQ.out)
            have BAk := Lib.hid (BA.out.grow HQ.out)
            have BBk := Lib.hid (BB.out.grow HQ.out)
            have BRk := Lib.hid (BR.out.grow HQ.out)
            have hne : Nonempty (Cl (Grow wq)) := ⟨⟨wq, Grow.refl _⟩⟩
            have ⟨p0, p1⟩ := BAk.out.two_
            have ⟨p2, p3⟩ := BBk.out.two_
            have x0 : ∀ x : Cl (Grow wq), x.w.cell? ⟨b0, o0 + k, none⟩ = some (.int .i64 a.vs[k]) := fun x => x.ok.cell (HG.out.cell C0.out)
            have x1 : ∀ x : Cl (Grow wq), x.w.cell? ⟨b1, o1 + k, none⟩ = some (.int .i64 a.ms[k]) := fun x => x.ok.cell (HG.out.cell C1.out)
            have x2 : ∀ x : Cl (Grow wq), x.w.cell? ⟨b2, o2 + k, none⟩ = some (.int .i64 b.vs[k]) := fun x => x.ok.cell (HG.out.cell C2.out)
            have x3 : ∀ x : Cl (Grow wq), x.w.cell? ⟨b3, o3 + k, none⟩ = some (.int .i64 b.ms[k]) := fun x => x.ok.cell (HG.out.cell C3.out)
            refine wp_region_mix (Cls (Grow wq)) 35 #[false, false, false, false, false, false, false, false, false, false, false, false, false, false, false, false, false, false, false, false, false, false, false, false, false, false, false, false, false, false, false, false, false, false, false] (by kernel_rfl) (by kernel_rfl) ⟨⟨_, Grow.drewN _ 1⟩, rfl⟩ ?_
            refine anyC_seg [0, 1, 2, 3, 4, 5] #[true, true, true, true, true, true, false, false, false, false, false, false, false, false, false, false, false, false, false, false, false, false, false, false, false, false, false, false, false, false, false, false, false, false, false] (fuel := 29) rfl (by kernel_rfl) ⟨⟨_, Grow.drewN _ 1⟩, rfl⟩ ?_
            simp only [pickOps, List.getD_cons_succ, List.getD_cons_zero]
            repeat (go_big_quiet_step (fail))
            refine wpQuiet_nil ?_
            refine anyC_sole 6 #[true, true, true, true, true, true, true, false, false, false, false, false, false, false, false, false, false, false, false, false, false, false, false, false, false, false, false, false, false, false, false, false, false, false, false] (fuel := 28) (by kernel_rfl) ?_
            simp only [List.getD_cons_succ, List.getD_cons_zero]
            go_wp2_with fail
            refine (J1.out _).mono ?_
            rintro e w5 ⟨rfl, hg⟩
            rw [bitV_0 tm]
            have D0 := Lib.hid ((Grow.drewN _ 1).trans hg); clear hg
            go_wp2
            refine ⟨⟨⟨_, D0.out⟩, rfl⟩, ?_⟩
            refine anyC_seg [7, 8, 9, 10, 11, 12, 13, 14] #[true, true, true, true, true, true, true, true, true, true, true, true, true, true, true, false, false, false, false, false, false, false, false, false, false, false, false, false, false, false, false, false, false, false, false] (fuel := 20) rfl (by kernel_rfl) ⟨⟨_, D0.out⟩, rfl⟩ ?_
            simp only [pickOps, List.getD_cons_succ, List.getD_cons_zero]
            repeat (go_big_quiet_step (fail))
            refine wpQuiet_nil ?_
            refine anyC_sole 15 #[true, true, true, true, true, true, true, true, true, true, true, true, true, true, true, true, false, false, false, false, false, false, false, false, false, false, false, false, false, false, false, false, false, false, false] (fuel := 19) (by kernel_rfl) ?_
            simp only [List.getD_cons_succ, List.getD_cons_zero]
            go_wp2
            refine ⟨⟨⟨_, D0.out⟩, rfl⟩, ?_⟩
            refine anyC_seg [16, 17, 18, 19, 20, 21, 22, 23, 24, 26, 27, 28, 29, 30, 31] #[true, true, true, true, true, true, true, true, true, true, true, true, true, true, true, true, true, true, true, true, true, true, true, true, true, false, true, true, true, true, true, true, false, false, false] (fuel := 4) rfl (by kernel_rfl) ⟨⟨_, D0.out⟩, rfl⟩ ?_
            simp only [pickOps, List.getD_cons_succ, List.getD_cons_zero]
            repeat (go_big_quiet_step (fail))
            refine wpQuiet_nil ?_
            refine anyC_sole 25 #[true, true, true, true, true, true, true, true, true, true, true, true, true, true, true, true, true, true, true, true, true, true, true, true, true, true, true, true, true, true, true, true, false, false, false] (fuel := 3) (by kernel_rfl) ?_
            simp only [List.getD_cons_succ, List.getD_cons_zero]
            go_wp2
            refine ⟨⟨⟨_, D0.out⟩, rfl⟩, ?_⟩
            refine anyC_sole 32 #[true, true, true, true, true, true, true, true, true, true, true, true, true, true, true, true, true, true, true, true, true, true, true, true, true, true, true, true, true, true, true, true, true, false, false] (fuel := 2) (by kernel_rfl) ?_
            simp only [List.getD_cons_succ, List.getD_cons_zero]
            go_wp2
            refine ⟨⟨⟨_, D0.out⟩, rfl⟩, ?_⟩
            refine anyC_seg [33, 34] #[true, true, true, true, true, true, true, true, true, true, true, true, true, true, true, true, true, true, true, true, true, true, true, true, true, true, true, true, true, true, true, true, true, true, true] (fuel := 0) rfl (by kernel_rfl) ⟨⟨_, D0.out⟩, rfl⟩ ?_
            simp only [pickOps, List.getD_cons_succ, List.getD_cons_zero]
            repeat (go_big_quiet_step (fail))
            refine wpQuiet_nil ?_
            refine anyC_done (by kernel_rfl) ?_
            go_wp2
            go_roundw
            case rel =>
              refine ⟨j + 1, by omega, by go_num, fun q hq => ?_, HI.out.trans (D0.out)⟩
              rcases Nat.lt_or_ge q j with h' | h'
              · exact HP.out q h'
              · obtain rfl : q = j := by omega
                intro hq; rw [tm] at hq; cases hq
            case measure => simp [intOf]; omega

          cases tb : b.ms[k].toNat.testBit j
          · skip
            go_wp2_with fail
            refine (KF.out _).mono ?_
            rintro e wq ⟨rfl, hg⟩
            have HQ := Lib.hid ((HW.out.trans hgi).trans hg)
            have HI := Lib.hid (hgi.trans hg)
            clear hgi hg
            go_wp2_with fail
            have HG := Lib.hid (G2.out.trans HQ.out)
            have BAk := Lib.hid (BA.out.grow HQ.out)
            have BBk := Lib.hid (BB.out.grow HQ.out)
            have BRk := Lib.hid (BR.out.grow HQ.out)
            have hne : Nonempty (Cl (Grow wq)) := ⟨⟨wq, Grow.refl _⟩⟩
            have ⟨p0, p1⟩ := BAk.out.two_
            have ⟨p2, p3⟩ := BBk.out.two_
            have x0 : ∀ x : Cl (Grow wq), x.w.cell? ⟨b0, o0 + k, none⟩ = some (.int .i64 a.vs[k]) := fun x => x.ok.cell (HG.out.cell C0.out)
            have x1 : ∀ x : Cl (Grow wq), x.w.cell? ⟨b1, o1 + k, none⟩ = some (.int .i64 a.ms[k]) := fun x => x.ok.cell (HG.out.cell C1.out)
            have x2 : ∀ x : Cl (Grow wq), x.w.cell? ⟨b2, o2 + k, none⟩ = some (.int .i64 b.vs[k]) := fun x => x.ok.cell (HG.out.cell C2.out)
            have x3 : ∀ x : Cl (Grow wq), x.w.cell? ⟨b3, o3 + k, none⟩ = some (.int .i64 b.ms[k]) := fun x => x.ok.cell (HG.out.cell C3.out)
            refine wp_region_mix (Cls (Grow wq)) 35 #[false, false, false, false, false, false, false, false, false, false, false, false, false, false, false, false, false, false, false, false, false, false, false, false, false, false, false, false, false, false, false, false, false, false, false] (by kernel_rfl) (by kernel_rfl) ⟨⟨_, Grow.drewN _ 1⟩, rfl⟩ ?_
            refine anyC_seg [0, 1, 2, 3, 4, 5] #[true, true, true, true, true, true, false, false, false, false, false, false, false, false, false, false, false, false, false, false, false, false, false, false, false, false, false, false, false, false, false, false, false, false, false] (fuel := 29) rfl (by kernel_rfl) ⟨⟨_, Grow.drewN _ 1⟩, rfl⟩ ?_
            simp only [pickOps, List.getD_cons_succ, List.getD_cons_zero]
            repeat (go_big_quiet_step (fail))
            refine wpQuiet_nil ?_
            refine anyC_sole 6 #[true, true, true, true, true, true, true, false, false, false, false, false, false, false, false, false, false, false, false, false, false, false, false, false, false, false, false, false, false, false, false, false, false, false, false] (fuel := 28) (by kernel_rfl) ?_
            simp only [List.getD_cons_succ, List.getD_cons_zero]
            go_wp2_with fail
            refine (J1.out _).mono ?_
            rintro e w5 ⟨rfl, hg⟩
            rw [bitV_1 tm]
            have D0 := Lib.hid ((Grow.drewN _ 1).trans hg); clear hg
            go_wp2
            refine ⟨⟨⟨_, D0.out⟩, rfl⟩, ?_⟩
            refine anyC_seg [7, 8, 9, 10, 11, 12, 13, 14] #[true, true, true, true, true, true, true, true, true, true, true, true, true, true, true, false, false, false, false, false, false, false, false, false, false, false, false, false, false, false, false, false, false, false, false] (fuel := 20) rfl (by kernel_rfl) ⟨⟨_, D0.out⟩, rfl⟩ ?_
            simp only [pickOps, List.getD_cons_succ, List.getD_cons_zero]
            repeat (go_big_quiet_step (fail))
            refine wpQuiet_nil ?_
            refine anyC_sole 15 #[true, true, true, true, true, true, true, true, true, true, true, true, true, true, true, true, false, false, false, false, false, false, false, false, false, false, false, false, false, false, false, false, false, false, false] (fuel := 19) (by kernel_rfl) ?_
            simp only [List.getD_cons_succ, List.getD_cons_zero]
            go_wp2_with fail
            refine (J3.out _).mono ?_
            rintro e w6 ⟨rfl, hg⟩
            rw [bitV_0 tb]
            have D1 := Lib.hid ((D0.out).trans hg); clear hg
            go_wp2
            refine ⟨⟨⟨_, D1.out⟩, rfl⟩, ?_⟩
            refine anyC_seg [16, 17, 18, 19, 20, 21, 22, 23, 24, 26, 27, 28, 29, 30, 31] #[true, true, true, true, true, true, true, true, true, true, true, true, true, true, true, true, true, true, true, true, true, true, true, true, true, false, true, true, true, true, true, true, false, false, false] (fuel := 4) rfl (by kernel_rfl) ⟨⟨_, D1.out⟩, rfl⟩ ?_
            simp only [pickOps, List.getD_cons_succ, List.getD_cons_zero]
            repeat (go_big_quiet_step (fail))
            refine wpQuiet_nil ?_
            refine anyC_sole 25 #[true, true, true, true, true, true, true, true, true, true, true, true, true, true, true, true, true, true, true, true, true, true, true, true, true, true, true, true, true, true, true, true, false, false, false] (fuel := 3) (by kernel_rfl) ?_
            simp only [List.getD_cons_succ, List.getD_cons_zero]
            go_wp2
            refine ⟨⟨⟨_, D1.out⟩, rfl⟩, ?_⟩
            refine anyC_sole 32 #[true, true, true, true, true, true, true, true, true, true, true, true, true, true, true, true, true, true, true, true, true, true, true, true, true, true, true, true, true, true, true, true, true, false, false] (fuel := 2) (by kernel_rfl) ?_
            simp only [List.getD_cons_succ, List.getD_cons_zero]
            go_wp2
            refine ⟨⟨⟨_, D1.out⟩, rfl⟩, ?_⟩
            refine anyC_seg [33, 34] #[true, true, true, true, true, true, true, true, true, true, true, true, true, true, true, true, true, true, true, true, true, true, true, true, true, true, true, true, true, true, true, true, true, true, true] (fuel := 0) rfl (by kernel_rfl) ⟨⟨_, D1.out⟩, rfl⟩ ?_
            simp only [pickOps, List.getD_cons_succ, List.getD_cons_zero]
            repeat (go_big_quiet_step (fail))
            refine wpQuiet_nil ?_
            refine anyC_done (by kernel_rfl) ?_
            go_wp2
            go_roundw
            case rel =>
              refine ⟨j + 1, by omega, by go_num, fun q hq => ?_, HI.out.trans (D1.out)⟩
              rcases Nat.lt_or_ge q j with h' | h'
              · exact HP.out q h'
              · obtain rfl : q = j := by omega
                intro _ hq; rw [tb] at hq; cases hq
            case measure => simp [intOf]; omega

          by_cases tv : a.vs[k].toNat.testBit j = b.vs[k].toNat.testBit j
          · have hbn : (bitV a.vs[k] j != bitV b.vs[k] j) = false := by rw [bitV_eq.2 tv]; simp
            go_wp2_with fail
            refine (KF.out _).mono ?_
            rintro e wq ⟨rfl, hg⟩
            have HQ := Lib.hid ((HW.out.trans hgi).trans hg)
            have HI := Lib.hid (hgi.trans hg)
            clear hgi hg
            go_wp2_with fail
            have HG := Lib.hid (G2.out.trans HQ.out)
            have BAk := Lib.hid (BA.out.grow HQ.out)
            have BBk := Lib.hid (BB.out.grow HQ.out)
            have BRk := Lib.hid (BR.out.grow HQ.out)
            have hne : Nonempty (Cl (Grow wq)) := ⟨⟨wq, Grow.refl _⟩⟩
            have ⟨p0, p1⟩ := BAk.out.two_
            have ⟨p2, p3⟩ := BBk.out.two_
            have x0 : ∀ x : Cl (Grow wq), x.w.cell? ⟨b0, o0 + k, none⟩ = some (.int .i64 a.vs[k]) := fun x => x.ok.cell (HG.out.cell C0.out)
            have x1 : ∀ x : Cl (Grow wq), x.w.cell? ⟨b1, o1 + k, none⟩ = some (.int .i64 a.ms[k]) := fun x => x.ok.cell (HG.out.cell C1.out)
            have x2 : ∀ x : Cl (Grow wq), x.w.cell? ⟨b2, o2 + k, none⟩ = some (.int .i64 b.vs[k]) := fun x => x.ok.cell (HG.out.cell C2.out)
            have x3 : ∀ x : Cl (Grow wq), x.w.cell? ⟨b3, o3 + k, none⟩ = some (.int .i64 b.ms[k]) := fun x => x.ok.cell (HG.out.cell C3.out)
            refine wp_region_mix (Cls (Grow wq)) 35 #[false, false, false, false, false, false, false, false, false, false, false, false, false, false, false, false, false, false, false, false, false, false, false, false, false, false, false, false, false, false, false, false, false, false, false] (by kernel_rfl) (by kernel_rfl) ⟨⟨_, Grow.drewN _ 1⟩, rfl⟩ ?_
            refine anyC_seg [0, 1, 2, 3, 4, 5] #[true, true, true, true, true, true, false, false, false, false, false, false, false, false, false, false, false, false, false, false, false, false, false, false, false, false, false, false, false, false, false, false, false, false, false] (fuel := 29) rfl (by kernel_rfl) ⟨⟨_, Grow.drewN _ 1⟩, rfl⟩ ?_
            simp only [pickOps, List.getD_cons_succ, List.getD_cons_zero]
            repeat (go_big_quiet_step (fail))
            refine wpQuiet_nil ?_
            refine anyC_sole 6 #[true, true, true, true, true, true, true, false, false, false, false, false, false, false, false, false, false, false, false, false, false, false, false, false, false, false, false, false, false, false, false, false, false, false, false] (fuel := 28) (by kernel_rfl) ?_
            simp only [List.getD_cons_succ, List.getD_cons_zero]
            go_wp2_with fail
            refine (J1.out _).mono ?_
            rintro e w5 ⟨rfl, hg⟩
            rw [bitV_1 tm]
            have D0 := Lib.hid ((Grow.drewN _ 1).trans hg); clear hg
            go_wp2
            refine ⟨⟨⟨_, D0.out⟩, rfl⟩, ?_⟩
            refine anyC_seg [7, 8, 9, 10, 11, 12, 13, 14] #[true, true, true, true, true, true, true, true, true, true, true, true, true, true, true, false, false, false, false, false, false, false, false, false, false, false, false, false, false, false, false, false, false, false, false] (fuel := 20) rfl (by kernel_rfl) ⟨⟨_, D0.out⟩, rfl⟩ ?_
            simp only [pickOps, List.getD_cons_succ, List.getD_cons_zero]
            repeat (go_big_quiet_step (fail))
            refine wpQuiet_nil ?_
            refine anyC_sole 15 #[true, true, true, true, true, true, true, true, true, true, true, true, true, true, true, true, false, false, false, false, false, false, false, false, false, false, false, false, false, false, false, false, false, false, false] (fuel := 19) (by kernel_rfl) ?_
            simp only [List.getD_cons_succ, List.getD_cons_zero]
            go_wp2_with fail
            refine (J3.out _).mono ?_
            rintro e w6 ⟨rfl, hg⟩
            rw [bitV_1 tb]
            have D1 := Lib.hid ((D0.out).trans hg); clear hg
            go_wp2
            refine ⟨⟨⟨_, D1.out⟩, rfl⟩, ?_⟩
            refine anyC_seg [16, 17, 18, 19, 20, 21, 22, 23, 24, 26, 27, 28, 29, 30, 31] #[true, true, true, true, true, true, true, true, true, true, true, true, true, true, true, true, true, true, true, true, true, true, true, true, true, false, true, true, true, true, true, true, false, false, false] (fuel := 4) rfl (by kernel_rfl) ⟨⟨_, D1.out⟩, rfl⟩ ?_
            simp only [pickOps, List.getD_cons_succ, List.getD_cons_zero]
            repeat (go_big_quiet_step (fail))
            refine wpQuiet_nil ?_
            refine anyC_sole 25 #[true, true, true, true, true, true, true, true, true, true, true, true, true, true, true, true, true, true, true, true, true, true, true, true, true, true, true, true, true, true, true, true, false, false, false] (fuel := 3) (by kernel_rfl) ?_
            simp only [List.getD_cons_succ, List.getD_cons_zero]
            go_wp2_with fail
            refine (J0.out _).mono ?_
            rintro e w7 ⟨rfl, hg⟩

            have D2 := Lib.hid ((D1.out).trans hg); clear hg
            go_wp2
            refine ⟨⟨⟨_, D2.out⟩, rfl⟩, ?_⟩
            refine anyC_sole 32 #[true, true, true, true, true, true, true, true, true, true, true, true, true, true, true, true, true, true, true, true, true, true, true, true, true, true, true, true, true, true, true, true, true, false, false] (fuel := 2) (by kernel_rfl) ?_
            simp only [List.getD_cons_succ, List.getD_cons_zero]
            go_wp2_with fail
            refine (J2.out _).mono ?_
            rintro e w8 ⟨rfl, hg⟩

            have D3 := Lib.hid ((D2.out).trans hg); clear hg
            go_wp2
            refine ⟨⟨⟨_, D3.out⟩, rfl⟩, ?_⟩
            refine anyC_seg [33, 34] #[true, true, true, true, true, true, true, true, true, true, true, true, true, true, true, true, true, true, true, true, true, true, true, true, true, true, true, true, true, true, true, true, true, true, true] (fuel := 0) rfl (by kernel_rfl) ⟨⟨_, D3.out⟩, rfl⟩ ?_
            simp only [pickOps, List.getD_cons_succ, List.getD_cons_zero]
            repeat (go_big_quiet_step (fail))
            refine wpQuiet_nil ?_
            refine anyC_done (by kernel_rfl) ?_
            go_wp2
            go_roundw
            case rel =>
              refine ⟨j + 1, by omega, by go_num, fun q hq => ?_, HI.out.trans (D3.out)⟩
              rcases Nat.lt_or_ge q j with h' | h'
              · exact HP.out q h'
              · obtain rfl : q = j := by omega
                exact fun _ _ => tv
            case measure => simp [intOf]; omega

          · have hbn : (bitV a.vs[k] j != bitV b.vs[k] j) = true := by simpa using fun h => tv (bitV_eq.1 h)
            have HE : Hid (meOk a b = false) := Lib.hid (HN.out k hlt (by
              cases hh : meAt a b k
              · rfl
              · exact absurd (HT2.out hh j hjl tm tb) tv))
            go_wp2_with fail
            refine (KF.out _).mono ?_
            rintro e wq ⟨rfl, hg⟩
            have HQ := Lib.hid ((HW.out.trans hgi).trans hg)
            have HI := Lib.hid (hgi.trans hg)
            clear hgi hg
            go_wp2_with fail
            have HG := Lib.hid (G2.out.trans HQ.out)
            have BAk := Lib.hid (BA.out.grow HQ.out)
            have BBk := Lib.hid (BB.out.grow HQ.out)
            have BRk := Lib.hid (BR.out.grow HQ.out)
            have hne : Nonempty (Cl (Grow wq)) := ⟨⟨wq, Grow.refl _⟩⟩
            have ⟨p0, p1⟩ := BAk.out.two_
            have ⟨p2, p3⟩ := BBk.out.two_
            have x0 : ∀ x : Cl (Grow wq), x.w.cell? ⟨b0, o0 + k, none⟩ = some (.int .i64 a.vs[k]) := fun x => x.ok.cell (HG.out.cell C0.out)
            have x1 : ∀ x : Cl (Grow wq), x.w.cell? ⟨b1, o1 + k, none⟩ = some (.int .i64 a.ms[k]) := fun x => x.ok.cell (HG.out.cell C1.out)
            have x2 : ∀ x : Cl (Grow wq), x.w.cell? ⟨b2, o2 + k, none⟩ = some (.int .i64 b.vs[k]) := fun x => x.ok.cell (HG.out.cell C2.out)
            have x3 : ∀ x : Cl (Grow wq), x.w.cell? ⟨b3, o3 + k, none⟩ = some (.int .i64 b.ms[k]) := fun x => x.ok.cell (HG.out.cell C3.out)
            refine wp_region_mix (Cls (Grow wq)) 35 #[false, false, false, false, false, false, false, false, false, false, false, false, false, false, false, false, false, false, false, false, false, false, false, false, false, false, false, false, false, false, false, false, false, false, false] (by kernel_rfl) (by kernel_rfl) ⟨⟨_, Grow.drewN _ 1⟩, rfl⟩ ?_
            refine anyC_seg [0, 1, 2, 3, 4, 5] #[true, true, true, true, true, true, false, false, false, false, false, false, false, false, false, false, false, false, false, false, false, false, false, false, false, false, false, false, false, false, false, false, false, false, false] (fuel := 29) rfl (by kernel_rfl) ⟨⟨_, Grow.drewN _ 1⟩, rfl⟩ ?_
            simp only [pickOps, List.getD_cons_succ, List.getD_cons_zero]
            repeat (go_big_quiet_step (fail))
            refine wpQuiet_nil ?_
            refine anyC_sole 6 #[true, true, true, true, true, true, true, false, false, false, false, false, false, false, false, false, false, false, false, false, false, false, false, false, false, false, false, false, false, false, false, false, false, false, false] (fuel := 28) (by kernel_rfl) ?_
            simp only [List.getD_cons_succ, List.getD_cons_zero]
            go_wp2_with fail
            refine (J1.out _).mono ?_
            rintro e w5 ⟨rfl, hg⟩
            rw [bitV_1 tm]
            have D0 := Lib.hid ((Grow.drewN _ 1).trans hg); clear hg
            go_wp2
            refine ⟨⟨⟨_, D0.out⟩, rfl⟩, ?_⟩
            refine anyC_seg [7, 8, 9, 10, 11, 12, 13, 14] #[true, true, true, true, true, true, true, true, true, true, true, true, true, true, true, false, false, false, false, false, false, false, false, false, false, false, false, false, false, false, false, false, false, false, false] (fuel := 20) rfl (by kernel_rfl) ⟨⟨_, D0.out⟩, rfl⟩ ?_
            simp only [pickOps, List.getD_cons_succ, List.getD_cons_zero]
            repeat (go_big_quiet_step (fail))
            refine wpQuiet_nil ?_
            refine anyC_sole 15 #[true, true, true, true, true, true, true, true, true, true, true, true, true, true, true, true, false, false, false, false, false, false, false, false, false, false, false, false, false, false, false, false, false, false, false] (fuel := 19) (by kernel_rfl) ?_
            simp only [List.getD_cons_succ, List.getD_cons_zero]
            go_wp2_with fail
            refine (J3.out _).mono ?_
            rintro e w6 ⟨rfl, hg⟩
            rw [bitV_1 tb]
            have D1 := Lib.hid ((D0.out).trans hg); clear hg
            go_wp2
            refine ⟨⟨⟨_, D1.out⟩, rfl⟩, ?_⟩
            refine anyC_seg [16, 17, 18, 19, 20, 21, 22, 23, 24, 26, 27, 28, 29, 30, 31] #[true, true, true, true, true, true, true, true, true, true, true, true, true, true, true, true, true, true, true, true, true, true, true, true, true, false, true, true, true, true, true, true, false, false, false] (fuel := 4) rfl (by kernel_rfl) ⟨⟨_, D1.out⟩, rfl⟩ ?_
            simp only [pickOps, List.getD_cons_succ, List.getD_cons_zero]
            repeat (go_big_quiet_step (fail))
            refine wpQuiet_nil ?_
            refine anyC_sole 25 #[true, true, true, true, true, true, true, true, true, true, true, true, true, true, true, true, true, true, true, true, true, true, true, true, true, true, true, true, true, true, true, true, false, false, false] (fuel := 3) (by kernel_rfl) ?_
            simp only [List.getD_cons_succ, List.getD_cons_zero]
            go_wp2_with fail
            refine (J0.out _).mono ?_
            rintro e w7 ⟨rfl, hg⟩

            have D2 := Lib.hid ((D1.out).trans hg); clear hg
            go_wp2
            refine ⟨⟨⟨_, D2.out⟩, rfl⟩, ?_⟩
            refine anyC_sole 32 #[true, true, true, true, true, true, true, true, true, true, true, true, true, true, true, true, true, true, true, true, true, true, true, true, true, true, true, true, true, true, true, true, true, false, false] (fuel := 2) (by kernel_rfl) ?_
            simp only [List.getD_cons_succ, List.getD_cons_zero]
            go_wp2_with fail
            refine (J2.out _).mono ?_
            rintro e w8 ⟨rfl, hg⟩

            have D3 := Lib.hid ((D2.out).trans hg); clear hg
            go_wp2
            refine ⟨⟨⟨_, D3.out⟩, rfl⟩, ?_⟩
            refine anyC_seg [33, 34] #[true, true, true, true, true, true, true, true, true, true, true, true, true, true, true, true, true, true, true, true, true, true, true, true, true, true, true, true, true, true, true, true, true, true, true] (fuel := 0) rfl (by kernel_rfl) ⟨⟨_, D3.out⟩, rfl⟩ ?_
            simp only [pickOps, List.getD_cons_succ, List.getD_cons_zero]
            repeat (go_big_quiet_step (fail))
            refine wpQuiet_nil ?_
            refine anyC_done (by kernel_rfl) ?_
            have ⟨t0, t1⟩ := (BRk.out.grow (D3.out)).two
            have z0 := (BRk.out.grow (D3.out)).2.2
            have l0 := (BRk.out.grow (D3.out)).1
            have GE := Lib.hid (HG.out.trans (D3.out))
            go_wp2
            rw [meetF_no HE.out]
            refine bodyPost_ret (v := .tuple #[.agg #[.slice none 0 0, .slice none 0 0], .bool false]) ?_ rfl (HZ.out _ (GE.out.box_end (fq := [w.heap.size + 1 + 1]) ?_ (by intro b hb; simp only [List.mem_cons, List.not_mem_nil, or_false] at hb; omega)))
            · simp [results, Try.results48, go_sem, t0, t1, z0, l0]
            · ((repeat (first | with_reducible exact Upd.refl _ _ | (with_reducible refine Upd.setCell ?_ (by simp) _))))

        · obtain rfl : j = nb := by omega
          have HK : Hid (meAt a b k = true) := Lib.hid (HT.out HP.out)
          go_wp2_with fail
          refine (KF.out _).mono ?_
          rintro e wq ⟨rfl, hg⟩
          have BQ := Lib.hid ((BL.out.later hgi).later hg)
          have HQ := Lib.hid ((HW.out.trans hgi).trans hg)
          clear hgi hg
          go_wp2_with fail
          have hne : Nonempty (Cl (Grow wq)) := ⟨⟨wq, Grow.refl _⟩⟩
          have ⟨p0, p1⟩ := (BA.out.grow HQ.out).two_
          have ⟨p2, p3⟩ := (BB.out.grow HQ.out).two_
          have x0 : ∀ x : Cl (Grow wq), x.w.cell? ⟨b0, o0 + k, none⟩ = some (.int .i64 a.vs[k]) := fun x => x.ok.cell ((G2.out.trans HQ.out).cell C0.out)
          have x1 : ∀ x : Cl (Grow wq), x.w.cell? ⟨b1, o1 + k, none⟩ = some (.int .i64 a.ms[k]) := fun x => x.ok.cell ((G2.out.trans HQ.out).cell C1.out)
          have x2 : ∀ x : Cl (Grow wq), x.w.cell? ⟨b2, o2 + k, none⟩ = some (.int .i64 b.vs[k]) := fun x => x.ok.cell ((G2.out.trans HQ.out).cell C2.out)
          have x3 : ∀ x : Cl (Grow wq), x.w.cell? ⟨b3, o3 + k, none⟩ = some (.int .i64 b.ms[k]) := fun x => x.ok.cell ((G2.out.trans HQ.out).cell C3.out)
          have ⟨p4, p5⟩ := BQ.out.box.two_
          refine wp_region_last (Cls (Grow wq)) 15 16 #[false, false, false, false, false, false, false, false, false, false, false, false, false, false, false, false] (by kernel_rfl) (by kernel_rfl) ?_
          refine anyL_seg [0, 1, 2, 3, 4, 5, 6, 7, 8, 9, 10, 11, 12, 13, 14] #[true, true, true, true, true, true, true, true, true, true, true, true, true, true, true, false] (fuel := 1) rfl (by kernel_rfl) ⟨⟨_, Grow.drewN _ 1⟩, rfl⟩ ?_
          simp only [pickOps, List.getD_cons_succ, List.getD_cons_zero]
          repeat (go_big_quiet_step (fail))
          refine wpQuiet_nil ?_
          refine anyL_last (by kernel_rfl) ?_
          simp only [List.getD_cons_succ, List.getD_cons_zero]
          have ⟨f0, f1⟩ := (BQ.out.later (Grow.drewN wq 1)).ms.cell_at k (by rw [BQ.out.lm]; exact hlt)
          go_wp2
          refine ⟨trivial, ?_⟩
          rw [OM.out]
          have BL2 : Hid (Bld w2 ((wq.drewN 1).setCell ⟨g2, k, none⟩ (.int .i64 ((nv a.ms k ||| nv b.ms k : Nat) : Int))) w3.heap.size g1 g2 e1 e2 ⟨partZ (orL a.vs b.vs) k, partZ (orL a.ms b.ms) (k + 1)⟩) := Lib.hid (by
            have := (BQ.out.later (Grow.drewN wq 1)).setM k hlt ((nv a.ms k ||| nv b.ms k : Nat) : Int)
            have e := partZ_set (orL a.ms b.ms) (orL_len _ _) k hlt
            rw [orL_at _ _ k hlt] at e
            rwa [e] at this)
          clear hne p0 p1 p2 p3 p4 p5 x0 x1 x2 x3 f0 f1
          generalize ((nv a.ms k ||| nv b.ms k : Nat) : Int) = om at *
          generalize (wq.drewN 1).setCell ⟨g2, k, none⟩ (.int .i64 om) = wm at *
          go_wp2_with fail
          have hne : Nonempty (Cl (Grow wm)) := ⟨⟨wm, Grow.refl _⟩⟩
          have ⟨p0, p1⟩ := (BA.out.grow BL2.out.grow).two_
          have ⟨p2, p3⟩ := (BB.out.grow BL2.out.grow).two_
          have x0 : ∀ x : Cl (Grow wm), x.w.cell? ⟨b0, o0 + k, none⟩ = some (.int .i64 a.vs[k]) := fun x => x.ok.cell ((G2.out.trans BL2.out.grow).cell C0.out)
          have x1 : ∀ x : Cl (Grow wm), x.w.cell? ⟨b1, o1 + k, none⟩ = some (.int .i64 a.ms[k]) := fun x => x.ok.cell ((G2.out.trans BL2.out.grow).cell C1.out)
          have x2 : ∀ x : Cl (Grow wm), x.w.cell? ⟨b2, o2 + k, none⟩ = some (.int .i64 b.vs[k]) := fun x => x.ok.cell ((G2.out.trans BL2.out.grow).cell C2.out)
          have x3 : ∀ x : Cl (Grow wm), x.w.cell? ⟨b3, o3 + k, none⟩ = some (.int .i64 b.ms[k]) := fun x => x.ok.cell ((G2.out.trans BL2.out.grow).cell C3.out)
          have ⟨p4, p5⟩ := BL2.out.box.two_
          refine wp_region_last (Cls (Grow wm)) 15 16 #[false, false, false, false, false, false, false, false, false, false, false, false, false, false, false, false] (by kernel_rfl) (by kernel_rfl) ?_
          refine anyL_seg [0, 1, 2, 3, 4, 5, 6, 7, 8, 9, 10, 11, 12, 13, 14] #[true, true, true, true, true, true, true, true, true, true, true, true, true, true, true, false] (fuel := 1) rfl (by kernel_rfl) ⟨⟨_, Grow.drewN _ 1⟩, rfl⟩ ?_
          simp only [pickOps, List.getD_cons_succ, List.getD_cons_zero]
          repeat (go_big_quiet_step (fail))
          refine wpQuiet_nil ?_
          refine anyL_last (by kernel_rfl) ?_
          simp only [List.getD_cons_succ, List.getD_cons_zero]
          have ⟨f0, f1⟩ := (BL2.out.later (Grow.drewN wm 1)).vs.cell_at k (by rw [BL2.out.lv]; exact hlt)
          go_wp2
          refine ⟨trivial, ?_⟩
          rw [OV.out]
          have BL3 : Hid (Bld w2 ((wm.drewN 1).setCell ⟨g1, k, none⟩ (.int .i64 ((nv a.vs k ||| nv b.vs k : Nat) : Int))) w3.heap.size g1 g2 e1 e2 ⟨partZ (orL a.vs b.vs) (k + 1), partZ (orL a.ms b.ms) (k + 1)⟩) := Lib.hid (by
            have := (BL2.out.later (Grow.drewN wm 1)).setV k hlt ((nv a.vs k ||| nv b.vs k : Nat) : Int)
            have e := partZ_set (orL a.vs b.vs) (orL_len _ _) k hlt
            rw [orL_at _ _ k hlt] at e
            rwa [e] at this)
          clear hne p0 p1 p2 p3 p4 p5 x0 x1 x2 x3 f0 f1
          generalize ((nv a.vs k ||| nv b.vs k : Nat) : Int) = ov at *
          go_wp2
          go_roundw
          case rel => exact ⟨k + 1, by omega, by go_num, below_succ (p := fun j => meAt a b j) HA.out HK.out, BL3.out⟩
          case measure => simp [intOf]; omega
    · obtain rfl : k = 8 := by omega
      have HME := Lib.hid (meetF_yes (HY.out HA.out))
      have ⟨q0, q1⟩ := BL.out.box.two
      have lk := BL.out.box.1
      have ⟨s0, s1⟩ := (BR.out.grow BL.out.grow).two
      have z0 := (BR.out.grow BL.out.grow).2.2
      have l0 := (BR.out.grow BL.out.grow).1
      have hlt1 : w.heap.size + 1 + 1 < w2.heap.size := BR.out.1
      have HR : Hid (∀ W, Upd [w.heap.size + 1 + 1] wr W → RetNew2 OwnM ⟨orL a.vs b.vs, orL a.ms b.ms⟩ (.bool true) w (.returned (.tuple #[.agg #[.slice (some ⟨g1, 0, none⟩) 8 e1, .slice (some ⟨g2, 0, none⟩) 8 e2], .bool true])) W) := Lib.hid (fun W hu => by
        have hb := BL.out
        rw [partZ_8 _ (orL_len _ _), partZ_8 _ (orL_len _ _)] at hb
        refine ⟨_, [g1, g2], rfl, hb.ret hu hlt1, ?_, (G2.out.trans hb.grow).box_end hu (by intro b hb; simp only [List.mem_cons, List.not_mem_nil, or_false] at hb; omega)⟩
        have h1 := hb.n1; have h2 := hb.n2; have h3 := G2.out.size
        intro x hx; simp only [List.mem_cons, List.not_mem_nil, or_false] at hx; omega)
      have hnb := BL.out.nb
      go_wp2
      rw [HME.out, orM_eq]
      refine bodyPost_ret (v := .tuple #[.agg #[.slice (some ⟨g1, 0, none⟩) 8 e1, .slice (some ⟨g2, 0, none⟩) 8 e2], .bool true]) ?_ rfl (HR.out _ ?_)
      · simp [results, Try.results48, go_sem, q0, q1, s0, s1, z0, l0, lk]
      · ((repeat (first | with_reducible exact Upd.refl _ _ | (with_reducible refine Upd.setCell ?_ (by simp) _))))
--% MeetsS 46
theorem meetsS_any (w : World) (V U : Value) (a b : DatM) (h : RdM w V a) (h2 : RdM w U b) (wa : WfM a) (wb : WfM b) : Calls Try.prog 46 #[V, U] w (RetV (.bool (meOk a b)) w) := by
  have R1 := Lib.hid h; have R2 := Lib.hid h2
  obtain ⟨x0, y0, x1, y1, rfl⟩ := h.shape
  obtain ⟨x2, y2, x3, y3, rfl⟩ := h2.shape
  clear h h2
  go_enter Try.func46, Try.ntmps46
  go_wp2_with fail
  refine at_world (w := w) ?G (fun hG => (meetOfS_any _ _ _ a b (R1.out.grow hG) (R2.out.grow hG) wa wb).mono ?_)
  case G => ((repeat (first | with_reducible exact Grow.refl _ | (with_reducible refine Grow.alloc_ ?_ _) | (with_reducible refine Grow.setCell_ ?_ (by first | exact Nat.le_refl _ | (simp only [World.alloc, Array.size_push]; omega) | omega) _))))
  rw [meetF_2]
  rintro e w1 ⟨v1, fp1, rfl, ho, hf, hg⟩
  obtain ⟨q0, q1, q2, q3, rfl⟩ := ho.rd.shape
  have HG := Lib.hid (hG.trans hg); clear hG hg ho hf
  go_wp2
  go_ret
  refine ⟨rfl, ?_⟩
  ((repeat (first | with_reducible exact Grow.refl _ | (with_reducible refine Grow.alloc_ ?_ _) | (with_reducible refine Grow.setCell_ ?_ (by first | exact Nat.le_refl _ | (simp only [World.alloc, Array.size_push]; omega) | omega) _))))
  exact HG.out
--%
end Go.Proofs.Ytkkhkojojnebjaa
