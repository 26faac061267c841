/- MatchBits of the reference model: contract of the code (printed by gmbs.py). -/
import Derived.Test.YtkkhkojojnebjaaMb
import Derived.WalkKit
import Derived.ProofKit
import Derived.Deep.QuietTactic
import Derived.BigQuiet
import Derived.Outline
import Derived.WalkSpells
namespace Go.Proofs.Ytkkhkojojnebjaa
open Go.ChangeShapes Go.WideShapes Go.ChangeAt Go.RowKit
set_option linter.unusedVariables false
set_option linter.unusedSimpArgs false
--%
def pw (m : Nat) : Int := ((2 ^ m : Nat) : Int)
theorem pw_0 : pw 0 = 1 := rfl
theorem pw_s (m : Nat) : pw (m + 1) = pw m * 2 := by unfold pw; rw [Nat.pow_succ]; omega
theorem pw_bd {m : Nat} (h : m ≤ 48) : 1 ≤ pw m ∧ pw m ≤ 281474976710656 := by have := pow_bd h; unfold pw; omega
/-- The bit that comes up behind j of them. -/
def bitAt (B j : Nat) : Int := if j < B then ((2 ^ (B - 1 - j) : Nat) : Int) else 0
theorem bitAt_0 {B m : Nat} (h : B = m + 1) : bitAt B 0 = pw m := by
  have e : B - 1 - 0 = m := by omega
  unfold bitAt pw; rw [if_pos (by omega), e]
theorem bitAt_bd (B j : Nat) (h : B ≤ 48) : 0 ≤ bitAt B j ∧ bitAt B j ≤ 281474976710656 := by
  unfold bitAt; split
  · have := pow_bd (B := B - 1 - j) (by omega); omega
  · omega
theorem bitAt_lt {B j : Nat} (h : j < B) : bitAt B j = ((2 ^ (B - 1 - j) : Nat) : Int) := by simp [bitAt, h]
theorem bitAt_half (B j : Nat) (h : j < B) : bitAt B j / 2 = bitAt B (j + 1) := by
  rw [bitAt_lt h]
  by_cases h2 : j + 1 < B
  · rw [bitAt_lt h2]
    have e : B - 1 - j = (B - 1 - (j + 1)) + 1 := by omega
    rw [e, Nat.pow_succ]; omega
  · have e : B - 1 - j = 0 := by omega
    rw [e]; simp [bitAt, h2]
theorem mbM_0 (B : Nat) : mbM B 0 = 0 := by simp [mbM]
theorem mbM_s (B j : Nat) (h : j < B) : mbM B j + bitAt B j = mbM B (j + 1) := by
  rw [bitAt_lt h]; unfold mbM
  have e : B - j = (B - 1 - j) + 1 := by omega
  have e2 : B - (j + 1) = B - 1 - j := by omega
  have hle : 2 ^ ((B - 1 - j) + 1) ≤ 2 ^ B := Nat.pow_le_pow_right (by decide) (by omega)
  rw [e, e2]
  rw [Nat.pow_succ] at *
  omega
theorem mbV_0 (x : Int) (B : Nat) (h : x.toNat < 2 ^ B) : mbV x B 0 = 0 := by simp [mbV, Nat.mod_eq_of_lt h]
theorem mbV_s (x : Int) (h0 : 0 ≤ x) (B j : Nat) (h : j < B) : mbV x B (j + 1) = mbV x B j + (if x / bitAt B j % 2 = 1 then bitAt B j else 0) := by
  rw [bitAt_lt h]; unfold mbV
  obtain ⟨X, rfl⟩ := Int.eq_ofNat_of_zero_le h0
  have e : B - j = (B - 1 - j) + 1 := by omega
  have e2 : B - (j + 1) = B - 1 - j := by omega
  rw [e, e2, Int.toNat_natCast]
  have hm := Nat.mod_pow_succ (b := 2) (k := B - 1 - j) (x := X)
  have hle : X % 2 ^ (B - 1 - j) ≤ X := Nat.mod_le _ _
  have hle2 : X % 2 ^ ((B - 1 - j) + 1) ≤ X := Nat.mod_le _ _
  have hd : ((X : Int) / ((2 ^ (B - 1 - j) : Nat) : Int) % 2) = ((X / 2 ^ (B - 1 - j) % 2 : Nat) : Int) := by simp
  rw [hd]
  have h2 : X / 2 ^ (B - 1 - j) % 2 = 0 ∨ X / 2 ^ (B - 1 - j) % 2 = 1 := by omega
  generalize 2 ^ (B - 1 - j) = P at *
  rcases h2 with h2 | h2
  · rw [h2] at hm ⊢
    simp only [Nat.mul_zero, Nat.add_zero] at hm
    rw [hm]; simp
  · rw [h2] at hm ⊢
    simp only [Nat.mul_one] at hm
    simp only [Int.natCast_one, if_true]
    omega
theorem mbV_bd (x : Int) (h : x ≤ 281474976710656) (h0 : 0 ≤ x) (B j : Nat) : 0 ≤ mbV x B j ∧ mbV x B j ≤ 281474976710656 := by
  unfold mbV
  have : x.toNat - x.toNat % 2 ^ (B - j) ≤ x.toNat := Nat.sub_le _ _
  omega
theorem mbM_bd (B j : Nat) (h : B ≤ 48) : 0 ≤ mbM B j ∧ mbM B j ≤ 281474976710656 := by
  unfold mbM
  have := pow_bd h
  have : 2 ^ B - 2 ^ (B - j) ≤ 2 ^ B := Nat.sub_le _ _
  omega
theorem zero_set (k : Nat) : (List.replicate 8 (0 : Int)).set k 0 = List.replicate 8 0 := by
  apply List.ext_getElem
  · simp
  · intro i h1 h2
    rw [List.getElem_set]; split
    · rw [List.getElem_replicate]
    · rfl
--% MatchBitsS 40
theorem matchBitsS_any (w : World) (f x n : Int) : Calls Try.prog 40 #[.int .i64 f, .int .i64 x, .int .i64 n] w (RetNew2 OwnM (mbF f x n).1 (.bool (mbF f x n).2) w) := by
  have HZ : ∀ (w1 : World), Grow w w1 → RetNew2 OwnM zeroM (.bool false) w (.returned (.tuple #[.agg #[.slice none 0 0, .slice none 0 0], .bool false])) w1 := fun w1 hg => ⟨_, [], rfl, ownM_nil _, by simp [Fresh], hg⟩
  have HZ := Lib.hid HZ
  cases hft : fitB f x
  · rw [mbF_fit hft]
    go_enter Try.func40, Try.ntmps40
    go_wp2_with fail
    refine (l04Fits_any _ _ _).mono ?_
    rintro e w1 ⟨rfl, hg⟩
    rw [hft]
    have HG := Lib.hid ((Grow.alloc w _).trans hg)
    have BX := Lib.hid ((Box.alloc w _ _).grow hg)
    clear hg
    have ⟨q0, q1⟩ := BX.out.two
    have z0 := BX.out.2.2
    have l0 := BX.out.1
    go_wp2
    refine bodyPost_ret (v := .tuple #[.agg #[.slice none 0 0, .slice none 0 0], .bool false]) ?_ rfl (HZ.out _ (HG.out.box_end (fq := [w.heap.size]) ?_ (by simp)))
    · simp [results, Try.results40, go_sem, q0, q1, z0, l0]
    · ((repeat (first | with_reducible exact Upd.refl _ _ | (with_reducible refine Upd.setCell ?_ (by simp) _))))
  have hk := fitB_iff.1 hft
  obtain ⟨k, rfl⟩ := Int.eq_ofNat_of_zero_le hk.1.1
  have hk8 : k < 8 := by omega
  obtain ⟨B, hB, hB48⟩ := bits_nb k
  have KF := Lib.hid (fun w => fieldBitsS_any (k : Nat) w)
  rw [hB] at KF
  have HB := Lib.hid hB
  by_cases hn0 : 0 ≤ n
  rotate_left
  · rw [mbF_lo hn0]
    clear hB hk
    go_enter Try.func40, Try.ntmps40
    go_wp2_with fail
    refine (l04Fits_any _ _ _).mono ?_
    rintro e w1 ⟨rfl, hg⟩
    rw [hft]
    have HG := Lib.hid ((Grow.alloc w _).trans hg)
    have BX := Lib.hid ((Box.alloc w _ _).grow hg)
    clear hg
    have ⟨q0, q1⟩ := BX.out.two
    have z0 := BX.out.2.2
    have l0 := BX.out.1
    go_wp2
    refine bodyPost_ret (v := .tuple #[.agg #[.slice none 0 0, .slice none 0 0], .bool false]) ?_ rfl (HZ.out _ (HG.out.box_end (fq := [w.heap.size]) ?_ (by simp)))
    · simp [results, Try.results40, go_sem, q0, q1, z0, l0]
    · ((repeat (first | with_reducible exact Upd.refl _ _ | (with_reducible refine Upd.setCell ?_ (by simp) _))))
  by_cases hnB : n ≤ B
  rotate_left
  · rw [mbF_hi (by rw [hB]; exact hnB)]
    clear hB hk
    go_enter Try.func40, Try.ntmps40
    go_wp2_with fail
    refine (l04Fits_any _ _ _).mono ?_
    rintro e w1 ⟨rfl, hg⟩
    rw [hft]
    have HG := Lib.hid ((Grow.alloc w _).trans hg)
    have BX := Lib.hid ((Box.alloc w _ _).grow hg)
    clear hg
    go_wp2_with fail
    refine (KF.out _).mono ?_
    rintro e w2 ⟨rfl, hg⟩
    have HG := Lib.hid (HG.out.trans hg)
    have BX := Lib.hid (BX.out.grow hg)
    clear hg
    have ⟨q0, q1⟩ := BX.out.two
    have z0 := BX.out.2.2
    have l0 := BX.out.1
    go_wp2
    refine bodyPost_ret (v := .tuple #[.agg #[.slice none 0 0, .slice none 0 0], .bool false]) ?_ rfl (HZ.out _ (HG.out.box_end (fq := [w.heap.size]) ?_ (by simp)))
    · simp [results, Try.results40, go_sem, q0, q1, z0, l0]
    · ((repeat (first | with_reducible exact Upd.refl _ _ | (with_reducible refine Upd.setCell ?_ (by simp) _))))
  obtain ⟨N, rfl⟩ := Int.eq_ofNat_of_zero_le hn0
  have hNB : N ≤ B := by omega
  rw [mbF_yes hft hn0 (by rw [hB]; exact hnB)]
  have HFP := Lib.hid (full_pow hk8 hB)
  have hp := pow_bd hB48
  have hp2 := pow_le' (B := B) (N := N)
  have hp3 := (pow_bd (B := B - N) (by omega)).1
  have hxB : x.toNat < 2 ^ B := by have h1 := full_pow hk8 hB; have h2 := hk.2; omega
  have hx0 : 0 ≤ x := hk.2.1
  have HX := Lib.hid (mask_and hxB hNB)
  clear hB hk
  go_enter Try.func40, Try.ntmps40
  go_wp2_with fail
  refine (l04Fits_any _ _ _).mono ?_
  rintro e w1 ⟨rfl, hg⟩
  rw [hft]
  have HG := Lib.hid ((Grow.alloc w _).trans hg)
  have BX := Lib.hid ((Box.alloc w _ _).grow hg)
  clear hg
  go_wp2_with fail
  refine (KF.out _).mono ?_
  rintro e w2 ⟨rfl, hg⟩
  have HG := Lib.hid (HG.out.trans hg)
  have BX := Lib.hid (BX.out.grow hg)
  clear hg
  go_wp2_with fail
  refine (matchAllS_any _).mono ?_
  rintro e w3 ⟨v3, fp3, rfl, ho, hf, hg⟩
  obtain ⟨g1, g2, c1, c2, rfl, o1, o2, hd, n1, n2, l1, l2⟩ := ownM_open ho hf
  have BS := Lib.hid (Bld.start hg 41 o1 o2 hd n1 n2 l1 l2)
  clear ho hf o1 o2 hd n1 n2 l1 l2 hg
  go_wp2
  generalize w3.alloc (Obj.cells #[Value.slice (some ⟨g1, 0, none⟩) 8 c1, Value.slice (some ⟨g2, 0, none⟩) 8 c2] 41) = wa at *
  have hB8 : 1 ≤ B := by have h1 := HB.out; have h2 := bits_full (k : Int); omega
  go_loopw [9, 10] (fun q i wr => ∃ m : Nat, m + 1 ≤ B ∧ i = .int .i64 ((m : Int) + 1) ∧ q = .int .i64 (pw m) ∧ Grow wa wr) (fun _ i _ => B - (intOf i).toNat)
  case atStart => exact ⟨0, hB8, rfl, rfl, Grow.refl _⟩
  case round =>
    obtain ⟨m, hm, rfl, rfl, hgr⟩ := hrel
    by_cases hlt : m + 1 < B
    · have hp := pw_bd (m := m) (by omega)
      go_wp2_with fail
      refine (KF.out _).mono ?_
      rintro e wq ⟨rfl, hg⟩
      have HI := Lib.hid (hgr.trans hg); clear hgr hg
      go_wp2
      go_roundw
      case rel => exact ⟨m + 1, by omega, by go_num, by rw [pw_s], HI.out⟩
      case measure => simp [intOf]; omega
    · have hBm : B = m + 1 := by omega
      go_wp2_with fail
      refine (KF.out _).mono ?_
      rintro e wq ⟨rfl, hg⟩
      have HI := Lib.hid (hgr.trans hg); clear hgr hg
      go_wp2
      have BS2 := Lib.hid (BS.out.later HI.out)
      have hz1 : (allM.vs).set k (mbV x B 0) = allM.vs := by rw [mbV_0 _ _ hxB]; exact zero_set k
      have hz2 : (allM.ms).set k (mbM B 0) = allM.ms := by rw [mbM_0]; exact zero_set k
      have HZ1 := Lib.hid hz1; have HZ2 := Lib.hid hz2; clear hz1 hz2
      go_loopw [9, 11] (fun q i wr => ∃ j : Nat, j ≤ N ∧ i = .int .i64 j ∧ q = .int .i64 (bitAt B j) ∧ Bld w2 wr w3.heap.size g1 g2 c1 c2 ⟨allM.vs.set k (mbV x B j), allM.ms.set k (mbM B j)⟩) (fun _ i _ => N - (intOf i).toNat)
      case atStart => exact ⟨0, Nat.zero_le _, rfl, by rw [bitAt_0 hBm], by rw [HZ1.out, HZ2.out]; exact BS2.out⟩
      case round =>
        obtain ⟨j, hj, rfl, rfl, hbl⟩ := hrel
        have BL := Lib.hid hbl; clear hbl
        have hxb : 0 ≤ x ∧ x ≤ 281474976710656 := by omega
        have hbb := bitAt_bd B j hB48
        have hbv := mbV_bd x hxb.2 hxb.1 B j
        have hbm := mbM_bd B j hB48
        have hbv2 := mbV_bd x hxb.2 hxb.1 B (j + 1)
        have hbm2 := mbM_bd B (j + 1) hB48
        by_cases hlt : j < N
        · have hjB : j < B := by omega
          have EM := Lib.hid (mbM_s B j hjB)
          have EV := Lib.hid (mbV_s x hxb.1 B j hjB)
          have EH := Lib.hid (bitAt_half B j hjB)
          have hb1 : 1 ≤ bitAt B j := by rw [bitAt_lt hjB]; have := (pow_bd (B := B - 1 - j) (by omega)).1; omega
          generalize bitAt B j = bt at *
          generalize hmm : mbM B j = M at *
          generalize hvv : mbV x B j = Vv at *
          have hmm := Lib.hid hmm; have hvv := Lib.hid hvv
          go_wp2_with fail
          have hne : Nonempty (Cl (Grow wr)) := ⟨⟨wr, Grow.refl _⟩⟩
          have ⟨p0, p1⟩ := BL.out.box.two_
          have p2 : ∀ x : Cl (Grow wr), x.w.cell? ⟨g2, k, none⟩ = some (.int .i64 M) := fun x => x.ok.cell (by
            have := (BL.out.ms.cell_at k (by rw [BL.out.lm]; exact hk8)).1
            simpa using this)
          refine wp_region_last (Cls (Grow wr)) 11 12 #[false, false, false, false, false, false, false, false, false, false, false, false] (by kernel_rfl) (by kernel_rfl) ?_
          refine anyL_seg [0, 1, 2, 3, 4, 5, 6, 7, 8, 9, 10] #[true, true, true, true, true, true, true, true, true, true, true, false] (fuel := 1) rfl (by kernel_rfl) ⟨⟨_, Grow.drewN _ 1⟩, rfl⟩ ?_
          simp only [pickOps, List.getD_cons_succ, List.getD_cons_zero]
          repeat (go_big_quiet_step (fail))
          refine wpQuiet_nil ?_
          refine anyL_last (by kernel_rfl) ?_
          simp only [List.getD_cons_succ, List.getD_cons_zero]
          have ⟨e0, e1⟩ := (BL.out.later (Grow.drewN wr 1)).ms.cell_at k (by rw [BL.out.lm]; exact hk8)
          go_wp2
          refine ⟨trivial, ?_⟩
          have BL2 : Hid (Bld w2 ((wr.drewN 1).setCell ⟨g2, k, none⟩ (.int .i64 (M + bt))) w3.heap.size g1 g2 c1 c2 ⟨allM.vs.set k Vv, allM.ms.set k (mbM B (j + 1))⟩) := Lib.hid (by
            have := (BL.out.later (Grow.drewN wr 1)).setM k hk8 (M + bt)
            rw [EM.out] at this ⊢
            simpa only [List.set_set] using this)
          clear hne p0 p1 p2 e0 e1
          generalize (wr.drewN 1).setCell ⟨g2, k, none⟩ (.int .i64 (M + bt)) = wm at *
          by_cases hbit : x / bt % 2 = 1
          · have hq : ((x / bt).tmod 2 == 1) = true := by rw [Int.tmod_eq_emod_of_nonneg (Int.ediv_nonneg hx0 (by omega))]; simpa using hbit
            have EVV : Hid (mbV x B (j + 1) = Vv + bt) := Lib.hid (by have := EV.out; rw [if_pos hbit] at this; exact this)
            clear hbit
            go_wp2_with fail
            have hne : Nonempty (Cl (Grow wm)) := ⟨⟨wm, Grow.refl _⟩⟩
            have ⟨p0, p1⟩ := BL2.out.box.two_
            have p2 : ∀ x : Cl (Grow wm), x.w.cell? ⟨g1, k, none⟩ = some (.int .i64 Vv) := fun x => x.ok.cell (by
              have := (BL2.out.vs.cell_at k (by rw [BL2.out.lv]; exact hk8)).1
              simpa using this)
            have hvb : 0 ≤ Vv + bt ∧ Vv + bt ≤ 281474976710656 := by rw [← EVV.out]; exact hbv2
            refine wp_region_last (Cls (Grow wm)) 11 12 #[false, false, false, false, false, false, false, false, false, false, false, false] (by kernel_rfl) (by kernel_rfl) ?_
            refine anyL_seg [0, 1, 2, 3, 4, 5, 6, 7, 8, 9, 10] #[true, true, true, true, true, true, true, true, true, true, true, false] (fuel := 1) rfl (by kernel_rfl) ⟨⟨_, Grow.drewN _ 1⟩, rfl⟩ ?_
            simp only [pickOps, List.getD_cons_succ, List.getD_cons_zero]
            repeat (go_big_quiet_step (fail))
            refine wpQuiet_nil ?_
            refine anyL_last (by kernel_rfl) ?_
            simp only [List.getD_cons_succ, List.getD_cons_zero]
            have ⟨f0, f1⟩ := (BL2.out.later (Grow.drewN wm 1)).vs.cell_at k (by rw [BL2.out.lv]; exact hk8)
            go_wp2
            refine ⟨trivial, ?_⟩
            have BL3 : Hid (Bld w2 ((wm.drewN 1).setCell ⟨g1, k, none⟩ (.int .i64 (Vv + bt))) w3.heap.size g1 g2 c1 c2 ⟨allM.vs.set k (mbV x B (j + 1)), allM.ms.set k (mbM B (j + 1))⟩) := Lib.hid (by
              have := (BL2.out.later (Grow.drewN wm 1)).setV k hk8 (Vv + bt)
              rw [← EVV.out] at this ⊢
              simpa only [List.set_set] using this)
            clear hne p0 p1 p2 f0 f1
            go_wp2
            go_roundw
            case rel => exact ⟨j + 1, by omega, by go_num, by rw [EH.out], BL3.out⟩
            case measure => simp [intOf]; omega
          · have hq : ((x / bt).tmod 2 == 1) = false := by rw [Int.tmod_eq_emod_of_nonneg (Int.ediv_nonneg hx0 (by omega))]; simpa using hbit
            have EVV : Hid (mbV x B (j + 1) = Vv) := Lib.hid (by have := EV.out; rw [if_neg hbit, Int.add_zero] at this; exact this)
            clear hbit
            go_wp2
            go_roundw
            case rel => exact ⟨j + 1, by omega, by go_num, by rw [EH.out], by rw [EVV.out]; exact BL2.out⟩
            case measure => simp [intOf]; omega
        · obtain rfl : j = N := by omega
          have hBt : (fieldBits (k : Nat)).toNat = B := by rw [HB.out]; simp
          have HD : Hid (mbD (k : Nat) x (j : Nat) = ⟨allM.vs.set k (mbV x B j), allM.ms.set k (mbM B j)⟩) := Lib.hid (by
            unfold mbD; rw [hBt, Int.toNat_natCast, Int.toNat_natCast]; rfl)
          clear hBt
          have hlt1 : w.heap.size < w2.heap.size := BX.out.1
          have HR : Hid (∀ W, Upd [w.heap.size] wr W → RetNew2 OwnM (mbD (k : Nat) x (j : Nat)) (.bool true) w (.returned (.tuple #[.agg #[.slice (some ⟨g1, 0, none⟩) 8 c1, .slice (some ⟨g2, 0, none⟩) 8 c2], .bool true])) W) := Lib.hid (fun W hu => by
            have hb := BL.out
            rw [HD.out]
            refine ⟨_, [g1, g2], rfl, hb.ret hu hlt1, ?_, (HG.out.trans hb.grow).box_end hu (by simp)⟩
            have h1 := hb.n1; have h2 := hb.n2; have h3 := HG.out.size
            intro x hx; simp only [List.mem_cons, List.not_mem_nil, or_false] at hx; omega)
          have ⟨q0, q1⟩ := BL.out.box.two
          have lk := BL.out.box.1
          have ⟨s0, s1⟩ := (BX.out.grow BL.out.grow).two
          have z0 := (BX.out.grow BL.out.grow).2.2
          have l0 := (BX.out.grow BL.out.grow).1
          have hnb := BL.out.nb
          go_wp2
          refine bodyPost_ret (v := .tuple #[.agg #[.slice (some ⟨g1, 0, none⟩) 8 c1, .slice (some ⟨g2, 0, none⟩) 8 c2], .bool true]) ?_ rfl (HR.out _ ?_)
          · simp [results, Try.results40, go_sem, q0, q1, s0, s1, z0, l0, lk]
          · ((repeat (first | with_reducible exact Upd.refl _ _ | (with_reducible refine Upd.setCell ?_ (by simp) _))))
--%
end Go.Proofs.Ytkkhkojojnebjaa
