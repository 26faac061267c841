/- MatchBits: contracts of the code (printed by gmb.py). -/
import Derived.Test.YtkkhkojojnebjaaMf
import Derived.Test.YtkkhkojojnebjaaMsp
import Derived.WalkKit
import Derived.ProofKit
import Derived.Deep.QuietTactic
import Derived.BigQuiet
import Derived.Outline
import Derived.WalkSpells
namespace Go.Proofs.Ytkkhkojojnebjaa
open Go.ChangeShapes Go.WideShapes Go.ChangeAt Go.RowKit
set_option linter.unusedVariables false
set_option linter.unusedSimpArgs false
--%
/-- The first N of B bits, as a mask; and what they are of v. -/
def mbM (B N : Nat) : Int := ((2 ^ B - 2 ^ (B - N) : Nat) : Int)
def mbV (v : Int) (B N : Nat) : Int := ((v.toNat - v.toNat % 2 ^ (B - N) : Nat) : Int)
def zero8 : List Int := List.replicate 8 0
def mbD (f v n : Int) : MatchD := ⟨zero8.set f.toNat (mbV v (fieldBits f).toNat n.toNat), zero8.set f.toNat (mbM (fieldBits f).toNat n.toNat)⟩
def mbF (f v n : Int) : MatchD × Bool := if fitB f v = true ∧ 0 ≤ n ∧ n ≤ fieldBits f then (mbD f v n, true) else (zeroM, false)
theorem mbF_fit {f v n : Int} (h : fitB f v = false) : mbF f v n = (zeroM, false) := by simp [mbF, h]
theorem mbF_lo {f v n : Int} (h : ¬ 0 ≤ n) : mbF f v n = (zeroM, false) := by simp [mbF, h]
theorem mbF_hi {f v n : Int} (h : ¬ n ≤ fieldBits f) : mbF f v n = (zeroM, false) := by simp [mbF, h]
theorem mbF_yes {f v n : Int} (h : fitB f v = true) (h1 : 0 ≤ n) (h2 : n ≤ fieldBits f) : mbF f v n = (mbD f v n, true) := by simp [mbF, h, h1, h2]
theorem mbF_sm (f v n : Int) : SmM (mbF f v n).1 := by
  unfold mbF mbD; split <;> simp [SmM, sizeM, zeroM, zero8]
theorem full_pow {k : Nat} {B : Nat} (hk : k < 8) (h : fieldBits k = B) : full k = ((2 ^ B - 1 : Nat) : Int) := by
  rcases bits_full (k : Int) with ⟨e, e2, _⟩ | ⟨e, e2, _⟩ | ⟨e, e2, _⟩ | ⟨e, e2, _⟩ | ⟨_, _, h3⟩
  · obtain rfl : B = 8 := by omega
    rw [e2]; rfl
  · obtain rfl : B = 48 := by omega
    rw [e2]; rfl
  · obtain rfl : B = 16 := by omega
    rw [e2]; rfl
  · obtain rfl : B = 32 := by omega
    rw [e2]; rfl
  · omega
theorem pow_bd {B : Nat} (h : B ≤ 48) : 1 ≤ 2 ^ B ∧ 2 ^ B ≤ 281474976710656 := ⟨Nat.one_le_two_pow, Nat.le_trans (Nat.pow_le_pow_right (by decide) h) (by decide)⟩
theorem pow_le' {B N : Nat} : 2 ^ (B - N) ≤ 2 ^ B := Nat.pow_le_pow_right (by decide) (by omega)
theorem w64 (n : Int) (h : -9223372036854775808 ≤ n ∧ n ≤ 9223372036854775807) : wrap64 n = n := by unfold wrap64; omega
/-- The bits of the mask. -/
theorem mask_and {v B N : Nat} (hv : v < 2 ^ B) (hN : N ≤ B) : v &&& (2 ^ B - 2 ^ (B - N)) = v - v % 2 ^ (B - N) := by
  have e1 : 2 ^ B - 2 ^ (B - N) = (2 ^ N - 1) * 2 ^ (B - N) := by
    rw [Nat.sub_mul, Nat.one_mul, ← Nat.pow_add]; congr 2; omega
  have e2 : v - v % 2 ^ (B - N) = v / 2 ^ (B - N) * 2 ^ (B - N) := by
    have := Nat.div_add_mod v (2 ^ (B - N)); rw [Nat.mul_comm]; omega
  rw [e1, e2]
  apply Nat.eq_of_testBit_eq
  intro i
  rw [Nat.testBit_and, Nat.testBit_mul_two_pow, Nat.testBit_mul_two_pow, Nat.testBit_div_two_pow, Nat.testBit_two_pow_sub_one]
  by_cases h : B - N ≤ i
  · by_cases h2 : i < B
    · have e3 : i - (B - N) + (B - N) = i := by omega
      have e4 : decide (i - (B - N) < N) = true := by simp; omega
      simp [h, e3, e4]
    · have h3 : v.testBit i = false := high_bit hv (by omega)
      have e3 : i - (B - N) + (B - N) = i := by omega
      simp [h3, e3]
  · simp [h]
--% MatchBitsI 41
theorem matchBitsI_any (w : World) (f x n : Int) : Calls Try.prog 41 #[.int .i64 f, .int .i64 x, .int .i64 n] w (RetNew2 OwnM (mbF f x n).1 (.bool (mbF f x n).2) w) := by
  have HZ : ∀ (w1 : World), Grow w w1 → RetNew2 OwnM zeroM (.bool false) w (.returned (.tuple #[.agg #[.slice none 0 0, .slice none 0 0], .bool false])) w1 := fun w1 hg => ⟨_, [], rfl, ownM_nil _, by simp [Fresh], hg⟩
  have HZ := Lib.hid HZ
  cases hft : fitB f x
  · rw [mbF_fit hft]
    go_enter Try.func41, Try.ntmps41
    go_wp2_with fail
    refine (fitsField_any _ _ _).mono ?_
    rintro e w1 ⟨rfl, hg⟩
    rw [hft]
    have HG := Lib.hid ((Grow.alloc w _).trans hg)
    have BX := Lib.hid ((Box.alloc w _ _).grow hg)
    clear hg
    have ⟨q0, q1⟩ := BX.out.two
    have z0 := BX.out.2.2
    have l0 := BX.out.1
    go_wp2
    refine bodyPost_ret (v := .tuple #[.agg #[.slice none 0 0, .slice none 0 0], .bool false]) ?_ rfl (HZ.out _ (HG.out.box_end (fq := [w.heap.size]) ?_ (by simp)))
    · simp [results, Try.results41, go_sem, q0, q1, z0, l0]
    · ((repeat (first | with_reducible exact Upd.refl _ _ | (with_reducible refine Upd.setCell ?_ (by simp) _))))
  have hk := fitB_iff.1 hft
  obtain ⟨k, rfl⟩ := Int.eq_ofNat_of_zero_le hk.1.1
  have hk8 : k < 8 := by omega
  obtain ⟨B, hB, hB48⟩ := bits_nb k
  have KF := Lib.hid (fun w => fieldBitsI_any (k : Nat) w)
  rw [hB] at KF
  have HB := Lib.hid hB
  by_cases hn0 : 0 ≤ n
  rotate_left
  · rw [mbF_lo hn0]
    clear hB hk
    go_enter Try.func41, Try.ntmps41
    go_wp2_with fail
    refine (fitsField_any _ _ _).mono ?_
    rintro e w1 ⟨rfl, hg⟩
    rw [hft]
    have HG := Lib.hid ((Grow.alloc w _).trans hg)
    have BX := Lib.hid ((Box.alloc w _ _).grow hg)
    clear hg
    have ⟨q0, q1⟩ := BX.out.two
    have z0 := BX.out.2.2
    have l0 := BX.out.1
    go_wp2
    refine bodyPost_ret (v := .tuple #[.agg #[.slice none 0 0, .slice none 0 0], .bool false]) ?_ rfl (HZ.out _ (HG.out.box_end (fq := [w.heap.size]) ?_ (by simp)))
    · simp [results, Try.results41, go_sem, q0, q1, z0, l0]
    · ((repeat (first | with_reducible exact Upd.refl _ _ | (with_reducible refine Upd.setCell ?_ (by simp) _))))
  by_cases hnB : n ≤ B
  rotate_left
  · rw [mbF_hi (by rw [hB]; exact hnB)]
    clear hB hk
    go_enter Try.func41, Try.ntmps41
    go_wp2_with fail
    refine (fitsField_any _ _ _).mono ?_
    rintro e w1 ⟨rfl, hg⟩
    rw [hft]
    have HG := Lib.hid ((Grow.alloc w _).trans hg)
    have BX := Lib.hid ((Box.alloc w _ _).grow hg)
    clear hg
    have ⟨q0, q1⟩ := BX.out.two
    have z0 := BX.out.2.2
    have l0 := BX.out.1
    go_wp2_with (go_at_call 68; refine (KF.out _).mono ?_; rintro e w' ⟨rfl, rfl⟩)
    refine bodyPost_ret (v := .tuple #[.agg #[.slice none 0 0, .slice none 0 0], .bool false]) ?_ rfl (HZ.out _ (HG.out.box_end (fq := [w.heap.size]) ?_ (by simp)))
    · simp [results, Try.results41, go_sem, q0, q1, z0, l0]
    · ((repeat (first | with_reducible exact Upd.refl _ _ | (with_reducible refine Upd.setCell ?_ (by simp) _))))
  obtain ⟨N, rfl⟩ := Int.eq_ofNat_of_zero_le hn0
  have hNB : N ≤ B := by omega
  rw [mbF_yes hft hn0 (by rw [hB]; exact hnB)]
  have HFP := Lib.hid (full_pow hk8 hB)
  have hp := pow_bd hB48
  have hp2 := pow_le' (B := B) (N := N)
  have hp3 := (pow_bd (B := B - N) (by omega)).1
  have hxB : x.toNat < 2 ^ B := by have h1 := full_pow hk8 hB; have h2 := hk.2; omega
  have hx0 : 0 ≤ x := hk.2.1
  have HX := Lib.hid (mask_and hxB hNB)
  clear hB hk
  go_enter Try.func41, Try.ntmps41
  go_wp2_with fail
  refine (fitsField_any _ _ _).mono ?_
  rintro e w1 ⟨rfl, hg⟩
  rw [hft]
  have HG := Lib.hid ((Grow.alloc w _).trans hg)
  have BX := Lib.hid ((Box.alloc w _ _).grow hg)
  clear hg
  go_wp2_with (first | (go_at_call 68; refine (KF.out _).mono ?_; rintro e w' ⟨rfl, rfl⟩) | fail)
  refine (matchAllI_any _).mono ?_
  rintro e w2 ⟨v2, fp2, rfl, ho, hf, hg⟩
  obtain ⟨g1, g2, c1, c2, rfl, o1, o2, hd, n1, n2, l1, l2⟩ := ownM_open ho hf
  have BS := Lib.hid (Bld.start hg 41 o1 o2 hd n1 n2 l1 l2)
  clear ho hf o1 o2 hd n1 n2 l1 l2 hg
  go_wp2_with fail
  generalize w2.alloc (Obj.cells #[Value.slice (some ⟨g1, 0, none⟩) 8 c1, Value.slice (some ⟨g2, 0, none⟩) 8 c2] 41) = wa at *
  have BL := BS
  have hne : Nonempty (Cl (Grow wa)) := ⟨⟨wa, Grow.refl _⟩⟩
  have ⟨p0, p1⟩ := BL.out.box.two_
  have hy : (0 : Int) ≤ (B : Int) - N := by omega
  refine wp_region_last (Cls (Grow wa)) 13 14 #[false, false, false, false, false, false, false, false, false, false, false, false, false, false] (by kernel_rfl) (by kernel_rfl) ?_
  refine anyL_seg [0, 1, 2, 3, 5, 7] #[true, true, true, true, false, true, false, true, false, false, false, false, false, false] (fuel := 8) rfl (by kernel_rfl) ⟨⟨_, Grow.drewN _ 1⟩, rfl⟩ ?_
  simp only [pickOps, List.getD_cons_succ, List.getD_cons_zero]
  repeat (go_big_quiet_step (fail))
  refine wpQuiet_nil ?_
  refine anyL_sole 4 #[true, true, true, true, true, true, false, true, false, false, false, false, false, false] (fuel := 7) (by kernel_rfl) ?_
  simp only [List.getD_cons_succ, List.getD_cons_zero]
  go_wp2_with fail
  refine (allBits_any _ _).mono ?_
  rintro e w' ⟨rfl, rfl⟩
  rw [HFP.out]
  go_wp2
  refine ⟨⟨⟨_, Grow.drewN _ 1⟩, rfl⟩, ?_⟩
  refine anyL_sole 6 #[true, true, true, true, true, true, true, true, false, false, false, false, false, false] (fuel := 6) (by kernel_rfl) ?_
  simp only [List.getD_cons_succ, List.getD_cons_zero]
  go_wp2_with fail
  refine (KF.out _).mono ?_
  rintro e w' ⟨rfl, rfl⟩
  go_wp2
  refine ⟨⟨⟨_, Grow.drewN _ 1⟩, rfl⟩, ?_⟩
  refine anyL_seg [8, 9, 10, 11, 12] #[true, true, true, true, true, true, true, true, true, true, true, true, true, false] (fuel := 1) rfl (by kernel_rfl) ⟨⟨_, Grow.drewN _ 1⟩, rfl⟩ ?_
  simp only [pickOps, List.getD_cons_succ, List.getD_cons_zero]
  repeat (go_big_quiet_step (fail))
  refine wpQuiet_nil ?_
  refine anyL_last (by kernel_rfl) ?_
  simp only [List.getD_cons_succ, List.getD_cons_zero]
  have ⟨e0, e1⟩ := (BL.out.later (Grow.drewN wa 1)).ms.cell_at k (by rw [BL.out.lm]; exact hk8)
  go_wp2
  refine ⟨trivial, ?_⟩
  have hpI : ((2 : Int) ^ (B - N)) = ((2 ^ (B - N) : Nat) : Int) := by simp
  have HW : wrap64 (((2 ^ B - 1 : Nat) : Int) - wrap64 (wrap64 (2 ^ (B - N)) - 1)) = mbM B N := by
    rw [hpI, w64 ((2 ^ (B - N) : Nat) : Int) (by omega), w64 (((2 ^ (B - N) : Nat) : Int) - 1) (by omega), w64 _ (by omega)]
    unfold mbM
    omega
  rw [HW]
  have hMb : 0 ≤ mbM B N ∧ mbM B N ≤ 281474976710656 := by unfold mbM; omega
  have hxb : 0 ≤ x ∧ x ≤ 281474976710656 := by omega
  have HVV : Hid (bits .and .i64 x (mbM B N) = mbV x B N) := Lib.hid (by
    rw [and_i64 (by omega) (by omega) (by omega) (by omega)]
    have h1 := HX.out
    unfold mbV mbM
    rw [Int.toNat_natCast, h1])
  have hBt : (fieldBits (k : Nat)).toNat = B := by rw [HB.out]; simp
  have HD : Hid (mbD (k : Nat) x (N : Nat) = ⟨allM.vs.set k (mbV x B N), allM.ms.set k (mbM B N)⟩) := Lib.hid (by
    unfold mbD; rw [hBt, Int.toNat_natCast, Int.toNat_natCast]; rfl)
  clear hBt
  generalize mbM B N = M at *
  have BL2 := Lib.hid ((BL.out.later (Grow.drewN wa 1)).setM k hk8 M)
  clear hne p0 p1 e0 e1 HW hpI
  generalize (wa.drewN 1).setCell ⟨g2, k, none⟩ (.int .i64 M) = wm at *
  go_wp2_with fail
  have hne : Nonempty (Cl (Grow wm)) := ⟨⟨wm, Grow.refl _⟩⟩
  have ⟨p0, p1⟩ := BL2.out.box.two_
  have p2 : ∀ x : Cl (Grow wm), x.w.cell? ⟨g2, k, none⟩ = some (.int .i64 M) := fun x => x.ok.cell (by
    have := (BL2.out.ms.cell_at k (by rw [BL2.out.lm]; exact hk8)).1
    simpa using this)
  refine wp_region_last (Cls (Grow wm)) 11 12 #[false, false, false, false, false, false, false, false, false, false, false, false] (by kernel_rfl) (by kernel_rfl) ?_
  refine anyL_seg [0, 1, 2, 3, 4, 5, 6, 7, 8, 9, 10] #[true, true, true, true, true, true, true, true, true, true, true, false] (fuel := 1) rfl (by kernel_rfl) ⟨⟨_, Grow.drewN _ 1⟩, rfl⟩ ?_
  simp only [pickOps, List.getD_cons_succ, List.getD_cons_zero]
  repeat (go_big_quiet_step (fail))
  refine wpQuiet_nil ?_
  refine anyL_last (by kernel_rfl) ?_
  simp only [List.getD_cons_succ, List.getD_cons_zero]
  have ⟨f0, f1⟩ := (BL2.out.later (Grow.drewN wm 1)).vs.cell_at k (by rw [BL2.out.lv]; exact hk8)
  go_wp2
  refine ⟨trivial, ?_⟩
  rw [HVV.out]
  have BL3 := Lib.hid ((BL2.out.later (Grow.drewN wm 1)).setV k hk8 (mbV x B N))
  clear hne p0 p1 p2 f0 f1
  generalize (wm.drewN 1).setCell ⟨g1, k, none⟩ (.int .i64 (mbV x B N)) = wz at *
  have hlt1 : w.heap.size < w1.heap.size := BX.out.1
  have HR : Hid (∀ W, Upd [w.heap.size] wz W → RetNew2 OwnM (mbD (k : Nat) x (N : Nat)) (.bool true) w (.returned (.tuple #[.agg #[.slice (some ⟨g1, 0, none⟩) 8 c1, .slice (some ⟨g2, 0, none⟩) 8 c2], .bool true])) W) := Lib.hid (fun W hu => by
    have hb := BL3.out
    rw [HD.out]
    refine ⟨_, [g1, g2], rfl, hb.ret hu hlt1, ?_, (HG.out.trans hb.grow).box_end hu (by simp)⟩
    have h1 := hb.n1; have h2 := hb.n2
    intro x hx; simp only [List.mem_cons, List.not_mem_nil, or_false] at hx; omega)
  have ⟨q0, q1⟩ := BL3.out.box.two
  have lk := BL3.out.box.1
  have ⟨s0, s1⟩ := (BX.out.grow BL3.out.grow).two
  have z0 := (BX.out.grow BL3.out.grow).2.2
  have l0 := (BX.out.grow BL3.out.grow).1
  have hnb := BL3.out.nb
  go_wp2
  refine bodyPost_ret (v := .tuple #[.agg #[.slice (some ⟨g1, 0, none⟩) 8 c1, .slice (some ⟨g2, 0, none⟩) 8 c2], .bool true]) ?_ rfl (HR.out _ ?_)
  · simp [results, Try.results41, go_sem, q0, q1, s0, s1, z0, l0, lk]
  · ((repeat (first | with_reducible exact Upd.refl _ _ | (with_reducible refine Upd.setCell ?_ (by simp) _))))
--%
end Go.Proofs.Ytkkhkojojnebjaa
