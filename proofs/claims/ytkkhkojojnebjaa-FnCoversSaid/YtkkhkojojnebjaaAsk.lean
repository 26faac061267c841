/- Asked: contracts of the code. -/
import Derived.Test.YtkkhkojojnebjaaPop
import Derived.Test.YtkkhkojojnebjaaMsp
import Derived.WalkKit
import Derived.ProofKit
import Derived.Deep.QuietTactic
import Derived.BigQuiet
import Derived.Outline
import Derived.WalkSpells
namespace Go.Proofs.Ytkkhkojojnebjaa
open Go.ChangeShapes Go.WideShapes Go.ChangeAt Go.RowKit
set_option linter.unusedVariables false
set_option linter.unusedSimpArgs false
--%
theorem wraps_u64 (n : Int) (h₀ : 0 ≤ n) (h₁ : n < 2 ^ 64) : IntKind.u64.wrap n = n := by rw [IntKind.wrap_u64]; omega
theorem and_u64 {a b : Nat} (h1 : a < 2 ^ 64) (h2 : b < 2 ^ 64) : bits .and .u64 (a : Int) (b : Int) = ((a &&& b : Nat) : Int) := (bits_nat .u64 64 (by decide) wraps_u64 a b h1 h2).1
theorem rep85 : rep 85 8 = 6148914691236517205 := by decide
theorem rep51 : rep 51 8 = 3689348814741910323 := by decide
theorem rep15 : rep 15 8 = 1085102592571150095 := by decide
theorem stage1 (n : Nat) (h : n < 2 ^ 64) : IntKind.u64.wrap (bits .and .u64 ((n : Int) / 2) 6148914691236517205 + bits .and .u64 (n : Int) 6148914691236517205) = ((pf1 8 n : Nat) : Int) ∧ pf1 8 n < 2 ^ 64 := by
  have e1 : bits .and .u64 ((n : Int) / 2) 6148914691236517205 = ((n / 2 &&& rep 85 8 : Nat) : Int) := by
    rw [rep85]; exact and_u64 (a := n / 2) (b := 6148914691236517205) (by omega) (by decide)
  have e2 : bits .and .u64 (n : Int) 6148914691236517205 = ((n &&& rep 85 8 : Nat) : Int) := by
    rw [rep85]; exact and_u64 (a := n) (b := 6148914691236517205) h (by decide)
  have b1 : n / 2 &&& rep 85 8 ≤ rep 85 8 := Nat.and_le_right
  have b2 : n &&& rep 85 8 ≤ rep 85 8 := Nat.and_le_right
  rw [e1, e2]
  unfold pf1
  rw [rep85] at *
  rw [wraps_u64 _ (by omega) (by omega)]
  omega
theorem stage2 (n : Nat) (h : n < 2 ^ 64) : IntKind.u64.wrap (bits .and .u64 ((n : Int) / 4) 3689348814741910323 + bits .and .u64 (n : Int) 3689348814741910323) = ((pf2 8 n : Nat) : Int) ∧ pf2 8 n < 2 ^ 63 := by
  have e1 : bits .and .u64 ((n : Int) / 4) 3689348814741910323 = ((n / 4 &&& rep 51 8 : Nat) : Int) := by
    rw [rep51]; exact and_u64 (a := n / 4) (b := 3689348814741910323) (by omega) (by decide)
  have e2 : bits .and .u64 (n : Int) 3689348814741910323 = ((n &&& rep 51 8 : Nat) : Int) := by
    rw [rep51]; exact and_u64 (a := n) (b := 3689348814741910323) h (by decide)
  have b1 : n / 4 &&& rep 51 8 ≤ rep 51 8 := Nat.and_le_right
  have b2 : n &&& rep 51 8 ≤ rep 51 8 := Nat.and_le_right
  rw [e1, e2]
  unfold pf2
  rw [rep51] at *
  rw [wraps_u64 _ (by omega) (by omega)]
  omega
theorem stage3 (n : Nat) (h : n < 2 ^ 63) : bits .and .u64 (IntKind.u64.wrap ((n : Int) / 16 + n)) 1085102592571150095 = ((pf3 8 n : Nat) : Int) ∧ pf3 8 n ≤ 1085102592571150095 := by
  rw [wraps_u64 _ (by omega) (by omega)]
  have e : ((n : Int) / 16 + n) = ((n / 16 + n : Nat) : Int) := by omega
  rw [e]
  unfold pf3
  rw [rep15]
  exact ⟨and_u64 (by omega) (by decide), Nat.and_le_right⟩
theorem stage4 (z : Nat) (h : z ≤ 1085102592571150095) : bits .and .i64 (wrap64 (IntKind.u64.wrap (IntKind.u64.wrap (IntKind.u64.wrap ((z : Int) + z / 256) + IntKind.u64.wrap ((z : Int) + z / 256) / 65536) + IntKind.u64.wrap (IntKind.u64.wrap ((z : Int) + z / 256) + IntKind.u64.wrap ((z : Int) + z / 256) / 65536) / 4294967296))) 127 = ((foldC z : Nat) : Int) := by
  rw [wraps_u64 ((z : Int) + z / 256) (by omega) (by omega)]
  generalize ha : (z : Int) + z / 256 = a
  have ha1 : 0 ≤ a ∧ a ≤ 1095102592571150095 := by omega
  rw [wraps_u64 (a + a / 65536) (by omega) (by omega)]
  generalize hb : a + a / 65536 = b
  have hb1 : 0 ≤ b ∧ b ≤ 1105102592571150095 := by omega
  rw [wraps_u64 (b + b / 4294967296) (by omega) (by omega)]
  generalize hc : b + b / 4294967296 = c
  have hc1 : 0 ≤ c ∧ c ≤ 1115102592571150095 := by omega
  have hw : wrap64 c = c := by unfold wrap64; omega
  rw [hw, and_i64 hc1.1 (by omega) (by decide) (by decide)]
  have e2 : c.toNat &&& (127 : Int).toNat = c.toNat % 128 := by
    rw [show (127 : Int).toNat = 2 ^ 7 - 1 from rfl, Nat.and_two_pow_sub_one_eq_mod]
  rw [e2]
  have hcn : c.toNat = z + z / 256 + (z + z / 256) / 65536 + (z + z / 256 + (z + z / 256) / 65536) / 4294967296 := by omega
  rw [hcn]; rfl
--% OnesCount64 82
theorem ones64_any (x : Int) (w : World) (h0 : 0 ≤ x) (h1 : x ≤ 281474976710655) : Calls Try.prog 82 #[.int .u64 x] w fun e w' => e = .returned (.int .i64 (popN x.toNat 64 : Nat)) ∧ w = w' := by
  obtain ⟨n, rfl⟩ := Int.eq_ofNat_of_zero_le h0
  rw [Int.toNat_natCast]
  obtain ⟨s1, b1⟩ := stage1 n (by omega)
  obtain ⟨s2, b2⟩ := stage2 (pf1 8 n) b1
  obtain ⟨s3, b3⟩ := stage3 (pf2 8 (pf1 8 n)) b2
  have s4 := stage4 (pf3 8 (pf2 8 (pf1 8 n))) b3
  rw [pop_all n (by omega)] at s4
  have S1 := Lib.hid s1; have S2 := Lib.hid s2; have S3 := Lib.hid s3; have S4 := Lib.hid s4
  clear s1 s2 s3 s4 b1 b2 b3
  go_enter Try.func82, Try.ntmps82
  go_wp2
  rw [S1.out, S2.out, S3.out, S4.out]
  go_ret
  exact ⟨rfl, rfl⟩
--% OnesCount 70
theorem ones_any (x : Int) (w : World) (h0 : 0 ≤ x) (h1 : x ≤ 281474976710655) : Calls Try.prog 70 #[.int .u64 x] w fun e w' => e = .returned (.int .i64 (popN x.toNat 64 : Nat)) ∧ w = w' := by
  go_enter Try.func70, Try.ntmps70
  go_wp2_with fail
  refine (ones64_any x _ h0 h1).mono ?_
  rintro e w1 ⟨rfl, rfl⟩
  go_wp2
  go_ret
  exact ⟨rfl, rfl⟩
--% plain
def popI (v : Int) : Int := (popN v.toNat 64 : Nat)
theorem popI_bd (v : Int) : 0 ≤ popI v ∧ popI v ≤ 64 := by have := popN_le v.toNat 64; unfold popI; omega
def askL (ms : List Int) : Nat → Int
  | 0 => 0
  | k + 1 => askL ms k + popI (ms.getD k 0)
theorem askL_bd (ms : List Int) : ∀ k, 0 ≤ askL ms k ∧ askL ms k ≤ 64 * k
  | 0 => by simp [askL]
  | k + 1 => by have := askL_bd ms k; have := popI_bd (ms.getD k 0); unfold askL; omega
def askF (d : MatchD) : Int := if mtOk d = true then askL d.ms 8 else -1
theorem askF_no {d : MatchD} (h : mtOk d = false) : askF d = -1 := by simp [askF, h]
theorem askF_yes {d : MatchD} (h : mtOk d = true) : askF d = askL d.ms 8 := by simp [askF, h]
theorem bitV_pop (v : Int) (j : Nat) : (popN v.toNat (j + 1) : Int) = (popN v.toNat j : Int) + bitV v j := by
  unfold bitV
  rw [Nat.testBit_eq_decide_div_mod_eq]
  have := Nat.mod_lt (v.toNat / 2 ^ j) (show 0 < 2 by decide)
  rw [show popN v.toNat (j + 1) = popN v.toNat j + v.toNat / 2 ^ j % 2 from rfl]
  by_cases h : v.toNat / 2 ^ j % 2 = 1
  · simp [h]
  · have h0 : v.toNat / 2 ^ j % 2 = 0 := by omega
    simp [h0]
theorem popI_nb {v : Int} {nb : Nat} (h : v.toNat < 2 ^ nb) (hn : nb ≤ 48) : (popN v.toNat nb : Int) = popI v := by
  unfold popI
  have := popN_small h (64 - nb)
  rw [show nb + (64 - nb) = 64 by omega] at this
  rw [this]
--% askedI 51
set_option maxHeartbeats 1000000 in
theorem askedI_any (w : World) (V : Value) (d : DatM) (h : RdM w V d) (wf : WfM d) : Calls Try.prog 51 #[V] w (RetV (.int .i64 (askF d)) w) := by
  obtain ⟨v0, v1, rfl, hv0, hv1⟩ := h
  have R0 := Lib.hid hv0
  obtain ⟨a0, c0, rfl, hlc0, hm0, hn0, hc0⟩ := Rd.ints hv0
  unfold maxLen at hm0
  clear hv0 hn0 hc0
  have R1 := Lib.hid hv1
  obtain ⟨a1, c1, rfl, hlc1, hm1, hn1, hc1⟩ := Rd.ints hv1
  have H1 := Lib.hid hc1
  unfold maxLen at hm1
  clear hv1 hn1 hc1
  cases hok : mtOk d
  · have HE := Lib.hid (askF_no hok)
    go_enter Try.func51, Try.ntmps51
    go_wp2_with fail
    refine at_world (w := w) ?G (fun hG => (matchOkI_any _ _ d ⟨_, _, rfl, R0.out.grow hG, R1.out.grow hG⟩ wf).mono ?_)
    case G => ((repeat (first | with_reducible exact Grow.refl _ | (with_reducible refine Grow.alloc_ ?_ _) | (with_reducible refine Grow.setCell_ ?_ (by first | exact Nat.le_refl _ | (simp only [World.alloc, Array.size_push]; omega) | omega) _))))
    rintro e w1 ⟨rfl, hg⟩
    rw [hok]
    have G1 := Lib.hid (hG.trans hg)
    have BA := Lib.hid ((Box.alloc w _ _).grow hg)
    clear hG hg
    go_wp2
    go_ret
    exact ⟨ret_int HE.out.symm, G1.out⟩
  have HE := Lib.hid (askF_yes hok)
  have L1 := Lib.hid (hdOk_at (mtOk_iff.1 hok).2.1).1
  have KA := Lib.hid (mtOk_at hok)
  go_enter Try.func51, Try.ntmps51
  go_wp2_with fail
  refine at_world (w := w) ?G (fun hG => (matchOkI_any _ _ d ⟨_, _, rfl, R0.out.grow hG, R1.out.grow hG⟩ wf).mono ?_)
  case G => ((repeat (first | with_reducible exact Grow.refl _ | (with_reducible refine Grow.alloc_ ?_ _) | (with_reducible refine Grow.setCell_ ?_ (by first | exact Nat.le_refl _ | (simp only [World.alloc, Array.size_push]; omega) | omega) _))))
  rintro e w1 ⟨rfl, hg⟩
  rw [hok]
  have G1 := Lib.hid (hG.trans hg)
  have BA := Lib.hid ((Box.alloc w _ _).grow hg)
  clear hG hg
  have ⟨t0, t1⟩ := BA.out.two
  have tl := BA.out.1
  go_wp2
  clear t0 t1 tl
  go_loopw [3, 12] (fun q i wr => ∃ k : Nat, k ≤ d.ms.length ∧ i = .int .i64 k ∧ q = .int .i64 (askL d.ms k) ∧ Grow w1 wr) (fun _ i _ => d.ms.length - (intOf i).toNat)
  case atStart => exact ⟨0, Nat.zero_le _, rfl, rfl, Grow.refl _⟩
  case round =>
    obtain ⟨k, hk, rfl, rfl, hgr⟩ := hrel
    have HW := Lib.hid hgr
    clear hgr
    have hab := askL_bd d.ms k
    have hk8 : k ≤ 8 := by have := L1.out; omega
    by_cases hlt : k < d.ms.length
    · obtain ⟨b1, o1, rfl, hcs1⟩ := H1.out k hlt
      have hc := HW.out.cell (G1.out.cell hcs1)
      have ka := (KA.out k (by have := L1.out; omega)).1
      rw [getD_at hlt] at ka
      have kb := fitB_bd ka
      have HN : Hid (askL d.ms (k + 1) = askL d.ms k + popI d.ms[k]) := Lib.hid (by unfold askL; rw [getD_at hlt]; cases k <;> rfl)
      have hp := popI_bd d.ms[k]
      have hcv : IntKind.u64.wrap d.ms[k] = d.ms[k] := wraps_u64 _ (by omega) (by omega)
      have K := Lib.hid (fun w => ones_any d.ms[k] w kb.1 kb.2)
      have hpi : ((popN d.ms[k].toNat 64 : Nat) : Int) = popI d.ms[k] := rfl
      rw [hpi] at K
      clear ka hcs1 hpi
      generalize d.ms[k] = z at *
      generalize askL d.ms k = s at *
      go_wp2_with fail
      try rw [hcv]
      refine (K.out _).mono ?_
      rintro e w2 ⟨rfl, rfl⟩
      go_wp2
      go_roundw
      case rel => exact ⟨k + 1, by omega, by go_num, by rw [HN.out], HW.out⟩
      case measure => simp [intOf]; omega
    · obtain rfl : k = d.ms.length := by omega
      go_wp2
      go_ret
      exact ⟨ret_int (by rw [HE.out, L1.out]), G1.out.trans HW.out⟩
--% askedS 50
set_option maxHeartbeats 1000000 in
theorem askedS_any (w : World) (V : Value) (d : DatM) (h : RdM w V d) (wf : WfM d) : Calls Try.prog 50 #[V] w (RetV (.int .i64 (askF d)) w) := by
  obtain ⟨v0, v1, rfl, hv0, hv1⟩ := h
  have R0 := Lib.hid hv0
  obtain ⟨a0, c0, rfl, hlc0, hm0, hn0, hc0⟩ := Rd.ints hv0
  unfold maxLen at hm0
  clear hv0 hn0 hc0
  have R1 := Lib.hid hv1
  obtain ⟨a1, c1, rfl, hlc1, hm1, hn1, hc1⟩ := Rd.ints hv1
  have H1 := Lib.hid hc1
  unfold maxLen at hm1
  clear hv1 hn1 hc1
  cases hok : mtOk d
  · have HE := Lib.hid (askF_no hok)
    go_enter Try.func50, Try.ntmps50
    go_wp2_with fail
    refine at_world (w := w) ?G (fun hG => (matchOkS_any _ _ d ⟨_, _, rfl, R0.out.grow hG, R1.out.grow hG⟩ wf).mono ?_)
    case G => ((repeat (first | with_reducible exact Grow.refl _ | (with_reducible refine Grow.alloc_ ?_ _) | (with_reducible refine Grow.setCell_ ?_ (by first | exact Nat.le_refl _ | (simp only [World.alloc, Array.size_push]; omega) | omega) _))))
    rintro e w1 ⟨rfl, hg⟩
    rw [hok]
    have G1 := Lib.hid (hG.trans hg)
    have BA := Lib.hid ((Box.alloc w _ _).grow hg)
    clear hG hg
    go_wp2
    go_ret
    exact ⟨ret_int HE.out.symm, G1.out⟩
  have HE := Lib.hid (askF_yes hok)
  have L1 := Lib.hid (hdOk_at (mtOk_iff.1 hok).2.1).1
  have KA := Lib.hid (mtOk_at hok)
  go_enter Try.func50, Try.ntmps50
  go_wp2_with fail
  refine at_world (w := w) ?G (fun hG => (matchOkS_any _ _ d ⟨_, _, rfl, R0.out.grow hG, R1.out.grow hG⟩ wf).mono ?_)
  case G => ((repeat (first | with_reducible exact Grow.refl _ | (with_reducible refine Grow.alloc_ ?_ _) | (with_reducible refine Grow.setCell_ ?_ (by first | exact Nat.le_refl _ | (simp only [World.alloc, Array.size_push]; omega) | omega) _))))
  rintro e w1 ⟨rfl, hg⟩
  rw [hok]
  have G1 := Lib.hid (hG.trans hg)
  have BA := Lib.hid ((Box.alloc w _ _).grow hg)
  clear hG hg
  have ⟨t0, t1⟩ := BA.out.two
  have tl := BA.out.1
  go_wp2
  clear t0 t1 tl
  go_loopw [3, 4] (fun q i wr => ∃ k : Nat, k ≤ 8 ∧ i = .int .i64 k ∧ q = .int .i64 (askL d.ms k) ∧ Grow w1 wr) (fun _ i _ => 8 - (intOf i).toNat)
  case atStart => exact ⟨0, Nat.zero_le _, rfl, rfl, Grow.refl _⟩
  case round =>
    obtain ⟨k, hk, rfl, rfl, hgr⟩ := hrel
    have HW := Lib.hid hgr
    clear hgr
    have hab := askL_bd d.ms k
    by_cases hlt : k < 8
    · have hlk : k < d.ms.length := by rw [L1.out]; exact hlt
      obtain ⟨b1, o1, rfl, hcs1⟩ := H1.out k hlk
      have HC := Lib.hid (G1.out.cell hcs1)
      have ka := (KA.out k hlt).1
      rw [getD_at hlk] at ka
      have kb := fitB_bd ka
      obtain ⟨nb, hnb, hnb48⟩ := bits_nb k
      have KF := Lib.hid (fun w => fieldBitsS_any (k : Nat) w)
      rw [hnb] at KF
      have HN : Hid (askL d.ms (k + 1) = askL d.ms k + (popN d.ms[k].toNat nb : Nat)) := Lib.hid (by rw [popI_nb (fit_lt ka hnb) hnb48]; unfold askL; rw [getD_at hlk]; cases k <;> rfl)
      have KB := Lib.hid kb
      clear ka hcs1
      generalize d.ms[k] = z at *
      generalize askL d.ms k = s at *
      go_wp2
      obtain ⟨wo, hwo⟩ : ∃ wo : World, wo = wr := ⟨_, rfl⟩
      subst hwo
      rw [show decide ((k : Int) < 8) = true from decide_eq_true (by omega)]
      go_loopw [3, 5] (fun q i wr => ∃ j : Nat, j ≤ nb ∧ i = .int .i64 j ∧ q = .int .i64 (s + (popN z.toNat j : Nat)) ∧ Grow wo wr) (fun _ i _ => nb - (intOf i).toNat)
      case atStart => exact ⟨0, Nat.zero_le _, rfl, by simp [popN], Grow.refl _⟩
      case round =>
        obtain ⟨j, hj, rfl, rfl, hgi⟩ := hrel
        have HI := Lib.hid hgi; clear hgi
        have hpj := popN_le z.toNat j
        by_cases hjl : j < nb
        · have HB := Lib.hid (bitV_pop z j)
          have J := Lib.hid (fun w => l05Bit_any z j KB.out.1 (by omega) (by omega) w)
          have hb01 := bitV_01 z j
          have ⟨t0, t1⟩ := (BA.out.grow (HW.out.trans HI.out)).two
          have tl := (BA.out.grow (HW.out.trans HI.out)).1
          go_wp2_with fail
          refine (KF.out _).mono ?_
          rintro e wq ⟨rfl, hg⟩
          have HI := Lib.hid (HI.out.trans hg)
          clear hg t0 t1 tl
          have ⟨t0, t1⟩ := (BA.out.grow (HW.out.trans HI.out)).two
          have tl := (BA.out.grow (HW.out.trans HI.out)).1
          have hcz := (HW.out.trans HI.out).cell HC.out
          go_wp2_with fail
          refine (J.out _).mono ?_
          rintro e wq2 ⟨rfl, hg⟩
          have HI := Lib.hid (HI.out.trans hg)
          clear hg t0 t1 tl hcz
          generalize bitV z j = bz at *
          generalize hpq : popN z.toNat j = pq at *
          have HPQ := Lib.hid hpq; clear hpq
          go_wp2
          go_roundw
          case rel => exact ⟨j + 1, by omega, by go_num, by rw [HB.out]; congr 1; omega, HI.out⟩
          case measure => simp [intOf]; omega
        · obtain rfl : j = nb := by omega
          go_wp2_with fail
          refine (KF.out _).mono ?_
          rintro e wq ⟨rfl, hg⟩
          have HI := Lib.hid (HI.out.trans hg)
          clear hg
          go_wp2
          go_roundw
          case rel => exact ⟨k + 1, by omega, by go_num, by rw [HN.out], HW.out.trans HI.out⟩
          case measure => simp [intOf]; omega
    · obtain rfl : k = 8 := by omega
      go_wp2
      go_ret
      exact ⟨ret_int HE.out.symm, G1.out.trans HW.out⟩
--%
end Go.Proofs.Ytkkhkojojnebjaa
