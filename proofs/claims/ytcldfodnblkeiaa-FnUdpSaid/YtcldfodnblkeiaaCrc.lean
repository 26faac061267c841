/- Contracts: Crc32. -/
import Derived.Test.YtcldfodnblkeiaaBnum
import Derived.Test.YtcldfodnblkeiaaTy
import Derived.WalkKit
import Derived.ProofKit
import Derived.Deep.QuietTactic
import Derived.BigQuiet
import Derived.Outline
import Derived.WalkSpells
namespace Go.Proofs.Ytcldfodnblkeiaa
open Go.ChangeShapes Go.WideShapes Go.ChangeAt Go.RowKit
set_option linter.unusedVariables false
set_option linter.unusedSimpArgs false

/-- One bit of the sum. -/
def crcB (r : Nat) : Nat := if r % 2 = 1 then (r / 2) ^^^ 3988292384 else r / 2
def crcN : Nat → Nat → Nat
  | 0, r => r
  | j + 1, r => crcB (crcN j r)
def crcTo (zs : List Int) : Nat → Nat
  | 0 => 4294967295
  | k + 1 => crcN 8 (crcTo zs k ^^^ (zs.getD k 0).toNat)
def crcOf (zs : List Int) : Int := ((crcTo zs zs.length ^^^ 4294967295 : Nat) : Int)
theorem xor_lt32 {a b : Nat} (ha : a < 4294967296) (hb : b < 4294967296) : a ^^^ b < 4294967296 := Nat.xor_lt_two_pow (n := 32) ha hb
theorem crcB_lt {r : Nat} (h : r < 4294967296) : crcB r < 4294967296 := by
  unfold crcB; split
  · exact xor_lt32 (by omega) (by omega)
  · omega
theorem crcN_lt {j r : Nat} (h : r < 4294967296) : crcN j r < 4294967296 := by
  induction j with
  | zero => exact h
  | succ j ih => exact crcB_lt ih
theorem byte_nat {zs : List Int} (h : WfB zs) (k : Nat) : (zs.getD k 0).toNat < 256 := by
  rw [List.getD_eq_getElem?_getD]
  cases hq : zs[k]? with
  | none => simp
  | some y =>
    have := h y (List.mem_of_getElem? hq)
    simp; omega
theorem crcTo_lt {zs : List Int} (h : WfB zs) (k : Nat) : crcTo zs k < 4294967296 := by
  induction k with
  | zero => simp [crcTo]
  | succ k ih => exact crcN_lt (xor_lt32 ih (by have := byte_nat h k; omega))
theorem crcOf_bd {zs : List Int} (h : WfB zs) : 0 ≤ crcOf zs ∧ crcOf zs < 4294967296 := by
  have := xor_lt32 (crcTo_lt h zs.length) (show 4294967295 < 4294967296 by omega)
  unfold crcOf; omega
theorem i64_xor32 (a b : Nat) (ha : a < 4294967296) (hb : b < 4294967296) : bits .xor .i64 (a : Int) (b : Int) = ((a ^^^ b : Nat) : Int) := by
  have ha' : a % 2 ^ 64 = a := Nat.mod_eq_of_lt (by omega)
  have hb' : b % 2 ^ 64 = b := Nat.mod_eq_of_lt (by omega)
  have hx := xor_lt32 ha hb
  have e : (BitVec.ofNat 64 a ^^^ BitVec.ofNat 64 b).toNat = a ^^^ b := by rw [BitVec.toNat_xor, BitVec.toNat_ofNat, BitVec.toNat_ofNat, ha', hb']
  have h : bits .xor .i64 (a : Int) (b : Int) = IntKind.i64.wrap ((BitVec.ofInt 64 (a : Int) ^^^ BitVec.ofInt 64 (b : Int)).toNat : Int) := rfl
  rw [h, BitVec.ofInt_natCast, BitVec.ofInt_natCast, e, IntKind.wrap_i64]
  omega
theorem crcB_one {r : Nat} (h : r % 2 = 1) : crcB r = (r / 2) ^^^ 3988292384 := by simp [crcB, h]
theorem crcB_zero {r : Nat} (h : ¬ r % 2 = 1) : crcB r = r / 2 := by simp [crcB, h]
theorem crcTo_s {zs : List Int} {k : Nat} (h : k < zs.length) : crcTo zs (k + 1) = crcN 8 (crcTo zs k ^^^ zs[k].toNat) := by
  show crcN 8 (crcTo zs k ^^^ (zs.getD k 0).toNat) = _
  rw [List.getD_eq_getElem?_getD, List.getElem?_eq_getElem h]
  rfl
theorem u32_and_one (C : Nat) (h : C < 4294967296) : bits .and .u32 (C : Int) 1 = ((C % 2 : Nat) : Int) := by
  have := u32_and_nat C 1 h (by omega)
  rw [Nat.and_one_is_mod] at this
  exact this
--% CrcS 82
theorem crcS_any (v : Value) (zs : List Int) (w : World) (h : RdB w v zs) (hb : WfB zs) (hm : zs.length ≤ 1048576) :
    Calls Try.prog 82 #[v] w fun e w' => e = .returned (.int .i64 (crcOf zs)) ∧ w = w' := by
  obtain ⟨a, c, rfl, hlc, _, hn, hc⟩ := Rd.ints h
  clear h hn
  have H := Lib.hid hc; clear hc
  have HB : Hid (WfB zs) := Lib.hid hb; clear hb
  go_enter Try.func82, Try.ntmps82
  go_wp2
  go_loop [3, 4] (fun q i => ∃ (k : Nat), k ≤ zs.length ∧ i = .int .i64 k ∧ q = .int .i64 (crcTo zs k : Int)) (fun _ i => zs.length - (intOf i).toNat)
  case atStart => exact ⟨0, by omega, rfl, rfl⟩
  case round =>
    obtain ⟨k, hk, rfl, rfl⟩ := hrel
    have hr := crcTo_lt HB.out k
    by_cases hlt : k < zs.length
    · obtain ⟨b, o, rfl, hcs⟩ := H.out k hlt
      have hz := Bytes.at HB.out hlt
      obtain ⟨x, hx⟩ := Int.eq_ofNat_of_zero_le hz.1
      have HX : Hid (zs[k] = (x : Int)) := Lib.hid hx; clear hx
      have hx2 : x < 256 := by have := HX.out; omega
      rw [HX.out] at hcs
      clear hz
      generalize hR : crcTo zs k = R at *
      have HR := Lib.hid hR; clear hR
      have hq := xor_lt32 hr (show x < 4294967296 by omega)
      have HQ : Hid (bits .xor .i64 (R : Int) (x : Int) = ((R ^^^ x : Nat) : Int)) := Lib.hid (i64_xor32 R x hr (by omega))
      go_wp2
      go_loop [3, 5] (fun q i => ∃ (m : Nat), m ≤ 8 ∧ i = .int .i64 m ∧ q = .int .i64 (crcN m (R ^^^ x) : Int)) (fun _ i => 8 - (intOf i).toNat)
      case atStart => exact ⟨0, by omega, rfl, by rw [HQ.out]; rfl⟩
      case round =>
        obtain ⟨m, hm2, rfl, rfl⟩ := hrel
        have hc0 := crcN_lt (j := m) hq
        by_cases hl : m < 8
        · generalize hC : crcN m (R ^^^ x) = C at *
          have HC := Lib.hid hC; clear hC
          have HY : Hid (bits .xor .i64 ((C : Int) / 2) 3988292384 = ((C / 2 ^^^ 3988292384 : Nat) : Int)) := Lib.hid (i64_xor32 (C / 2) 3988292384 (by omega) (by omega))
          by_cases h2 : C % 2 = 1
          · have HE := Lib.hid (crcB_one h2)
            have hb1 : ((C : Int) % 2 == 1) = true := by simp; omega
            go_wp2
            go_round
            case rel => exact ⟨m + 1, by omega, by go_num, by rw [HY.out, ← HE.out, ← HC.out]; rfl⟩
            case measure => simp [intOf]; omega
          · have HE := Lib.hid (crcB_zero h2)
            have hb1 : ((C : Int) % 2 == 1) = false := by simp; omega
            go_wp2
            go_round
            case rel => exact ⟨m + 1, by omega, by go_num, by rw [show ((C : Int) / 2) = ((C / 2 : Nat) : Int) from by omega, ← HE.out, ← HC.out]; rfl⟩
            case measure => simp [intOf]; omega
        · obtain rfl : m = 8 := by omega
          go_wp2
          go_round
          case rel => exact ⟨k + 1, by omega, by go_num, by rw [crcTo_s hlt, HR.out, HX.out]; rfl⟩
          case measure => simp [intOf]; omega
    · obtain rfl : k = zs.length := by omega
      have HF : Hid (bits .xor .i64 (crcTo zs zs.length : Int) 4294967295 = crcOf zs) := Lib.hid (i64_xor32 (crcTo zs zs.length) 4294967295 hr (by omega))
      go_wp2
      go_ret
      exact ⟨ret_int HF.out, rfl⟩
--% CrcI 84
theorem crcI_any (v : Value) (zs : List Int) (w : World) (h : RdB w v zs) (hb : WfB zs) (hm : zs.length ≤ 1048576) :
    Calls Try.prog 84 #[v] w fun e w' => e = .returned (.int .i64 (crcOf zs)) ∧ w = w' := by
  obtain ⟨a, c, rfl, hlc, _, hn, hc⟩ := Rd.ints h
  clear h hn
  have H := Lib.hid hc; clear hc
  have HB : Hid (WfB zs) := Lib.hid hb; clear hb
  go_enter Try.func84, Try.ntmps84
  go_wp2
  go_loop [3, 9] (fun q i => ∃ (k : Nat), k ≤ zs.length ∧ i = .int .i64 k ∧ q = .int .u32 (crcTo zs k : Int)) (fun _ i => zs.length - (intOf i).toNat)
  case atStart => exact ⟨0, by omega, rfl, rfl⟩
  case round =>
    obtain ⟨k, hk, rfl, rfl⟩ := hrel
    have hr := crcTo_lt HB.out k
    by_cases hlt : k < zs.length
    · obtain ⟨b, o, rfl, hcs⟩ := H.out k hlt
      have hz := Bytes.at HB.out hlt
      obtain ⟨x, hx⟩ := Int.eq_ofNat_of_zero_le hz.1
      have HX : Hid (zs[k] = (x : Int)) := Lib.hid hx; clear hx
      have hx2 : x < 256 := by have := HX.out; omega
      rw [HX.out] at hcs
      clear hz
      generalize hR : crcTo zs k = R at *
      have HR := Lib.hid hR; clear hR
      have hq := xor_lt32 hr (show x < 4294967296 by omega)
      have HQ : Hid (bits .xor .u32 (R : Int) (x : Int) = ((R ^^^ x : Nat) : Int)) := Lib.hid (u32_xor_nat R x hr (by omega))
      go_wp2
      go_loop [3, 17] (fun q i => ∃ (m : Nat), m ≤ 8 ∧ i = .int .i64 m ∧ q = .int .u32 (crcN m (R ^^^ x) : Int)) (fun _ i => 8 - (intOf i).toNat)
      case atStart => exact ⟨0, by omega, rfl, by rw [HQ.out]; rfl⟩
      case round =>
        obtain ⟨m, hm2, rfl, rfl⟩ := hrel
        have hc0 := crcN_lt (j := m) hq
        by_cases hl : m < 8
        · generalize hC : crcN m (R ^^^ x) = C at *
          have HC := Lib.hid hC; clear hC
          have HY : Hid (bits .xor .u32 ((C : Int) / 2) 3988292384 = ((C / 2 ^^^ 3988292384 : Nat) : Int)) := Lib.hid (u32_xor_nat (C / 2) 3988292384 (by omega) (by omega))
          by_cases h2 : C % 2 = 1
          · have HE := Lib.hid (crcB_one h2)
            have hb1 : (bits .and .u32 (C : Int) 1 == 1) = true := by rw [u32_and_one C (by omega)]; simp; omega
            go_wp2
            go_round
            case rel => exact ⟨m + 1, by omega, by go_num, by rw [HY.out, ← HE.out, ← HC.out]; rfl⟩
            case measure => simp [intOf]; omega
          · have HE := Lib.hid (crcB_zero h2)
            have hb1 : (bits .and .u32 (C : Int) 1 == 1) = false := by rw [u32_and_one C (by omega)]; simp; omega
            go_wp2
            go_round
            case rel => exact ⟨m + 1, by omega, by go_num, by rw [show ((C : Int) / 2) = ((C / 2 : Nat) : Int) from by omega, ← HE.out, ← HC.out]; rfl⟩
            case measure => simp [intOf]; omega
        · obtain rfl : m = 8 := by omega
          go_wp2
          go_round
          case rel => exact ⟨k + 1, by omega, by go_num, by rw [crcTo_s hlt, HR.out, HX.out]; rfl⟩
          case measure => simp [intOf]; omega
    · obtain rfl : k = zs.length := by omega
      have HF : Hid (wrap64 (bits .xor .u32 IntKind.u32.max (crcTo zs zs.length : Int)) = crcOf zs) := Lib.hid (by
        have e : bits .xor .u32 IntKind.u32.max (crcTo zs zs.length : Int) = crcOf zs := by
          have e0 : IntKind.u32.max = ((4294967295 : Nat) : Int) := by decide
          rw [e0, u32_xor_nat 4294967295 (crcTo zs zs.length) (by omega) hr, Nat.xor_comm]; rfl
        have hb := crcOf_bd HB.out
        rw [e]
        exact IntWalk.wrap64_in _ ⟨by omega, by omega⟩)
      go_wp2
      go_ret
      exact ⟨ret_int HF.out, rfl⟩
--%
end Go.Proofs.Ytcldfodnblkeiaa
