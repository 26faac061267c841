/- Contracts: numbers in bytes, sums. -/
import Derived.Test.YtcldfodnblkeiaaByt
import Derived.WalkKit
import Derived.ProofKit
import Derived.Deep.QuietTactic
import Derived.BigQuiet
import Derived.Outline
import Derived.WalkSpells
namespace Go.Proofs.Ytcldfodnblkeiaa
open Go.ChangeShapes Go.WideShapes Go.ChangeAt Go.RowKit
set_option linter.unusedVariables false
set_option linter.unusedSimpArgs false

def Bytes (zs : List Int) : Prop := ∀ x ∈ zs, 0 ≤ x ∧ x < 256
theorem Bytes.at {zs : List Int} (h : Bytes zs) {k : Nat} (hk : k < zs.length) : 0 ≤ zs[k] ∧ zs[k] < 256 := h _ (List.getElem_mem hk)
theorem Bytes.take {zs : List Int} (h : Bytes zs) (k : Nat) : Bytes (zs.take k) := fun x hx => h x (List.mem_of_mem_take hx)
theorem Bytes.drop {zs : List Int} (h : Bytes zs) (k : Nat) : Bytes (zs.drop k) := fun x hx => h x (List.mem_of_mem_drop hx)
theorem Bytes.app {xs ys : List Int} (h : Bytes xs) (k : Bytes ys) : Bytes (xs ++ ys) := fun x hx => by
  rcases List.mem_append.1 hx with hx | hx
  · exact h x hx
  · exact k x hx
/-- The number in bytes, the highest first. -/
def valBE (zs : List Int) : Int := zs.foldl (fun n x => 256 * n + x) 0
theorem valBE_snoc (zs : List Int) (x : Int) : valBE (zs ++ [x]) = 256 * valBE zs + x := by simp [valBE, List.foldl_append]
theorem valBE_take {zs : List Int} {k : Nat} (h : k < zs.length) : valBE (zs.take (k + 1)) = 256 * valBE (zs.take k) + zs[k] := by
  rw [List.take_succ_eq_append_getElem h, valBE_snoc]
theorem valBE_bd (zs : List Int) (h : Bytes zs) : 0 ≤ valBE zs ∧ valBE zs < p256 zs.length := by
  have key : ∀ k, k ≤ zs.length → 0 ≤ valBE (zs.take k) ∧ valBE (zs.take k) < p256 k := by
    intro k
    induction k with
    | zero => intro _; rw [p256_0]; simp [valBE]
    | succ k ih =>
      intro hk
      have h1 := ih (by omega)
      have h2 := h.at (k := k) (by omega)
      rw [valBE_take (by omega), p256_s]
      omega
  have := key zs.length (Nat.le_refl _)
  rwa [List.take_of_length_le (Nat.le_refl _)] at this
theorem valBE_le (zs : List Int) (h : Bytes zs) (hl : zs.length ≤ 6) : 0 ≤ valBE zs ∧ valBE zs ≤ 281474976710655 := by
  have h1 := valBE_bd zs h
  have h2 := p256_bd zs.length hl
  omega
def redS (s : Int) : Int := if 65535 < s then s - 65535 else s
def s16 (s : Int) : List Int → Int
  | [] => s
  | [x] => redS (s + 256 * x)
  | x :: y :: r => s16 (redS (s + (256 * x + y))) r
theorem s16_drop1 {zs : List Int} {k : Nat} (s : Int) (h : k + 1 = zs.length) : s16 s (zs.drop k) = redS (s + 256 * zs[k]) := by
  rw [List.drop_eq_getElem_cons (by omega), List.drop_of_length_le (by omega)]
  rfl
theorem s16_drop2 {zs : List Int} {k : Nat} (s : Int) (h : k + 1 < zs.length) : s16 s (zs.drop k) = s16 (redS (s + (256 * zs[k] + zs[k+1]))) (zs.drop (k + 2)) := by
  rw [List.drop_eq_getElem_cons (by omega), List.drop_eq_getElem_cons (by omega)]
  rfl
theorem redS_hi {s : Int} (h : 65535 < s) : redS s = s - 65535 := by simp [redS, h]
theorem redS_lo {s : Int} (h : ¬ 65535 < s) : redS s = s := by simp [redS, h]

--% get 86
theorem get_any (v : Value) (zs : List Int) (w : World) (h : Rd w 1 v (zs.map (Value.int .u8))) (hb : Bytes zs) (hl : zs.length ≤ 6) :
    Calls Try.prog 86 #[v] w fun e w' => e = .returned (.int .i64 (valBE zs)) ∧ w = w' := by
  obtain ⟨a, c, rfl, hlc, _, hn, hc⟩ := h.ints
  clear h hn
  have H := Lib.hid hc; clear hc
  have HB := Lib.hid hb; clear hb
  go_enter Try.func86, Try.ntmps86
  go_wp2
  go_loop [3, 8] (fun q i => ∃ k : Nat, k ≤ zs.length ∧ i = .int .i64 k ∧ q = .int .i64 (valBE (zs.take k))) (fun _ i => zs.length - (intOf i).toNat)
  case atStart => exact ⟨0, Nat.zero_le _, rfl, rfl⟩
  case round =>
    obtain ⟨k, hk, rfl, rfl⟩ := hrel
    by_cases hlt : k < zs.length
    · obtain ⟨b, o, rfl, hcs⟩ := H.out k hlt
      have hv := valBE_le (zs.take k) (HB.out.take k) (by simp; omega)
      have hz := HB.out.at hlt
      go_wp2
      go_round
      case rel => exact ⟨k + 1, by omega, by go_num, by rw [valBE_take hlt]⟩
      case measure => simp [intOf]; omega
    · obtain rfl : k = zs.length := by omega
      go_wp2
      go_ret
      exact ⟨ret_int (by first | rfl | rw [List.take_of_length_le (Nat.le_refl _)]), rfl⟩
--% each impl.Sum16;I
theorem sum16I_any (v : Value) (zs : List Int) (w : World) (h : Rd w 1 v (zs.map (Value.int .u8))) (hb : Bytes zs) (hl : zs.length ≤ 140737488351232) :
    Calls Try.prog 67 #[v] w fun e w' => e = .returned (.int .i64 (65535 - s16 0 zs)) ∧ w = w' := by
  obtain ⟨a, c, rfl, hlc, _, hn, hc⟩ := h.ints
  clear h hn
  have H := Lib.hid hc; clear hc
  have HB := Lib.hid hb; clear hb
  go_enter Try.func67, Try.ntmps67
  go_wp2
  go_loop [3, 4] (fun q i => ∃ (k : Nat) (s : Int), k ≤ zs.length + 1 ∧ i = .int .i64 k ∧ q = .int .i64 s ∧ 0 ≤ s ∧ s ≤ 65535 ∧ s16 s (zs.drop k) = s16 0 zs) (fun _ i => zs.length + 2 - (intOf i).toNat)
  case atStart => exact ⟨0, 0, by omega, rfl, rfl, by omega, by omega, rfl⟩
  case round =>
    obtain ⟨k, s, hk, rfl, rfl, hs0, hs1, hs⟩ := hrel
    have HS := Lib.hid hs; clear hs
    by_cases hlt : k < zs.length
    · obtain ⟨b, o, rfl, hcs⟩ := H.out k hlt
      have hz := HB.out.at hlt
      by_cases hlt2 : k + 1 < zs.length
      · obtain ⟨b', o', he, hcs2⟩ := H.out (k + 1) hlt2
        simp only [Option.some.injEq, Addr.mk.injEq, and_true] at he
        obtain ⟨rfl, rfl⟩ := he
        have hz2 := HB.out.at hlt2
        have HQ := Lib.hid (s16_drop2 s hlt2)
        by_cases hgt : 65535 < s + (256 * zs[k] + zs[k+1])
        · have HR := Lib.hid (redS_hi hgt)
          go_wp2
          go_round
          case rel => exact ⟨k + 2, _, by omega, by go_num, rfl, by omega, by omega, by rw [← HS.out, HQ.out, HR.out]; try exact congrArg (fun t => s16 t _) (by omega)⟩
          case measure => simp [intOf]; omega
        · have HR := Lib.hid (redS_lo hgt)
          go_wp2
          go_round
          case rel => exact ⟨k + 2, _, by omega, by go_num, rfl, by omega, by omega, by rw [← HS.out, HQ.out, HR.out]; try exact congrArg (fun t => s16 t _) (by omega)⟩
          case measure => simp [intOf]; omega
      · have HQ := Lib.hid (s16_drop1 s (show k + 1 = zs.length by omega))
        by_cases hgt : 65535 < s + 256 * zs[k]
        · have HR := Lib.hid (redS_hi hgt)
          go_wp2
          go_round
          case rel => exact ⟨k + 2, _, by omega, by go_num, rfl, by omega, by omega, by rw [← HS.out, HQ.out, HR.out, List.drop_of_length_le (by omega)]; exact congrArg (fun t => s16 t []) (by omega)⟩
          case measure => simp [intOf]; omega
        · have HR := Lib.hid (redS_lo hgt)
          go_wp2
          go_round
          case rel => exact ⟨k + 2, _, by omega, by go_num, rfl, by omega, by omega, by rw [← HS.out, HQ.out, HR.out, List.drop_of_length_le (by omega)]; exact congrArg (fun t => s16 t []) (by omega)⟩
          case measure => simp [intOf]; omega
    · go_wp2
      go_ret
      exact ⟨ret_int (by rw [← HS.out, List.drop_of_length_le (by omega)]; rfl), rfl⟩
--% each spec.Sum16;S
theorem sum16S_any (v : Value) (zs : List Int) (w : World) (h : Rd w 1 v (zs.map (Value.int .u8))) (hb : Bytes zs) (hl : zs.length ≤ 140737488351232) :
    Calls Try.prog 91 #[v] w fun e w' => e = .returned (.int .i64 (65535 - s16 0 zs)) ∧ w = w' := by
  obtain ⟨a, c, rfl, hlc, _, hn, hc⟩ := h.ints
  clear h hn
  have H := Lib.hid hc; clear hc
  have HB := Lib.hid hb; clear hb
  go_enter Try.func91, Try.ntmps91
  go_wp2
  go_loop [3, 4] (fun q i => ∃ (k : Nat) (s : Int), k ≤ zs.length + 1 ∧ i = .int .i64 k ∧ q = .int .i64 s ∧ 0 ≤ s ∧ s ≤ 65535 ∧ s16 s (zs.drop k) = s16 0 zs) (fun _ i => zs.length + 2 - (intOf i).toNat)
  case atStart => exact ⟨0, 0, by omega, rfl, rfl, by omega, by omega, rfl⟩
  case round =>
    obtain ⟨k, s, hk, rfl, rfl, hs0, hs1, hs⟩ := hrel
    have HS := Lib.hid hs; clear hs
    by_cases hlt : k < zs.length
    · obtain ⟨b, o, rfl, hcs⟩ := H.out k hlt
      have hz := HB.out.at hlt
      by_cases hlt2 : k + 1 < zs.length
      · obtain ⟨b', o', he, hcs2⟩ := H.out (k + 1) hlt2
        simp only [Option.some.injEq, Addr.mk.injEq, and_true] at he
        obtain ⟨rfl, rfl⟩ := he
        have hz2 := HB.out.at hlt2
        have HQ := Lib.hid (s16_drop2 s hlt2)
        by_cases hgt : 65535 < s + (256 * zs[k] + zs[k+1])
        · have HR := Lib.hid (redS_hi hgt)
          go_wp2
          go_round
          case rel => exact ⟨k + 2, _, by omega, by go_num, rfl, by omega, by omega, by rw [← HS.out, HQ.out, HR.out]; try exact congrArg (fun t => s16 t _) (by omega)⟩
          case measure => simp [intOf]; omega
        · have HR := Lib.hid (redS_lo hgt)
          go_wp2
          go_round
          case rel => exact ⟨k + 2, _, by omega, by go_num, rfl, by omega, by omega, by rw [← HS.out, HQ.out, HR.out]; try exact congrArg (fun t => s16 t _) (by omega)⟩
          case measure => simp [intOf]; omega
      · have HQ := Lib.hid (s16_drop1 s (show k + 1 = zs.length by omega))
        by_cases hgt : 65535 < s + 256 * zs[k]
        · have HR := Lib.hid (redS_hi hgt)
          go_wp2
          go_round
          case rel => exact ⟨k + 2, _, by omega, by go_num, rfl, by omega, by omega, by rw [← HS.out, HQ.out, HR.out, List.drop_of_length_le (by omega)]; exact congrArg (fun t => s16 t []) (by omega)⟩
          case measure => simp [intOf]; omega
        · have HR := Lib.hid (redS_lo hgt)
          go_wp2
          go_round
          case rel => exact ⟨k + 2, _, by omega, by go_num, rfl, by omega, by omega, by rw [← HS.out, HQ.out, HR.out, List.drop_of_length_le (by omega)]; exact congrArg (fun t => s16 t []) (by omega)⟩
          case measure => simp [intOf]; omega
    · go_wp2
      go_ret
      exact ⟨ret_int (by rw [← HS.out, List.drop_of_length_le (by omega)]; rfl), rfl⟩
--% GetNumI 76
def Ret2Int (n : Int) (b : Bool) (w : World) (e : Ending) (w' : World) : Prop := e = .returned (.tuple #[.int .i64 n, .bool b]) ∧ w = w'
theorem getNumI_yes (v : Value) (zs : List Int) (at_ size : Nat) (w : World) (h : Rd w 1 v (zs.map (Value.int .u8))) (hb : Bytes zs) (h1 : 1 ≤ size) (h6 : size ≤ 6) (hl : at_ + size ≤ zs.length) :
    Calls Try.prog 76 #[v, .int .i64 at_, .int .i64 size] w (Ret2Int (valBE ((zs.drop at_).take size)) true w) := by
  obtain ⟨a, c, rfl, hlc, hm, hn, hc⟩ := h.ints
  have hs := h.cut at_ size hl (by omega)
  rw [← List.map_drop, ← List.map_take] at hs
  have HS := Lib.hid hs; clear hs h hn hc
  have HB := Lib.hid hb; clear hb
  have hB : inB 1 6 (size : Int) = true := inB_true (by omega) (by omega)
  unfold maxLen at hm
  go_enter Try.func76, Try.ntmps76
  go_wp2_with (first | (go_at_call 104; refine (isSize_any _ _).mono ?_; rintro e w' ⟨rfl, rfl⟩))
  refine (get_any _ _ _ HS.out ((HB.out.drop _).take _) (by simp; omega)).mono ?_
  rintro e w' ⟨rfl, rfl⟩
  go_wp2
  go_ret2
  exact ⟨rfl, rfl⟩
theorem getNumI_no (v : Value) (zs : List Int) (at_ size : Int) (w : World) (h : Rd w 1 v (zs.map (Value.int .u8))) (hw : -9223372036854775808 ≤ size ∧ size ≤ 9223372036854775807) (hno : ¬ (1 ≤ size ∧ size ≤ 6 ∧ 0 ≤ at_ ∧ at_ ≤ zs.length - size)) :
    Calls Try.prog 76 #[v, .int .i64 at_, .int .i64 size] w (Ret2Int 0 false w) := by
  obtain ⟨a, c, rfl, hlc, hm, hn, hc⟩ := h.ints
  clear h hn hc
  unfold maxLen at hm
  by_cases hs : 1 ≤ size ∧ size ≤ 6
  · obtain ⟨h1, h6⟩ := hs
    have hB : inB 1 6 size = true := inB_true (by omega) (by omega)
    by_cases h0 : 0 ≤ at_
    · have h2 : (zs.length : Int) - size < at_ := by omega
      clear hno
      go_enter Try.func76, Try.ntmps76
      go_wp2_with (first | (go_at_call 104; refine (isSize_any _ _).mono ?_; rintro e w' ⟨rfl, rfl⟩))
      go_ret2
      exact ⟨rfl, rfl⟩
    · clear hno
      go_enter Try.func76, Try.ntmps76
      go_wp2_with (first | (go_at_call 104; refine (isSize_any _ _).mono ?_; rintro e w' ⟨rfl, rfl⟩))
      go_ret2
      exact ⟨rfl, rfl⟩
  · have hB : inB 1 6 size = false := inB_false (by omega)
    clear hno
    go_enter Try.func76, Try.ntmps76
    go_wp2_with (first | (go_at_call 104; refine (isSize_any _ _).mono ?_; rintro e w' ⟨rfl, rfl⟩))
    go_ret2
    exact ⟨rfl, rfl⟩
--% GetNumS 85
theorem take_drop_at {zs : List Int} {at_ k : Nat} (h : at_ + k < zs.length) : valBE ((zs.drop at_).take (k + 1)) = 256 * valBE ((zs.drop at_).take k) + zs[at_ + k] := by
  rw [valBE_take (by rw [List.length_drop]; omega)]
  simp
theorem getNumS_yes (v : Value) (zs : List Int) (at_ size : Nat) (w : World) (h : Rd w 1 v (zs.map (Value.int .u8))) (hb : Bytes zs) (h1 : 1 ≤ size) (h6 : size ≤ 6) (hl : at_ + size ≤ zs.length) :
    Calls Try.prog 85 #[v, .int .i64 at_, .int .i64 size] w (Ret2Int (valBE ((zs.drop at_).take size)) true w) := by
  obtain ⟨a, c, rfl, hlc, hm, hn, hc⟩ := h.ints
  have H := Lib.hid hc; clear hc h hn
  have HB := Lib.hid hb; clear hb
  unfold maxLen at hm
  go_enter Try.func85, Try.ntmps85
  go_wp2
  go_loop [8, 9] (fun q i => ∃ k : Nat, k ≤ size ∧ i = .int .i64 k ∧ q = .int .i64 (valBE ((zs.drop at_).take k))) (fun _ i => size - (intOf i).toNat)
  case atStart => exact ⟨0, Nat.zero_le _, rfl, rfl⟩
  case round =>
    obtain ⟨k, hk, rfl, rfl⟩ := hrel
    by_cases hlt : k < size
    · obtain ⟨b, o, rfl, hcs⟩ := H.out (at_ + k) (by omega)
      have hv := valBE_le ((zs.drop at_).take k) ((HB.out.drop _).take k) (by simp; omega)
      have hz := HB.out.at (k := at_ + k) (by omega)
      go_wp2
      go_round
      case rel => exact ⟨k + 1, by omega, by go_num, by rw [take_drop_at (by omega)]; congr 1; omega⟩
      case measure => simp [intOf]; omega
    · obtain rfl : k = size := by omega
      go_wp2
      go_ret2
      exact ⟨rfl, rfl⟩
theorem getNumS_no (v : Value) (zs : List Int) (at_ size : Int) (w : World) (h : Rd w 1 v (zs.map (Value.int .u8))) (hw : -9223372036854775808 ≤ size ∧ size ≤ 9223372036854775807) (hno : ¬ (1 ≤ size ∧ size ≤ 6 ∧ 0 ≤ at_ ∧ at_ ≤ zs.length - size)) :
    Calls Try.prog 85 #[v, .int .i64 at_, .int .i64 size] w (Ret2Int 0 false w) := by
  obtain ⟨a, c, rfl, hlc, hm, hn, hc⟩ := h.ints
  clear h hn hc
  unfold maxLen at hm
  by_cases h1 : 1 ≤ size
  · by_cases h6 : size ≤ 6
    · by_cases h0 : 0 ≤ at_
      · have h2 : (zs.length : Int) - size < at_ := by omega
        clear hno
        go_enter Try.func85, Try.ntmps85
        go_wp2
        go_ret2
        exact ⟨rfl, rfl⟩
      · clear hno
        go_enter Try.func85, Try.ntmps85
        go_wp2
        go_ret2
        exact ⟨rfl, rfl⟩
    · clear hno
      go_enter Try.func85, Try.ntmps85
      go_wp2
      go_ret2
      exact ⟨rfl, rfl⟩
  · clear hno
    go_enter Try.func85, Try.ntmps85
    go_wp2
    go_ret2
    exact ⟨rfl, rfl⟩
--%
end Go.Proofs.Ytcldfodnblkeiaa
