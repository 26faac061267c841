/- Contracts: Unhex. -/
import Derived.Test.YtgbaaapneddcoaaHex
import Derived.Test.YtgbaaapneddcoaaStr
import Derived.WalkKit
import Derived.ProofKit
import Derived.Deep.QuietTactic
import Derived.BigQuiet
import Derived.Outline
import Derived.WalkSpells
namespace Go.Proofs.Ytgbaaapneddcoaa
open Go.ChangeShapes Go.WideShapes Go.ChangeAt Go.RowKit
set_option linter.unusedVariables false
set_option linter.unusedSimpArgs false

/-- The digit that c is, or -1. -/
def nib (c : Int) : Int := if 48 ≤ c ∧ c ≤ 57 then c - 48 else if 97 ≤ c ∧ c ≤ 102 then c - 87 else -1
theorem nib_of {k c : Int} (h0 : 0 ≤ k) (h1 : k < 16) (h : hexd k = c) : nib c = k := by
  unfold hexd at h; unfold nib
  split at h
  · rw [if_pos (by omega)]; omega
  · rw [if_neg (by omega), if_pos (by omega)]; omega
theorem nib_none {c : Int} (h : ∀ k : Nat, k < 16 → hexd k ≠ c) : nib c = -1 := by
  unfold nib
  split
  · rename_i h1
    exfalso
    refine h (c - 48).toNat (by omega) ?_
    unfold hexd; rw [if_pos (by omega)]; omega
  · split
    · rename_i h1
      exfalso
      refine h (c - 87).toNat (by omega) ?_
      unfold hexd; rw [if_neg (by omega)]; omega
    · rfl
theorem nib_bd (c : Int) : -1 ≤ nib c ∧ nib c < 16 := by unfold nib; split <;> (try split) <;> omega
def nb (s : ByteArray) (i : Nat) : Int := nib (chr s i)
def unh (s : ByteArray) (k : Nat) : List Int := (List.range k).map fun i => 16 * nb s (2 * i) + nb s (2 * i + 1)
theorem unh_succ (s : ByteArray) (k : Nat) : unh s (k + 1) = unh s k ++ [16 * nb s (2 * k) + nb s (2 * k + 1)] := by simp [unh, List.range_succ]
theorem unh_length (s : ByteArray) (k : Nat) : (unh s k).length = k := by simp [unh]
def HexP (s : ByteArray) : Prop := s.size % 2 = 0 ∧ s.size ≤ 120000 ∧ ∀ i, i < s.size → 0 ≤ nb s i
open Classical in
noncomputable def unhexF (s : ByteArray) : List Int × Bool := if HexP s then (unh s (s.size / 2), true) else ([], false)
theorem unhexF_yes {s : ByteArray} (h : HexP s) : unhexF s = (unh s (s.size / 2), true) := by simp [unhexF, h]
theorem unhexF_no {s : ByteArray} (h : ¬ HexP s) : unhexF s = ([], false) := by simp [unhexF, h]
theorem unhexF_len (s : ByteArray) : (unhexF s).1.length ≤ 60000 := by
  by_cases h : HexP s
  · rw [unhexF_yes h, unh_length]; have := h.2.1; omega
  · rw [unhexF_no h]; simp
theorem retNo {s : ByteArray} {w w' : World} (h : ¬ HexP s) (g : Grow w w') : RetNew2 OwnB (unhexF s).1 (.bool (unhexF s).2) w (.returned (.tuple #[.slice none 0 0, .bool false])) w' := by
  rw [unhexF_no h]
  exact ⟨_, [], rfl, ⟨World.ownsRow_nil _ _ _ _, rfl⟩, (fun b hb => by simp at hb), g⟩
theorem retYes {s : ByteArray} {w w' : World} {v : Value} (h : HexP s) (ho : w'.ownsRow w.heap.size 5 1 v (s.size / 2) ((unh s (s.size / 2)).map (Value.int .u8))) (g : Grow w w') : RetNew2 OwnB (unhexF s).1 (.bool (unhexF s).2) w (.returned (.tuple #[v, .bool true])) w' := by
  rw [unhexF_yes h]
  refine ⟨v, fpOf v, rfl, ?_, (OwnR.of ho).2, g⟩
  show OwnR _ _ _ _ _ _ _
  rw [unh_length]
  exact (OwnR.of ho).1

--% nibble 49
set_option maxRecDepth 20000 in
theorem hex_index64 (d : Nat) (h1 : d < 16) (w : World) : (Instr.index 9 (.string { data := #[48, 49, 50, 51, 52, 53, 54, 55, 56, 57, 97, 98, 99, 100, 101, 102] }) (.int .i64 d)).run Try.prog w = .ok (.int .u8 (hexd d)) w := by
  obtain rfl | rfl | rfl | rfl | rfl | rfl | rfl | rfl | rfl | rfl | rfl | rfl | rfl | rfl | rfl | rfl : d = 0 ∨ d = 1 ∨ d = 2 ∨ d = 3 ∨ d = 4 ∨ d = 5 ∨ d = 6 ∨ d = 7 ∨ d = 8 ∨ d = 9 ∨ d = 10 ∨ d = 11 ∨ d = 12 ∨ d = 13 ∨ d = 14 ∨ d = 15 := by omega
  all_goals rfl
theorem nibble_any (c : Int) (w : World) : Calls Try.prog 49 #[.int .u8 c] w fun e w' => e = .returned (.int .i64 (nib c)) ∧ w' = w := by
  go_enter Try.func49, Try.ntmps49
  go_wp2
  go_loop [4] (fun i => ∃ k : Nat, k ≤ 16 ∧ i = .int .i64 k ∧ ∀ j : Nat, j < k → hexd j ≠ c) (fun i => 16 - (intOf i).toNat)
  case atStart => exact ⟨0, by omega, rfl, fun j hj => by omega⟩
  case round =>
    obtain ⟨k, hk, rfl, hall⟩ := hrel
    have HA := Lib.hid hall; clear hall
    by_cases hlt : k < 16
    · have hix := hex_index64 k hlt
      by_cases he : hexd k = c
      · have heb : (hexd k == c) = true := by simp [he]
        have HN := Lib.hid (nib_of (by omega) (by omega) he); clear he
        go_wp2
        go_ret
        exact ⟨ret_int HN.out.symm, rfl⟩
      · have heb : (hexd k == c) = false := by simp [he]
        have HE := Lib.hid he; clear he
        go_wp2
        go_round
        case rel => exact ⟨k + 1, by omega, by go_num, fun j hj => by
          by_cases hjk : j = k
          · subst hjk; exact HE.out
          · exact HA.out j (by omega)⟩
        case measure => simp [intOf]; omega
    · obtain rfl : k = 16 := by omega
      have HN := Lib.hid (nib_none HA.out)
      go_wp2
      go_ret
      exact ⟨ret_int HN.out.symm, rfl⟩
--% str_index
theorem str_index {P : Program} {t : TypeId} (ht : P.underlying t = some .string) (s : ByteArray) (i : Int) (n : Nat) (hi : i = (n : Int)) (h : n < s.size) (w : World) : (Instr.index t (.string s) (.int .i64 i)).run P w = .ok (.int .u8 (s[n].toNat : Int)) w := by
  subst hi
  have hz : s[n]? = some s[n] := by simp [h]
  simp [Instr.index, asIntOf, run_underlying ht, hz, h]
--% UnhexI 36
theorem unhexI_any (w : World) (s : ByteArray) (hs : s.size ≤ 9223372036854775807) : Calls Try.prog 36 #[.string s] w (RetNew2 OwnB (unhexF s).1 (.bool (unhexF s).2) w) := by
  by_cases h1 : s.size % 2 = 0
  · have hb1 : ((s.size : Int) % 2 != 0) = false := by simp; omega
    by_cases h2 : s.size ≤ 120000
    · have H1 := Lib.hid h1; clear h1
      go_enter Try.func36, Try.ntmps36
      go_wp2
      go_loopw [4, 5] (fun q i wr => ∃ (k : Nat), 2 * k ≤ s.size ∧ i = .int .i64 ((2 * k : Nat) : Int) ∧ (∀ j, j < 2 * k → 0 ≤ nb s j) ∧ wr.ownsRow w.heap.size 5 1 q k ((unh s k).map (Value.int .u8)) ∧ Grow w wr) (fun _ i _ => s.size + 1 - (intOf i).toNat)
      case atStart => exact ⟨0, by omega, rfl, (fun j hj => by omega), own_built w _ 1 0 [] rfl (by decide), Grow.alloc _ _⟩
      case round =>
        obtain ⟨k, hk, rfl, hall, hown, hgr⟩ := hrel
        have HA := Lib.hid hall; clear hall
        have HO := Lib.hid hown; clear hown
        have HG := Lib.hid hgr; clear hgr
        obtain ⟨m, hm⟩ : ∃ m, m = 2 * k := ⟨_, rfl⟩
        rw [← hm] at hk HA ⊢
        have HM := Lib.hid hm; clear hm
        by_cases hlt : m < s.size
        · have hlt2 : m + 1 < s.size := by have := H1.out; have := HM.out; omega
          have hq1 := Lib.hid (chr_at s m hlt)
          have hq2 := Lib.hid (chr_at s (m + 1) hlt2)
          have hbd1 := nib_bd (s[m].toNat : Int)
          have hbd2 := nib_bd (s[m + 1].toNat : Int)
          have hk60 : k < 60000 := by have := HM.out; omega
          go_wp2
          have hw1 : IntKind.i64.wrap ((m : Int) + 1) = (m : Int) + 1 := IntWalk.i64_in _ (by omega)
          have hw2 := str_index (P := Try.prog) Try.underlying9 s ((m : Int) + 1) (m + 1) (by omega) hlt2
          go_quiet ((go_at_call 49; exact Calls.quiet_of_same (nibble_any _ _)))
          clear hw1 hw2
          by_cases hn1 : 0 ≤ nib (s[m].toNat : Int)
          · by_cases hn2 : 0 ≤ nib (s[m + 1].toNat : Int)
            · have HE : Hid (16 * nib (s[m].toNat : Int) + nib (s[m + 1].toNat : Int) = 16 * nb s (2 * k) + nb s (2 * k + 1)) := Lib.hid (by unfold nb; rw [← HM.out, hq1.out, hq2.out])
              go_wp2_with (at_builtin; refine wpl_append Try.elemU8 rfl _ _ rfl w.heap.size rfl (own_grow (own_drewN HO.out _) (Grow.alloc _ _)) 1 rfl (rd_built _ _ 1 1 [Value.int .u8 (16 * nib (s[m].toNat : Int) + nib (s[m + 1].toNat : Int))] rfl (by decide)) rfl (oneCell_ints .u8 [_]) (by omega) (by unfold maxLen; omega) (by have := HG.out.size; simp; omega) ?_; intro v2 w2 hown2 hgr2 hmv2)
              have HO2 := Lib.hid hown2; clear hown2
              have HG2 : Hid (Grow w w2) := Lib.hid (Grow.of_grown (grown_trans (HG.out.trans ((Grow.drewN _ _).trans (Grow.alloc _ _))).grown hgr2 (fun g hg hlt => by have := (own_block HO.out hg).1; omega)))
              clear hgr2 hmv2
              go_roundw
              case rel =>
                refine ⟨k + 1, by have := HM.out; omega, by have := HM.out; go_num, fun j hj => ?_, ?_, HG2.out⟩
                · by_cases hj1 : j = m
                  · subst hj1; unfold nb; rw [hq1.out]; exact hn1
                  · by_cases hj2 : j = m + 1
                    · subst hj2; unfold nb; rw [hq2.out]; exact hn2
                    · exact HA.out j (by have := HM.out; omega)
                · rw [unh_succ, List.map_append]
                  have := HO2.out
                  rw [HE.out] at this
                  exact this
              case measure => simp [intOf]; omega
            · have HN : Hid (¬ HexP s) := Lib.hid (fun h => by have := h.2.2 (m + 1) hlt2; unfold nb at this; rw [hq2.out] at this; omega)
              go_wp2
              go_ret2
              exact retNo HN.out (HG.out.trans (Grow.drewN _ _))
          · have HN : Hid (¬ HexP s) := Lib.hid (fun h => by have := h.2.2 m hlt; unfold nb at this; rw [hq1.out] at this; omega)
            go_wp2
            go_ret2
            exact retNo HN.out (HG.out.trans (Grow.drewN _ _))
        · have HE : Hid (m = s.size) := Lib.hid (by omega)
          have HN : Hid (HexP s) := Lib.hid ⟨H1.out, h2, fun j hj => HA.out j (by rw [HE.out]; exact hj)⟩
          go_wp2
          go_ret2
          refine retYes HN.out ?_ HG.out
          have : s.size / 2 = k := by have := HM.out; have := HE.out; omega
          rw [this]; exact HO.out
    · have HN : Hid (¬ HexP s) := Lib.hid (fun h => h2 h.2.1)
      go_enter Try.func36, Try.ntmps36
      go_wp2
      go_ret2
      exact retNo HN.out (Grow.refl _)
  · have HN : Hid (¬ HexP s) := Lib.hid (fun h => h1 h.1)
    have hb1 : ((s.size : Int) % 2 != 0) = true := by simp; omega
    clear h1
    go_enter Try.func36, Try.ntmps36
    go_wp2
    go_ret2
    exact retNo HN.out (Grow.refl _)
--% UnhexS 35
/-- Some draws later. -/
def Dr (w w' : World) : Prop := ∃ n, w' = w.drewN n
theorem Dr.refl (w : World) : Dr w w := ⟨0, rfl⟩
theorem Dr.step {a b : World} (h : Dr a b) (n : Nat) : Dr a (b.drewN n) := by obtain ⟨m, rfl⟩ := h; exact ⟨_, World.drewN_drewN ..⟩
theorem Dr.own {a b : World} (h : Dr a b) {B : Nat} {e : TypeId} {size : Nat} {v : Value} {n : Nat} {xs : List Value} (ho : a.ownsRow B e size v n xs) : b.ownsRow B e size v n xs := by obtain ⟨m, rfl⟩ := h; exact ho
theorem Dr.grow {a b : World} (h : Dr a b) : Grow a b := by obtain ⟨m, rfl⟩ := h; exact Grow.drewN _ _
theorem drewN_grow {w w' : World} (h : ∃ n, w' = w.drewN n) : Grow w w' := by obtain ⟨n, rfl⟩ := h; exact Grow.drewN _ _
theorem digit_q (n : Nat) (w : World) (h1 : n ≤ 16) : Calls Try.prog 47 #[.int .i64 n] w fun e w' => e = .returned (.int .u8 (hexd n)) ∧ w' = w :=
  (digit_any n w (by omega) (by omega)).mono fun _ _ h => ⟨h.1, h.2.symm⟩
theorem unhexS_any (w : World) (s : ByteArray) (hs : s.size ≤ 9223372036854775807) : Calls Try.prog 35 #[.string s] w (RetNew2 OwnB (unhexF s).1 (.bool (unhexF s).2) w) := by
  by_cases h1 : s.size % 2 = 0
  · have hb1 : ((s.size : Int) % 2 != 0) = false := by simp; omega
    by_cases h2 : s.size ≤ 120000
    · have H1 := Lib.hid h1; clear h1
      go_enter Try.func35, Try.ntmps35
      go_wp2
      go_loopw [4, 5, 6] (fun q hf i wr => ∃ (k p : Nat), k ≤ s.size ∧ i = .int .i64 (k : Int) ∧ (∀ j, j < k → 0 ≤ nb s j) ∧ ((k = 2 * p ∧ hf = .int .i64 0) ∨ (k = 2 * p + 1 ∧ hf = .int .i64 (nb s (2 * p)))) ∧ wr.ownsRow w.heap.size 5 1 q p ((unh s p).map (Value.int .u8)) ∧ Grow w wr) (fun _ _ i _ => s.size + 1 - (intOf i).toNat)
      case atStart => exact ⟨0, 0, by omega, rfl, (fun j hj => by omega), .inl ⟨rfl, rfl⟩, own_built w _ 1 0 [] rfl (by decide), Grow.alloc _ _⟩
      case round =>
        obtain ⟨k, p, hk, rfl, hall, hpar, hown, hgr⟩ := hrel
        have HA := Lib.hid hall; clear hall
        have HO := Lib.hid hown; clear hown
        have HG := Lib.hid hgr; clear hgr
        by_cases hlt : k < s.size
        · have hq1 := Lib.hid (chr_at s k hlt)
          have hix := str_index (P := Try.prog) Try.underlying9 s (k : Int) k rfl hlt
          rcases hpar with ⟨hkp, rfl⟩ | ⟨hkp, rfl⟩
          · have hodd : (((k : Int) % 2) == 1) = false := by simp; omega
            have HK := Lib.hid hkp; clear hkp
            go_wp2
            obtain ⟨wo, hwo⟩ : ∃ wo : World, wo = wr := ⟨_, rfl⟩
            subst hwo
            go_loopw [7] (fun d wx => ∃ n : Nat, n ≤ 16 ∧ d = .int .i64 n ∧ (∀ j : Nat, j < n → hexd j ≠ (s[k].toNat : Int)) ∧ Dr wo wx) (fun d _ => 17 - (intOf d).toNat)
            case atStart => exact ⟨0, by omega, rfl, (fun j hj => by omega), Dr.refl _⟩
            case round =>
              obtain ⟨n, hn, rfl, hall, hdr⟩ := hrel
              have HD := Lib.hid hdr; clear hdr
              have HH := Lib.hid hall; clear hall
              by_cases hl : n < 16
              · have hl2 : decide ((n : Int) < 16) = true := by simp; omega
                by_cases he : hexd n = (s[k].toNat : Int)
                · have heb : (hexd n != (s[k].toNat : Int)) = false := by simp [he]
                  have hnib : nib (s[k].toNat : Int) = n := nib_of (by omega) (by omega) he
                  have HNB : Hid (nb s k = n) := Lib.hid (by unfold nb; rw [hq1.out]; exact hnib)
                  clear he hnib
                  have hn16 : ((n : Int) == 16) = false := by simp; omega
                  go_wp2
                  go_quiet ((go_at_call 47; exact Calls.quiet_of_same (digit_q n _ hn)))
                  go_wp2
                  go_roundw
                  case rel =>
                    refine ⟨k + 1, p, by omega, by go_num, fun j hj => ?_, .inr ⟨by have := HK.out; omega, ?_⟩, (HD.out.step _).own HO.out, HG.out.trans (HD.out.step _).grow⟩
                    · by_cases hjk : j = k
                      · subst hjk; rw [HNB.out]; omega
                      · exact HA.out j (by omega)
                    · rw [← HK.out, HNB.out]
                  case measure => simp [intOf]; omega
                · have heb : (hexd n != (s[k].toNat : Int)) = true := by simpa using he
                  have HE := Lib.hid he; clear he
                  go_wp2
                  go_quiet ((go_at_call 47; exact Calls.quiet_of_same (digit_q n _ hn)))
                  go_wp2
                  go_roundw
                  case rel => exact ⟨n + 1, by omega, by go_num, (fun j hj => by
                    by_cases hjn : j = n
                    · subst hjn; exact HE.out
                    · exact HH.out j (by omega)), HD.out.step _⟩
                  case measure => simp [intOf]; omega
              · obtain rfl : n = 16 := by omega
                have HN : Hid (¬ HexP s) := Lib.hid (fun h => by have := h.2.2 k hlt; unfold nb at this; rw [hq1.out, nib_none HH.out] at this; omega)
                go_wp2
                go_quiet ((go_at_call 47; exact Calls.quiet_of_same (digit_q n _ hn)))
                go_wp2
                go_ret2
                exact retNo HN.out (HG.out.trans (HD.out.step _).grow)
          · have hodd : (((k : Int) % 2) == 1) = true := by simp; omega
            have HK := Lib.hid hkp; clear hkp
            go_wp2
            obtain ⟨wo, hwo⟩ : ∃ wo : World, wo = wr := ⟨_, rfl⟩
            subst hwo
            go_loopw [7] (fun d wx => ∃ n : Nat, n ≤ 16 ∧ d = .int .i64 n ∧ (∀ j : Nat, j < n → hexd j ≠ (s[k].toNat : Int)) ∧ Dr wo wx) (fun d _ => 17 - (intOf d).toNat)
            case atStart => exact ⟨0, by omega, rfl, (fun j hj => by omega), Dr.refl _⟩
            case round =>
              obtain ⟨n, hn, rfl, hall, hdr⟩ := hrel
              have HD := Lib.hid hdr; clear hdr
              have HH := Lib.hid hall; clear hall
              by_cases hl : n < 16
              · have hl2 : decide ((n : Int) < 16) = true := by simp; omega
                by_cases he : hexd n = (s[k].toNat : Int)
                · have heb : (hexd n != (s[k].toNat : Int)) = false := by simp [he]
                  have hnib : nib (s[k].toNat : Int) = n := nib_of (by omega) (by omega) he
                  have HNB : Hid (nb s k = n) := Lib.hid (by unfold nb; rw [hq1.out]; exact hnib)
                  clear he hnib
                  have hn16 : ((n : Int) == 16) = false := by simp; omega
                  go_wp2
                  go_quiet ((go_at_call 47; exact Calls.quiet_of_same (digit_q n _ hn)))
                  have HB2 := Lib.hid (nib_bd (chr s (2 * p)))
                  have hbd : 0 ≤ nb s (2 * p) ∧ nb s (2 * p) < 16 := ⟨HA.out (2 * p) (by have := HK.out; omega), HB2.out.2⟩
                  have hp6 : p ≤ 60000 := by have := HK.out; omega
                  have HE : Hid (nb s (2 * p) * 16 + (n : Int) = 16 * nb s (2 * p) + nb s (2 * p + 1)) := Lib.hid (by rw [← HK.out, HNB.out]; omega)
                  go_wp2_with (at_builtin; refine wpl_append Try.elemU8 rfl _ _ rfl w.heap.size rfl (own_grow ((HD.out.step _).own HO.out) (Grow.alloc _ _)) 1 rfl (rd_built _ _ 1 1 [Value.int .u8 (nb s (2 * p) * 16 + (n : Int))] rfl (by decide)) rfl (oneCell_ints .u8 [_]) (by omega) (by unfold maxLen; omega) (by have := HG.out.size; have := HD.out.grow.size; simp; omega) ?_; intro v2 w2 hown2 hgr2 hmv2)
                  have HO2 := Lib.hid hown2; clear hown2
                  have HG2 : Hid (Grow w w2) := Lib.hid (Grow.of_grown (grown_trans (HG.out.trans ((HD.out.step _).grow.trans (Grow.alloc _ _))).grown hgr2 (fun g hg hlt => by have := (own_block HO.out hg).1; omega)))
                  clear hgr2 hmv2
                  go_roundw
                  case rel =>
                    refine ⟨k + 1, p + 1, by omega, by go_num, fun j hj => ?_, .inl ⟨by have := HK.out; omega, rfl⟩, ?_, HG2.out⟩
                    · by_cases hjk : j = k
                      · subst hjk; rw [HNB.out]; omega
                      · exact HA.out j (by omega)
                    · rw [unh_succ, List.map_append]
                      have := HO2.out
                      rw [HE.out] at this
                      exact this
                  case measure => simp [intOf]; omega
                · have heb : (hexd n != (s[k].toNat : Int)) = true := by simpa using he
                  have HE := Lib.hid he; clear he
                  go_wp2
                  go_quiet ((go_at_call 47; exact Calls.quiet_of_same (digit_q n _ hn)))
                  go_wp2
                  go_roundw
                  case rel => exact ⟨n + 1, by omega, by go_num, (fun j hj => by
                    by_cases hjn : j = n
                    · subst hjn; exact HE.out
                    · exact HH.out j (by omega)), HD.out.step _⟩
                  case measure => simp [intOf]; omega
              · obtain rfl : n = 16 := by omega
                have HN : Hid (¬ HexP s) := Lib.hid (fun h => by have := h.2.2 k hlt; unfold nb at this; rw [hq1.out, nib_none HH.out] at this; omega)
                go_wp2
                go_quiet ((go_at_call 47; exact Calls.quiet_of_same (digit_q n _ hn)))
                go_wp2
                go_ret2
                exact retNo HN.out (HG.out.trans (HD.out.step _).grow)
        · have HE : Hid (k = s.size) := Lib.hid (by omega)
          have HN : Hid (HexP s) := Lib.hid ⟨H1.out, h2, fun j hj => HA.out j (by rw [HE.out]; exact hj)⟩
          rcases hpar with ⟨hkp, rfl⟩ | ⟨hkp, rfl⟩
          · have HK := Lib.hid hkp; clear hkp
            go_wp2
            go_ret2
            refine retYes HN.out ?_ HG.out
            have : s.size / 2 = p := by have := HK.out; have := HE.out; omega
            rw [this]; exact HO.out
          · exfalso
            have := H1.out; have := HE.out; omega
    · have HN : Hid (¬ HexP s) := Lib.hid (fun h => h2 h.2.1)
      go_enter Try.func35, Try.ntmps35
      go_wp2
      go_ret2
      exact retNo HN.out (Grow.refl _)
  · have HN : Hid (¬ HexP s) := Lib.hid (fun h => h1 h.1)
    have hb1 : ((s.size : Int) % 2 != 0) = true := by simp; omega
    clear h1
    go_enter Try.func35, Try.ntmps35
    go_wp2
    go_ret2
    exact retNo HN.out (Grow.refl _)
--%
end Go.Proofs.Ytgbaaapneddcoaa
