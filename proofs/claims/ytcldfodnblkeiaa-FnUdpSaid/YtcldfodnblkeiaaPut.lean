/- Contracts: put, Clone, PutNum. -/
import Derived.Test.YtcldfodnblkeiaaBnum
import Derived.Test.YtcldfodnblkeiaaApp
import Derived.WalkKit
import Derived.ProofKit
import Derived.Deep.QuietTactic
import Derived.BigQuiet
import Derived.Outline
import Derived.WalkSpells
namespace Go.Proofs.Ytcldfodnblkeiaa
open Go.ChangeShapes Go.WideShapes Go.ChangeAt Go.RowKit
set_option linter.unusedVariables false
set_option linter.unusedSimpArgs false

theorem Try.elemU8 : ElemOk Try.prog 22 5 1 1 := by
  obtain ⟨i0, hi, hz0, hz1, hz2⟩ := info_parts Try.infoU8
  exact ⟨Try.underlying22, ⟨i0, _, hi, hz0, hz1, hz2, rfl⟩, by decide⟩
/-- Digit i of n to the base 256. -/
def dig (n : Int) (i : Nat) : Int := n / 2 ^ (8 * i) % 256
def beBytes (n : Int) (size : Nat) : List Int := (List.range size).map fun j => dig n (size - 1 - j)
theorem beBytes_length (n : Int) (size : Nat) : (beBytes n size).length = size := by simp [beBytes]
theorem beBytes_take (n : Int) (size m : Nat) (h : m < size) : (beBytes n size).take (m + 1) = (beBytes n size).take m ++ [dig n (size - 1 - m)] := by
  rw [List.take_succ_eq_append_getElem (by rw [beBytes_length]; exact h)]
  simp [beBytes]
theorem dig_byte (n : Int) (i : Nat) : 0 ≤ dig n i ∧ dig n i < 256 := by unfold dig; omega
theorem beBytes_bytes (n : Int) (size : Nat) : Bytes (beBytes n size) := fun x hx => by
  simp only [beBytes, List.mem_map] at hx
  obtain ⟨j, _, rfl⟩ := hx
  exact dig_byte _ _

--% Clone 87
theorem clone_any (v : Value) (zs : List Int) (w : World) (h : Rd w 1 v (zs.map (Value.int .u8))) (hm : zs.length ≤ 140737488351232) :
    Calls Try.prog 87 #[v] w (RetRow 5 1 w zs.length (zs.map (Value.int .u8))) := by
  have H := Lib.hid h
  obtain ⟨a, c, rfl, hlc, hm2, hn, hc⟩ := h.ints
  clear h hc
  have HN := Lib.hid hn; clear hn
  cases a with
  | none =>
    have hc0 := HN.out rfl
    obtain rfl : c = 0 := hc0
    have hz : zs = [] := List.eq_nil_of_length_eq_zero (by omega)
    subst hz
    have heq := fun (w : World) (a : Option Addr) (n c n' c' : Nat) => Lib.run_eql_slice_nil (P := Try.prog) w 22 5 a n c n' c' Try.underlying22
    go_enter Try.func87, Try.ntmps87
    go_wp2
    go_ret
    exact ⟨_, rfl, World.ownsRow_nil _ _ _ _, Grow.refl _⟩
  | some ad =>
    have heq := fun (w : World) (a : Option Addr) (n c n' c' : Nat) => Lib.run_eql_slice_nil (P := Try.prog) w 22 5 a n c n' c' Try.underlying22
    go_enter Try.func87, Try.ntmps87
    go_wp2_with (at_builtin; refine wpl_append Try.elemU8 rfl _ _ rfl w.heap.size rfl (World.ownsRow_lit w #[] 0 (Nat.le_refl _) (by decide) rfl) zs.length rfl (H.out.grow (Grow.alloc _ _)) (by simp) (oneCell_ints _ _) (by omega) (by unfold maxLen; omega) (by simp) ?_; intro v' w' hown hgr hmv)
    go_ret
    simp only [Nat.zero_add, List.nil_append] at hown
    exact ⟨_, rfl, hown, Grow.of_grown (grown_trans (Grow.alloc w _).grown hgr (fun g hg hlt => by have := own_new hg; omega))⟩
--% put 83
theorem put_any (v : Value) (xs : List Value) (len : Nat) (B : Nat) (n : Int) (size : Nat) (w : World) (h : w.ownsRow B 5 1 v len xs) (hB : B ≤ w.heap.size) (hm : len ≤ 1048576) (h6 : size ≤ 6) (hn0 : 0 ≤ n) (hn1 : n ≤ 281474976710655) :
    Calls Try.prog 83 #[v, .int .i64 n, .int .i64 size] w (RetOnto 5 1 B w v (len + size) (xs ++ (beBytes n size).map (Value.int .u8))) := by
  have H := Lib.hid h; clear h
  go_enter Try.func83, Try.ntmps83
  go_wp2
  go_loopw [0, 7] (fun q i wr => ∃ (v' : Value) (m : Nat), m ≤ size ∧ i = .int .i64 ((size : Int) - 1 - m) ∧ q = v' ∧ wr.ownsRow B 5 1 v' (len + m) (xs ++ ((beBytes n size).take m).map (Value.int .u8)) ∧ w.grownBy wr v.ownBlock ∧ Moved w v v') (fun _ i _ => (intOf i + 1).toNat)
  case atStart => exact ⟨v, 0, by omega, by go_num, rfl, by simpa using H.out, grown_refl _ _, Moved.refl _ _⟩
  case round =>
    obtain ⟨v', m, hk, rfl, hv, hown, hgr, hmv⟩ := hrel
    have HO := Lib.hid hown; clear hown
    have HG := Lib.hid hgr; clear hgr
    have HM := Lib.hid hmv; clear hmv
    subst hv
    by_cases hlt : m < size
    · have hi0 : 0 ≤ (size : Int) - 1 - m := by omega
      have hi6 : (size : Int) - 1 - m ≤ 5 := by omega
      go_wp2_with (at_builtin; refine wpl_append Try.elemU8 rfl _ _ rfl B rfl (own_grow HO.out (Grow.alloc _ _)) 1 rfl (rd_built _ _ 1 1 [Value.int .u8 (dig n (size - 1 - m))] rfl (by decide)) rfl (oneCell_ints .u8 [_]) (by omega) (by unfold maxLen; omega) (by have := HG.out.size; simp; omega) ?_; intro v2 w2 hown2 hgr2 hmv2)
      have HO2 := Lib.hid hown2; clear hown2
      have HG2 := Lib.hid hgr2; clear hgr2
      have HM2 := Lib.hid hmv2; clear hmv2
      go_roundw
      case rel =>
        refine ⟨v2, m + 1, by omega, by go_num, rfl, ?_, grown_moved HG.out HM.out (grown_trans (grown_mono (Grow.alloc _ _).grown) HG2.out (fun g hg _ => hg)), HM.out.trans HM2.out (Nat.le_trans HG.out.size (by simp))⟩
        have := HO2.out
        rw [List.append_assoc] at this
        rw [beBytes_take n size m hlt, List.map_append, ← Nat.add_assoc]
        exact this
      case measure => simp [intOf]; omega
    · obtain rfl : m = size := by omega
      go_wp2
      go_ret
      exact ⟨_, rfl, by have := HO.out; rwa [List.take_of_length_le (by rw [beBytes_length]; exact Nat.le_refl _)] at this, HG.out, HM.out⟩
--% PutNumI 74
/-- A slice and a bool: a new row, or nil. -/
def RetRow2 (t : TypeId) (size : Nat) (w : World) (n : Nat) (xs : List Value) (b : Bool) (e : Ending) (w' : World) : Prop :=
  ∃ v, e = .returned (.tuple #[v, .bool b]) ∧ w'.ownsRow w.heap.size t size v n xs ∧ Grow w w'
theorem putNumI_yes (v : Value) (zs : List Int) (n : Int) (size : Nat) (w : World) (h : Rd w 1 v (zs.map (Value.int .u8))) (hok : numOkB n size = true) (hl : zs.length + size ≤ 60000) :
    Calls Try.prog 74 #[v, .int .i64 n, .int .i64 size] w (RetRow2 5 1 w (zs.length + size) ((zs ++ beBytes n size).map (Value.int .u8)) true) := by
  obtain ⟨a, c, rfl, hlc, hm, hn, hc⟩ := h.ints
  have H := Lib.hid h; clear h hn hc
  have hsz : size ≤ 6 ∧ 0 ≤ n ∧ n ≤ 281474976710655 := by
    have h1 : 1 ≤ (size : Int) ∧ (size : Int) ≤ 6 ∧ 0 ≤ n ∧ n < p256 size := by simpa [numOkB, p256] using hok
    have := p256_bd size (by omega)
    omega
  obtain ⟨h6, hn0, hn1⟩ := hsz
  go_enter Try.func74, Try.ntmps74
  go_wp2_with (go_at_call 89; refine (numOkI_any _ _ _).mono ?_; rintro e w' ⟨rfl, rfl⟩)
  refine (clone_any _ _ _ H.out (by omega)).mono ?_
  rintro e w1 ⟨v1, rfl, hown, hg1⟩
  have HO := Lib.hid hown; clear hown
  have HG := Lib.hid hg1; clear hg1
  go_wp2_with fail
  refine (put_any _ _ _ _ _ _ _ HO.out HG.out.size (by omega) h6 hn0 hn1).mono ?_
  rintro e w2 ⟨v2, rfl, hown2, hg2, hm2⟩
  have HO2 := Lib.hid hown2; clear hown2
  have HG2 := Lib.hid hg2; clear hg2
  go_wp2
  go_ret2
  refine ⟨_, rfl, by rw [List.map_append]; exact HO2.out, Grow.of_grown (grown_trans HG.out.grown HG2.out (fun g hg hlt => ?_))⟩
  have := (own_block HO.out hg).1
  omega
theorem putNumI_no (v : Value) (zs : List Int) (n size : Int) (w : World) (h : Rd w 1 v (zs.map (Value.int .u8))) (hw : size ≤ 9223372036854775807) (hl : zs.length ≤ 1048576) (hno : numOkB n size = false ∨ 60000 < zs.length + size) :
    Calls Try.prog 74 #[v, .int .i64 n, .int .i64 size] w (RetRow2 5 1 w 0 [] false) := by
  obtain ⟨a, c, rfl, hlc, hm, hn, hc⟩ := h.ints
  clear h hn hc
  by_cases hok : numOkB n size = false
  · clear hno
    go_enter Try.func74, Try.ntmps74
    go_wp2_with (go_at_call 89; refine (numOkI_any _ _ _).mono ?_; rintro e w' ⟨rfl, rfl⟩)
    go_ret2
    exact ⟨_, rfl, World.ownsRow_nil _ _ _ _, Grow.refl _⟩
  · have hok' : numOkB n size = true := by simpa using hok
    have h1 : 1 ≤ size ∧ size ≤ 6 ∧ 0 ≤ n ∧ n < 256 ^ size.toNat := by simpa [numOkB] using hok'
    obtain ⟨hs1, hs6, _, _⟩ := h1
    have h2 : (60000 : Int) < zs.length + size := by rcases hno with h | h; (rw [h] at hok'; cases hok'); exact h
    clear hno hok
    go_enter Try.func74, Try.ntmps74
    go_wp2_with (go_at_call 89; refine (numOkI_any _ _ _).mono ?_; rintro e w' ⟨rfl, rfl⟩)
    go_ret2
    exact ⟨_, rfl, World.ownsRow_nil _ _ _ _, Grow.refl _⟩
--% PutNumS 75
theorem putNumS_no (v : Value) (zs : List Int) (n size : Int) (w : World) (h : Rd w 1 v (zs.map (Value.int .u8))) (hw : size ≤ 9223372036854775807) (hl : zs.length ≤ 1048576) (hno : numOkB n size = false ∨ 60000 < zs.length + size) :
    Calls Try.prog 75 #[v, .int .i64 n, .int .i64 size] w (RetRow2 5 1 w 0 [] false) := by
  obtain ⟨a, c, rfl, hlc, hm, hn, hc⟩ := h.ints
  clear h hn hc
  by_cases hok : numOkB n size = false
  · clear hno
    go_enter Try.func75, Try.ntmps75
    go_wp2_with (go_at_call 88; refine (numOkS_any _ _ _).mono ?_; rintro e w' ⟨rfl, rfl⟩)
    go_ret2
    exact ⟨_, rfl, World.ownsRow_nil _ _ _ _, Grow.refl _⟩
  · have hok' : numOkB n size = true := by simpa using hok
    have h1 : 1 ≤ size ∧ size ≤ 6 ∧ 0 ≤ n ∧ n < 256 ^ size.toNat := by simpa [numOkB] using hok'
    obtain ⟨hs1, hs6, _, _⟩ := h1
    have h2 : (60000 : Int) - size < zs.length := by rcases hno with h | h; (rw [h] at hok'; cases hok'); omega
    clear hno hok
    go_enter Try.func75, Try.ntmps75
    go_wp2_with (go_at_call 88; refine (numOkS_any _ _ _).mono ?_; rintro e w' ⟨rfl, rfl⟩)
    go_ret2
    exact ⟨_, rfl, World.ownsRow_nil _ _ _ _, Grow.refl _⟩
theorem div256 (n : Int) (j : Nat) : n / 2 ^ (8 * j) / 256 = n / 2 ^ (8 * (j + 1)) := by
  rw [Int.ediv_ediv_of_nonneg (by exact Int.le_of_lt (Int.pow_pos (by decide))), show 8 * (j + 1) = 8 * j + 8 from by omega, Int.pow_add]
  rfl
theorem putNumS_yes (v : Value) (zs : List Int) (n : Int) (size : Nat) (w : World) (h : Rd w 1 v (zs.map (Value.int .u8))) (hok : numOkB n size = true) (hl : zs.length + size ≤ 60000) :
    Calls Try.prog 75 #[v, .int .i64 n, .int .i64 size] w (RetRow2 5 1 w (zs.length + size) ((zs ++ beBytes n size).map (Value.int .u8)) true) := by
  have H := Lib.hid h
  obtain ⟨a, c, rfl, hlc, hm, hn, hc⟩ := h.ints
  clear h hn hc
  have hsz : 1 ≤ size ∧ size ≤ 6 ∧ 0 ≤ n ∧ n ≤ 281474976710655 := by
    have h1 : 1 ≤ (size : Int) ∧ (size : Int) ≤ 6 ∧ 0 ≤ n ∧ n < p256 size := by simpa [numOkB, p256] using hok
    have := p256_bd size (by omega)
    omega
  obtain ⟨h1, h6, hn0, hn1⟩ := hsz
  go_enter Try.func75, Try.ntmps75
  go_wp2_with (first | (go_at_call 88; refine (numOkS_any _ _ _).mono ?_; rintro e w' ⟨rfl, rfl⟩) | (at_builtin; refine wpl_append Try.elemU8 rfl _ _ rfl w.heap.size rfl (own_built w _ 1 0 [] rfl (by decide)) zs.length rfl (H.out.grow (Grow.alloc _ _)) (by simp) (oneCell_ints _ _) (by omega) (by unfold maxLen; omega) (by simp) ?_; intro v1 w1 hown1 hgr1 hmv1))
  have HO := Lib.hid hown1; clear hown1
  have HG : Hid (Grow w w1) := Lib.hid (Grow.of_grown (grown_trans (Grow.alloc w _).grown hgr1 (fun g hg hlt => by have := own_new hg; omega)))
  clear hgr1 hmv1
  go_loopw [8, 9] (fun q i wr => ∃ (v' : Value) (m : Nat), m ≤ size ∧ i = .int .i64 ((size : Int) - 1 - m) ∧ q = v' ∧ wr.ownsRow w.heap.size 5 1 v' (zs.length + m) ((zs ++ (beBytes n size).take m).map (Value.int .u8)) ∧ Grow w wr) (fun _ i _ => (intOf i + 1).toNat)
  case atStart => exact ⟨v1, 0, by omega, by go_num, rfl, by simpa using HO.out, HG.out⟩
  case round =>
    obtain ⟨v', m, hk, rfl, hv, hown, hgr⟩ := hrel
    have HO2 := Lib.hid hown; clear hown
    have HG2 := Lib.hid hgr; clear hgr
    subst hv
    by_cases hlt : m < size
    · have hi0 : 0 ≤ (size : Int) - 1 - m := by omega
      have hi6 : (size : Int) - 1 - m ≤ 5 := by omega
      go_wp2
      go_loop [10, 11] (fun d k => ∃ j : Nat, (j : Int) ≤ (size : Int) - 1 - m ∧ k = .int .i64 j ∧ d = .int .i64 (n / 2 ^ (8 * j))) (fun _ k => (size - 1 - m) - (intOf k).toNat)
      case atStart => exact ⟨0, by omega, rfl, by simp⟩
      case round =>
        obtain ⟨j, hj, rfl, rfl⟩ := hrel
        have hd0 : 0 ≤ n / 2 ^ (8 * j) := Int.ediv_nonneg hn0 (Int.le_of_lt (Int.pow_pos (by decide)))
        have hd1 : n / 2 ^ (8 * j) ≤ 281474976710655 := Int.le_trans (Int.ediv_le_self _ hn0) hn1
        by_cases hjl : (j : Int) < (size : Int) - 1 - m
        · go_wp2
          go_round
          case rel => exact ⟨j + 1, by omega, by go_num, by rw [div256]⟩
          case measure => simp [intOf]; omega
        · obtain rfl : j = size - 1 - m := by omega
          go_wp2_with (at_builtin; refine wpl_append Try.elemU8 rfl _ _ rfl w.heap.size rfl (own_grow HO2.out (Grow.alloc _ _)) 1 rfl (rd_built _ _ 1 1 [Value.int .u8 (dig n (size - 1 - m))] rfl (by decide)) rfl (oneCell_ints .u8 [_]) (by omega) (by unfold maxLen; omega) (by have := HG2.out.size; simp; omega) ?_; intro v2 w2 hown2 hgr2 hmv2)
          have HO3 := Lib.hid hown2; clear hown2
          have HG3 := Lib.hid hgr2; clear hgr2
          clear hmv2
          go_roundw
          case rel =>
            refine ⟨v2, m + 1, by omega, by go_num, rfl, ?_, ?_⟩
            · have := HO3.out
              rw [beBytes_take n size m hlt, ← List.append_assoc, List.map_append, ← Nat.add_assoc]
              exact this
            · refine Grow.of_grown (grown_trans (HG2.out.trans (Grow.alloc _ _)).grown HG3.out (fun g hg hlt => ?_))
              have := (own_block HO2.out hg).1
              omega
          case measure => simp [intOf]; omega
    · obtain rfl : m = size := by omega
      go_wp2
      go_ret2
      exact ⟨_, rfl, by have := HO2.out; rwa [List.take_of_length_le (by rw [beBytes_length]; exact Nat.le_refl _)] at this, HG2.out⟩
--% PutNumAny 74 75
def putF (zs : List Int) (n size : Int) : List Int × Bool := if numOkB n size = true ∧ zs.length + size ≤ 60000 then (zs ++ beBytes n size.toNat, true) else ([], false)
theorem putF_bytes (zs : List Int) (n size : Int) (h : Bytes zs) : Bytes (putF zs n size).1 := by
  unfold putF; split
  · exact h.app (beBytes_bytes _ _)
  · intro x hx; cases hx
theorem putF_len (zs : List Int) (n size : Int) (h : zs.length ≤ 1048576) : (putF zs n size).1.length ≤ 1048576 := by
  unfold putF; split
  · rename_i h; simp only [List.length_append, beBytes_length]; omega
  · simp
--% each impl.PutNum;I
theorem putNumI_any (v : Value) (zs : List Int) (n size : Int) (w : World) (h : Rd w 1 v (zs.map (Value.int .u8))) (hw : size ≤ 9223372036854775807) (hl : zs.length ≤ 1048576) :
    Calls Try.prog 74 #[v, .int .i64 n, .int .i64 size] w (RetRow2 5 1 w (putF zs n size).1.length ((putF zs n size).1.map (Value.int .u8)) (putF zs n size).2) := by
  by_cases hc : numOkB n size = true ∧ zs.length + size ≤ 60000
  · have e : putF zs n size = (zs ++ beBytes n size.toNat, true) := by unfold putF; rw [if_pos hc]
    rw [e]
    have h1 : 1 ≤ size ∧ size ≤ 6 ∧ 0 ≤ n ∧ n < 256 ^ size.toNat := by simpa [numOkB] using hc.1
    obtain ⟨k, rfl⟩ := Int.eq_ofNat_of_zero_le (show 0 ≤ size by omega)
    have := putNumI_yes v zs n k w h hc.1 (by omega)
    simpa [beBytes_length] using this
  · have e : putF zs n size = ([], false) := by unfold putF; rw [if_neg hc]
    rw [e]
    refine putNumI_no v zs n size w h hw hl ?_
    by_cases h1 : numOkB n size = true
    · right; have : ¬ (zs.length + size ≤ 60000) := fun h2 => hc ⟨h1, h2⟩; omega
    · left; simpa using h1
--% each spec.PutNum;S
theorem putNumS_any (v : Value) (zs : List Int) (n size : Int) (w : World) (h : Rd w 1 v (zs.map (Value.int .u8))) (hw : size ≤ 9223372036854775807) (hl : zs.length ≤ 1048576) :
    Calls Try.prog 75 #[v, .int .i64 n, .int .i64 size] w (RetRow2 5 1 w (putF zs n size).1.length ((putF zs n size).1.map (Value.int .u8)) (putF zs n size).2) := by
  by_cases hc : numOkB n size = true ∧ zs.length + size ≤ 60000
  · have e : putF zs n size = (zs ++ beBytes n size.toNat, true) := by unfold putF; rw [if_pos hc]
    rw [e]
    have h1 : 1 ≤ size ∧ size ≤ 6 ∧ 0 ≤ n ∧ n < 256 ^ size.toNat := by simpa [numOkB] using hc.1
    obtain ⟨k, rfl⟩ := Int.eq_ofNat_of_zero_le (show 0 ≤ size by omega)
    have := putNumS_yes v zs n k w h hc.1 (by omega)
    simpa [beBytes_length] using this
  · have e : putF zs n size = ([], false) := by unfold putF; rw [if_neg hc]
    rw [e]
    refine putNumS_no v zs n size w h hw hl ?_
    by_cases h1 : numOkB n size = true
    · right; have : ¬ (zs.length + size ≤ 60000) := fun h2 => hc ⟨h1, h2⟩; omega
    · left; simpa using h1
--%
end Go.Proofs.Ytcldfodnblkeiaa
