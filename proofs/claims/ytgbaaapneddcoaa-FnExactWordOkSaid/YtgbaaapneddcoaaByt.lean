/- Contracts of the laws' helpers on byte slices, and of the byte functions. -/
import Derived.Test.YtgbaaapneddcoaaNum
import Derived.Test.YtgbaaapneddcoaaReg
import Derived.WalkKit
import Derived.ProofKit
import Derived.Deep.QuietTactic
import Derived.BigQuiet
import Derived.Outline
import Derived.WalkSpells
namespace Go.Proofs.Ytgbaaapneddcoaa
open Go.ChangeShapes Go.WideShapes Go.ChangeAt Go.RowKit
set_option linter.unusedVariables false
set_option linter.unusedSimpArgs false

theorem take_succ_eq {α : Type} {xs ys : List α} {k : Nat} (h1 : k < xs.length) (h2 : k < ys.length) (ht : xs.take k = ys.take k) (he : xs[k] = ys[k]) : xs.take (k + 1) = ys.take (k + 1) := by
  rw [List.take_succ_eq_append_getElem h1, List.take_succ_eq_append_getElem h2, ht, he]
theorem ne_of_at {α : Type} {xs ys : List α} {k : Nat} (h1 : k < xs.length) (h2 : k < ys.length) (he : xs[k] ≠ ys[k]) : xs ≠ ys := fun h => he (by subst h; rfl)
theorem ex_drewN (w : World) (n m : Nat) : ∃ k, (w.drewN n).drewN m = w.drewN k := ⟨_, World.drewN_drewN ..⟩
def QuietBool (b : Bool) (w : World) (e : Ending) (w' : World) : Prop := e = .returned (.bool b) ∧ ∃ n, w' = w.drewN n
def QuietInt (b : Int) (w : World) (e : Ending) (w' : World) : Prop := e = .returned (.int .i64 b) ∧ ∃ n, w' = w.drewN n

--% eqByteS 26
theorem eqByteS_any (v1 v2 : Value) (xs ys : List Int) (w : World) (h1 : Rd w 1 v1 (xs.map (Value.int .u8))) (h2 : Rd w 1 v2 (ys.map (Value.int .u8))) :
    Calls Try.prog 26 #[v1, v2] w (QuietBool (decide (xs = ys)) w) := by
  obtain ⟨a1, c1, rfl, hlc1, hm1, hn1, hc1⟩ := h1.ints
  obtain ⟨a2, c2, rfl, hlc2, hm2, hn2, hc2⟩ := h2.ints
  clear h1 h2 hn1 hn2
  have H1 := Lib.hid hc1; clear hc1
  have H2 := Lib.hid hc2; clear hc2
  unfold maxLen at hm1 hm2
  by_cases hl : xs.length = ys.length
  · have hb : ((xs.length : Int) != (ys.length : Int)) = false := by simp [hl]
    have HL := Lib.hid hl; clear hl
    go_enter Try.func26, Try.ntmps26
    go_wp2
    go_loopw [5] (fun i wr => ∃ k : Nat, k ≤ xs.length ∧ i = .int .i64 k ∧ xs.take k = ys.take k ∧ ∃ n, wr = w.drewN n) (fun i _ => xs.length - (intOf i).toNat)
    case atStart => exact ⟨0, Nat.zero_le _, rfl, by simp, 0, rfl⟩
    case round =>
      obtain ⟨k, hk, rfl, htk, n, rfl⟩ := hrel
      have HT := Lib.hid htk; clear htk
      by_cases hlt : k < xs.length
      · have hlt2 : k < ys.length := by rw [← HL.out]; exact hlt
        obtain ⟨b1, o1, rfl, hc1⟩ := H1.out k hlt
        obtain ⟨b2, o2, rfl, hc2⟩ := H2.out k hlt2
        by_cases he : xs[k] = ys[k]
        · have heb : (xs[k] != ys[k]) = false := by rw [he]; simp
          have HE := Lib.hid he; clear he
          go_wp2
          go_quiet (fail)
          go_wp2
          go_roundw
          case rel => exact ⟨k + 1, by omega, by go_num, take_succ_eq hlt hlt2 HT.out HE.out, _, rfl⟩
          case measure => simp [intOf]; omega
        · have heb : (xs[k] != ys[k]) = true := by simpa using he
          have HE := Lib.hid he; clear he
          go_wp2
          go_quiet (fail)
          go_wp2
          go_ret
          exact ⟨ret_bool (decide_eq_false (ne_of_at hlt hlt2 HE.out)).symm, ex_drewN w _ _⟩
      · go_wp2
        go_ret
        exact ⟨ret_bool (decide_eq_true (by have := HT.out; rwa [List.take_of_length_le (by omega), List.take_of_length_le (by rw [← HL.out]; omega)] at this)).symm, _, rfl⟩
  · have hb : ((xs.length : Int) != (ys.length : Int)) = true := by simp; omega
    have hne : xs ≠ ys := fun h => hl (by rw [h])
    have HN := Lib.hid hne; clear hne
    go_enter Try.func26, Try.ntmps26
    go_wp2
    go_ret
    exact ⟨ret_bool (decide_eq_false HN.out).symm, 0, rfl⟩
--% halfway
/-- k elements copied, the rest still zero. -/
def halfway (k : IntKind) (zs : List Int) (j : Nat) : List Value := (zs.take j).map (Value.int k) ++ List.replicate (zs.length - j) (.int k 0)
theorem halfway_length (k : IntKind) (zs : List Int) (j : Nat) (h : j ≤ zs.length) : (halfway k zs j).length = zs.length := by simp [halfway]; omega
theorem halfway_zero (k : IntKind) (zs : List Int) : halfway k zs 0 = List.replicate zs.length (.int k 0) := by simp [halfway]
theorem halfway_end (k : IntKind) (zs : List Int) : halfway k zs zs.length = zs.map (Value.int k) := by simp [halfway]
theorem halfway_set (k : IntKind) (zs : List Int) (j : Nat) (h : j < zs.length) : (halfway k zs j).set j (.int k zs[j]) = halfway k zs (j + 1) := by
  unfold halfway
  have e : ((zs.take j).map (Value.int k)).length = j := by simp; omega
  have e2 : zs.length - j = (zs.length - (j + 1)) + 1 := by omega
  have e3 : (zs.take (j + 1)).map (Value.int k) = (zs.take j).map (Value.int k) ++ [Value.int k zs[j]] := by rw [List.take_succ_eq_append_getElem h, List.map_append]; rfl
  rw [List.set_append_right _ _ (by omega), e, Nat.sub_self, e2, List.replicate_succ, List.set_cons_zero, e3, List.append_assoc]
  rfl
theorem halfway_at (k : IntKind) (zs : List Int) (j : Nat) (h : j < zs.length) : (halfway k zs j)[j]? = some (.int k 0) := by
  unfold halfway
  have e : ((zs.take j).map (Value.int k)).length = j := by simp; omega
  rw [List.getElem?_append_right (by omega), e, Nat.sub_self, show zs.length - j = (zs.length - (j + 1)) + 1 from by omega, List.replicate_succ]
  rfl
--% infoU8
theorem Try.infoU8 : (Try.prog.info? 5).map (fun i => (i.zero, i.size, i.bytes)) = some (some (.int .u8 0), 1, 1) := by kernel_rfl
--% toByteS 24
theorem toByteS_any (v : Value) (zs : List Int) (w : World) (h : Rd w 1 v (zs.map (Value.int .u8))) (hm : zs.length ≤ 140737488351232) :
    Calls Try.prog 24 #[v] w (RetRow 5 1 w zs.length (zs.map (Value.int .u8))) := by
  obtain ⟨a, c, rfl, hlc, _, hn, hc⟩ := h.ints
  clear h hn
  have H := Lib.hid hc; clear hc
  obtain ⟨i0, hi, hz0, hz1, hz2⟩ := info_parts Try.infoU8
  go_enter Try.func24, Try.ntmps24
  go_wp2_with (refine wpList_make_full _ rfl _ _ 28 rfl w.heap.size 5 i0 (.int .u8 0) 1 Try.underlying28 hi hz0 hz1 .i64 .i64 _ _ zs.length rfl rfl rfl rfl (by rw [hz2]; omega) (by unfold maxLen; omega) (Nat.le_refl _) ?_; intro w1 hown hgr)
  have hown0 : w1.ownsRow w.heap.size 5 1 (.slice (some ⟨w.heap.size, 0, none⟩) zs.length zs.length) zs.length (halfway .u8 zs 0) := by
    rw [halfway_zero, ← toList_madeCells_one]; simpa [Value.cells] using hown
  clear hown
  have hgw := Grow.of_grown hgr
  clear hgr
  go_loopw [4] (fun i wr => ∃ k : Nat, k ≤ zs.length ∧ i = .int .i64 k ∧ wr.ownsRow w.heap.size 5 1 (.slice (some ⟨w.heap.size, 0, none⟩) zs.length zs.length) zs.length (halfway .u8 zs k) ∧ Grow w wr) (fun i _ => zs.length - (intOf i).toNat)
  case atStart => exact ⟨0, Nat.zero_le _, rfl, hown0, hgw⟩
  case round =>
    obtain ⟨k, hk, rfl, hown, hgr⟩ := hrel
    clear hown0 hgw
    by_cases hlt : k < zs.length
    · obtain ⟨b, o, rfl, hcs⟩ := H.out k hlt
      have hc1 := hgr.cell hcs
      have hd : wr.cell? ⟨w.heap.size, k, none⟩ = some (.int .u8 0) := by rw [hown.cellAt k (by omega)]; exact halfway_at .u8 zs k hlt
      have hf := hown.frozenAt k
      have hst := hown.stored k (.int .u8 zs[k])
      rw [halfway_set .u8 zs k hlt] at hst
      have HS := Lib.hid hst; clear hst hcs
      have HO := Lib.hid hown; clear hown
      have HG := Lib.hid hgr; clear hgr
      go_wp2
      go_roundw
      case rel => exact ⟨k + 1, by omega, by go_num, HS.out.1, Below.setCell HG.out (Nat.le_refl _) _⟩
      case measure => simp [intOf]; omega
    · obtain rfl : k = zs.length := by omega
      go_wp2
      go_ret
      rw [halfway_end] at hown
      exact ⟨_, rfl, hown, hgr⟩
--% Marks
/-- What a mark leaves. -/
def Marks (n : Int) (P : World → Prop) (e : Ending) (w' : World) : Prop := e = .returned (.int .i64 n) ∧ P w'
--% markByteS 37
theorem markByteS_any (v : Value) (zs : List Int) (B : Nat) (k0 : Int) (w : World) (h : w.ownsRow B 5 1 v zs.length (zs.map (Value.int .u8))) (hm : zs.length ≤ 140737488351232) (hk0 : 0 ≤ k0) (hk1 : k0 ≤ 1073741824) :
    Calls Try.prog 37 #[v, .int .i64 k0] w (Marks (k0 + zs.length) fun w' => w'.ownsRow B 5 1 v zs.length ((upFrom IntKind.u8.wrap k0 zs.length).map (Value.int .u8)) ∧ w.grownBy w' v.ownBlock) := by
  obtain ⟨a, cap, rfl⟩ := own_shape h
  have h0 : w.ownsRow B 5 1 (.slice a zs.length cap) zs.length ((marked IntKind.u8.wrap k0 zs 0).map (Value.int .u8)) := by rw [marked_zero]; exact h
  have H := Lib.hid h0; clear h h0
  go_enter Try.func37, Try.ntmps37
  go_wp2
  go_loopw [1, 5] (fun q i wr => ∃ k : Nat, k ≤ zs.length ∧ i = .int .i64 k ∧ q = .int .i64 (k0 + k) ∧ wr.ownsRow B 5 1 (.slice a zs.length cap) zs.length ((marked IntKind.u8.wrap k0 zs k).map (Value.int .u8)) ∧ w.grownBy wr (Value.slice a zs.length cap).ownBlock) (fun _ i _ => zs.length - (intOf i).toNat)
  case atStart => exact ⟨0, Nat.zero_le _, rfl, by simp, H.out, grown_refl _ _⟩
  case round =>
    obtain ⟨k, hk, rfl, rfl, hown, hgr⟩ := hrel
    by_cases hlt : k < zs.length
    · obtain ⟨g, rfl⟩ := own_some hown (by omega)
      have hx : ∃ x, wr.cell? ⟨g, k, none⟩ = some x := ⟨_, by rw [hown.cellAt k (by omega)]; exact List.getElem?_eq_getElem (by rw [List.length_map, marked_length _ _ _ _ hk]; exact hlt)⟩
      obtain ⟨x, hd⟩ := hx
      have hf := hown.frozenAt k
      have hst := hown.stored k (.int .u8 (IntKind.u8.wrap (k0 + k)))
      rw [show ((marked IntKind.u8.wrap k0 zs k).map (Value.int .u8)).set k (.int .u8 (IntKind.u8.wrap (k0 + k))) = (marked IntKind.u8.wrap k0 zs (k + 1)).map (Value.int .u8) from by rw [← marked_set _ _ _ _ hlt, List.map_set]] at hst
      have HS := Lib.hid hst; clear hst
      have HO := Lib.hid hown; clear hown
      have HG := Lib.hid hgr; clear hgr
      go_wp2
      go_roundw
      case rel => exact ⟨k + 1, by omega, by go_num, by go_num, HS.out.1, grown_trans HG.out HS.out.2 (fun g' e _ => e)⟩
      case measure => simp [intOf]; omega
    · obtain rfl : k = zs.length := by omega
      have HO := Lib.hid hown; clear hown
      have HG := Lib.hid hgr; clear hgr
      go_wp2
      go_ret
      refine ⟨rfl, ?_, HG.out⟩
      have := HO.out
      rwa [marked_end] at this
--% heldByteS 38
theorem heldByteS_any (v : Value) (n : Nat) (k0 : Int) (w : World) (h : Rd w 1 v ((upFrom IntKind.u8.wrap k0 n).map (Value.int .u8))) (hm : n ≤ 140737488351232) (hk0 : 0 ≤ k0) (hk1 : k0 ≤ 1073741824) :
    Calls Try.prog 38 #[v, .int .i64 k0] w (QuietInt (k0 + n) w) := by
  obtain ⟨a, cap, rfl, hlc, _, hn, hc⟩ := h.ints
  clear h hn
  simp only [upFrom_length] at hlc hc ⊢
  have H := Lib.hid hc; clear hc
  go_enter Try.func38, Try.ntmps38
  go_wp2
  go_loopw [1, 5] (fun q i wr => ∃ k : Nat, k ≤ n ∧ i = .int .i64 k ∧ q = .int .i64 (k0 + k) ∧ ∃ m, wr = w.drewN m) (fun _ i _ => n - (intOf i).toNat)
  case atStart => exact ⟨0, Nat.zero_le _, rfl, by simp, 0, rfl⟩
  case round =>
    obtain ⟨k, hk, rfl, rfl, m, rfl⟩ := hrel
    by_cases hlt : k < n
    · obtain ⟨b, o, rfl, hcs⟩ := H.out k hlt
      rw [upFrom_get] at hcs
      go_wp2
      go_roundw
      case rel => exact ⟨k + 1, by omega, by go_num, by go_num, _, rfl⟩
      case measure => simp [intOf]; omega
    · obtain rfl : k = n := by omega
      go_wp2
      go_ret
      exact ⟨rfl, _, rfl⟩
--%
end Go.Proofs.Ytgbaaapneddcoaa
