/- Contracts of the laws' helpers on slices of ints, in the form of Ty. -/
import Derived.Test.YtgigdpdmdldhnaaTy
import Derived.WalkKit
import Derived.ProofKit
import Derived.Deep.QuietTactic
import Derived.BigQuiet
import Derived.Outline
import Derived.WalkSpells
namespace Go.Proofs.Ytgigdpdmdldhnaa
open Go.ChangeShapes Go.WideShapes Go.ChangeAt Go.RowKit
set_option linter.unusedVariables false
set_option linter.unusedSimpArgs false

--% eqIntS 20
theorem eqIntS_any (v1 v2 : Value) (xs ys : List Int) (w : World) (h1 : Rd w 1 v1 (xs.map (Value.int .i64))) (h2 : Rd w 1 v2 (ys.map (Value.int .i64))) :
    Calls Try.prog 20 #[v1, v2] w (QuietBool (decide (xs = ys)) w) := by
  obtain ⟨a1, c1, rfl, hlc1, hm1, hn1, hc1⟩ := h1.ints
  obtain ⟨a2, c2, rfl, hlc2, hm2, hn2, hc2⟩ := h2.ints
  clear h1 h2 hn1 hn2
  have H1 := Lib.hid hc1; clear hc1
  have H2 := Lib.hid hc2; clear hc2
  unfold maxLen at hm1 hm2
  by_cases hl : xs.length = ys.length
  · have hb : ((xs.length : Int) != (ys.length : Int)) = false := by simp [hl]
    have HL := Lib.hid hl; clear hl
    go_enter Try.func20, Try.ntmps20
    go_wp2
    go_loopw [5] (fun i wr => ∃ k : Nat, k ≤ xs.length ∧ i = .int .i64 k ∧ xs.take k = ys.take k ∧ ∃ n, wr = w.drewN n) (fun i _ => xs.length - (intOf i).toNat)
    case atStart => exact ⟨0, Nat.zero_le _, rfl, by simp, 0, rfl⟩
    case round =>
      obtain ⟨k, hk, rfl, htk, n, rfl⟩ := hrel
      have HT := Lib.hid htk; clear htk
      by_cases hlt : k < xs.length
      · have hlt2 : k < ys.length := by rw [← HL.out]; exact hlt
        obtain ⟨b1, o1, rfl, hc1⟩ := H1.out k hlt
        obtain ⟨b2, o2, rfl, hc2⟩ := H2.out k hlt2
        by_cases he : xs[k] = ys[k]
        · have heb : (xs[k] != ys[k]) = false := by rw [he]; simp
          have HE := Lib.hid he; clear he
          go_wp2
          go_quiet (fail)
          go_wp2
          go_roundw
          case rel => exact ⟨k + 1, by omega, by go_num, take_succ_eq hlt hlt2 HT.out HE.out, _, rfl⟩
          case measure => simp [intOf]; omega
        · have heb : (xs[k] != ys[k]) = true := by simpa using he
          have HE := Lib.hid he; clear he
          go_wp2
          go_quiet (fail)
          go_wp2
          go_ret
          exact ⟨ret_bool (decide_eq_false (ne_of_at hlt hlt2 HE.out)).symm, ex_drewN w _ _⟩
      · go_wp2
        go_ret
        exact ⟨ret_bool (decide_eq_true (by have := HT.out; rwa [List.take_of_length_le (by omega), List.take_of_length_le (by rw [← HL.out]; omega)] at this)).symm, _, rfl⟩
  · have hb : ((xs.length : Int) != (ys.length : Int)) = true := by simp; omega
    have hne : xs ≠ ys := fun h => hl (by rw [h])
    have HN := Lib.hid hne; clear hne
    go_enter Try.func20, Try.ntmps20
    go_wp2
    go_ret
    exact ⟨ret_bool (decide_eq_false HN.out).symm, 0, rfl⟩
--% toIntS 18
theorem Try.infoInt : (Try.prog.info? 3).map (fun i => (i.zero, i.size, i.bytes)) = some (some (.int .i64 0), 1, 8) := by kernel_rfl
theorem toIntS_any (v : Value) (zs : List Int) (w : World) (h : Rd w 1 v (zs.map (Value.int .i64))) (hm : zs.length ≤ 1048576) :
    Calls Try.prog 18 #[v] w (RetRow 3 1 w zs.length (zs.map (Value.int .i64))) := by
  obtain ⟨a, c, rfl, hlc, _, hn, hc⟩ := h.ints
  clear h hn
  have H := Lib.hid hc; clear hc
  obtain ⟨i0, hi, hz0, hz1, hz2⟩ := info_parts Try.infoInt
  go_enter Try.func18, Try.ntmps18
  go_wp2_with (refine wpList_make_full _ rfl _ _ 22 rfl w.heap.size 3 i0 (.int .i64 0) 1 Try.underlying22 hi hz0 hz1 .i64 .i64 _ _ zs.length rfl rfl rfl rfl (by rw [hz2]; omega) (by unfold maxLen; omega) (Nat.le_refl _) ?_; intro w1 hown hgr)
  have hown0 : w1.ownsRow w.heap.size 3 1 (.slice (some ⟨w.heap.size, 0, none⟩) zs.length zs.length) zs.length (halfway .i64 zs 0) := by
    rw [halfway_zero, ← toList_madeCells_one]; simpa [Value.cells] using hown
  clear hown
  have hgw := Grow.of_grown hgr
  clear hgr
  go_loopw [4] (fun i wr => ∃ k : Nat, k ≤ zs.length ∧ i = .int .i64 k ∧ wr.ownsRow w.heap.size 3 1 (.slice (some ⟨w.heap.size, 0, none⟩) zs.length zs.length) zs.length (halfway .i64 zs k) ∧ Grow w wr) (fun i _ => zs.length - (intOf i).toNat)
  case atStart => exact ⟨0, Nat.zero_le _, rfl, hown0, hgw⟩
  case round =>
    obtain ⟨k, hk, rfl, hown, hgr⟩ := hrel
    clear hown0 hgw
    by_cases hlt : k < zs.length
    · obtain ⟨b, o, rfl, hcs⟩ := H.out k hlt
      have hc1 := hgr.cell hcs
      have hd : wr.cell? ⟨w.heap.size, k, none⟩ = some (.int .i64 0) := by rw [hown.cellAt k (by omega)]; exact halfway_at .i64 zs k hlt
      have hf := hown.frozenAt k
      have hst := hown.stored k (.int .i64 zs[k])
      rw [halfway_set .i64 zs k hlt] at hst
      have HS := Lib.hid hst; clear hst hcs
      have HO := Lib.hid hown; clear hown
      have HG := Lib.hid hgr; clear hgr
      go_wp2
      go_roundw
      case rel => exact ⟨k + 1, by omega, by go_num, HS.out.1, Below.setCell HG.out (Nat.le_refl _) _⟩
      case measure => simp [intOf]; omega
    · obtain rfl : k = zs.length := by omega
      go_wp2
      go_ret
      rw [halfway_end] at hown
      exact ⟨_, rfl, hown, hgr⟩
--% markIntS 37
theorem markIntS_any (v : Value) (zs : List Int) (B : Nat) (k0 : Int) (w : World) (h : w.ownsRow B 3 1 v zs.length (zs.map (Value.int .i64))) (hm : zs.length ≤ 1048576) (hk0 : 0 ≤ k0) (hk1 : k0 ≤ 1073741824) :
    Calls Try.prog 37 #[v, .int .i64 k0] w (Marks (k0 + zs.length) fun w' => w'.ownsRow B 3 1 v zs.length ((upFrom id k0 zs.length).map (Value.int .i64)) ∧ w.grownBy w' v.ownBlock) := by
  obtain ⟨a, cap, rfl⟩ := own_shape h
  have h0 : w.ownsRow B 3 1 (.slice a zs.length cap) zs.length ((marked id k0 zs 0).map (Value.int .i64)) := by rw [marked_zero]; exact h
  have H := Lib.hid h0; clear h h0
  go_enter Try.func37, Try.ntmps37
  go_wp2
  go_loopw [1, 5] (fun q i wr => ∃ k : Nat, k ≤ zs.length ∧ i = .int .i64 k ∧ q = .int .i64 (k0 + k) ∧ wr.ownsRow B 3 1 (.slice a zs.length cap) zs.length ((marked id k0 zs k).map (Value.int .i64)) ∧ w.grownBy wr (Value.slice a zs.length cap).ownBlock) (fun _ i _ => zs.length - (intOf i).toNat)
  case atStart => exact ⟨0, Nat.zero_le _, rfl, by simp, H.out, grown_refl _ _⟩
  case round =>
    obtain ⟨k, hk, rfl, rfl, hown, hgr⟩ := hrel
    by_cases hlt : k < zs.length
    · obtain ⟨g, rfl⟩ := own_some hown (by omega)
      have hx : ∃ x, wr.cell? ⟨g, k, none⟩ = some x := ⟨_, by rw [hown.cellAt k (by omega)]; exact List.getElem?_eq_getElem (by rw [List.length_map, marked_length _ _ _ _ hk]; exact hlt)⟩
      obtain ⟨x, hd⟩ := hx
      have hf := hown.frozenAt k
      have hst := hown.stored k (.int .i64 (id (k0 + k)))
      rw [show ((marked id k0 zs k).map (Value.int .i64)).set k (.int .i64 (id (k0 + k))) = (marked id k0 zs (k + 1)).map (Value.int .i64) from by rw [← marked_set _ _ _ _ hlt, List.map_set]] at hst
      have HS := Lib.hid hst; clear hst
      have HO := Lib.hid hown; clear hown
      have HG := Lib.hid hgr; clear hgr
      go_wp2
      go_roundw
      case rel => exact ⟨k + 1, by omega, by go_num, by go_num, HS.out.1, grown_trans HG.out HS.out.2 (fun g' e _ => e)⟩
      case measure => simp [intOf]; omega
    · obtain rfl : k = zs.length := by omega
      have HO := Lib.hid hown; clear hown
      have HG := Lib.hid hgr; clear hgr
      go_wp2
      go_ret
      refine ⟨rfl, ?_, HG.out⟩
      have := HO.out
      rwa [marked_end] at this
--% heldIntS 43
theorem heldIntS_any (v : Value) (n : Nat) (k0 : Int) (w : World) (h : Rd w 1 v ((upFrom id k0 n).map (Value.int .i64))) (hm : n ≤ 1048576) (hk0 : 0 ≤ k0) (hk1 : k0 ≤ 1073741824) :
    Calls Try.prog 43 #[v, .int .i64 k0] w (QuietInt (k0 + n) w) := by
  obtain ⟨a, cap, rfl, hlc, _, hn, hc⟩ := h.ints
  clear h hn
  simp only [upFrom_length] at hlc hc ⊢
  have H := Lib.hid hc; clear hc
  go_enter Try.func43, Try.ntmps43
  go_wp2
  go_loopw [1, 5] (fun q i wr => ∃ k : Nat, k ≤ n ∧ i = .int .i64 k ∧ q = .int .i64 (k0 + k) ∧ ∃ m, wr = w.drewN m) (fun _ i _ => n - (intOf i).toNat)
  case atStart => exact ⟨0, Nat.zero_le _, rfl, by simp, 0, rfl⟩
  case round =>
    obtain ⟨k, hk, rfl, rfl, m, rfl⟩ := hrel
    by_cases hlt : k < n
    · obtain ⟨b, o, rfl, hcs⟩ := H.out k hlt
      rw [upFrom_get] at hcs
      simp only [id] at hcs
      go_wp2
      go_roundw
      case rel => exact ⟨k + 1, by omega, by go_num, by go_num, _, rfl⟩
      case measure => simp [intOf]; omega
    · obtain rfl : k = n := by omega
      go_wp2
      go_ret
      exact ⟨rfl, _, rfl⟩
--% IntsTy
/-! slices of ints, in the form of Ty -/
abbrev DatN := List Int
abbrev WfN (zs : List Int) : Prop := ∀ x ∈ zs, -9223372036854775808 ≤ x ∧ x ≤ 9223372036854775807
def RdN (w : World) (v : Value) (zs : List Int) : Prop := Rd w 1 v (zs.map (Value.int .i64))
def OwnN (w : World) (v : Value) (zs : List Int) (fp : List Nat) : Prop := OwnR 3 1 w v zs.length (zs.map (Value.int .i64)) fp
theorem RdN.grow {w w' : World} {v : Value} {zs : List Int} (h : RdN w v zs) (g : Grow w w') : RdN w' v zs := Rd.grow h g
theorem OwnN.rd {w : World} {v : Value} {zs : List Int} {fp : List Nat} (h : OwnN w v zs fp) : RdN w v zs := OwnR.rd h
theorem OwnN.here {w : World} {v : Value} {zs : List Int} {fp : List Nat} (h : OwnN w v zs fp) : Here w fp := OwnR.here h
theorem OwnN.grow {w w' : World} {v : Value} {zs : List Int} {fp : List Nat} (h : OwnN w v zs fp) (g : Grow w w') : OwnN w' v zs fp := OwnR.grow h g
theorem OwnN.upd {w w' : World} {v : Value} {zs : List Int} {fp fq : List Nat} (h : OwnN w v zs fp) (u : Upd fq w w') (ha : ∀ x ∈ fp, x ∉ fq) : OwnN w' v zs fp := OwnR.upd h u ha
def mkN (zs : List Int) (k : Int) : List Int := upFrom id k zs.length
def cntN (zs : List Int) : Int := zs.length
def SmN (zs : List Int) : Prop := zs.length ≤ 1048576
theorem cntN_bd (zs : List Int) (h : SmN zs) : 0 ≤ cntN zs ∧ cntN zs ≤ 1048576 := by unfold cntN; unfold SmN at h; omega
--% eq 20
theorem eq_N (w : World) (v1 v2 : Value) (x y : List Int) (h1 : RdN w v1 x) (h2 : RdN w v2 y) : Calls Try.prog 20 #[v1, v2] w (RetV (.bool (decide (x = y))) w) :=
  (eqIntS_any v1 v2 x y w h1 h2).mono fun _ _ h => RetV.of_quietBool h
--% to 18
theorem to_N (w : World) (v : Value) (zs : List Int) (h : RdN w v zs) (hs : SmN zs) : Calls Try.prog 18 #[v] w (RetNew OwnN zs w) :=
  (toIntS_any v zs w h hs).mono fun _ _ ⟨v, he, hown, hg⟩ => ⟨v, fpOf v, he, (OwnR.of hown).1, (OwnR.of hown).2, hg⟩
--% mark 37
theorem mark_N (w : World) (v : Value) (zs : List Int) (fp : List Nat) (k : Int) (h : OwnN w v zs fp) (hs : SmN zs) (hk : 0 ≤ k ∧ k ≤ 1073741824) : Calls Try.prog 37 #[v, .int .i64 k] w (RetMark OwnN v (mkN zs k) fp (k + cntN zs) w) := by
  obtain ⟨h, rfl⟩ := h
  refine (markIntS_any v zs 0 k w h hs hk.1 hk.2).mono ?_
  rintro e w' ⟨he, hown, hgr⟩
  refine ⟨he, ⟨?_, rfl⟩, Upd.of_grown hgr⟩
  unfold mkN; rw [upFrom_length]; exact hown
--% held 43
theorem held_N (w : World) (v : Value) (zs : List Int) (k : Int) (h : RdN w v (mkN zs k)) (hs : SmN zs) (hk : 0 ≤ k ∧ k ≤ 1073741824) : Calls Try.prog 43 #[v, .int .i64 k] w (RetV (.int .i64 (k + cntN zs)) w) :=
  (heldIntS_any v zs.length k w h hs hk.1 hk.2).mono fun _ _ h => RetV.of_quietInt h
--%
end Go.Proofs.Ytgigdpdmdldhnaa
