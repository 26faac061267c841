/- Contracts of the library's functions on slices of ints: Clone, Equal; copies by append. -/
import Derived.Test.YtgigdpdmdldhnaaInts
import Derived.Test.YtgigdpdmdldhnaaReg
import Derived.Test.YtgigdpdmdldhnaaApp
import Derived.WalkKit
import Derived.ProofKit
import Derived.Deep.QuietTactic
import Derived.BigQuiet
import Derived.Outline
import Derived.WalkSpells
namespace Go.Proofs.Ytgigdpdmdldhnaa
open Go.ChangeShapes Go.WideShapes Go.ChangeAt Go.RowKit
set_option linter.unusedVariables false
set_option linter.unusedSimpArgs false
--% elemI64
theorem Try.elemI64 : ElemOk Try.prog 22 3 1 8 := by
  obtain ⟨i0, hi, hz0, hz1, hz2⟩ := info_parts Try.infoInt
  exact ⟨Try.underlying22, ⟨i0, _, hi, hz0, hz1, hz2, rfl⟩, by decide⟩
theorem ownN_nil (w : World) : OwnN w (.slice none 0 0) [] [] := ⟨World.ownsRow_nil _ _ _ _, rfl⟩
theorem size_set (w : World) (p : Addr) (x : Value) : (w.setCell p x).heap.size = w.heap.size := by simp [World.setCell]
/-- 'append([]int{}, x...)' has made a copy. -/
theorem copiedN {w w' : World} {v' : Value} {zs : List Int} (ho : w'.ownsRow w.heap.size 3 1 v' (0 + zs.length) ([] ++ zs.map (Value.int .i64)))
    (hg : (w.alloc (.cells #[] 3)).grownBy w' (Value.slice (some ⟨w.heap.size, 0, none⟩) 0 0).ownBlock) : ∃ fp, OwnN w' v' zs fp ∧ Fresh w fp ∧ Grow w w' := by
  simp only [Nat.zero_add, List.nil_append] at ho
  exact ⟨_, (OwnR.of ho).1, (OwnR.of ho).2, Grow.of_grown (grown_trans (Grow.alloc w _).grown hg (fun g hg hlt => by have := own_new hg; omega))⟩
theorem Grow.box_end {w w1 w2 : World} {fq : List Nat} (h : Grow w w1) (u : Upd fq w1 w2) (hq : ∀ b ∈ fq, w.heap.size ≤ b) : Grow w w2 := h.then_upd u hq
/-- An element of a slice of ints. -/
theorem OwnN.set {w : World} {v : Value} {zs : List Int} {fp : List Nat} (h : OwnN w v zs fp) (k : Nat) (hk : k < zs.length) (x : Int) :
    ∃ g c, v = .slice (some ⟨g, 0, none⟩) zs.length c ∧ fp = [g] ∧ w.cell? ⟨g, k, none⟩ = some (.int .i64 zs[k]) ∧ (∀ o, w.frozen? ⟨g, o, none⟩ = false) ∧ OwnN (w.setCell ⟨g, k, none⟩ (.int .i64 x)) v (zs.set k x) fp := by
  obtain ⟨h, rfl⟩ := h
  obtain ⟨a, c, rfl⟩ := own_shape h
  obtain ⟨g, rfl⟩ := own_some h (by omega)
  refine ⟨g, c, rfl, by simp [fpOf, Value.ownBlock], ?_, fun o => h.frozenAt o, ?_, rfl⟩
  · rw [h.cellAt k (by omega)]; simp [hk]
  · have := (h.stored k (.int .i64 x)).1
    rw [← List.map_set] at this
    simpa using this
theorem OwnN.put {w : World} {g n c : Nat} {zs : List Int} {fp : List Nat} (h : OwnN w (.slice (some ⟨g, 0, none⟩) n c) zs fp) (k : Nat) (hk : k < zs.length) (x : Int) :
    OwnN (w.setCell ⟨g, k, none⟩ (.int .i64 x)) (.slice (some ⟨g, 0, none⟩) n c) (zs.set k x) fp := by
  obtain ⟨g', c', e, _, _, _, hs⟩ := h.set k hk x
  simp only [Value.slice.injEq, Option.some.injEq, Addr.mk.injEq] at e
  obtain ⟨⟨rfl, _, _⟩, rfl, rfl⟩ := e
  exact hs
--% Clone 80
theorem cloneN_any (v : Value) (zs : List Int) (w : World) (h : Rd w 1 v (zs.map (Value.int .i64))) (hm : zs.length ≤ 10485760) :
    Calls Try.prog 80 #[v] w (RetRow 3 1 w zs.length (zs.map (Value.int .i64))) := by
  have H := Lib.hid h
  obtain ⟨a, c, rfl, hlc, hm2, hn, hc⟩ := h.ints
  clear h hc
  have HN := Lib.hid hn; clear hn
  cases a with
  | none =>
    have hc0 := HN.out rfl
    obtain rfl : c = 0 := hc0
    have hz : zs = [] := List.eq_nil_of_length_eq_zero (by omega)
    subst hz
    have heq := fun (w : World) (a : Option Addr) (n c n' c' : Nat) => Lib.run_eql_slice_nil (P := Try.prog) w 22 3 a n c n' c' Try.underlying22
    go_enter Try.func80, Try.ntmps80
    go_wp2
    go_ret
    exact ⟨_, rfl, World.ownsRow_nil _ _ _ _, Grow.refl _⟩
  | some ad =>
    have heq := fun (w : World) (a : Option Addr) (n c n' c' : Nat) => Lib.run_eql_slice_nil (P := Try.prog) w 22 3 a n c n' c' Try.underlying22
    go_enter Try.func80, Try.ntmps80
    go_wp2_with (at_builtin; refine wpl_append Try.elemI64 rfl _ _ rfl w.heap.size rfl (World.ownsRow_lit w #[] 0 (Nat.le_refl _) (by decide) rfl) zs.length rfl (H.out.grow (Grow.alloc _ _)) (by simp) (oneCell_ints _ _) (by omega) (by unfold maxLen; omega) (by simp) ?_; intro v' w' hown hgr hmv)
    go_ret
    simp only [Nat.zero_add, List.nil_append] at hown
    exact ⟨_, rfl, hown, Grow.of_grown (grown_trans (Grow.alloc w _).grown hgr (fun g hg hlt => by have := own_new hg; omega))⟩
theorem clone_N (w : World) (v : Value) (zs : List Int) (h : RdN w v zs) (sm : SmN zs) : Calls Try.prog 80 #[v] w (RetNew OwnN zs w) :=
  (cloneN_any v zs w h (by unfold SmN at sm; omega)).mono fun _ _ ⟨v, he, hown, hg⟩ => ⟨v, fpOf v, he, (OwnR.of hown).1, (OwnR.of hown).2, hg⟩
--% Equal 156
theorem equalN_any (v1 v2 : Value) (xs ys : List Int) (w : World) (h1 : RdN w v1 xs) (h2 : RdN w v2 ys) :
    Calls Try.prog 156 #[v1, v2] w (QuietBool (decide (xs = ys)) w) := by
  obtain ⟨a1, c1, rfl, hlc1, hm1, hn1, hc1⟩ := Rd.ints h1
  obtain ⟨a2, c2, rfl, hlc2, hm2, hn2, hc2⟩ := Rd.ints h2
  clear h1 h2 hn1 hn2
  have H1 := Lib.hid hc1; clear hc1
  have H2 := Lib.hid hc2; clear hc2
  unfold maxLen at hm1 hm2
  by_cases hl : xs.length = ys.length
  · have hb : ((xs.length : Int) != (ys.length : Int)) = false := by simp [hl]
    have HL := Lib.hid hl; clear hl
    go_enter Try.func156, Try.ntmps156
    go_wp2
    go_loopw [13] (fun i wr => ∃ k : Nat, k ≤ xs.length ∧ i = .int .i64 k ∧ xs.take k = ys.take k ∧ ∃ n, wr = w.drewN n) (fun i _ => xs.length - (intOf i).toNat)
    case atStart => exact ⟨0, Nat.zero_le _, rfl, by simp, 0, rfl⟩
    case round =>
      obtain ⟨k, hk, rfl, htk, n, rfl⟩ := hrel
      have HT := Lib.hid htk; clear htk
      by_cases hlt : k < xs.length
      · have hlt2 : k < ys.length := by rw [← HL.out]; exact hlt
        obtain ⟨b1, o1, rfl, hc1⟩ := H1.out k hlt
        obtain ⟨b2, o2, rfl, hc2⟩ := H2.out k hlt2
        by_cases he : xs[k] = ys[k]
        · have heb : (xs[k] != ys[k]) = false := by rw [he]; simp
          have HE := Lib.hid he; clear he
          go_wp2
          go_quiet (fail)
          go_wp2
          go_roundw
          case rel => exact ⟨k + 1, by omega, by go_num, take_succ_eq hlt hlt2 HT.out HE.out, _, rfl⟩
          case measure => simp [intOf]; omega
        · have heb : (xs[k] != ys[k]) = true := by simpa using he
          have HE := Lib.hid he; clear he
          go_wp2
          go_quiet (fail)
          go_wp2
          go_ret
          exact ⟨ret_bool (decide_eq_false (ne_of_at hlt hlt2 HE.out)).symm, ex_drewN w _ _⟩
      · go_wp2
        go_ret
        exact ⟨ret_bool (decide_eq_true (by have := HT.out; rwa [List.take_of_length_le (by omega), List.take_of_length_le (by rw [← HL.out]; omega)] at this)).symm, _, rfl⟩
  · have hb : ((xs.length : Int) != (ys.length : Int)) = true := by simp; omega
    have hne : xs ≠ ys := fun h => hl (by rw [h])
    have HN := Lib.hid hne; clear hne
    go_enter Try.func156, Try.ntmps156
    go_wp2
    go_ret
    exact ⟨ret_bool (decide_eq_false HN.out).symm, 0, rfl⟩
theorem equal_N (w : World) (v1 v2 : Value) (x y : List Int) (h1 : RdN w v1 x) (h2 : RdN w v2 y) : Calls Try.prog 156 #[v1, v2] w (RetV (.bool (decide (x = y))) w) :=
  (equalN_any v1 v2 x y w h1 h2).mono fun _ _ h => RetV.of_quietBool h
--%
end Go.Proofs.Ytgigdpdmdldhnaa
