/- HasAct, SameActs: contracts of the code. -/
import Derived.Test.YtgigdpdmdldhnaaAok
import Derived.WalkKit
import Derived.ProofKit
import Derived.Deep.QuietTactic
import Derived.BigQuiet
import Derived.Outline
import Derived.WalkSpells
namespace Go.Proofs.Ytgigdpdmdldhnaa
open Go.ChangeShapes Go.WideShapes Go.ChangeAt Go.RowKit
set_option linter.unusedVariables false
set_option linter.unusedSimpArgs false
--%
def hasK (ds : List ActD) (kind : Int) : Bool := ds.any (fun d => decide (d.kind = kind))
def haOk (ds : List ActD) (kind : Int) : Bool := acOk ds && hasK ds kind
theorem hasK_yes {ds : List ActD} {kind : Int} (k : Nat) (hk : k < ds.length) (h : ds[k].kind = kind) : hasK ds kind = true := by
  unfold hasK; rw [List.any_eq_true]; exact ⟨ds[k], List.getElem_mem _, decide_eq_true h⟩
theorem hasK_no {ds : List ActD} {kind : Int} (h : ∀ i, i < ds.length → ¬ (ds.getD i default).kind = kind) : hasK ds kind = false := by
  unfold hasK; rw [List.any_eq_false]
  intro d hd
  obtain ⟨i, hi, rfl⟩ := List.mem_iff_getElem.1 hd
  have := h i hi
  rw [getA_at hi] at this
  simpa using this
--% HasAct1 74
theorem hasAct1_any (w : World) (d : ActD) (bx : Nat) (kind : Int) (h : w.cell? ⟨bx, 0, none⟩ = some (.int .i64 kind)) : Calls Try.prog 74 #[.agg #[.int .i64 d.kind, .int .i64 d.a, .int .i64 d.b], .pointer (some ⟨bx, 0, none⟩)] w (RetV (.bool (d.kind == kind)) w) := by
  have hl := cell_lt h
  go_enter Try.func74, Try.ntmps74
  go_wp2
  go_ret
  refine ⟨rfl, ?_⟩
  ((repeat (first | with_reducible exact Grow.refl _ | (with_reducible refine Grow.alloc_ ?_ _) | (with_reducible refine Grow.setCell_ ?_ (by first | exact Nat.le_refl _ | (simp only [World.alloc, Array.size_push]; omega) | omega) _))))
--% IndexFunc 120 74
/-- An index that tells whether there is one. -/
def RetIdx (b : Bool) (w : World) (e : Ending) (w' : World) : Prop := ∃ n : Int, e = .returned (.int .i64 n) ∧ (0 ≤ n ↔ b = true) ∧ Grow w w'
theorem indexAct_any (w : World) (v : Value) (ds : List ActD) (bx : Nat) (kind : Int) (h : RdA w v ds) (hb : w.cell? ⟨bx, 0, none⟩ = some (.int .i64 kind)) :
    Calls Try.prog 120 #[v, .func (Fn.func 74) #[] #[.pointer (some ⟨bx, 0, none⟩)]] w (RetIdx (hasK ds kind) w) := by
  obtain ⟨a, c, rfl, hlc, hm, hn, hc⟩ := RdA.acts h
  clear h hn
  have H := Lib.hid hc; clear hc
  have HB := Lib.hid hb; clear hb
  unfold maxLen at hm
  go_enter Try.func120, Try.ntmps120
  go_wp2
  go_loopw [8] (fun i wr => ∃ k : Nat, k ≤ ds.length ∧ i = .int .i64 k ∧ (∀ j, j < k → ¬ (ds.getD j default).kind = kind) ∧ Grow w wr) (fun i _ => ds.length - (intOf i).toNat)
  case atStart => exact ⟨0, Nat.zero_le _, rfl, fun j hj => absurd hj (Nat.not_lt_zero _), Grow.refl _⟩
  case round =>
    obtain ⟨k, hk, rfl, hal, hgr⟩ := hrel
    have HA := Lib.hid hal; have HG := Lib.hid hgr; clear hal hgr
    by_cases hlt : k < ds.length
    · obtain ⟨b, o, rfl, s0, s1, s2⟩ := H.out k hlt
      have r0 := HG.out.cell s0; have r1 := HG.out.cell s1; have r2 := HG.out.cell s2
      clear s0 s1 s2
      by_cases hkd : ds[k].kind = kind
      · have hd : (ds[k].kind == kind) = true := by simpa using hkd
        have HE := Lib.hid (hasK_yes k hlt hkd); clear hkd
        go_wp2_with fail
        refine (hasAct1_any _ ds[k] bx kind (HG.out.cell HB.out)).mono ?_
        rintro e w1 ⟨rfl, hg⟩
        rw [hd]
        have HG1 := Lib.hid (HG.out.trans hg); clear hg
        go_wp2
        go_ret
        exact ⟨_, rfl, by rw [HE.out]; simp, HG1.out⟩
      · have hd : (ds[k].kind == kind) = false := by simpa using hkd
        have HK : Hid (¬ (ds.getD k default).kind = kind) := Lib.hid (by rw [getA_at hlt]; exact hkd)
        clear hkd
        go_wp2_with fail
        refine (hasAct1_any _ ds[k] bx kind (HG.out.cell HB.out)).mono ?_
        rintro e w1 ⟨rfl, hg⟩
        rw [hd]
        have HG1 := Lib.hid (HG.out.trans hg); clear hg
        go_wp2
        go_roundw
        case rel =>
          refine ⟨k + 1, by omega, by go_num, fun j hj => ?_, HG1.out⟩
          rcases Nat.lt_or_ge j k with h' | h'
          · exact HA.out j h'
          · obtain rfl : j = k := by omega
            exact HK.out
        case measure => simp [intOf]; omega
    · obtain rfl : k = ds.length := by omega
      have HE := Lib.hid (hasK_no HA.out)
      go_wp2
      go_ret
      exact ⟨_, rfl, by rw [HE.out]; simp, HG.out⟩
--% ContainsFunc 73 74
theorem containsAct_any (w : World) (v : Value) (ds : List ActD) (bx : Nat) (kind : Int) (h : RdA w v ds) (hb : w.cell? ⟨bx, 0, none⟩ = some (.int .i64 kind)) :
    Calls Try.prog 73 #[v, .func (Fn.func 74) #[] #[.pointer (some ⟨bx, 0, none⟩)]] w (RetV (.bool (hasK ds kind)) w) := by
  have HV := Lib.hid h; have HB := Lib.hid hb; clear h hb
  go_enter Try.func73, Try.ntmps73
  go_wp2_with fail
  refine (indexAct_any _ _ _ _ _ HV.out HB.out).mono ?_
  rintro e w1 ⟨n, rfl, hn, hg⟩
  have HN := Lib.hid hn; clear hn
  go_wp2
  go_ret
  refine ⟨ret_bool ?_, hg⟩
  have := HN.out
  cases hh : hasK ds kind
  · rw [hh] at this; simp at this ⊢; omega
  · rw [hh] at this; simp at this ⊢; omega
--% HasActI 27
theorem hasActI_any (w : World) (v : Value) (ds : List ActD) (kind : Int) (h : RdA w v ds) : Calls Try.prog 27 #[v, .int .i64 kind] w (RetV (.bool (haOk ds kind)) w) := by
  have HV := Lib.hid h; clear h
  cases hok : acOk ds
  · have HE : Hid (haOk ds kind = false) := Lib.hid (by simp [haOk, hok])
    go_enter Try.func27, Try.ntmps27
    go_wp2_with fail
    refine at_world (w := w) ?G (fun hG => (actsOkI_any _ _ _ (HV.out.grow hG)).mono ?_)
    case G => ((repeat (first | with_reducible exact Grow.refl _ | (with_reducible refine Grow.alloc_ ?_ _) | (with_reducible refine Grow.setCell_ ?_ (by first | exact Nat.le_refl _ | (simp only [World.alloc, Array.size_push]; omega) | omega) _))))
    rintro e w1 ⟨rfl, hg⟩
    rw [hok]
    have HG := Lib.hid (hG.trans hg); clear hG hg
    go_wp2
    go_ret
    exact ⟨ret_bool HE.out.symm, HG.out⟩
  have HE : Hid (haOk ds kind = hasK ds kind) := Lib.hid (by simp [haOk, hok])
  go_enter Try.func27, Try.ntmps27
  go_wp2_with fail
  refine at_world (w := w) ?G (fun hG => (actsOkI_any _ _ _ (HV.out.grow hG)).mono ?_)
  case G => ((repeat (first | with_reducible exact Grow.refl _ | (with_reducible refine Grow.alloc_ ?_ _) | (with_reducible refine Grow.setCell_ ?_ (by first | exact Nat.le_refl _ | (simp only [World.alloc, Array.size_push]; omega) | omega) _))))
  rintro e w1 ⟨rfl, hg⟩
  rw [hok]
  have HG := Lib.hid (hG.trans hg)
  have B0 := Lib.hid ((Box.alloc w _ _).grow hg)
  clear hG hg
  go_wp2_with fail
  refine (containsAct_any _ _ _ _ _ (HV.out.grow HG.out) B0.out.one).mono ?_
  rintro e w2 ⟨rfl, hg⟩
  have HG := Lib.hid (HG.out.trans hg); clear hg
  go_wp2
  go_ret
  exact ⟨ret_bool HE.out.symm, HG.out⟩
--% HasActS 26
theorem hasActS_any (w : World) (v : Value) (ds : List ActD) (kind : Int) (h : RdA w v ds) : Calls Try.prog 26 #[v, .int .i64 kind] w (RetV (.bool (haOk ds kind)) w) := by
  obtain ⟨a, c, rfl, hlc, hm, hn, hc⟩ := RdA.acts h
  have HV := Lib.hid h; clear h hn
  have H := Lib.hid hc; clear hc
  unfold maxLen at hm
  cases hok : acOk ds
  · have HE : Hid (haOk ds kind = false) := Lib.hid (by simp [haOk, hok])
    go_enter Try.func26, Try.ntmps26
    go_wp2_with fail
    refine (actsOkS_any _ _ _ HV.out).mono ?_
    rintro e w1 ⟨rfl, hg⟩
    rw [hok]
    have HG := Lib.hid hg; clear hg
    go_wp2
    go_ret
    exact ⟨ret_bool HE.out.symm, HG.out⟩
  have HE : Hid (haOk ds kind = hasK ds kind) := Lib.hid (by simp [haOk, hok])
  go_enter Try.func26, Try.ntmps26
  go_wp2_with fail
  refine (actsOkS_any _ _ _ HV.out).mono ?_
  rintro e w1 ⟨rfl, hg⟩
  rw [hok]
  have HG0 := Lib.hid hg; clear hg
  go_wp2
  go_loopw [12] (fun i wr => ∃ k : Nat, k ≤ ds.length ∧ i = .int .i64 k ∧ (∀ j, j < k → ¬ (ds.getD j default).kind = kind) ∧ Grow w wr) (fun i _ => ds.length - (intOf i).toNat)
  case atStart => exact ⟨0, Nat.zero_le _, rfl, fun j hj => absurd hj (Nat.not_lt_zero _), HG0.out⟩
  case round =>
    obtain ⟨k, hk, rfl, hal, hgr⟩ := hrel
    have HA := Lib.hid hal; have HG := Lib.hid hgr; clear hal hgr
    by_cases hlt : k < ds.length
    · obtain ⟨b, o, rfl, s0, s1, s2⟩ := H.out k hlt
      have r0 := HG.out.cell s0; have r1 := HG.out.cell s1; have r2 := HG.out.cell s2
      clear s0 s1 s2
      by_cases hkd : ds[k].kind = kind
      · have hd : (ds[k].kind == kind) = true := by simpa using hkd
        have HK := Lib.hid (hasK_yes k hlt hkd); clear hkd
        go_wp2
        go_ret
        refine ⟨ret_bool (by rw [HE.out, HK.out]), ?_⟩
        ((repeat (first | with_reducible exact Grow.refl _ | (with_reducible refine Grow.alloc_ ?_ _) | (with_reducible refine Grow.setCell_ ?_ (by first | exact Nat.le_refl _ | (simp only [World.alloc, Array.size_push]; omega) | omega) _))))
        exact HG.out
      · have hd : (ds[k].kind == kind) = false := by simpa using hkd
        have HK : Hid (¬ (ds.getD k default).kind = kind) := Lib.hid (by rw [getA_at hlt]; exact hkd)
        clear hkd
        go_wp2
        go_roundw
        case rel =>
          refine ⟨k + 1, by omega, by go_num, fun j hj => ?_, ?_⟩
          · rcases Nat.lt_or_ge j k with h' | h'
            · exact HA.out j h'
            · obtain rfl : j = k := by omega
              exact HK.out
          · ((repeat (first | with_reducible exact Grow.refl _ | (with_reducible refine Grow.alloc_ ?_ _) | (with_reducible refine Grow.setCell_ ?_ (by first | exact Nat.le_refl _ | (simp only [World.alloc, Array.size_push]; omega) | omega) _))))
            exact HG.out
        case measure => simp [intOf]; omega
    · obtain rfl : k = ds.length := by omega
      have HK := Lib.hid (hasK_no HA.out)
      go_wp2
      go_ret
      exact ⟨ret_bool (by rw [HE.out, HK.out]), HG.out⟩
--% equal 76
theorem equal_A (w : World) (v1 v2 : Value) (xs ys : List ActD) (h1 : RdA w v1 xs) (h2 : RdA w v2 ys) : Calls Try.prog 76 #[v1, v2] w (RetV (.bool (decide (xs = ys))) w) := by
  obtain ⟨a1, c1, rfl, hlc1, hm1, hn1, hc1⟩ := RdA.acts h1
  obtain ⟨a2, c2, rfl, hlc2, hm2, hn2, hc2⟩ := RdA.acts h2
  clear h1 h2 hn1 hn2
  have H1 := Lib.hid hc1; clear hc1
  have H2 := Lib.hid hc2; clear hc2
  unfold maxLen at hm1 hm2
  by_cases hl : xs.length = ys.length
  rotate_left
  · have hb : ((xs.length : Int) != (ys.length : Int)) = true := by simp; omega
    have hne : xs ≠ ys := fun h => hl (by rw [h])
    have HN := Lib.hid hne; clear hne
    go_enter Try.func76, Try.ntmps76
    go_wp2
    go_ret
    exact ⟨ret_bool (decide_eq_false HN.out).symm, Grow.refl _⟩
  have hb : ((xs.length : Int) != (ys.length : Int)) = false := by simp [hl]
  have HL := Lib.hid hl; clear hl
  go_enter Try.func76, Try.ntmps76
  go_wp2
  go_loopw [13] (fun i wr => ∃ k : Nat, k ≤ xs.length ∧ i = .int .i64 k ∧ xs.take k = ys.take k ∧ Grow w wr) (fun i _ => xs.length - (intOf i).toNat)
  case atStart => exact ⟨0, Nat.zero_le _, rfl, by simp, Grow.refl _⟩
  case round =>
    obtain ⟨k, hk, rfl, htk, hgr⟩ := hrel
    have HT := Lib.hid htk; clear htk
    have HG := Lib.hid hgr; clear hgr
    by_cases hlt : k < xs.length
    · have hlt2 : k < ys.length := by rw [← HL.out]; exact hlt
      obtain ⟨b1, o1, rfl, s0, s1, s2⟩ := H1.out k hlt
      obtain ⟨b2, o2, rfl, t0, t1, t2⟩ := H2.out k hlt2
      have r0 := HG.out.cell s0; have r1 := HG.out.cell s1; have r2 := HG.out.cell s2
      have q0 := HG.out.cell t0; have q1 := HG.out.cell t1; have q2 := HG.out.cell t2
      clear s0 s1 s2 t0 t1 t2
      by_cases he : xs[k] = ys[k]
      · rw [← he] at q0 q1 q2
        have HE := Lib.hid he; clear he
        go_wp2
        go_quiet (fail)
        go_wp2
        go_roundw
        case rel => exact ⟨k + 1, by omega, by go_num, take_succ_eq hlt hlt2 HT.out HE.out, HG.out.trans (Grow.drewN _ _)⟩
        case measure => simp [intOf]; omega
      · have hor : ¬ xs[k].kind = ys[k].kind ∨ (xs[k].kind = ys[k].kind ∧ ¬ xs[k].a = ys[k].a) ∨ (xs[k].kind = ys[k].kind ∧ xs[k].a = ys[k].a ∧ ¬ xs[k].b = ys[k].b) := by
          by_cases e1 : xs[k].kind = ys[k].kind
          · by_cases e2 : xs[k].a = ys[k].a
            · refine .inr (.inr ⟨e1, e2, fun e3 => he ?_⟩)
              generalize xs[k] = x at *
              generalize ys[k] = y at *
              cases x; cases y; simp_all
            · exact .inr (.inl ⟨e1, e2⟩)
          · exact .inl e1
        have HE := Lib.hid he; clear he
        rcases hor with h0 | ⟨h0, h1⟩ | ⟨h0, h1, h2⟩
        · have e0 : (xs[k].kind == ys[k].kind) = false := by simpa using h0
          clear h0
          go_wp2
          go_quiet (fail)
          go_wp2
          go_ret
          exact ⟨ret_bool (decide_eq_false (ne_of_at hlt hlt2 HE.out)).symm, HG.out.trans (Grow.drewN _ _)⟩
        · have e1 : (xs[k].a == ys[k].a) = false := by simpa using h1
          clear h1
          rw [← h0] at q0
          clear h0
          go_wp2
          go_quiet (fail)
          go_wp2
          go_ret
          exact ⟨ret_bool (decide_eq_false (ne_of_at hlt hlt2 HE.out)).symm, HG.out.trans (Grow.drewN _ _)⟩
        · have e2 : (xs[k].b == ys[k].b) = false := by simpa using h2
          clear h2
          rw [← h0] at q0
          rw [← h1] at q1
          clear h0 h1
          go_wp2
          go_quiet (fail)
          go_wp2
          go_ret
          exact ⟨ret_bool (decide_eq_false (ne_of_at hlt hlt2 HE.out)).symm, HG.out.trans (Grow.drewN _ _)⟩
    · go_wp2
      go_ret
      exact ⟨ret_bool (decide_eq_true (by have := HT.out; rwa [List.take_of_length_le (by omega), List.take_of_length_le (by rw [← HL.out]; omega)] at this)).symm, HG.out⟩
--% l06Same 75
theorem l06Same_A (w : World) (v1 v2 : Value) (xs ys : List ActD) (h1 : RdA w v1 xs) (h2 : RdA w v2 ys) : Calls Try.prog 75 #[v1, v2] w (RetV (.bool (decide (xs = ys))) w) := by
  obtain ⟨a1, c1, rfl, hlc1, hm1, hn1, hc1⟩ := RdA.acts h1
  obtain ⟨a2, c2, rfl, hlc2, hm2, hn2, hc2⟩ := RdA.acts h2
  clear h1 h2 hn1 hn2
  have H1 := Lib.hid hc1; clear hc1
  have H2 := Lib.hid hc2; clear hc2
  unfold maxLen at hm1 hm2
  by_cases hl : xs.length = ys.length
  rotate_left
  · have hb : ((xs.length : Int) != (ys.length : Int)) = true := by simp; omega
    have hne : xs ≠ ys := fun h => hl (by rw [h])
    have HN := Lib.hid hne; clear hne
    go_enter Try.func75, Try.ntmps75
    go_wp2
    go_ret
    exact ⟨ret_bool (decide_eq_false HN.out).symm, Grow.refl _⟩
  have hb : ((xs.length : Int) != (ys.length : Int)) = false := by simp [hl]
  have HL := Lib.hid hl; clear hl
  go_enter Try.func75, Try.ntmps75
  go_wp2
  go_loopw [13] (fun i wr => ∃ k : Nat, k ≤ xs.length ∧ i = .int .i64 k ∧ xs.take k = ys.take k ∧ Grow w wr) (fun i _ => xs.length - (intOf i).toNat)
  case atStart => exact ⟨0, Nat.zero_le _, rfl, by simp, Grow.refl _⟩
  case round =>
    obtain ⟨k, hk, rfl, htk, hgr⟩ := hrel
    have HT := Lib.hid htk; clear htk
    have HG := Lib.hid hgr; clear hgr
    by_cases hlt : k < xs.length
    · have hlt2 : k < ys.length := by rw [← HL.out]; exact hlt
      obtain ⟨b1, o1, rfl, s0, s1, s2⟩ := H1.out k hlt
      obtain ⟨b2, o2, rfl, t0, t1, t2⟩ := H2.out k hlt2
      have r0 := HG.out.cell s0; have r1 := HG.out.cell s1; have r2 := HG.out.cell s2
      have q0 := HG.out.cell t0; have q1 := HG.out.cell t1; have q2 := HG.out.cell t2
      clear s0 s1 s2 t0 t1 t2
      by_cases he : xs[k] = ys[k]
      · rw [← he] at q0 q1 q2
        have HE := Lib.hid he; clear he
        go_wp2
        go_quiet (fail)
        go_wp2
        go_roundw
        case rel => exact ⟨k + 1, by omega, by go_num, take_succ_eq hlt hlt2 HT.out HE.out, HG.out.trans (Grow.drewN _ _)⟩
        case measure => simp [intOf]; omega
      · have hor : ¬ xs[k].kind = ys[k].kind ∨ (xs[k].kind = ys[k].kind ∧ ¬ xs[k].a = ys[k].a) ∨ (xs[k].kind = ys[k].kind ∧ xs[k].a = ys[k].a ∧ ¬ xs[k].b = ys[k].b) := by
          by_cases e1 : xs[k].kind = ys[k].kind
          · by_cases e2 : xs[k].a = ys[k].a
            · refine .inr (.inr ⟨e1, e2, fun e3 => he ?_⟩)
              generalize xs[k] = x at *
              generalize ys[k] = y at *
              cases x; cases y; simp_all
            · exact .inr (.inl ⟨e1, e2⟩)
          · exact .inl e1
        have HE := Lib.hid he; clear he
        rcases hor with h0 | ⟨h0, h1⟩ | ⟨h0, h1, h2⟩
        · have e0 : (xs[k].kind == ys[k].kind) = false := by simpa using h0
          clear h0
          go_wp2
          go_quiet (fail)
          go_wp2
          go_ret
          exact ⟨ret_bool (decide_eq_false (ne_of_at hlt hlt2 HE.out)).symm, HG.out.trans (Grow.drewN _ _)⟩
        · have e1 : (xs[k].a == ys[k].a) = false := by simpa using h1
          clear h1
          rw [← h0] at q0
          clear h0
          go_wp2
          go_quiet (fail)
          go_wp2
          go_ret
          exact ⟨ret_bool (decide_eq_false (ne_of_at hlt hlt2 HE.out)).symm, HG.out.trans (Grow.drewN _ _)⟩
        · have e2 : (xs[k].b == ys[k].b) = false := by simpa using h2
          clear h2
          rw [← h0] at q0
          rw [← h1] at q1
          clear h0 h1
          go_wp2
          go_quiet (fail)
          go_wp2
          go_ret
          exact ⟨ret_bool (decide_eq_false (ne_of_at hlt hlt2 HE.out)).symm, HG.out.trans (Grow.drewN _ _)⟩
    · go_wp2
      go_ret
      exact ⟨ret_bool (decide_eq_true (by have := HT.out; rwa [List.take_of_length_le (by omega), List.take_of_length_le (by rw [← HL.out]; omega)] at this)).symm, HG.out⟩
--% saOk
def saOk (a b : List ActD) : Bool := acOk a && (acOk b && decide (a = b))
--% SameActsI 29
theorem sameActsI_any (w : World) (v1 v2 : Value) (a b : List ActD) (h1 : RdA w v1 a) (h2 : RdA w v2 b) : Calls Try.prog 29 #[v1, v2] w (RetV (.bool (saOk a b)) w) := by
  have R1 := Lib.hid h1; have R2 := Lib.hid h2; clear h1 h2
  cases hoka : acOk a
  · have HE : Hid (saOk a b = false) := Lib.hid (by simp [saOk, hoka])
    go_enter Try.func29, Try.ntmps29
    go_wp2_with fail
    refine (actsOkI_any _ _ _ R1.out).mono ?_
    rintro e w1 ⟨rfl, hg⟩
    rw [hoka]
    have G1 := Lib.hid hg; clear hg
    go_wp2
    go_ret
    exact ⟨ret_bool HE.out.symm, G1.out⟩
  cases hokb : acOk b
  · have HE : Hid (saOk a b = false) := Lib.hid (by simp [saOk, hokb])
    go_enter Try.func29, Try.ntmps29
    go_wp2_with fail
    refine (actsOkI_any _ _ _ R1.out).mono ?_
    rintro e w1 ⟨rfl, hg⟩
    rw [hoka]
    have G1 := Lib.hid hg; clear hg
    go_wp2_with fail
    refine (actsOkI_any _ _ _ (R2.out.grow G1.out)).mono ?_
    rintro e w2 ⟨rfl, hg⟩
    rw [hokb]
    have G2 := Lib.hid (G1.out.trans hg); clear hg
    go_wp2
    go_ret
    exact ⟨ret_bool HE.out.symm, G2.out⟩
  have HE : Hid (saOk a b = decide (a = b)) := Lib.hid (by simp [saOk, hoka, hokb])
  go_enter Try.func29, Try.ntmps29
  go_wp2_with fail
  refine (actsOkI_any _ _ _ R1.out).mono ?_
  rintro e w1 ⟨rfl, hg⟩
  rw [hoka]
  have G1 := Lib.hid hg; clear hg
  go_wp2_with fail
  refine (actsOkI_any _ _ _ (R2.out.grow G1.out)).mono ?_
  rintro e w2 ⟨rfl, hg⟩
  rw [hokb]
  have G2 := Lib.hid (G1.out.trans hg); clear hg
  go_wp2_with fail
  refine (equal_A _ _ _ _ _ (R1.out.grow G2.out) (R2.out.grow G2.out)).mono ?_
  rintro e w3 ⟨rfl, hg⟩
  have G3 := Lib.hid (G2.out.trans hg); clear hg
  go_wp2
  go_ret
  exact ⟨ret_bool HE.out.symm, G3.out⟩
--% SameActsS 28
theorem sameActsS_any (w : World) (v1 v2 : Value) (a b : List ActD) (h1 : RdA w v1 a) (h2 : RdA w v2 b) : Calls Try.prog 28 #[v1, v2] w (RetV (.bool (saOk a b)) w) := by
  have R1 := Lib.hid h1; have R2 := Lib.hid h2; clear h1 h2
  cases hoka : acOk a
  · have HE : Hid (saOk a b = false) := Lib.hid (by simp [saOk, hoka])
    go_enter Try.func28, Try.ntmps28
    go_wp2_with fail
    refine (actsOkS_any _ _ _ R1.out).mono ?_
    rintro e w1 ⟨rfl, hg⟩
    rw [hoka]
    have G1 := Lib.hid hg; clear hg
    go_wp2
    go_ret
    exact ⟨ret_bool HE.out.symm, G1.out⟩
  cases hokb : acOk b
  · have HE : Hid (saOk a b = false) := Lib.hid (by simp [saOk, hokb])
    go_enter Try.func28, Try.ntmps28
    go_wp2_with fail
    refine (actsOkS_any _ _ _ R1.out).mono ?_
    rintro e w1 ⟨rfl, hg⟩
    rw [hoka]
    have G1 := Lib.hid hg; clear hg
    go_wp2_with fail
    refine (actsOkS_any _ _ _ (R2.out.grow G1.out)).mono ?_
    rintro e w2 ⟨rfl, hg⟩
    rw [hokb]
    have G2 := Lib.hid (G1.out.trans hg); clear hg
    go_wp2
    go_ret
    exact ⟨ret_bool HE.out.symm, G2.out⟩
  have HE : Hid (saOk a b = decide (a = b)) := Lib.hid (by simp [saOk, hoka, hokb])
  go_enter Try.func28, Try.ntmps28
  go_wp2_with fail
  refine (actsOkS_any _ _ _ R1.out).mono ?_
  rintro e w1 ⟨rfl, hg⟩
  rw [hoka]
  have G1 := Lib.hid hg; clear hg
  go_wp2_with fail
  refine (actsOkS_any _ _ _ (R2.out.grow G1.out)).mono ?_
  rintro e w2 ⟨rfl, hg⟩
  rw [hokb]
  have G2 := Lib.hid (G1.out.trans hg); clear hg
  go_wp2_with fail
  refine (l06Same_A _ _ _ _ _ (R1.out.grow G2.out) (R2.out.grow G2.out)).mono ?_
  rintro e w3 ⟨rfl, hg⟩
  have G3 := Lib.hid (G2.out.trans hg); clear hg
  go_wp2
  go_ret
  exact ⟨ret_bool HE.out.symm, G3.out⟩
--%
end Go.Proofs.Ytgigdpdmdldhnaa
