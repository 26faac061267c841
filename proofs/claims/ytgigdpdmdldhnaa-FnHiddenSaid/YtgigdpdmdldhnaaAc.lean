/- Slices of acts: what they read as; contracts of the laws' helpers. -/
import Derived.Test.YtgigdpdmdldhnaaCln
import Derived.Test.YtgigdpdmdldhnaaPkt
import Derived.Test.YtgigdpdmdldhnaaBit
import Derived.WalkKit
import Derived.ProofKit
import Derived.Deep.QuietTactic
import Derived.BigQuiet
import Derived.Outline
import Derived.WalkSpells
namespace Go.Proofs.Ytgigdpdmdldhnaa
open Go.ChangeShapes Go.WideShapes Go.ChangeAt Go.RowKit
set_option linter.unusedVariables false
set_option linter.unusedSimpArgs false
--%
structure ActD where
  kind : Int
  a : Int
  b : Int
deriving DecidableEq
instance : Inhabited ActD := ⟨⟨0, 0, 0⟩⟩
def actV (d : ActD) : Value := .agg #[.int .i64 d.kind, .int .i64 d.a, .int .i64 d.b]
def actC (d : ActD) : List Value := [.int .i64 d.kind, .int .i64 d.a, .int .i64 d.b]
def actsC (ds : List ActD) : List Value := ds.flatMap actC
theorem actsC_cons (d : ActD) (ds : List ActD) : actsC (d :: ds) = actC d ++ actsC ds := rfl
theorem actsC_len (ds : List ActD) : (actsC ds).length = ds.length * 3 := by
  induction ds with
  | nil => rfl
  | cons d ds ih => rw [actsC_cons, List.length_append, ih]; simp [actC]; omega
theorem actsC_at (ds : List ActD) : ∀ (j : Nat) (hj : j < ds.length) (k : Nat) (v : Value), (actC ds[j])[k]? = some v → (actsC ds)[j * 3 + k]? = some v := by
  induction ds with
  | nil => intro j hj; simp at hj
  | cons d ds ih =>
    intro j hj k v hk
    have hk3 : k < 3 := (List.getElem?_eq_some_iff.1 hk).1
    rw [actsC_cons]
    cases j with
    | zero =>
      rw [List.getElem?_append_left (by simp [actC]; omega)]
      simpa using hk
    | succ j =>
      rw [List.getElem?_append_right (by simp [actC]; omega)]
      have e : (j + 1) * 3 + k - (actC d).length = j * 3 + k := by simp [actC]; omega
      rw [e]
      exact ih j (by simpa using hj) k v (by simpa using hk)
abbrev DatA := List ActD
def WfA (ds : List ActD) : Prop := ∀ d ∈ ds, (-9223372036854775808 ≤ d.kind ∧ d.kind ≤ 9223372036854775807) ∧ (-9223372036854775808 ≤ d.a ∧ d.a ≤ 9223372036854775807) ∧ (-9223372036854775808 ≤ d.b ∧ d.b ≤ 9223372036854775807)
def RdA (w : World) (v : Value) (ds : List ActD) : Prop := Rd w 3 v (actsC ds)
def OwnA (w : World) (v : Value) (ds : List ActD) (fp : List Nat) : Prop := OwnR 96 3 w v ds.length (actsC ds) fp
theorem RdA.grow {w w' : World} {v : Value} {ds : List ActD} (h : RdA w v ds) (g : Grow w w') : RdA w' v ds := Rd.grow h g
theorem OwnA.rd {w : World} {v : Value} {ds : List ActD} {fp : List Nat} (h : OwnA w v ds fp) : RdA w v ds := OwnR.rd h
theorem OwnA.here {w : World} {v : Value} {ds : List ActD} {fp : List Nat} (h : OwnA w v ds fp) : Here w fp := OwnR.here h
theorem OwnA.grow {w w' : World} {v : Value} {ds : List ActD} {fp : List Nat} (h : OwnA w v ds fp) (g : Grow w w') : OwnA w' v ds fp := OwnR.grow h g
theorem OwnA.upd {w w' : World} {v : Value} {ds : List ActD} {fp fq : List Nat} (h : OwnA w v ds fp) (u : Upd fq w w') (ha : ∀ x ∈ fp, x ∉ fq) : OwnA w' v ds fp := OwnR.upd h u ha
def sizeA (ds : List ActD) : Int := ds.length
def cntA (ds : List ActD) : Int := 3 * ds.length
def SmA (ds : List ActD) : Prop := sizeA ds ≤ 1048576
/-- The acts one by one. -/
theorem RdA.acts {w : World} {v : Value} {ds : List ActD} (h : RdA w v ds) :
    ∃ a cap, v = .slice a ds.length cap ∧ ds.length ≤ cap ∧ cap ≤ maxLen ∧ (a = none → cap = 0) ∧ ∀ j (hj : j < ds.length), ∃ b off, a = some ⟨b, off, none⟩ ∧
      w.cell? ⟨b, off + j * 3, none⟩ = some (.int .i64 ds[j].kind) ∧ w.cell? ⟨b, off + j * 3 + 1, none⟩ = some (.int .i64 ds[j].a) ∧ w.cell? ⟨b, off + j * 3 + 2, none⟩ = some (.int .i64 ds[j].b) := by
  obtain ⟨a, n, cap, rfl, h1, h2, h3, h4, h5⟩ := h
  rw [actsC_len] at h1
  obtain rfl : ds.length = n := by omega
  refine ⟨a, cap, rfl, h2, h3, h4, fun j hj => ?_⟩
  obtain ⟨b, off, rfl, c0⟩ := h5 _ _ (actsC_at ds j hj 0 _ rfl)
  obtain ⟨b1, o1, e1, c1⟩ := h5 _ _ (actsC_at ds j hj 1 _ rfl)
  obtain ⟨b2, o2, e2, c2⟩ := h5 _ _ (actsC_at ds j hj 2 _ rfl)
  obtain ⟨rfl, rfl⟩ : b = b1 ∧ off = o1 := by simpa using e1
  obtain ⟨rfl, rfl⟩ : b = b2 ∧ off = o2 := by simpa using e2
  exact ⟨b, off, rfl, by simpa using c0, by rw [Nat.add_assoc]; exact c1, by rw [Nat.add_assoc]; exact c2⟩
--% szAct 21
theorem sz_A (w : World) (v : Value) (ds : List ActD) (l : Int) (h : RdA w v ds) (hl : 0 ≤ l ∧ l ≤ 1048576) : Calls Try.prog 21 #[v, .int .i64 l] w (RetV (.int .i64 (leftOf l (sizeA ds))) w) := by
  obtain ⟨a, c, rfl, hlc, hm, hn, hc⟩ := RdA.acts h
  clear h hn hc
  unfold maxLen at hm
  unfold sizeA
  by_cases hs : l < ds.length
  · have HE := Lib.hid (leftOf_no hs)
    go_enter Try.func21, Try.ntmps21
    go_wp2
    go_ret
    exact ⟨ret_int HE.out.symm, Grow.refl _⟩
  · have HE := Lib.hid (leftOf_yes hs)
    go_enter Try.func21, Try.ntmps21
    go_wp2
    go_ret
    exact ⟨ret_int HE.out.symm, Grow.refl _⟩
--% toAct 70
theorem toAct_any (w : World) (d : ActD) : Calls Try.prog 70 #[actV d] w (RetV (.agg #[.int .i64 d.kind, .int .i64 d.a, .int .i64 d.b]) w) := by
  unfold actV
  go_enter Try.func70, Try.ntmps70
  go_wp2
  refine bodyPost_ret (v := .agg #[.int .i64 d.kind, .int .i64 d.a, .int .i64 d.b]) ?_ rfl ⟨rfl, ?_⟩
  · simp [results, Try.results70, go_sem]
  · ((repeat (first | with_reducible exact Grow.refl _ | (with_reducible refine Grow.alloc_ ?_ _) | (with_reducible refine Grow.setCell_ ?_ (by first | exact Nat.le_refl _ | (simp only [World.alloc, Array.size_push]; omega) | omega) _))))
--% eqAct 72
theorem eqAct_any (w : World) (x y : ActD) : Calls Try.prog 72 #[actV x, actV y] w (RetV (.bool (decide (x = y))) w) := by
  unfold actV
  by_cases h1 : x.kind = y.kind
  rotate_left
  · have hb : (x.kind != y.kind) = true := by simpa using h1
    have HN := Lib.hid h1; clear h1
    go_enter Try.func72, Try.ntmps72
    go_wp2
    go_ret
    refine ⟨ret_bool (decide_eq_false (fun h => HN.out (by rw [h]))).symm, ?_⟩
    ((repeat (first | with_reducible exact Grow.refl _ | (with_reducible refine Grow.alloc_ ?_ _) | (with_reducible refine Grow.setCell_ ?_ (by first | exact Nat.le_refl _ | (simp only [World.alloc, Array.size_push]; omega) | omega) _))))
  have hb1 : (x.kind != y.kind) = false := by rw [h1]; simp
  by_cases h2 : x.a = y.a
  rotate_left
  · have hb : (x.a != y.a) = true := by simpa using h2
    have HN := Lib.hid h2; clear h1 h2
    go_enter Try.func72, Try.ntmps72
    go_wp2
    go_ret
    refine ⟨ret_bool (decide_eq_false (fun h => HN.out (by rw [h]))).symm, ?_⟩
    ((repeat (first | with_reducible exact Grow.refl _ | (with_reducible refine Grow.alloc_ ?_ _) | (with_reducible refine Grow.setCell_ ?_ (by first | exact Nat.le_refl _ | (simp only [World.alloc, Array.size_push]; omega) | omega) _))))
  have hb2 : (x.a != y.a) = false := by rw [h2]; simp
  by_cases h3 : x.b = y.b
  rotate_left
  · have hb : (x.b != y.b) = true := by simpa using h3
    have HN := Lib.hid h3; clear h1 h2 h3
    go_enter Try.func72, Try.ntmps72
    go_wp2
    go_ret
    refine ⟨ret_bool (decide_eq_false (fun h => HN.out (by rw [h]))).symm, ?_⟩
    ((repeat (first | with_reducible exact Grow.refl _ | (with_reducible refine Grow.alloc_ ?_ _) | (with_reducible refine Grow.setCell_ ?_ (by first | exact Nat.le_refl _ | (simp only [World.alloc, Array.size_push]; omega) | omega) _))))
  have hb3 : (x.b != y.b) = false := by rw [h3]; simp
  have HE : Hid (x = y) := Lib.hid (by cases x; cases y; simp_all)
  clear h1 h2 h3
  go_enter Try.func72, Try.ntmps72
  go_wp2
  go_ret
  refine ⟨ret_bool (decide_eq_true HE.out).symm, ?_⟩
  ((repeat (first | with_reducible exact Grow.refl _ | (with_reducible refine Grow.alloc_ ?_ _) | (with_reducible refine Grow.setCell_ ?_ (by first | exact Nat.le_refl _ | (simp only [World.alloc, Array.size_push]; omega) | omega) _))))
--% half
/-- k acts copied, the rest still zero. -/
def actsH (ds : List ActD) (k : Nat) : List Value := actsC (ds.take k) ++ List.replicate ((ds.length - k) * 3) (.int .i64 0)
theorem actsH_zero (ds : List ActD) : actsH ds 0 = List.replicate (ds.length * 3) (.int .i64 0) := by simp [actsH, actsC]
theorem actsH_end (ds : List ActD) : actsH ds ds.length = actsC ds := by simp [actsH]
theorem actsC_app (xs ys : List ActD) : actsC (xs ++ ys) = actsC xs ++ actsC ys := by simp [actsC]
theorem made_acts (n : Nat) : (madeCells (actV ⟨0, 0, 0⟩).cells (n * 3)).toList = List.replicate (n * 3) (.int .i64 0) := by
  apply List.ext_getElem
  · simp [madeCells]
  · intro i h1 h2
    have h3 : i % 3 = 0 ∨ i % 3 = 1 ∨ i % 3 = 2 := by omega
    simp only [madeCells, Array.toList_map, List.getElem_map, Array.toList_range, List.getElem_range, List.getElem_replicate]
    show (#[Value.int .i64 0, .int .i64 0, .int .i64 0] : Array Value)[i % 3]! = _
    rcases h3 with h | h | h <;> rw [h] <;> rfl
theorem actsH_at (ds : List ActD) (k : Nat) (hk : k < ds.length) (j : Nat) (hj : j < 3) : (actsH ds k)[k * 3 + j]? = some (.int .i64 0) := by
  unfold actsH
  have e : (actsC (ds.take k)).length = k * 3 := by rw [actsC_len, List.length_take]; congr 1; omega
  rw [List.getElem?_append_right (by omega), e, List.getElem?_replicate, if_pos (by omega)]
theorem actsH_set (ds : List ActD) (k : Nat) (hk : k < ds.length) : (((actsH ds k).set (k * 3) (.int .i64 ds[k].kind)).set (k * 3 + 1) (.int .i64 ds[k].a)).set (k * 3 + 2) (.int .i64 ds[k].b) = actsH ds (k + 1) := by
  unfold actsH
  have e : (actsC (ds.take k)).length = k * 3 := by rw [actsC_len, List.length_take]; congr 1; omega
  have e2 : (ds.length - k) * 3 = (ds.length - (k + 1)) * 3 + 1 + 1 + 1 := by omega
  have e3 : ds.take (k + 1) = ds.take k ++ [ds[k]] := List.take_succ_eq_append_getElem hk
  rw [e2, e3, actsC_app, List.set_append_right _ _ (by omega), e, Nat.sub_self, List.replicate_succ, List.replicate_succ, List.replicate_succ, List.set_cons_zero, List.set_append_right _ _ (by omega), e, Nat.add_sub_cancel_left, List.set_cons_succ, List.set_cons_zero, List.set_append_right _ _ (by omega), e, Nat.add_sub_cancel_left, List.set_cons_succ, List.set_cons_succ, List.set_cons_zero, List.append_assoc]
  rfl
--% toActS 23
theorem Try.infoAct : (Try.prog.info? 96).map (fun i => (i.zero, i.size, i.bytes)) = some (some (actV ⟨0, 0, 0⟩), 3, 24) := by kernel_rfl
theorem to_A (w : World) (v : Value) (ds : List ActD) (h : RdA w v ds) (hs : SmA ds) : Calls Try.prog 23 #[v] w (RetNew OwnA ds w) := by
  obtain ⟨a, c, rfl, hlc, _, hn, hc⟩ := RdA.acts h
  clear h hn
  have H := Lib.hid hc; clear hc
  unfold SmA sizeA at hs
  obtain ⟨i0, hi, hz0, hz1, hz2⟩ := info_parts Try.infoAct
  go_enter Try.func23, Try.ntmps23
  go_wp2_with (refine wpList_make_full _ rfl _ _ 29 rfl w.heap.size 96 i0 (actV ⟨0, 0, 0⟩) 3 Try.underlying29 hi hz0 hz1 .i64 .i64 _ _ ds.length rfl rfl rfl rfl (by rw [hz2]; omega) (by unfold maxLen; omega) (Nat.le_refl _) ?_; intro w1 hown hgr)
  have hgw := Grow.of_grown hgr
  have hown0 : w1.ownsRow w.heap.size 96 3 (.slice (some ⟨w.heap.size, 0, none⟩) ds.length ds.length) ds.length (actsH ds 0) := by rw [actsH_zero]; rw [made_acts] at hown; exact hown
  clear hown hgr
  go_loopw [4] (fun i wr => ∃ k : Nat, k ≤ ds.length ∧ i = .int .i64 k ∧ wr.ownsRow w.heap.size 96 3 (.slice (some ⟨w.heap.size, 0, none⟩) ds.length ds.length) ds.length (actsH ds k) ∧ Grow w wr) (fun i _ => ds.length - (intOf i).toNat)
  case atStart => exact ⟨0, Nat.zero_le _, rfl, hown0, hgw⟩
  case round =>
    obtain ⟨k, hk, rfl, hown, hgr⟩ := hrel
    clear hown0 hgw
    by_cases hlt : k < ds.length
    · obtain ⟨b, o, rfl, s0, s1, s2⟩ := H.out k hlt
      have r0 := hgr.cell s0; have r1 := hgr.cell s1; have r2 := hgr.cell s2
      have HO := Lib.hid hown; clear hown
      have HG := Lib.hid hgr; clear hgr s0 s1 s2
      go_wp2_with fail
      refine (toAct_any _ ds[k]).mono ?_
      rintro e wq ⟨rfl, hg⟩
      have hq := own_grow HO.out hg
      have HG := Lib.hid (HG.out.trans hg)
      have d0 : wq.cell? ⟨w.heap.size, k * 3, none⟩ = some (.int .i64 0) := by rw [hq.cellAt (k * 3) (by omega)]; exact actsH_at ds k hlt 0 (by decide)
      have d1 : wq.cell? ⟨w.heap.size, k * 3 + 1, none⟩ = some (.int .i64 0) := by rw [hq.cellAt (k * 3 + 1) (by omega)]; exact actsH_at ds k hlt 1 (by decide)
      have d2 : wq.cell? ⟨w.heap.size, k * 3 + 2, none⟩ = some (.int .i64 0) := by rw [hq.cellAt (k * 3 + 2) (by omega)]; exact actsH_at ds k hlt 2 (by decide)
      have hf : ∀ o, wq.frozen? ⟨w.heap.size, o, none⟩ = false := fun o => hq.frozenAt o
      have h1 := (hq.stored (k * 3) (.int .i64 ds[k].kind)).1
      have h2 := (h1.stored (k * 3 + 1) (.int .i64 ds[k].a)).1
      have h3 := (h2.stored (k * 3 + 2) (.int .i64 ds[k].b)).1
      rw [actsH_set ds k hlt] at h3
      have HS := Lib.hid h3
      clear hq h1 h2 h3 hg HO r0 r1 r2
      go_wp2
      go_roundw
      case rel => exact ⟨k + 1, by omega, by go_num, HS.out, Below.setCell (Below.setCell (Below.setCell HG.out (Nat.le_refl _) _) (Nat.le_refl _) _) (Nat.le_refl _) _⟩
      case measure => simp [intOf]; omega
    · obtain rfl : k = ds.length := by omega
      go_wp2
      go_ret
      rw [actsH_end] at hown
      exact ⟨_, _, rfl, (OwnR.of hown).1, (OwnR.of hown).2, hgr⟩
--% eqActS 25
theorem eq_A (w : World) (v1 v2 : Value) (xs ys : List ActD) (h1 : RdA w v1 xs) (h2 : RdA w v2 ys) : Calls Try.prog 25 #[v1, v2] w (RetV (.bool (decide (xs = ys))) w) := by
  obtain ⟨a1, c1, rfl, hlc1, hm1, hn1, hc1⟩ := RdA.acts h1
  obtain ⟨a2, c2, rfl, hlc2, hm2, hn2, hc2⟩ := RdA.acts h2
  clear h1 h2 hn1 hn2
  have H1 := Lib.hid hc1; clear hc1
  have H2 := Lib.hid hc2; clear hc2
  unfold maxLen at hm1 hm2
  by_cases hl : xs.length = ys.length
  rotate_left
  · have hb : ((xs.length : Int) != (ys.length : Int)) = true := by simp; omega
    have hne : xs ≠ ys := fun h => hl (by rw [h])
    have HN := Lib.hid hne; clear hne
    go_enter Try.func25, Try.ntmps25
    go_wp2
    go_ret
    exact ⟨ret_bool (decide_eq_false HN.out).symm, Grow.refl _⟩
  have hb : ((xs.length : Int) != (ys.length : Int)) = false := by simp [hl]
  have HL := Lib.hid hl; clear hl
  go_enter Try.func25, Try.ntmps25
  go_wp2
  go_loopw [5] (fun i wr => ∃ k : Nat, k ≤ xs.length ∧ i = .int .i64 k ∧ xs.take k = ys.take k ∧ Grow w wr) (fun i _ => xs.length - (intOf i).toNat)
  case atStart => exact ⟨0, Nat.zero_le _, rfl, by simp, Grow.refl _⟩
  case round =>
    obtain ⟨k, hk, rfl, htk, hgr⟩ := hrel
    have HT := Lib.hid htk; clear htk
    have HG := Lib.hid hgr; clear hgr
    by_cases hlt : k < xs.length
    · have hlt2 : k < ys.length := by rw [← HL.out]; exact hlt
      obtain ⟨b1, o1, rfl, s0, s1, s2⟩ := H1.out k hlt
      obtain ⟨b2, o2, rfl, t0, t1, t2⟩ := H2.out k hlt2
      by_cases he : xs[k] = ys[k]
      · have hd := decide_eq_true he
        have HE := Lib.hid he; clear he
        go_wp2_with fail
        have hne : Nonempty (Cl (Grow wr)) := ⟨⟨wr, Grow.refl _⟩⟩
        have p0 : ∀ x : Cl (Grow wr), x.w.cell? ⟨b1, o1 + k * 3, none⟩ = some (.int .i64 xs[k].kind) := fun x => x.ok.cell (HG.out.cell s0)
        have p1 : ∀ x : Cl (Grow wr), x.w.cell? ⟨b1, o1 + k * 3 + 1, none⟩ = some (.int .i64 xs[k].a) := fun x => x.ok.cell (HG.out.cell s1)
        have p2 : ∀ x : Cl (Grow wr), x.w.cell? ⟨b1, o1 + k * 3 + 2, none⟩ = some (.int .i64 xs[k].b) := fun x => x.ok.cell (HG.out.cell s2)
        have p3 : ∀ x : Cl (Grow wr), x.w.cell? ⟨b2, o2 + k * 3, none⟩ = some (.int .i64 ys[k].kind) := fun x => x.ok.cell (HG.out.cell t0)
        have p4 : ∀ x : Cl (Grow wr), x.w.cell? ⟨b2, o2 + k * 3 + 1, none⟩ = some (.int .i64 ys[k].a) := fun x => x.ok.cell (HG.out.cell t1)
        have p5 : ∀ x : Cl (Grow wr), x.w.cell? ⟨b2, o2 + k * 3 + 2, none⟩ = some (.int .i64 ys[k].b) := fun x => x.ok.cell (HG.out.cell t2)
        refine wp_region_mix (Cls (Grow wr)) 10 #[false, false, false, false, false, false, false, false, false, false] (by kernel_rfl) (by kernel_rfl) ⟨⟨_, Grow.drewN _ 1⟩, rfl⟩ ?_
        refine anyC_seg [0, 1, 2, 3, 4, 5, 6, 7] #[true, true, true, true, true, true, true, true, false, false] (fuel := 2) rfl (by kernel_rfl) ⟨⟨_, Grow.drewN _ 1⟩, rfl⟩ ?_
        simp only [pickOps, List.getD_cons_succ, List.getD_cons_zero]
        repeat (go_big_quiet_step (fail))
        refine wpQuiet_nil ?_
        refine anyC_sole 8 #[true, true, true, true, true, true, true, true, true, false] (fuel := 1) (by kernel_rfl) ?_
        simp only [List.getD_cons_succ, List.getD_cons_zero]
        go_wp2_with fail
        refine (eqAct_any _ xs[k] ys[k]).mono ?_
        rintro e w1 ⟨rfl, hg⟩
        rw [hd]
        have D1 := Lib.hid ((Grow.drewN _ 1).trans hg); clear hg
        go_wp2
        refine ⟨⟨⟨_, D1.out⟩, rfl⟩, ?_⟩
        refine anyC_seg [9] #[true, true, true, true, true, true, true, true, true, true] (fuel := 0) rfl (by kernel_rfl) ⟨⟨_, D1.out⟩, rfl⟩ ?_
        simp only [pickOps, List.getD_cons_succ, List.getD_cons_zero]
        repeat (go_big_quiet_step (fail))
        refine wpQuiet_nil ?_
        refine anyC_done (by kernel_rfl) ?_
        go_wp2
        go_roundw
        case rel => exact ⟨k + 1, by omega, by go_num, take_succ_eq hlt hlt2 HT.out HE.out, HG.out.trans D1.out⟩
        case measure => simp [intOf]; omega
      · have hd := decide_eq_false he
        have HE := Lib.hid he; clear he
        go_wp2_with fail
        have hne : Nonempty (Cl (Grow wr)) := ⟨⟨wr, Grow.refl _⟩⟩
        have p0 : ∀ x : Cl (Grow wr), x.w.cell? ⟨b1, o1 + k * 3, none⟩ = some (.int .i64 xs[k].kind) := fun x => x.ok.cell (HG.out.cell s0)
        have p1 : ∀ x : Cl (Grow wr), x.w.cell? ⟨b1, o1 + k * 3 + 1, none⟩ = some (.int .i64 xs[k].a) := fun x => x.ok.cell (HG.out.cell s1)
        have p2 : ∀ x : Cl (Grow wr), x.w.cell? ⟨b1, o1 + k * 3 + 2, none⟩ = some (.int .i64 xs[k].b) := fun x => x.ok.cell (HG.out.cell s2)
        have p3 : ∀ x : Cl (Grow wr), x.w.cell? ⟨b2, o2 + k * 3, none⟩ = some (.int .i64 ys[k].kind) := fun x => x.ok.cell (HG.out.cell t0)
        have p4 : ∀ x : Cl (Grow wr), x.w.cell? ⟨b2, o2 + k * 3 + 1, none⟩ = some (.int .i64 ys[k].a) := fun x => x.ok.cell (HG.out.cell t1)
        have p5 : ∀ x : Cl (Grow wr), x.w.cell? ⟨b2, o2 + k * 3 + 2, none⟩ = some (.int .i64 ys[k].b) := fun x => x.ok.cell (HG.out.cell t2)
        refine wp_region_mix (Cls (Grow wr)) 10 #[false, false, false, false, false, false, false, false, false, false] (by kernel_rfl) (by kernel_rfl) ⟨⟨_, Grow.drewN _ 1⟩, rfl⟩ ?_
        refine anyC_seg [0, 1, 2, 3, 4, 5, 6, 7] #[true, true, true, true, true, true, true, true, false, false] (fuel := 2) rfl (by kernel_rfl) ⟨⟨_, Grow.drewN _ 1⟩, rfl⟩ ?_
        simp only [pickOps, List.getD_cons_succ, List.getD_cons_zero]
        repeat (go_big_quiet_step (fail))
        refine wpQuiet_nil ?_
        refine anyC_sole 8 #[true, true, true, true, true, true, true, true, true, false] (fuel := 1) (by kernel_rfl) ?_
        simp only [List.getD_cons_succ, List.getD_cons_zero]
        go_wp2_with fail
        refine (eqAct_any _ xs[k] ys[k]).mono ?_
        rintro e w1 ⟨rfl, hg⟩
        rw [hd]
        have D1 := Lib.hid ((Grow.drewN _ 1).trans hg); clear hg
        go_wp2
        refine ⟨⟨⟨_, D1.out⟩, rfl⟩, ?_⟩
        refine anyC_seg [9] #[true, true, true, true, true, true, true, true, true, true] (fuel := 0) rfl (by kernel_rfl) ⟨⟨_, D1.out⟩, rfl⟩ ?_
        simp only [pickOps, List.getD_cons_succ, List.getD_cons_zero]
        repeat (go_big_quiet_step (fail))
        refine wpQuiet_nil ?_
        refine anyC_done (by kernel_rfl) ?_
        go_wp2
        go_ret
        exact ⟨ret_bool (decide_eq_false (ne_of_at hlt hlt2 HE.out)).symm, HG.out.trans D1.out⟩
    · go_wp2
      go_ret
      exact ⟨ret_bool (decide_eq_true (by have := HT.out; rwa [List.take_of_length_le (by omega), List.take_of_length_le (by rw [← HL.out]; omega)] at this)).symm, HG.out⟩
--%
end Go.Proofs.Ytgigdpdmdldhnaa
