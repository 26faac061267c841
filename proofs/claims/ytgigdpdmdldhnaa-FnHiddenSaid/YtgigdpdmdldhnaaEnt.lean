/- Entries of a flow table: what they read as; contracts of the laws' helpers (bool results only: OwnE tells nothing of blocks). -/
import Derived.Test.YtgigdpdmdldhnaaAc
import Derived.Test.YtgigdpdmdldhnaaMt
import Derived.WalkKit
import Derived.ProofKit
import Derived.Deep.QuietTactic
import Derived.BigQuiet
import Derived.Outline
import Derived.WalkSpells
namespace Go.Proofs.Ytgigdpdmdldhnaa
open Go.ChangeShapes Go.WideShapes Go.ChangeAt Go.RowKit
set_option linter.unusedVariables false
set_option linter.unusedSimpArgs false
--%
structure EntryD where
  epoch : Int
  prio : Int
  m : MatchD
  acts : List ActD
  hits : Int
deriving DecidableEq
abbrev DatE := EntryD
def RdE (w : World) (V : Value) (d : EntryD) : Prop := ∃ v0 v1 v2, V = .agg #[.int .i64 d.epoch, .int .i64 d.prio, v0, v1, v2, .int .i64 d.hits] ∧ RdN w v0 d.m.vs ∧ RdN w v1 d.m.ms ∧ RdA w v2 d.acts
def OwnE (w : World) (V : Value) (d : EntryD) (fp : List Nat) : Prop := RdE w V d ∧ fp = []
def WfE (d : EntryD) : Prop := (-9223372036854775808 ≤ d.epoch ∧ d.epoch ≤ 9223372036854775807) ∧ (-9223372036854775808 ≤ d.prio ∧ d.prio ≤ 9223372036854775807) ∧ WfM d.m ∧ WfA d.acts ∧ (-9223372036854775808 ≤ d.hits ∧ d.hits ≤ 9223372036854775807)
def sizeE (d : EntryD) : Int := sizeM d.m + sizeA d.acts
def SmE (d : EntryD) : Prop := sizeE d ≤ 1048576
theorem SmE.m {d : EntryD} (h : SmE d) : SmM d.m := by unfold SmE sizeE sizeA at h; unfold SmM; omega
theorem SmE.acts {d : EntryD} (h : SmE d) : SmA d.acts := by unfold SmE sizeE sizeM at h; unfold SmA; omega
theorem RdE.grow {w w' : World} {V : Value} {d : EntryD} (h : RdE w V d) (g : Grow w w') : RdE w' V d := by
  obtain ⟨v0, v1, v2, e, h0, h1, h2⟩ := h; exact ⟨v0, v1, v2, e, h0.grow g, h1.grow g, h2.grow g⟩
theorem OwnE.rd {w : World} {V : Value} {d : EntryD} {fp : List Nat} (h : OwnE w V d fp) : RdE w V d := h.1
theorem OwnE.here {w : World} {V : Value} {d : EntryD} {fp : List Nat} (h : OwnE w V d fp) : Here w fp := by obtain ⟨_, rfl⟩ := h; intro b hb; cases hb
theorem OwnE.grow {w w' : World} {V : Value} {d : EntryD} {fp : List Nat} (h : OwnE w V d fp) (g : Grow w w') : OwnE w' V d fp := ⟨h.1.grow g, h.2⟩
theorem RdE.shape {w : World} {V : Value} {d : EntryD} (h : RdE w V d) : ∃ a c a' c' a'' c'', V = .agg #[.int .i64 d.epoch, .int .i64 d.prio, .slice a d.m.vs.length c, .slice a' d.m.ms.length c', .slice a'' d.acts.length c'', .int .i64 d.hits] := by
  obtain ⟨v0, v1, v2, rfl, h0, h1, h2⟩ := h
  obtain ⟨a, c, rfl, _⟩ := Rd.ints h0
  obtain ⟨a', c', rfl, _⟩ := Rd.ints h1
  obtain ⟨a'', c'', rfl, _⟩ := RdA.acts h2
  exact ⟨a, c, a', c', a'', c'', rfl⟩
theorem RdA.sh {w : World} {v : Value} {ds : List ActD} (h : RdA w v ds) : ∃ a c, v = .slice a ds.length c := by
  obtain ⟨a, c, rfl, _⟩ := RdA.acts h; exact ⟨a, c, rfl⟩
theorem RdN.sh {w : World} {v : Value} {zs : List Int} (h : RdN w v zs) : ∃ a c, v = .slice a zs.length c := by
  obtain ⟨a, c, rfl, _⟩ := Rd.ints h; exact ⟨a, c, rfl⟩
theorem RdE.mOf {w : World} {v0 v1 : Value} {d : MatchD} (h0 : RdN w v0 d.vs) (h1 : RdN w v1 d.ms) : RdM w (.agg #[v0, v1]) d := ⟨_, _, rfl, h0, h1⟩
--% Upd1
theorem Upd.one_cell (W : World) (b o : Nat) (x : Value) : Upd [b] W (W.setCell ⟨b, o, none⟩ x) := Upd.setCell (Upd.refl _ _) (by simp) _
--% szEntry 47
theorem sz_E (w : World) (V : Value) (d : EntryD) (l : Int) (h : RdE w V d) (hl : 0 ≤ l ∧ l ≤ 1048576) : Calls Try.prog 47 #[V, .int .i64 l] w (RetV (.int .i64 (leftOf l (sizeE d))) w) := by
  obtain ⟨v0, v1, v2, rfl, h0, h1, h2⟩ := h
  have HM := Lib.hid (RdE.mOf h0 h1); have HA := Lib.hid h2; clear h0 h1 h2
  have hm0 : 0 ≤ sizeM d.m := by unfold sizeM; omega
  have ha0 : 0 ≤ sizeA d.acts := by unfold sizeA; omega
  have hmb : sizeM d.m = sizeM d.m := rfl
  by_cases q1 : l < sizeM d.m
  · have hz : leftOf l (sizeE d) = -1 := by unfold sizeE; exact leftOf_no (by omega)
    have HZ := Lib.hid hz; clear hz
    have HL := Lib.hid (leftOf_no q1); clear q1 hmb
    go_enter Try.func47, Try.ntmps47
    go_wp2_with fail
    refine at_world (w := w) ?G (fun hG => (sz_M _ _ d.m _ (HM.out.grow hG) hl).mono ?_)
    case G => ((repeat (first | with_reducible exact Grow.refl _ | (with_reducible refine Grow.alloc_ ?_ _) | (with_reducible refine Grow.setCell_ ?_ (by first | exact Nat.le_refl _ | (simp only [World.alloc, Array.size_push]; omega) | omega) _))))
    rw [HL.out]
    rintro e w1 ⟨rfl, hg⟩
    have HG := Lib.hid (hG.trans hg); clear hg hG
    go_wp2
    go_ret
    exact ⟨ret_int HZ.out.symm, HG.out⟩
  have HL := Lib.hid (leftOf_yes q1)
  have hq : 0 ≤ l - sizeM d.m ∧ l - sizeM d.m ≤ 1048576 := by omega
  have hz : leftOf l (sizeE d) = leftOf (l - sizeM d.m) (sizeA d.acts) := by unfold sizeE leftOf; split <;> split <;> omega
  have hr : leftOf (l - sizeM d.m) (sizeA d.acts) = -1 ∨ (0 ≤ leftOf (l - sizeM d.m) (sizeA d.acts) ∧ leftOf (l - sizeM d.m) (sizeA d.acts) ≤ 1048576) := by unfold leftOf; split <;> omega
  have HZ := Lib.hid hz; clear hz
  have H1 := Lib.hid (fun w h => sz_A w v2 d.acts (l - sizeM d.m) h hq)
  generalize leftOf (l - sizeM d.m) (sizeA d.acts) = q at *
  generalize l - sizeM d.m = l1 at *
  clear q1 hmb
  have HR : Hid (q = -1 ∨ (0 ≤ q ∧ q ≤ 1048576)) := Lib.hid hr; clear hr
  rcases HR.out with rfl | hq2
  all_goals (
    go_enter Try.func47, Try.ntmps47
    go_wp2_with fail
    refine at_world (w := w) ?G (fun hG => (sz_M _ _ d.m _ (HM.out.grow hG) hl).mono ?_)
    case G => ((repeat (first | with_reducible exact Grow.refl _ | (with_reducible refine Grow.alloc_ ?_ _) | (with_reducible refine Grow.setCell_ ?_ (by first | exact Nat.le_refl _ | (simp only [World.alloc, Array.size_push]; omega) | omega) _))))
    rw [HL.out]
    rintro e w1 ⟨rfl, hg⟩
    have HG := Lib.hid (hG.trans hg)
    obtain ⟨hc, hfz⟩ := bcell hg
    clear hg hG
    go_wp2_with fail
    refine at_world (w := w) ?G (fun hG => (H1.out _ (HA.out.grow hG)).mono ?_)
    case G => (((repeat (first | with_reducible exact Grow.refl _ | (with_reducible refine Grow.alloc_ ?_ _) | (with_reducible refine Grow.setCell_ ?_ (by first | exact Nat.le_refl _ | (simp only [World.alloc, Array.size_push]; omega) | omega) _)))); exact HG.out)
    rintro e w2 ⟨rfl, hg⟩
    have HG := Lib.hid (hG.trans hg); clear hg hG
    go_wp2
    go_ret
    exact ⟨ret_int HZ.out.symm, HG.out⟩)
--% toEntry 49
theorem to_E (w : World) (V : Value) (d : EntryD) (h : RdE w V d) (hs : SmE d) : Calls Try.prog 49 #[V] w (RetNew OwnE d w) := by
  obtain ⟨v0, v1, v2, rfl, h0, h1, h2⟩ := h
  have HM := Lib.hid (RdE.mOf h0 h1); have HA := Lib.hid h2; clear h0 h1 h2
  have SM := Lib.hid hs.m; have SA := Lib.hid hs.acts; clear hs
  go_enter Try.func49, Try.ntmps49
  go_wp2_with fail
  refine at_world (w := w) ?G (fun hG => (to_M _ _ d.m (HM.out.grow hG) SM.out).mono ?_)
  case G => ((repeat (first | with_reducible exact Grow.refl _ | (with_reducible refine Grow.alloc_ ?_ _) | (with_reducible refine Grow.setCell_ ?_ (by first | exact Nat.le_refl _ | (simp only [World.alloc, Array.size_push]; omega) | omega) _))))
  rintro e w1 ⟨vm, fp1, rfl, ho, hf, hg⟩
  obtain ⟨a0, c0, a1, c1, rfl⟩ := ho.rd.shape
  have HG1 := Lib.hid (hG.trans hg)
  have HO := Lib.hid ho
  have BP := Lib.hid ((Box.alloc w _ _).grow ((Grow.alloc _ _).trans ((Grow.alloc _ _).trans hg)))
  have BR := Lib.hid (((Box.alloc (w.alloc _) _ _).grow ((Grow.alloc _ _).trans hg)).at_ (b' := w.heap.size + 1) (by simp only [World.alloc, Array.size_push]))
  have BO := Lib.hid (((Box.alloc ((w.alloc _).alloc _) _ _).grow hg).at_ (b' := w.heap.size + 1 + 1) (by simp only [World.alloc, Array.size_push]))
  have HF1 : Hid (∀ x ∈ fp1, w.heap.size + 1 + 1 < x) := Lib.hid (fun x hx => by have h1 := hf x hx; simp only [World.alloc, Array.size_push] at h1; omega)
  clear ho hf hg hG
  have ⟨p0, p1, p2, p3, p4, p5⟩ := BP.out.six
  have pl := BP.out.1
  have ⟨q0, q1, q2, q3, q4, q5⟩ := BO.out.six
  have qz := BO.out.2.2
  have ql := BO.out.1
  go_wp2_with fail
  refine at_world (w := w) ?G (fun hG => (to_A _ _ d.acts (HA.out.grow hG) SA.out).mono ?_)
  case G => (((repeat (first | with_reducible exact Grow.refl _ | (with_reducible refine Grow.alloc_ ?_ _) | (with_reducible refine Grow.setCell_ ?_ (by first | exact Nat.le_refl _ | (simp only [World.alloc, Array.size_push]; omega) | omega) _)))); exact HG1.out)
  rintro e w2 ⟨va, fp2, rfl, ho2, hf2, hg⟩
  obtain ⟨a2, c2, rfl⟩ := ho2.rd.sh
  have HG2 := Lib.hid (hG.trans hg)
  have BO2 := Lib.hid (((BO.out.set 2 (.slice a0 d.m.vs.length c0) (by simp)).set 3 (.slice a1 d.m.ms.length c1) (by simp)).grow hg)
  have U1 := Lib.hid (Upd.setCell (Upd.one_cell w1 (w.heap.size + 1 + 1) 2 (.slice a0 d.m.vs.length c0)) (p := ⟨w.heap.size + 1 + 1, 3, none⟩) (by simp) (.slice a1 d.m.ms.length c1))
  have BR2 := Lib.hid ((BR.out.upd U1.out (by simp)).grow hg)
  have BP2 := Lib.hid ((BP.out.upd U1.out (by simp; omega)).grow hg)
  have HO1 := Lib.hid ((HO.out.upd U1.out (fun x hx hm => by have := HF1.out x hx; simp only [List.mem_cons, List.not_mem_nil, or_false] at hm; omega)).grow hg)
  have HO2 := Lib.hid ho2
  have HF2 : Hid (∀ x ∈ fp2, w.heap.size + 1 + 1 < x) := Lib.hid (fun x hx => by have h1 := hf2 x hx; have h2 := BO.out.1; have h3 := U1.out.size; omega)
  have HR : Hid (∀ W, Upd [w.heap.size + 1 + 1, w.heap.size + 1] w2 W → RetNew OwnE d w (.returned (.agg #[.int .i64 d.epoch, .int .i64 d.prio, .slice a0 d.m.vs.length c0, .slice a1 d.m.ms.length c1, .slice a2 d.acts.length c2, .int .i64 d.hits])) W) := Lib.hid (fun W hu => by
    have o1 := HO1.out.upd hu (fun x hx hm => by have := HF1.out x hx; simp only [List.mem_cons, List.not_mem_nil, or_false] at hm; omega)
    have o2 := HO2.out.upd hu (fun x hx hm => by have := HF2.out x hx; simp only [List.mem_cons, List.not_mem_nil, or_false] at hm; omega)
    obtain ⟨u0, u1, e, k0, k1⟩ := o1.rd
    obtain ⟨rfl, rfl⟩ : Value.slice a0 d.m.vs.length c0 = u0 ∧ Value.slice a1 d.m.ms.length c1 = u1 := by simpa using e
    exact ⟨_, [], rfl, ⟨⟨_, _, _, rfl, k0, k1, o2.rd⟩, rfl⟩, by simp [Fresh], HG2.out.box_end hu (by intro b hb; simp only [List.mem_cons, List.not_mem_nil, or_false] at hb; omega)⟩)
  have HGW := Lib.hid HG2.out
  clear ho2 hf2 hG hg p0 p1 p2 p3 p4 p5 pl q0 q1 q2 q3 q4 q5 qz ql
  have ⟨p0, p1, p2, p3, p4, p5⟩ := BP2.out.six
  have pl := BP2.out.1
  have ⟨r0, r1, r2, r3, r4, r5⟩ := BR2.out.six
  have rz := BR2.out.2.2
  have rl := BR2.out.1
  have ⟨q0, q1, q2, q3, q4, q5⟩ := BO2.out.six
  have qz := BO2.out.2.2
  have ql := BO2.out.1
  go_wp2
  refine bodyPost_ret (v := .agg #[.int .i64 d.epoch, .int .i64 d.prio, .slice a0 d.m.vs.length c0, .slice a1 d.m.ms.length c1, .slice a2 d.acts.length c2, .int .i64 d.hits]) ?_ rfl (HR.out _ ?_)
  · simp [results, Try.results49, go_sem, r0, r1, r2, r3, r4, r5, rz, rl, q0, q1, q2, q3, q4, q5, qz, ql]
  · ((repeat (first | with_reducible exact Upd.refl _ _ | (with_reducible refine Upd.setCell ?_ (by simp) _))))
--% eqEntry 51
theorem eq_E (w : World) (V1 V2 : Value) (x y : EntryD) (h1 : RdE w V1 x) (h2 : RdE w V2 y) : Calls Try.prog 51 #[V1, V2] w (RetV (.bool (decide (x = y))) w) := by
  obtain ⟨v0, v1, v2, rfl, p0, p1, p2⟩ := h1
  obtain ⟨u0, u1, u2, rfl, r0, r1, r2⟩ := h2
  have HM := Lib.hid (RdE.mOf p0 p1); have HA := Lib.hid p2
  have KM := Lib.hid (RdE.mOf r0 r1); have KA := Lib.hid r2
  clear p0 p1 p2 r0 r1 r2
  by_cases e_epoch : x.epoch = y.epoch
  rotate_left
  · have hb : (x.epoch != y.epoch) = true := by simpa using e_epoch
    have HN := Lib.hid e_epoch; clear e_epoch
    go_enter Try.func51, Try.ntmps51
    go_wp2
    go_ret
    refine ⟨ret_bool (decide_eq_false (fun h => HN.out (by rw [h]))).symm, ?_⟩
    ((repeat (first | with_reducible exact Grow.refl _ | (with_reducible refine Grow.alloc_ ?_ _) | (with_reducible refine Grow.setCell_ ?_ (by first | exact Nat.le_refl _ | (simp only [World.alloc, Array.size_push]; omega) | omega) _))))
  have hb_epoch : (x.epoch != y.epoch) = false := by rw [e_epoch]; simp
  have E_epoch := Lib.hid e_epoch; clear e_epoch
  by_cases e_prio : x.prio = y.prio
  rotate_left
  · have hb : (x.prio != y.prio) = true := by simpa using e_prio
    have HN := Lib.hid e_prio; clear e_prio
    go_enter Try.func51, Try.ntmps51
    go_wp2
    go_ret
    refine ⟨ret_bool (decide_eq_false (fun h => HN.out (by rw [h]))).symm, ?_⟩
    ((repeat (first | with_reducible exact Grow.refl _ | (with_reducible refine Grow.alloc_ ?_ _) | (with_reducible refine Grow.setCell_ ?_ (by first | exact Nat.le_refl _ | (simp only [World.alloc, Array.size_push]; omega) | omega) _))))
  have hb_prio : (x.prio != y.prio) = false := by rw [e_prio]; simp
  have E_prio := Lib.hid e_prio; clear e_prio
  by_cases em : x.m = y.m
  rotate_left
  · have hm := decide_eq_false em
    have HN := Lib.hid em; clear em
    go_enter Try.func51, Try.ntmps51
    go_wp2_with fail
    refine at_world (w := w) ?G (fun hG => (eq_M _ _ _ x.m y.m (HM.out.grow hG) (KM.out.grow hG)).mono ?_)
    case G => ((repeat (first | with_reducible exact Grow.refl _ | (with_reducible refine Grow.alloc_ ?_ _) | (with_reducible refine Grow.setCell_ ?_ (by first | exact Nat.le_refl _ | (simp only [World.alloc, Array.size_push]; omega) | omega) _))))
    rintro e w1 ⟨rfl, hg⟩
    rw [hm]
    have HG := Lib.hid (hG.trans hg)
    have BX := Lib.hid ((Box.alloc w _ _).grow ((Grow.alloc _ _).trans hg))
    have BY := Lib.hid (((Box.alloc (w.alloc _) _ _).grow hg).at_ (b' := w.heap.size + 1) (by simp only [World.alloc, Array.size_push]))
    clear hG hg
    have ⟨a0, a1, a2, a3, a4, a5⟩ := BX.out.six
    have al := BX.out.1
    have ⟨b0, b1, b2, b3, b4, b5⟩ := BY.out.six
    have bl := BY.out.1
    go_wp2
    go_ret
    exact ⟨ret_bool (decide_eq_false (fun h => HN.out (by rw [h]))).symm, HG.out⟩
  have hm := decide_eq_true em
  have EM := Lib.hid em; clear em
  by_cases ea : x.acts = y.acts
  rotate_left
  · have ha := decide_eq_false ea
    have HN := Lib.hid ea; clear ea
    go_enter Try.func51, Try.ntmps51
    go_wp2_with fail
    refine at_world (w := w) ?G (fun hG => (eq_M _ _ _ x.m y.m (HM.out.grow hG) (KM.out.grow hG)).mono ?_)
    case G => ((repeat (first | with_reducible exact Grow.refl _ | (with_reducible refine Grow.alloc_ ?_ _) | (with_reducible refine Grow.setCell_ ?_ (by first | exact Nat.le_refl _ | (simp only [World.alloc, Array.size_push]; omega) | omega) _))))
    rintro e w1 ⟨rfl, hg⟩
    rw [hm]
    have HG := Lib.hid (hG.trans hg)
    have BX := Lib.hid ((Box.alloc w _ _).grow ((Grow.alloc _ _).trans hg))
    have BY := Lib.hid (((Box.alloc (w.alloc _) _ _).grow hg).at_ (b' := w.heap.size + 1) (by simp only [World.alloc, Array.size_push]))
    clear hG hg
    have ⟨a0, a1, a2, a3, a4, a5⟩ := BX.out.six
    have al := BX.out.1
    have ⟨b0, b1, b2, b3, b4, b5⟩ := BY.out.six
    have bl := BY.out.1
    go_wp2_with fail
    refine (eq_A _ _ _ x.acts y.acts (HA.out.grow HG.out) (KA.out.grow HG.out)).mono ?_
    rintro e w2 ⟨rfl, hg⟩
    rw [ha]
    have HG := Lib.hid (HG.out.trans hg)
    have BX := Lib.hid (BX.out.grow hg)
    have BY := Lib.hid (BY.out.grow hg)
    clear hg a0 a1 a2 a3 a4 a5 al b0 b1 b2 b3 b4 b5 bl
    have ⟨a0, a1, a2, a3, a4, a5⟩ := BX.out.six
    have al := BX.out.1
    have ⟨b0, b1, b2, b3, b4, b5⟩ := BY.out.six
    have bl := BY.out.1
    go_wp2
    go_ret
    exact ⟨ret_bool (decide_eq_false (fun h => HN.out (by rw [h]))).symm, HG.out⟩
  have ha := decide_eq_true ea
  have EA := Lib.hid ea; clear ea
  by_cases eh : x.hits = y.hits
  rotate_left
  · have hb : (x.hits != y.hits) = true := by simpa using eh
    have HN := Lib.hid eh; clear eh
    go_enter Try.func51, Try.ntmps51
    go_wp2_with fail
    refine at_world (w := w) ?G (fun hG => (eq_M _ _ _ x.m y.m (HM.out.grow hG) (KM.out.grow hG)).mono ?_)
    case G => ((repeat (first | with_reducible exact Grow.refl _ | (with_reducible refine Grow.alloc_ ?_ _) | (with_reducible refine Grow.setCell_ ?_ (by first | exact Nat.le_refl _ | (simp only [World.alloc, Array.size_push]; omega) | omega) _))))
    rintro e w1 ⟨rfl, hg⟩
    rw [hm]
    have HG := Lib.hid (hG.trans hg)
    have BX := Lib.hid ((Box.alloc w _ _).grow ((Grow.alloc _ _).trans hg))
    have BY := Lib.hid (((Box.alloc (w.alloc _) _ _).grow hg).at_ (b' := w.heap.size + 1) (by simp only [World.alloc, Array.size_push]))
    clear hG hg
    have ⟨a0, a1, a2, a3, a4, a5⟩ := BX.out.six
    have al := BX.out.1
    have ⟨b0, b1, b2, b3, b4, b5⟩ := BY.out.six
    have bl := BY.out.1
    go_wp2_with fail
    refine (eq_A _ _ _ x.acts y.acts (HA.out.grow HG.out) (KA.out.grow HG.out)).mono ?_
    rintro e w2 ⟨rfl, hg⟩
    rw [ha]
    have HG := Lib.hid (HG.out.trans hg)
    have BX := Lib.hid (BX.out.grow hg)
    have BY := Lib.hid (BY.out.grow hg)
    clear hg a0 a1 a2 a3 a4 a5 al b0 b1 b2 b3 b4 b5 bl
    have ⟨a0, a1, a2, a3, a4, a5⟩ := BX.out.six
    have al := BX.out.1
    have ⟨b0, b1, b2, b3, b4, b5⟩ := BY.out.six
    have bl := BY.out.1
    go_wp2
    go_ret
    exact ⟨ret_bool (decide_eq_false (fun h => HN.out (by rw [h]))).symm, HG.out⟩
  have hb_h : (x.hits != y.hits) = false := by rw [eh]; simp
  have HE : Hid (x = y) := Lib.hid (by cases x; cases y; simp only [EntryD.mk.injEq]; exact ⟨E_epoch.out, E_prio.out, EM.out, EA.out, eh⟩)
  clear eh
  go_enter Try.func51, Try.ntmps51
  go_wp2_with fail
  refine at_world (w := w) ?G (fun hG => (eq_M _ _ _ x.m y.m (HM.out.grow hG) (KM.out.grow hG)).mono ?_)
  case G => ((repeat (first | with_reducible exact Grow.refl _ | (with_reducible refine Grow.alloc_ ?_ _) | (with_reducible refine Grow.setCell_ ?_ (by first | exact Nat.le_refl _ | (simp only [World.alloc, Array.size_push]; omega) | omega) _))))
  rintro e w1 ⟨rfl, hg⟩
  rw [hm]
  have HG := Lib.hid (hG.trans hg)
  have BX := Lib.hid ((Box.alloc w _ _).grow ((Grow.alloc _ _).trans hg))
  have BY := Lib.hid (((Box.alloc (w.alloc _) _ _).grow hg).at_ (b' := w.heap.size + 1) (by simp only [World.alloc, Array.size_push]))
  clear hG hg
  have ⟨a0, a1, a2, a3, a4, a5⟩ := BX.out.six
  have al := BX.out.1
  have ⟨b0, b1, b2, b3, b4, b5⟩ := BY.out.six
  have bl := BY.out.1
  go_wp2_with fail
  refine (eq_A _ _ _ x.acts y.acts (HA.out.grow HG.out) (KA.out.grow HG.out)).mono ?_
  rintro e w2 ⟨rfl, hg⟩
  rw [ha]
  have HG := Lib.hid (HG.out.trans hg)
  have BX := Lib.hid (BX.out.grow hg)
  have BY := Lib.hid (BY.out.grow hg)
  clear hg a0 a1 a2 a3 a4 a5 al b0 b1 b2 b3 b4 b5 bl
  have ⟨a0, a1, a2, a3, a4, a5⟩ := BX.out.six
  have al := BX.out.1
  have ⟨b0, b1, b2, b3, b4, b5⟩ := BY.out.six
  have bl := BY.out.1
  go_wp2
  go_ret
  exact ⟨ret_bool (decide_eq_true HE.out).symm, HG.out⟩
--%
end Go.Proofs.Ytgigdpdmdldhnaa
