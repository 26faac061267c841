/- TableOk: what a right table is; contracts of the code (printed by gtok.py). -/
import Derived.Test.YtgigdpdmdldhnaaKey
import Derived.Test.YtgigdpdmdldhnaaTab
import Derived.WalkKit
import Derived.ProofKit
import Derived.Deep.QuietTactic
import Derived.BigQuiet
import Derived.Outline
import Derived.WalkSpells
namespace Go.Proofs.Ytgigdpdmdldhnaa
open Go.ChangeShapes Go.WideShapes Go.ChangeAt Go.RowKit
set_option linter.unusedVariables false
set_option linter.unusedSimpArgs false
--%
def tRow (es : List EntryD) (i : Nat) : Prop := enOk (es.getD i default) = true ∧ (∀ j, j < i → ¬ Bef (es.getD i default) (es.getD j default)) ∧ (∀ j, j < i → keyB (es.getD j default) (es.getD i default) = false)
def tbOk (d : TableD) : Prop := (0 ≤ d.cap ∧ d.cap ≤ 400) ∧ (d.es.length : Int) ≤ d.cap ∧ ∀ i, i < d.es.length → tRow d.es i
instance (es : List EntryD) (i : Nat) : Decidable (tRow es i) := by unfold tRow; exact inferInstance
instance (d : TableD) : Decidable (tbOk d) := by unfold tbOk; exact inferInstance
def tbB (d : TableD) : Bool := decide (tbOk d)
theorem tbB_yes {d : TableD} (h : tbOk d) : tbB d = true := by unfold tbB; exact decide_eq_true h
theorem tbB_no {d : TableD} (h : ¬ tbOk d) : tbB d = false := by unfold tbB; exact decide_eq_false h
theorem getD_E {es : List EntryD} {k : Nat} (h : k < es.length) : es.getD k default = es[k] := by simp [List.getElem?_eq_getElem h]
/-- The entries of a list that is not empty lie in one block. -/
theorem ent_open {w : World} {es : List EntryD} {a : Option Addr} {k : Nat} (H : ∀ j (hj : j < es.length), ∃ b off v0 v1 v2, a = some ⟨b, off, none⟩ ∧ EntAt w b (off + j * 6) v0 v1 v2 es[j]) (hk : k < es.length) :
    ∃ b off, a = some ⟨b, off, none⟩ ∧ ∀ j, j < es.length → ∃ a0 k0 a1 k1 a2 k2, EntAt w b (off + j * 6) (.slice a0 (es.getD j default).m.vs.length k0) (.slice a1 (es.getD j default).m.ms.length k1) (.slice a2 (es.getD j default).acts.length k2) (es.getD j default) := by
  obtain ⟨b, off, -, -, -, rfl, -⟩ := H k hk
  refine ⟨b, off, rfl, fun j hj => ?_⟩
  obtain ⟨b', off', v0, v1, v2, e, he⟩ := H j hj
  injection e with e; injection e with e1 e2
  subst e1 e2
  rw [getD_E hj]
  obtain ⟨a0, k0, rfl⟩ := RdN.sh he.2.2.2.2.2.2.1
  obtain ⟨a1, k1, rfl⟩ := RdN.sh he.2.2.2.2.2.2.2.1
  obtain ⟨a2, k2, rfl⟩ := RdA.sh he.2.2.2.2.2.2.2.2
  exact ⟨a0, k0, a1, k1, a2, k2, he⟩
theorem WfES.at {es : List EntryD} (h : WfES es) (j : Nat) (hj : j < es.length) : WfE (es.getD j default) := by rw [getD_E hj]; exact h _ (List.getElem_mem hj)
theorem belowP {P : Nat → Prop} {k : Nat} (h : ∀ j, j < k → P j) (hk : P k) : ∀ j, j < k + 1 → P j := by
  intro j hj
  rcases Nat.lt_or_ge j k with h1 | h1
  · exact h j h1
  · obtain rfl : j = k := by omega
    exact hk
theorem bef_trans {a b c : EntryD} (h1 : ¬ Bef b a) (h2 : ¬ Bef c b) : ¬ Bef c a := by unfold Bef at *; omega
theorem key_ep {a b : EntryD} (h : keyB a b = true) : a.epoch = b.epoch ∧ a.prio = b.prio := by
  unfold keyB at h
  simp only [Bool.and_eq_true, decide_eq_true_eq] at h
  exact ⟨h.1, h.2.1⟩
/-- Not ahead of the one before it: not ahead of any. -/
theorem row_srt {es : List EntryD} {i : Nat} (hr : ∀ j, j < i → tRow es j) (h : ∀ m, i = m + 1 → ¬ Bef (es.getD i default) (es.getD m default)) : ∀ j, j < i → ¬ Bef (es.getD i default) (es.getD j default) := by
  intro j hj
  obtain ⟨m, rfl⟩ : ∃ m, i = m + 1 := ⟨i - 1, by omega⟩
  have h1 := h m rfl
  by_cases e : j = m
  · rw [e]; exact h1
  · exact bef_trans ((hr m (by omega)).2.1 j (by omega)) h1
/-- Where the walk back ends, no earlier entry has the key. -/
theorem row_key {es : List EntryD} {i m : Nat} (hr : ∀ j, j < i → tRow es j) (hs : ∀ j, j < i → ¬ Bef (es.getD i default) (es.getD j default)) (hm : m < i)
    (he : ¬ ((es.getD m default).epoch = (es.getD i default).epoch ∧ (es.getD m default).prio = (es.getD i default).prio)) : ∀ j, j ≤ m → keyB (es.getD j default) (es.getD i default) = false := by
  intro j hj
  cases hk : keyB (es.getD j default) (es.getD i default) with
  | false => rfl
  | true =>
    exfalso
    have h1 := key_ep hk
    have h2 := hs m hm
    by_cases e : j = m
    · subst e; exact he h1
    · have h3 := (hr m hm).2.1 j (by omega)
      unfold Bef at h2 h3
      omega
--% TableOkI 55
set_option maxRecDepth 20000 in
set_option maxHeartbeats 4000000 in
theorem tableOkI_any (w : World) (V : Value) (d : TableD) (h : RdT w V d) (wf : WfT d) : Calls Try.prog 55 #[V] w (RetV (.bool (tbB d)) w) := by
  obtain ⟨v0, rfl, hv⟩ := h
  obtain ⟨a, c, rfl, hlc, hm, hn, hel⟩ := hv
  have H := Lib.hid hel; have WF := Lib.hid wf.2.at
  clear hel hn wf
  unfold maxLen at hm
  obtain ⟨cap, es⟩ := d
  simp only at hlc hm H WF ⊢
  have HNO : Hid (∀ k, k < es.length → ¬ tRow es k → tbB ⟨cap, es⟩ = false) := Lib.hid (fun k hk h => tbB_no (fun hb => h (hb.2.2 k hk)))
  go_enter Try.func55, Try.ntmps55
  go_wp2
  have B0 := Lib.hid (Box.alloc w [.int .i64 cap, .slice a es.length c] 79)
  have GB := Lib.hid (Grow.alloc w (.cells #[.int .i64 cap, .slice a es.length c] 79))
  generalize w.alloc (.cells #[.int .i64 cap, .slice a es.length c] 79) = wB at *
  go_loopw [9] (fun i wr => ∃ k : Nat, k ≤ es.length ∧ i = .int .i64 k ∧ (∀ j, j < k → tRow es j) ∧ Grow wB wr) (fun i _ => es.length - (intOf i).toNat)
  case atStart => exact ⟨0, Nat.zero_le _, rfl, (fun j hj => absurd hj (Nat.not_lt_zero _)), Grow.refl _⟩
  case round =>
    obtain ⟨k, hk, rfl, hrow, hgr⟩ := hrel
    have HR := Lib.hid hrow; have HG := Lib.hid hgr
    clear hrow hgr
    have ⟨t0, t1⟩ := (B0.out.grow HG.out).two
    have tl := (B0.out.grow HG.out).1
    by_cases hlt : k < es.length
    · obtain ⟨b, off, rfl, hes⟩ := ent_open H.out hlt
      have HS := Lib.hid hes
      obtain ⟨a0, k0, a1, k1, a2, k2, hE⟩ := hes k hlt
      have WE := Lib.hid (WF.out k hlt)
      have HNk := Lib.hid (HNO.out k hlt)
      have HSR := Lib.hid (row_srt (es := es) (i := k) HR.out)
      have HKR := Lib.hid (fun m => row_key (es := es) (i := k) (m := m) HR.out)
      have HTR : Hid (enOk (es.getD k default) = true → (∀ j, j < k → ¬ Bef (es.getD k default) (es.getD j default)) → (∀ j, j < k → keyB (es.getD j default) (es.getD k default) = false) → tRow es k) := Lib.hid (fun h1 h2 h3 => ⟨h1, h2, h3⟩)
      have HTE : Hid (tRow es k → enOk (es.getD k default) = true ∧ (∀ j, j < k → ¬ Bef (es.getD k default) (es.getD j default)) ∧ (∀ j, j < k → keyB (es.getD j default) (es.getD k default) = false)) := Lib.hid (fun h => h)
      clear hes
      generalize es.getD k default = e at hE WE HSR HKR HTR HTE
      have HE := Lib.hid (hE.grow (GB.out.trans HG.out))
      clear hE
      obtain ⟨c0, c1, c2, c3, c4, c5, -, -, -⟩ := HE.out
      go_wp2_with fail
      have BE := Lib.hid (Box.alloc wr [.int .i64 e.epoch, .int .i64 e.prio, .slice a0 e.m.vs.length k0, .slice a1 e.m.ms.length k1, .slice a2 e.acts.length k2, .int .i64 e.hits] 68)
      have GL := Lib.hid (Grow.alloc wr (.cells #[.int .i64 e.epoch, .int .i64 e.prio, .slice a0 e.m.vs.length k0, .slice a1 e.m.ms.length k1, .slice a2 e.acts.length k2, .int .i64 e.hits] 68))
      generalize wr.alloc (.cells #[.int .i64 e.epoch, .int .i64 e.prio, .slice a0 e.m.vs.length k0, .slice a1 e.m.ms.length k1, .slice a2 e.acts.length k2, .int .i64 e.hits] 68) = wE at *
      have GE := Lib.hid (HG.out.trans GL.out)
      have RE := Lib.hid (HE.out.rd.grow GL.out)
      clear c0 c1 c2 c3 c4 c5 t0 t1 tl
      have hne : Nonempty (Cl (Grow wE)) := ⟨⟨wE, Grow.refl _⟩⟩
      have ⟨p0, p1⟩ := (B0.out.grow GE.out).two_
      have ⟨q0, q1, q2, q3, q4, q5⟩ := BE.out.six_
      have bl := BE.out.1
      cases hok : enOk e
      · have HX := Lib.hid (HNk.out (fun h => by have := (HTE.out h).1; rw [hok] at this; cases this))
        rcases Nat.eq_zero_or_pos k with rfl | hpos
        · skip
          refine wp_region_mix (Cls (Grow wE)) 17 #[false, false, false, false, false, false, false, false, false, false, false, false, false, false, false, false, false] (by kernel_rfl) (by kernel_rfl) ⟨⟨_, Grow.drewN _ 1⟩, rfl⟩ ?_
          refine anyC_seg [0] #[true, false, false, false, false, false, false, false, false, false, false, false, false, false, false, false, false] (fuel := 16) rfl (by kernel_rfl) ⟨⟨_, Grow.drewN _ 1⟩, rfl⟩ ?_
          simp only [pickOps, List.getD_cons_succ, List.getD_cons_zero]
          repeat (go_big_quiet_step (fail))
          refine wpQuiet_nil ?_
          refine anyC_sole 1 #[true, true, false, false, false, false, false, false, false, false, false, false, false, false, false, false, false] (fuel := 15) (by kernel_rfl) ?_
          simp only [List.getD_cons_succ, List.getD_cons_zero]
          go_wp2_with fail
          refine (entryOkI_any _ _ e (RE.out.grow (Grow.drewN _ 1)) WE.out).mono ?_
          rintro _ w0 ⟨rfl, hg⟩
          rw [hok]
          have D0 := Lib.hid ((Grow.drewN _ 1).trans hg); clear hg
          go_wp2
          refine ⟨⟨⟨_, D0.out⟩, rfl⟩, ?_⟩
          refine anyC_seg [2, 3, 4, 5, 6, 7, 8, 9, 10, 11, 12, 13] #[true, true, true, true, true, true, true, true, true, true, true, true, true, true, false, false, false] (fuel := 3) rfl (by kernel_rfl) ⟨⟨_, D0.out⟩, rfl⟩ ?_
          simp only [pickOps, List.getD_cons_succ, List.getD_cons_zero]
          repeat (go_big_quiet_step (fail))
          refine wpQuiet_nil ?_
          refine anyC_sole 14 #[true, true, true, true, true, true, true, true, true, true, true, true, true, true, true, false, false] (fuel := 2) (by kernel_rfl) ?_
          simp only [List.getD_cons_succ, List.getD_cons_zero]
          go_wp2
          refine ⟨⟨⟨_, D0.out⟩, rfl⟩, ?_⟩
          refine anyC_seg [15, 16] #[true, true, true, true, true, true, true, true, true, true, true, true, true, true, true, true, true] (fuel := 0) rfl (by kernel_rfl) ⟨⟨_, D0.out⟩, rfl⟩ ?_
          simp only [pickOps, List.getD_cons_succ, List.getD_cons_zero]
          repeat (go_big_quiet_step (fail))
          refine wpQuiet_nil ?_
          refine anyC_done (by kernel_rfl) ?_
          go_wp2
          go_ret
          exact ⟨ret_bool HX.out.symm, GB.out.trans (GE.out.trans (D0.out))⟩

        · obtain ⟨m, rfl⟩ : ∃ m, k = m + 1 := ⟨k - 1, by omega⟩
          refine wp_region_mix (Cls (Grow wE)) 17 #[false, false, false, false, false, false, false, false, false, false, false, false, false, false, false, false, false] (by kernel_rfl) (by kernel_rfl) ⟨⟨_, Grow.drewN _ 1⟩, rfl⟩ ?_
          refine anyC_seg [0] #[true, false, false, false, false, false, false, false, false, false, false, false, false, false, false, false, false] (fuel := 16) rfl (by kernel_rfl) ⟨⟨_, Grow.drewN _ 1⟩, rfl⟩ ?_
          simp only [pickOps, List.getD_cons_succ, List.getD_cons_zero]
          repeat (go_big_quiet_step (fail))
          refine wpQuiet_nil ?_
          refine anyC_sole 1 #[true, true, false, false, false, false, false, false, false, false, false, false, false, false, false, false, false] (fuel := 15) (by kernel_rfl) ?_
          simp only [List.getD_cons_succ, List.getD_cons_zero]
          go_wp2_with fail
          refine (entryOkI_any _ _ e (RE.out.grow (Grow.drewN _ 1)) WE.out).mono ?_
          rintro _ w0 ⟨rfl, hg⟩
          rw [hok]
          have D0 := Lib.hid ((Grow.drewN _ 1).trans hg); clear hg
          go_wp2
          refine ⟨⟨⟨_, D0.out⟩, rfl⟩, ?_⟩
          refine anyC_seg [2, 3, 4, 5, 6, 7, 8, 9, 10, 11, 12, 13] #[true, true, true, true, true, true, true, true, true, true, true, true, true, true, false, false, false] (fuel := 3) rfl (by kernel_rfl) ⟨⟨_, D0.out⟩, rfl⟩ ?_
          simp only [pickOps, List.getD_cons_succ, List.getD_cons_zero]
          repeat (go_big_quiet_step (fail))
          refine wpQuiet_nil ?_
          refine anyC_sole 14 #[true, true, true, true, true, true, true, true, true, true, true, true, true, true, true, false, false] (fuel := 2) (by kernel_rfl) ?_
          simp only [List.getD_cons_succ, List.getD_cons_zero]
          go_wp2
          refine ⟨⟨⟨_, D0.out⟩, rfl⟩, ?_⟩
          refine anyC_seg [15, 16] #[true, true, true, true, true, true, true, true, true, true, true, true, true, true, true, true, true] (fuel := 0) rfl (by kernel_rfl) ⟨⟨_, D0.out⟩, rfl⟩ ?_
          simp only [pickOps, List.getD_cons_succ, List.getD_cons_zero]
          repeat (go_big_quiet_step (fail))
          refine wpQuiet_nil ?_
          refine anyC_done (by kernel_rfl) ?_
          go_wp2
          go_ret
          exact ⟨ret_bool HX.out.symm, GB.out.trans (GE.out.trans (D0.out))⟩

      rcases Nat.eq_zero_or_pos k with rfl | hpos
      · have HSO : Hid (∀ j, j < 0 → ¬ Bef e (es.getD j default)) := Lib.hid (fun j hj => absurd hj (Nat.not_lt_zero _))
        refine wp_region_mix (Cls (Grow wE)) 17 #[false, false, false, false, false, false, false, false, false, false, false, false, false, false, false, false, false] (by kernel_rfl) (by kernel_rfl) ⟨⟨_, Grow.drewN _ 1⟩, rfl⟩ ?_
        refine anyC_seg [0] #[true, false, false, false, false, false, false, false, false, false, false, false, false, false, false, false, false] (fuel := 16) rfl (by kernel_rfl) ⟨⟨_, Grow.drewN _ 1⟩, rfl⟩ ?_
        simp only [pickOps, List.getD_cons_succ, List.getD_cons_zero]
        repeat (go_big_quiet_step (fail))
        refine wpQuiet_nil ?_
        refine anyC_sole 1 #[true, true, false, false, false, false, false, false, false, false, false, false, false, false, false, false, false] (fuel := 15) (by kernel_rfl) ?_
        simp only [List.getD_cons_succ, List.getD_cons_zero]
        go_wp2_with fail
        refine (entryOkI_any _ _ e (RE.out.grow (Grow.drewN _ 1)) WE.out).mono ?_
        rintro _ w0 ⟨rfl, hg⟩
        rw [hok]
        have D0 := Lib.hid ((Grow.drewN _ 1).trans hg); clear hg
        go_wp2
        refine ⟨⟨⟨_, D0.out⟩, rfl⟩, ?_⟩
        refine anyC_seg [2, 3, 4, 5, 6, 7, 8, 9, 10, 11, 12, 13] #[true, true, true, true, true, true, true, true, true, true, true, true, true, true, false, false, false] (fuel := 3) rfl (by kernel_rfl) ⟨⟨_, D0.out⟩, rfl⟩ ?_
        simp only [pickOps, List.getD_cons_succ, List.getD_cons_zero]
        repeat (go_big_quiet_step (fail))
        refine wpQuiet_nil ?_
        refine anyC_sole 14 #[true, true, true, true, true, true, true, true, true, true, true, true, true, true, true, false, false] (fuel := 2) (by kernel_rfl) ?_
        simp only [List.getD_cons_succ, List.getD_cons_zero]
        go_wp2
        refine ⟨⟨⟨_, D0.out⟩, rfl⟩, ?_⟩
        refine anyC_seg [15, 16] #[true, true, true, true, true, true, true, true, true, true, true, true, true, true, true, true, true] (fuel := 0) rfl (by kernel_rfl) ⟨⟨_, D0.out⟩, rfl⟩ ?_
        simp only [pickOps, List.getD_cons_succ, List.getD_cons_zero]
        repeat (go_big_quiet_step (fail))
        refine wpQuiet_nil ?_
        refine anyC_done (by kernel_rfl) ?_
        have HW0 := Lib.hid (D0.out)
        go_wp2
        go_loopw [5] (fun i wr => ∃ (m' : Nat) (z : Int), m' ≤ 0 ∧ z = (m' : Int) - 1 ∧ i = .int .i64 z ∧ (∀ j, m' ≤ j → j < 0 → keyB (es.getD j default) e = false) ∧ Grow wE wr) (fun i _ => (intOf i + 1).toNat)
        case atStart => exact ⟨0, _, Nat.le_refl _, rfl, by go_num, (fun j h1 h2 => by omega), (by ((repeat (first | with_reducible exact Grow.refl _ | (with_reducible refine Grow.alloc_ ?_ _) | (with_reducible refine Grow.setCell_ ?_ (by first | exact Nat.le_refl _ | (simp only [World.alloc, Array.size_push]; omega) | omega) _)))); exact HW0.out)⟩
        case round =>
          obtain ⟨m', z, hm', hz, rfl, hkf, hgi⟩ := hrel
          have HKF := Lib.hid hkf; have HI := Lib.hid hgi
          clear hkf hgi
          rename World => wi
          rcases Nat.eq_zero_or_pos m' with rfl | hp
          · obtain rfl : z = -1 := by omega
            clear hz
            have ⟨y0, y1⟩ := (B0.out.grow (GE.out.trans HI.out)).two
            go_wp2_with fail
            go_quiet (fail)
            have HROW := Lib.hid (HTR.out hok HSO.out (fun j hj => HKF.out j (Nat.zero_le _) hj))
            go_wp2
            go_roundw
            case rel => exact ⟨0 + 1, by omega, by go_num, belowP HR.out HROW.out, (GE.out.trans HI.out).trans (Grow.drewN _ _)⟩
            case measure => simp [intOf]; omega
          · exact absurd hm' (by omega)

      obtain ⟨m, rfl⟩ : ∃ m, k = m + 1 := ⟨k - 1, by omega⟩
      obtain ⟨a3, k3, a4, k4, a5, k5, hF⟩ := HS.out m (by omega)
      have WFF := Lib.hid (WF.out m (by omega))
      have RF := Lib.hid (hF.grow (GB.out.trans GE.out)).rd
      have HBE : Hid (Bef e (es.getD m default) → tbB ⟨cap, es⟩ = false) := Lib.hid (fun hb => HNk.out (fun h => (HTE.out h).2.1 m (by omega) hb))
      have HSB : Hid (¬ Bef e (es.getD m default) → ∀ j, j < m + 1 → ¬ Bef e (es.getD j default)) := Lib.hid (fun hb => HSR.out (fun m' h => by
        obtain rfl : m' = m := by omega
        exact hb))
      have FC := Lib.hid (fun (x : Cl (Grow wE)) => (hF.grow (GB.out.trans GE.out)).grow x.ok)
      generalize es.getD m default = f at *
      clear hF
      obtain ⟨x0, x1, x2, x3, x4, x5⟩ : (∀ x : Cl (Grow wE), x.w.cell? ⟨b, off + m * 6, none⟩ = some (.int .i64 f.epoch)) ∧ (∀ x : Cl (Grow wE), x.w.cell? ⟨b, off + m * 6 + 1, none⟩ = some (.int .i64 f.prio)) ∧ (∀ x : Cl (Grow wE), x.w.cell? ⟨b, off + m * 6 + 2, none⟩ = some (.slice a3 f.m.vs.length k3)) ∧ (∀ x : Cl (Grow wE), x.w.cell? ⟨b, off + m * 6 + 3, none⟩ = some (.slice a4 f.m.ms.length k4)) ∧ (∀ x : Cl (Grow wE), x.w.cell? ⟨b, off + m * 6 + 4, none⟩ = some (.slice a5 f.acts.length k5)) ∧ (∀ x : Cl (Grow wE), x.w.cell? ⟨b, off + m * 6 + 5, none⟩ = some (.int .i64 f.hits)) :=
        ⟨fun x => (FC.out x).1, fun x => (FC.out x).2.1, fun x => (FC.out x).2.2.1, fun x => (FC.out x).2.2.2.1, fun x => (FC.out x).2.2.2.2.1, fun x => (FC.out x).2.2.2.2.2.1⟩
      cases hbef : decide (Bef e f)
      rotate_left
      · have HX := Lib.hid (HBE.out (of_decide_eq_true hbef))
        refine wp_region_mix (Cls (Grow wE)) 17 #[false, false, false, false, false, false, false, false, false, false, false, false, false, false, false, false, false] (by kernel_rfl) (by kernel_rfl) ⟨⟨_, Grow.drewN _ 1⟩, rfl⟩ ?_
        refine anyC_seg [0] #[true, false, false, false, false, false, false, false, false, false, false, false, false, false, false, false, false] (fuel := 16) rfl (by kernel_rfl) ⟨⟨_, Grow.drewN _ 1⟩, rfl⟩ ?_
        simp only [pickOps, List.getD_cons_succ, List.getD_cons_zero]
        repeat (go_big_quiet_step (fail))
        refine wpQuiet_nil ?_
        refine anyC_sole 1 #[true, true, false, false, false, false, false, false, false, false, false, false, false, false, false, false, false] (fuel := 15) (by kernel_rfl) ?_
        simp only [List.getD_cons_succ, List.getD_cons_zero]
        go_wp2_with fail
        refine (entryOkI_any _ _ e (RE.out.grow (Grow.drewN _ 1)) WE.out).mono ?_
        rintro _ w0 ⟨rfl, hg⟩
        rw [hok]
        have D0 := Lib.hid ((Grow.drewN _ 1).trans hg); clear hg
        go_wp2
        refine ⟨⟨⟨_, D0.out⟩, rfl⟩, ?_⟩
        refine anyC_seg [2, 3, 4, 5, 6, 7, 8, 9, 10, 11, 12, 13] #[true, true, true, true, true, true, true, true, true, true, true, true, true, true, false, false, false] (fuel := 3) rfl (by kernel_rfl) ⟨⟨_, D0.out⟩, rfl⟩ ?_
        simp only [pickOps, List.getD_cons_succ, List.getD_cons_zero]
        repeat (go_big_quiet_step (fail))
        refine wpQuiet_nil ?_
        refine anyC_sole 14 #[true, true, true, true, true, true, true, true, true, true, true, true, true, true, true, false, false] (fuel := 2) (by kernel_rfl) ?_
        simp only [List.getD_cons_succ, List.getD_cons_zero]
        go_wp2_with fail
        refine (befI_any _ _ _ e f (RE.out.grow D0.out) (RF.out.grow D0.out)).mono ?_
        rintro _ w1 ⟨rfl, hg⟩
        rw [hbef]
        have D1 := Lib.hid ((D0.out).trans hg); clear hg
        go_wp2
        refine ⟨⟨⟨_, D1.out⟩, rfl⟩, ?_⟩
        refine anyC_seg [15, 16] #[true, true, true, true, true, true, true, true, true, true, true, true, true, true, true, true, true] (fuel := 0) rfl (by kernel_rfl) ⟨⟨_, D1.out⟩, rfl⟩ ?_
        simp only [pickOps, List.getD_cons_succ, List.getD_cons_zero]
        repeat (go_big_quiet_step (fail))
        refine wpQuiet_nil ?_
        refine anyC_done (by kernel_rfl) ?_
        go_wp2
        go_ret
        exact ⟨ret_bool HX.out.symm, GB.out.trans (GE.out.trans (D1.out))⟩

      have HSO : Hid (∀ j, j < m + 1 → ¬ Bef e (es.getD j default)) := Lib.hid (HSB.out (of_decide_eq_false hbef))
      refine wp_region_mix (Cls (Grow wE)) 17 #[false, false, false, false, false, false, false, false, false, false, false, false, false, false, false, false, false] (by kernel_rfl) (by kernel_rfl) ⟨⟨_, Grow.drewN _ 1⟩, rfl⟩ ?_
      refine anyC_seg [0] #[true, false, false, false, false, false, false, false, false, false, false, false, false, false, false, false, false] (fuel := 16) rfl (by kernel_rfl) ⟨⟨_, Grow.drewN _ 1⟩, rfl⟩ ?_
      simp only [pickOps, List.getD_cons_succ, List.getD_cons_zero]
      repeat (go_big_quiet_step (fail))
      refine wpQuiet_nil ?_
      refine anyC_sole 1 #[true, true, false, false, false, false, false, false, false, false, false, false, false, false, false, false, false] (fuel := 15) (by kernel_rfl) ?_
      simp only [List.getD_cons_succ, List.getD_cons_zero]
      go_wp2_with fail
      refine (entryOkI_any _ _ e (RE.out.grow (Grow.drewN _ 1)) WE.out).mono ?_
      rintro _ w0 ⟨rfl, hg⟩
      rw [hok]
      have D0 := Lib.hid ((Grow.drewN _ 1).trans hg); clear hg
      go_wp2
      refine ⟨⟨⟨_, D0.out⟩, rfl⟩, ?_⟩
      refine anyC_seg [2, 3, 4, 5, 6, 7, 8, 9, 10, 11, 12, 13] #[true, true, true, true, true, true, true, true, true, true, true, true, true, true, false, false, false] (fuel := 3) rfl (by kernel_rfl) ⟨⟨_, D0.out⟩, rfl⟩ ?_
      simp only [pickOps, List.getD_cons_succ, List.getD_cons_zero]
      repeat (go_big_quiet_step (fail))
      refine wpQuiet_nil ?_
      refine anyC_sole 14 #[true, true, true, true, true, true, true, true, true, true, true, true, true, true, true, false, false] (fuel := 2) (by kernel_rfl) ?_
      simp only [List.getD_cons_succ, List.getD_cons_zero]
      go_wp2_with fail
      refine (befI_any _ _ _ e f (RE.out.grow D0.out) (RF.out.grow D0.out)).mono ?_
      rintro _ w1 ⟨rfl, hg⟩
      rw [hbef]
      have D1 := Lib.hid ((D0.out).trans hg); clear hg
      go_wp2
      refine ⟨⟨⟨_, D1.out⟩, rfl⟩, ?_⟩
      refine anyC_seg [15, 16] #[true, true, true, true, true, true, true, true, true, true, true, true, true, true, true, true, true] (fuel := 0) rfl (by kernel_rfl) ⟨⟨_, D1.out⟩, rfl⟩ ?_
      simp only [pickOps, List.getD_cons_succ, List.getD_cons_zero]
      repeat (go_big_quiet_step (fail))
      refine wpQuiet_nil ?_
      refine anyC_done (by kernel_rfl) ?_
      have HW0 := Lib.hid (D1.out)
      go_wp2
      go_loopw [5] (fun i wr => ∃ (m' : Nat) (z : Int), m' ≤ (m + 1) ∧ z = (m' : Int) - 1 ∧ i = .int .i64 z ∧ (∀ j, m' ≤ j → j < (m + 1) → keyB (es.getD j default) e = false) ∧ Grow wE wr) (fun i _ => (intOf i + 1).toNat)
      case atStart => exact ⟨(m + 1), _, Nat.le_refl _, rfl, by go_num, (fun j h1 h2 => by omega), (by ((repeat (first | with_reducible exact Grow.refl _ | (with_reducible refine Grow.alloc_ ?_ _) | (with_reducible refine Grow.setCell_ ?_ (by first | exact Nat.le_refl _ | (simp only [World.alloc, Array.size_push]; omega) | omega) _)))); exact HW0.out)⟩
      case round =>
        obtain ⟨m', z, hm', hz, rfl, hkf, hgi⟩ := hrel
        have HKF := Lib.hid hkf; have HI := Lib.hid hgi
        clear hkf hgi
        rename World => wi
        rcases Nat.eq_zero_or_pos m' with rfl | hp
        · obtain rfl : z = -1 := by omega
          clear hz
          have ⟨y0, y1⟩ := (B0.out.grow (GE.out.trans HI.out)).two
          go_wp2_with fail
          go_quiet (fail)
          have HROW := Lib.hid (HTR.out hok HSO.out (fun j hj => HKF.out j (Nat.zero_le _) hj))
          go_wp2
          go_roundw
          case rel => exact ⟨(m + 1) + 1, by omega, by go_num, belowP HR.out HROW.out, (GE.out.trans HI.out).trans (Grow.drewN _ _)⟩
          case measure => simp [intOf]; omega
        · obtain ⟨q, rfl⟩ : ∃ q, m' = q + 1 := ⟨m' - 1, by omega⟩
          obtain rfl : z = (q : Int) := by omega
          clear hz
          obtain ⟨a6, k6, a7, k7, a8, k8, hQ⟩ := HS.out q (by omega)
          have WFQ := Lib.hid (WF.out q (by omega))
          have HKB : Hid (keyB (es.getD q default) e = true → tbB ⟨cap, es⟩ = false) := Lib.hid (fun hb => HNk.out (fun h => by have := (HTE.out h).2.2 q (by omega); rw [hb] at this; cases this))
          have HKX : Hid (¬ ((es.getD q default).epoch = e.epoch ∧ (es.getD q default).prio = e.prio) → ∀ j, j < (m + 1) → keyB (es.getD j default) e = false) := Lib.hid (fun hb j hj => by
            rcases Nat.lt_or_ge q j with h' | h'
            · exact HKF.out j (by omega) hj
            · exact HKR.out q HSO.out (by omega) hb j h')
          have HKN : Hid (keyB (es.getD q default) e = false → ∀ j, q ≤ j → j < (m + 1) → keyB (es.getD j default) e = false) := Lib.hid (fun hb j h1 h2 => by
            rcases Nat.lt_or_ge q j with h' | h'
            · exact HKF.out j (by omega) h2
            · obtain rfl : j = q := by omega
              exact hb)
          generalize es.getD q default = g at hQ WFQ HKB HKX HKN
          have HQ := Lib.hid (hQ.grow (GB.out.trans (GE.out.trans HI.out)))
          have RQ := Lib.hid HQ.out.rd
          have hql : q < es.length := by omega
          clear hQ
          by_cases h1 : g.epoch = e.epoch
          rotate_left
          · have hb1 : (g.epoch == e.epoch) = false := by simpa using h1
            have HX := Lib.hid (HKX.out (fun h => h1 h.1))
            clear h1
            have ⟨y0, y1⟩ := (B0.out.grow (GE.out.trans HI.out)).two
            have ⟨z0, z1, z2, z3, z4, z5⟩ := (BE.out.grow HI.out).six
            have bl := (BE.out.grow HI.out).1
            obtain ⟨x0, x1, x2, x3, x4, x5, -, -, -⟩ := HQ.out
            go_wp2_with fail
            go_quiet (fail)
            have HROW := Lib.hid (HTR.out hok HSO.out (HX.out))
            go_wp2
            go_roundw
            case rel => exact ⟨(m + 1) + 1, by omega, by go_num, belowP HR.out HROW.out, (GE.out.trans HI.out).trans (Grow.drewN _ _)⟩
            case measure => simp [intOf]; omega
          have hb1 : (g.epoch == e.epoch) = true := by simpa using h1
          by_cases h2 : g.prio = e.prio
          rotate_left
          · have hb2 : (g.prio == e.prio) = false := by simpa using h2
            have HX := Lib.hid (HKX.out (fun h => h2 h.2))
            clear h1 h2
            have ⟨y0, y1⟩ := (B0.out.grow (GE.out.trans HI.out)).two
            have ⟨z0, z1, z2, z3, z4, z5⟩ := (BE.out.grow HI.out).six
            have bl := (BE.out.grow HI.out).1
            obtain ⟨x0, x1, x2, x3, x4, x5, -, -, -⟩ := HQ.out
            go_wp2_with fail
            go_quiet (fail)
            have HROW := Lib.hid (HTR.out hok HSO.out (HX.out))
            go_wp2
            go_roundw
            case rel => exact ⟨(m + 1) + 1, by omega, by go_num, belowP HR.out HROW.out, (GE.out.trans HI.out).trans (Grow.drewN _ _)⟩
            case measure => simp [intOf]; omega
          have hb2 : (g.prio == e.prio) = true := by simpa using h2
          clear h1 h2
          cases hkb : keyB g e
          · have HX := Lib.hid (HKN.out hkb)
            have ⟨y0, y1⟩ := (B0.out.grow (GE.out.trans HI.out)).two
            have ⟨z0, z1, z2, z3, z4, z5⟩ := (BE.out.grow HI.out).six
            have bl := (BE.out.grow HI.out).1
            obtain ⟨x0, x1, x2, x3, x4, x5, -, -, -⟩ := HQ.out
            go_wp2_with fail
            go_quiet (fail)
            go_wp2_with fail
            clear x0 x1 x2 x3 x4 x5 y0 y1 z0 z1 z2 z3 z4 z5 bl
            have HI := Lib.hid (HI.out.trans (Grow.drewN wi nq))
            have HQ := Lib.hid (HQ.out.grow (Grow.drewN wi nq))
            have RQ := Lib.hid HQ.out.rd
            generalize wi.drewN nq = wj at *
            have hne : Nonempty (Cl (Grow wj)) := ⟨⟨wj, Grow.refl _⟩⟩
            have ⟨p0, p1⟩ := (B0.out.grow (GE.out.trans HI.out)).two_
            have ⟨q0, q1, q2, q3, q4, q5⟩ := (BE.out.grow HI.out).six_
            have bl := (BE.out.grow HI.out).1
            have FC := Lib.hid (fun (x : Cl (Grow wj)) => HQ.out.grow x.ok)
            obtain ⟨x0, x1, x2, x3, x4, x5⟩ : (∀ x : Cl (Grow wj), x.w.cell? ⟨b, off + q * 6, none⟩ = some (.int .i64 g.epoch)) ∧ (∀ x : Cl (Grow wj), x.w.cell? ⟨b, off + q * 6 + 1, none⟩ = some (.int .i64 g.prio)) ∧ (∀ x : Cl (Grow wj), x.w.cell? ⟨b, off + q * 6 + 2, none⟩ = some (.slice a6 g.m.vs.length k6)) ∧ (∀ x : Cl (Grow wj), x.w.cell? ⟨b, off + q * 6 + 3, none⟩ = some (.slice a7 g.m.ms.length k7)) ∧ (∀ x : Cl (Grow wj), x.w.cell? ⟨b, off + q * 6 + 4, none⟩ = some (.slice a8 g.acts.length k8)) ∧ (∀ x : Cl (Grow wj), x.w.cell? ⟨b, off + q * 6 + 5, none⟩ = some (.int .i64 g.hits)) :=
              ⟨fun x => (FC.out x).1, fun x => (FC.out x).2.1, fun x => (FC.out x).2.2.1, fun x => (FC.out x).2.2.2.1, fun x => (FC.out x).2.2.2.2.1, fun x => (FC.out x).2.2.2.2.2.1⟩
            refine wp_region_mix (Cls (Grow wj)) 7 #[false, false, false, false, false, false, false] (by kernel_rfl) (by kernel_rfl) ⟨⟨_, Grow.drewN _ 1⟩, rfl⟩ ?_
            refine anyC_seg [0, 1, 2, 3, 4, 5] #[true, true, true, true, true, true, false] (fuel := 1) rfl (by kernel_rfl) ⟨⟨_, Grow.drewN _ 1⟩, rfl⟩ ?_
            simp only [pickOps, List.getD_cons_succ, List.getD_cons_zero]
            repeat (go_big_quiet_step (fail))
            refine wpQuiet_nil ?_
            refine anyC_sole 6 #[true, true, true, true, true, true, true] (fuel := 0) (by kernel_rfl) ?_
            simp only [List.getD_cons_succ, List.getD_cons_zero]
            go_wp2_with fail
            refine (keyI_any _ _ _ g e (RQ.out.grow (Grow.drewN _ 1)) ((RE.out.grow HI.out).grow (Grow.drewN _ 1)) WFQ.out WE.out).mono ?_
            rintro _ w9 ⟨rfl, hg⟩
            rw [hkb]
            have D9 := Lib.hid ((Grow.drewN _ 1).trans hg); clear hg
            go_wp2
            refine ⟨⟨⟨_, D9.out⟩, rfl⟩, ?_⟩
            refine anyC_done (by kernel_rfl) ?_
            go_wp2
            go_roundw
            case rel => exact ⟨q, _, by omega, rfl, by go_num, HX.out, HI.out.trans D9.out⟩
            case measure => simp [intOf] <;> omega
          · have HX := Lib.hid (HKB.out hkb)
            have ⟨y0, y1⟩ := (B0.out.grow (GE.out.trans HI.out)).two
            have ⟨z0, z1, z2, z3, z4, z5⟩ := (BE.out.grow HI.out).six
            have bl := (BE.out.grow HI.out).1
            obtain ⟨x0, x1, x2, x3, x4, x5, -, -, -⟩ := HQ.out
            go_wp2_with fail
            go_quiet (fail)
            go_wp2_with fail
            clear x0 x1 x2 x3 x4 x5 y0 y1 z0 z1 z2 z3 z4 z5 bl
            have HI := Lib.hid (HI.out.trans (Grow.drewN wi nq))
            have HQ := Lib.hid (HQ.out.grow (Grow.drewN wi nq))
            have RQ := Lib.hid HQ.out.rd
            generalize wi.drewN nq = wj at *
            have hne : Nonempty (Cl (Grow wj)) := ⟨⟨wj, Grow.refl _⟩⟩
            have ⟨p0, p1⟩ := (B0.out.grow (GE.out.trans HI.out)).two_
            have ⟨q0, q1, q2, q3, q4, q5⟩ := (BE.out.grow HI.out).six_
            have bl := (BE.out.grow HI.out).1
            have FC := Lib.hid (fun (x : Cl (Grow wj)) => HQ.out.grow x.ok)
            obtain ⟨x0, x1, x2, x3, x4, x5⟩ : (∀ x : Cl (Grow wj), x.w.cell? ⟨b, off + q * 6, none⟩ = some (.int .i64 g.epoch)) ∧ (∀ x : Cl (Grow wj), x.w.cell? ⟨b, off + q * 6 + 1, none⟩ = some (.int .i64 g.prio)) ∧ (∀ x : Cl (Grow wj), x.w.cell? ⟨b, off + q * 6 + 2, none⟩ = some (.slice a6 g.m.vs.length k6)) ∧ (∀ x : Cl (Grow wj), x.w.cell? ⟨b, off + q * 6 + 3, none⟩ = some (.slice a7 g.m.ms.length k7)) ∧ (∀ x : Cl (Grow wj), x.w.cell? ⟨b, off + q * 6 + 4, none⟩ = some (.slice a8 g.acts.length k8)) ∧ (∀ x : Cl (Grow wj), x.w.cell? ⟨b, off + q * 6 + 5, none⟩ = some (.int .i64 g.hits)) :=
              ⟨fun x => (FC.out x).1, fun x => (FC.out x).2.1, fun x => (FC.out x).2.2.1, fun x => (FC.out x).2.2.2.1, fun x => (FC.out x).2.2.2.2.1, fun x => (FC.out x).2.2.2.2.2.1⟩
            refine wp_region_mix (Cls (Grow wj)) 7 #[false, false, false, false, false, false, false] (by kernel_rfl) (by kernel_rfl) ⟨⟨_, Grow.drewN _ 1⟩, rfl⟩ ?_
            refine anyC_seg [0, 1, 2, 3, 4, 5] #[true, true, true, true, true, true, false] (fuel := 1) rfl (by kernel_rfl) ⟨⟨_, Grow.drewN _ 1⟩, rfl⟩ ?_
            simp only [pickOps, List.getD_cons_succ, List.getD_cons_zero]
            repeat (go_big_quiet_step (fail))
            refine wpQuiet_nil ?_
            refine anyC_sole 6 #[true, true, true, true, true, true, true] (fuel := 0) (by kernel_rfl) ?_
            simp only [List.getD_cons_succ, List.getD_cons_zero]
            go_wp2_with fail
            refine (keyI_any _ _ _ g e (RQ.out.grow (Grow.drewN _ 1)) ((RE.out.grow HI.out).grow (Grow.drewN _ 1)) WFQ.out WE.out).mono ?_
            rintro _ w9 ⟨rfl, hg⟩
            rw [hkb]
            have D9 := Lib.hid ((Grow.drewN _ 1).trans hg); clear hg
            go_wp2
            refine ⟨⟨⟨_, D9.out⟩, rfl⟩, ?_⟩
            refine anyC_done (by kernel_rfl) ?_
            go_wp2
            go_ret
            exact ⟨ret_bool HX.out.symm, GB.out.trans (GE.out.trans (HI.out.trans D9.out))⟩
    · obtain rfl : k = es.length := by omega
      have HF : Hid (((0 ≤ cap ∧ cap ≤ 400) ∧ (es.length : Int) ≤ cap → tbB ⟨cap, es⟩ = true) ∧ (¬ ((0 ≤ cap ∧ cap ≤ 400) ∧ (es.length : Int) ≤ cap) → tbB ⟨cap, es⟩ = false)) := Lib.hid ⟨fun h => tbB_yes ⟨h.1, h.2, HR.out⟩, fun h => tbB_no (fun hb => h ⟨hb.1, hb.2.1⟩)⟩
      by_cases hcap : 0 ≤ cap ∧ cap ≤ 400
      · have hin := inB_true hcap.1 hcap.2
        by_cases hle : (es.length : Int) ≤ cap
        · have HX := Lib.hid (HF.out.1 ⟨hcap, hle⟩)
          go_wp2_with fail
          refine (upTo_any _ _ _).mono ?_
          rintro _ w' ⟨rfl, rfl⟩
          rw [hin]
          go_wp2
          go_ret
          exact ⟨ret_bool HX.out.symm, GB.out.trans (HG.out.trans (by ((repeat (first | with_reducible exact Grow.refl _ | (with_reducible refine Grow.alloc_ ?_ _) | (with_reducible refine Grow.setCell_ ?_ (by first | exact Nat.le_refl _ | (simp only [World.alloc, Array.size_push]; omega) | omega) _))))))⟩
        · have HX := Lib.hid (HF.out.2 (fun h => hle h.2))
          go_wp2_with fail
          refine (upTo_any _ _ _).mono ?_
          rintro _ w' ⟨rfl, rfl⟩
          rw [hin]
          go_wp2
          go_ret
          exact ⟨ret_bool (by rw [HX.out]; exact decide_eq_false (Int.not_le.2 hle)), GB.out.trans (HG.out.trans (by ((repeat (first | with_reducible exact Grow.refl _ | (with_reducible refine Grow.alloc_ ?_ _) | (with_reducible refine Grow.setCell_ ?_ (by first | exact Nat.le_refl _ | (simp only [World.alloc, Array.size_push]; omega) | omega) _))))))⟩
      · have hin := inB_false (lo := 0) (hi := 400) (n := cap) (by omega)
        have HX := Lib.hid (HF.out.2 (fun h => hcap h.1))
        go_wp2_with fail
        refine (upTo_any _ _ _).mono ?_
        rintro _ w' ⟨rfl, rfl⟩
        rw [hin]
        go_wp2
        go_ret
        exact ⟨ret_bool HX.out.symm, GB.out.trans (HG.out.trans (by ((repeat (first | with_reducible exact Grow.refl _ | (with_reducible refine Grow.alloc_ ?_ _) | (with_reducible refine Grow.setCell_ ?_ (by first | exact Nat.le_refl _ | (simp only [World.alloc, Array.size_push]; omega) | omega) _))))))⟩
--%
end Go.Proofs.Ytgigdpdmdldhnaa
