/- Lookup: contracts of the code (printed by glk.py). -/
import Derived.Test.YtgigdpdmdldhnaaToks
import Derived.Test.YtgigdpdmdldhnaaMi
import Derived.Test.YtgigdpdmdldhnaaMsp
import Derived.WalkKit
import Derived.ProofKit
import Derived.Deep.QuietTactic
import Derived.BigQuiet
import Derived.Outline
import Derived.WalkSpells
namespace Go.Proofs.Ytgigdpdmdldhnaa
open Go.ChangeShapes Go.WideShapes Go.ChangeAt Go.RowKit
set_option linter.unusedVariables false
set_option linter.unusedSimpArgs false
--%
/-- The first below n at which P holds, or -1. -/
def idxN (P : Nat → Bool) : Nat → Int
  | 0 => -1
  | n + 1 => if 0 ≤ idxN P n then idxN P n else if P n then n else -1
theorem idxN_no {P : Nat → Bool} : ∀ {n : Nat}, (∀ j, j < n → P j = false) → idxN P n = -1
  | 0, _ => rfl
  | n + 1, h => by
    have h1 := idxN_no (n := n) (fun j hj => h j (by omega))
    simp [idxN, h1, h n (Nat.lt_succ_self n)]
theorem idxN_yes {P : Nat → Bool} {k : Nat} : ∀ {n : Nat}, k < n → P k = true → (∀ j, j < k → P j = false) → idxN P n = k
  | 0, hk, _, _ => absurd hk (Nat.not_lt_zero _)
  | n + 1, hk, hp, h => by
    rcases Nat.lt_or_ge k n with h' | h'
    · have h1 := idxN_yes (n := n) h' hp h
      simp [idxN, h1]
    · obtain rfl : k = n := by omega
      have h1 := idxN_no (n := k) h
      simp [idxN, h1, hp]
def lkP (es : List EntryD) (ep : Int) (h : HeadD) (k : Nat) : Bool := decide ((es.getD k default).epoch = ep) && hitOk (es.getD k default).m h.vs
def lkF (d : TableD) (ep : Int) (h : HeadD) : Int := if tbB d = true ∧ hdOk h.vs = true then idxN (lkP d.es ep h) d.es.length else -1
theorem tbl_wf {es : List EntryD} (h : WfES es) (k : Nat) (hk : k < es.length) : WfM (es.getD k default).m := (h.at k hk).2.2.1
theorem EntAt.m {w : World} {b o : Nat} {v0 v1 v2 : Value} {e : EntryD} (h : EntAt w b o v0 v1 v2 e) : RdM w (.agg #[v0, v1]) e.m := ⟨_, _, rfl, h.2.2.2.2.2.2.1, h.2.2.2.2.2.2.2.1⟩
--% Lookup1 105
theorem lookup1_any (w : World) (V : Value) (e : EntryD) (b1 b2 : Nat) (ep : Int) (hv : Value) (d : HeadD) (h : RdE w V e) (wf : WfE e) (c1 : w.cell? ⟨b1, 0, none⟩ = some (.int .i64 ep)) (c2 : w.cell? ⟨b2, 0, none⟩ = some hv) (hh : RdH w (.agg #[hv]) d) (wh : WfH d) :
    Calls Try.prog 105 #[V, .pointer (some ⟨b1, 0, none⟩), .pointer (some ⟨b2, 0, none⟩)] w (RetV (.bool (decide (e.epoch = ep) && hitOk e.m d.vs)) w) := by
  obtain ⟨a0, k0, a1, k1, a2, k2, rfl⟩ := h.shape
  obtain ⟨ah, kh, eh⟩ := hh.shape
  simp only [Value.agg.injEq, Array.mk.injEq, List.cons.injEq, and_true] at eh
  subst eh
  have HM := Lib.hid h.m; have HH := Lib.hid hh
  clear h hh
  have l1 := cell_lt c1; have l2 := cell_lt c2
  by_cases q : e.epoch = ep
  rotate_left
  · have hb : (e.epoch == ep) = false := by simpa using q
    have HE : Hid ((decide (e.epoch = ep) && hitOk e.m d.vs) = false) := Lib.hid (by simp [q])
    clear q
    go_enter Try.func105, Try.ntmps105
    go_wp2
    go_ret
    refine ⟨ret_bool HE.out.symm, ?_⟩
    ((repeat (first | with_reducible exact Grow.refl _ | (with_reducible refine Grow.alloc_ ?_ _) | (with_reducible refine Grow.setCell_ ?_ (by first | exact Nat.le_refl _ | (simp only [World.alloc, Array.size_push]; omega) | omega) _))))
  have hb : (e.epoch == ep) = true := by simpa using q
  have HE : Hid ((decide (e.epoch = ep) && hitOk e.m d.vs) = hitOk e.m d.vs) := Lib.hid (by simp [q])
  clear q
  go_enter Try.func105, Try.ntmps105
  go_wp2_with fail
  refine at_world (w := w) ?G (fun hG => (hitsI_any _ _ _ e.m d (HM.out.grow hG) (HH.out.grow hG) wf.2.2.1 wh).mono ?_)
  case G => ((repeat (first | with_reducible exact Grow.refl _ | (with_reducible refine Grow.alloc_ ?_ _) | (with_reducible refine Grow.setCell_ ?_ (by first | exact Nat.le_refl _ | (simp only [World.alloc, Array.size_push]; omega) | omega) _))))
  rintro _ w1 ⟨rfl, hg⟩
  have HG := Lib.hid (hG.trans hg); clear hG hg
  go_wp2
  go_ret
  exact ⟨ret_bool HE.out.symm, HG.out⟩
--% IndexE 104 105
theorem indexLk_any (w : World) (v : Value) (es : List EntryD) (b1 b2 : Nat) (ep : Int) (hv : Value) (d : HeadD) (h : RdES w v es) (wf : WfES es) (c1 : w.cell? ⟨b1, 0, none⟩ = some (.int .i64 ep)) (c2 : w.cell? ⟨b2, 0, none⟩ = some hv) (hh : RdH w (.agg #[hv]) d) (wh : WfH d) :
    Calls Try.prog 104 #[v, .func (Fn.func 105) #[] #[.pointer (some ⟨b1, 0, none⟩), .pointer (some ⟨b2, 0, none⟩)]] w (RetV (.int .i64 (idxN (lkP es ep d) es.length)) w) := by
  obtain ⟨a, c, rfl, hlc, hm, hn, hel⟩ := h
  have H := Lib.hid hel; have WF := Lib.hid wf.at; have C1 := Lib.hid c1; have C2 := Lib.hid c2; have HH := Lib.hid hh
  clear hel hn wf c1 c2 hh
  unfold maxLen at hm
  go_enter Try.func104, Try.ntmps104
  go_wp2
  go_loopw [8] (fun i wr => ∃ k : Nat, k ≤ es.length ∧ i = .int .i64 k ∧ (∀ j, j < k → lkP es ep d j = false) ∧ Grow w wr) (fun i _ => es.length - (intOf i).toNat)
  case atStart => exact ⟨0, Nat.zero_le _, rfl, fun j hj => absurd hj (Nat.not_lt_zero _), Grow.refl _⟩
  case round =>
    obtain ⟨k, hk, rfl, hal, hgr⟩ := hrel
    have HA := Lib.hid hal; have HG := Lib.hid hgr; clear hal hgr
    by_cases hlt : k < es.length
    · obtain ⟨b, off, rfl, hes⟩ := ent_open H.out hlt
      obtain ⟨a0, k0, a1, k1, a2, k2, hE⟩ := hes k hlt
      have WE := Lib.hid (WF.out k hlt)
      have HY := Lib.hid (idxN_yes (P := lkP es ep d) hlt)
      have HP : Hid (lkP es ep d k = (decide ((es.getD k default).epoch = ep) && hitOk (es.getD k default).m d.vs)) := Lib.hid rfl
      clear hes
      generalize es.getD k default = e at hE WE HP
      have HE := Lib.hid (hE.grow HG.out)
      clear hE
      obtain ⟨x0, x1, x2, x3, x4, x5, -, -, -⟩ := HE.out
      cases hp : (decide (e.epoch = ep) && hitOk e.m d.vs)
      · have HX := Lib.hid (HP.out.trans hp)
        go_wp2_with fail
        refine (lookup1_any _ _ e b1 b2 ep hv d HE.out.rd WE.out (HG.out.cell C1.out) (HG.out.cell C2.out) (HH.out.grow HG.out) wh).mono ?_
        rintro _ w1 ⟨rfl, hg⟩
        rw [hp]
        have HG1 := Lib.hid (HG.out.trans hg); clear hg
        go_wp2
        go_roundw
        case rel => exact ⟨k + 1, by omega, by go_num, belowP HA.out HX.out, HG1.out⟩
        case measure => simp [intOf]; omega
      · have HX := Lib.hid (HY.out (HP.out.trans hp) HA.out)
        go_wp2_with fail
        refine (lookup1_any _ _ e b1 b2 ep hv d HE.out.rd WE.out (HG.out.cell C1.out) (HG.out.cell C2.out) (HH.out.grow HG.out) wh).mono ?_
        rintro _ w1 ⟨rfl, hg⟩
        rw [hp]
        have HG1 := Lib.hid (HG.out.trans hg); clear hg
        go_wp2
        go_ret
        exact ⟨ret_int HX.out.symm, HG1.out⟩
    · obtain rfl : k = es.length := by omega
      have HX := Lib.hid (idxN_no HA.out)
      go_wp2
      go_ret
      exact ⟨ret_int HX.out.symm, HG.out⟩
--% lookupI 58
set_option maxHeartbeats 2000000 in
theorem lookupI_any (w : World) (V U : Value) (d : TableD) (ep : Int) (hd : HeadD) (h : RdT w V d) (h2 : RdH w U hd) (wf : WfT d) (wh : WfH hd) : Calls Try.prog 58 #[V, .int .i64 ep, U] w (RetV (.int .i64 (lkF d ep hd)) w) := by
  have HT := Lib.hid h
  obtain ⟨v0, rfl, hv⟩ := h
  have HV := Lib.hid hv
  obtain ⟨a, c, rfl, hlc, hm, hn, hel⟩ := hv
  obtain ⟨ah, kh, rfl⟩ := h2.shape
  have HH := Lib.hid h2; have WF := Lib.hid wf
  clear h2 hel hn wf
  cases htb : tbB d
  · have HX : Hid (lkF d ep hd = -1) := Lib.hid (by simp [lkF, htb])
    go_enter Try.func58, Try.ntmps58
    go_wp2_with fail
    refine at_world (w := w) ?G (fun hG => (tableOkI_any _ _ d (HT.out.grow hG) WF.out).mono ?_)
    case G => ((repeat (first | with_reducible exact Grow.refl _ | (with_reducible refine Grow.alloc_ ?_ _) | (with_reducible refine Grow.setCell_ ?_ (by first | exact Nat.le_refl _ | (simp only [World.alloc, Array.size_push]; omega) | omega) _))))
    rintro _ w1 ⟨rfl, hg⟩
    rw [htb]
    have HG := Lib.hid (hG.trans hg)
    go_wp2
    go_ret
    exact ⟨ret_int HX.out.symm, HG.out⟩

  cases hhd : hdOk hd.vs
  · have HX : Hid (lkF d ep hd = -1) := Lib.hid (by simp [lkF, hhd])
    go_enter Try.func58, Try.ntmps58
    go_wp2_with fail
    refine at_world (w := w) ?G (fun hG => (tableOkI_any _ _ d (HT.out.grow hG) WF.out).mono ?_)
    case G => ((repeat (first | with_reducible exact Grow.refl _ | (with_reducible refine Grow.alloc_ ?_ _) | (with_reducible refine Grow.setCell_ ?_ (by first | exact Nat.le_refl _ | (simp only [World.alloc, Array.size_push]; omega) | omega) _))))
    rintro _ w1 ⟨rfl, hg⟩
    rw [htb]
    have B0 := Lib.hid ((Box.alloc w _ _).grow ((Grow.alloc _ _).trans ((Grow.alloc _ _).trans hg)))
    have B1 := Lib.hid (((Box.alloc (w.alloc _) _ _).grow ((Grow.alloc _ _).trans hg)).at_ (b' := w.heap.size + 1) (by simp only [World.alloc, Array.size_push]))
    have B2 := Lib.hid (((Box.alloc ((w.alloc _).alloc _) _ _).grow hg).at_ (b' := w.heap.size + 1 + 1) (by simp only [World.alloc, Array.size_push]))
    have HG := Lib.hid (hG.trans hg)
    clear hG hg
    have h0 := B2.out.one
    have hl := B2.out.1
    go_wp2_with fail
    refine (headOkI_any _ _ hd (HH.out.grow HG.out)).mono ?_
    rintro _ w2 ⟨rfl, hg⟩
    rw [hhd]
    have HG := Lib.hid (HG.out.trans hg)
    go_wp2
    go_ret
    exact ⟨ret_int HX.out.symm, HG.out⟩

  have HX : Hid (lkF d ep hd = idxN (lkP d.es ep hd) d.es.length) := Lib.hid (by simp [lkF, htb, hhd])
  go_enter Try.func58, Try.ntmps58
  go_wp2_with fail
  refine at_world (w := w) ?G (fun hG => (tableOkI_any _ _ d (HT.out.grow hG) WF.out).mono ?_)
  case G => ((repeat (first | with_reducible exact Grow.refl _ | (with_reducible refine Grow.alloc_ ?_ _) | (with_reducible refine Grow.setCell_ ?_ (by first | exact Nat.le_refl _ | (simp only [World.alloc, Array.size_push]; omega) | omega) _))))
  rintro _ w1 ⟨rfl, hg⟩
  rw [htb]
  have B0 := Lib.hid ((Box.alloc w _ _).grow ((Grow.alloc _ _).trans ((Grow.alloc _ _).trans hg)))
  have B1 := Lib.hid (((Box.alloc (w.alloc _) _ _).grow ((Grow.alloc _ _).trans hg)).at_ (b' := w.heap.size + 1) (by simp only [World.alloc, Array.size_push]))
  have B2 := Lib.hid (((Box.alloc ((w.alloc _).alloc _) _ _).grow hg).at_ (b' := w.heap.size + 1 + 1) (by simp only [World.alloc, Array.size_push]))
  have HG := Lib.hid (hG.trans hg)
  clear hG hg
  have h0 := B2.out.one
  have hl := B2.out.1
  go_wp2_with fail
  refine (headOkI_any _ _ hd (HH.out.grow HG.out)).mono ?_
  rintro _ w2 ⟨rfl, hg⟩
  rw [hhd]
  have HG := Lib.hid (HG.out.trans hg)
  clear h0 hl
  have B0 := Lib.hid (B0.out.grow hg)
  have B1 := Lib.hid (B1.out.grow hg)
  have B2 := Lib.hid (B2.out.grow hg)
  clear hg
  have ⟨t0, t1⟩ := B0.out.two
  have h0 := B2.out.one
  have hl0 := B0.out.1
  go_wp2_with fail
  refine (indexLk_any _ _ d.es _ _ ep _ hd (HV.out.grow HG.out) WF.out.2 B1.out.one B2.out.one (HH.out.grow HG.out) wh).mono ?_
  rintro _ w3 ⟨rfl, hg⟩
  have HG := Lib.hid (HG.out.trans hg); clear hg
  go_wp2
  go_ret
  exact ⟨ret_int HX.out.symm, HG.out⟩
--% lookupS 57
set_option maxHeartbeats 2000000 in
theorem lookupS_any (w : World) (V U : Value) (d : TableD) (ep : Int) (hd : HeadD) (h : RdT w V d) (h2 : RdH w U hd) (wf : WfT d) (wh : WfH hd) : Calls Try.prog 57 #[V, .int .i64 ep, U] w (RetV (.int .i64 (lkF d ep hd)) w) := by
  have HT := Lib.hid h
  obtain ⟨v0, rfl, hv⟩ := h
  have HV := Lib.hid hv
  obtain ⟨a, c, rfl, hlc, hm, hn, hel⟩ := hv
  obtain ⟨ah, kh, rfl⟩ := h2.shape
  have HH := Lib.hid h2; have WF := Lib.hid wf
  clear h2 hel hn wf
  cases htb : tbB d
  · have HX : Hid (lkF d ep hd = -1) := Lib.hid (by simp [lkF, htb])
    go_enter Try.func57, Try.ntmps57
    go_wp2_with fail
    refine at_world (w := w) ?G (fun hG => (tableOkS_any _ _ d (HT.out.grow hG) WF.out).mono ?_)
    case G => ((repeat (first | with_reducible exact Grow.refl _ | (with_reducible refine Grow.alloc_ ?_ _) | (with_reducible refine Grow.setCell_ ?_ (by first | exact Nat.le_refl _ | (simp only [World.alloc, Array.size_push]; omega) | omega) _))))
    rintro _ w1 ⟨rfl, hg⟩
    rw [htb]
    have HG := Lib.hid (hG.trans hg)
    go_wp2
    go_ret
    exact ⟨ret_int HX.out.symm, HG.out⟩

  cases hhd : hdOk hd.vs
  · have HX : Hid (lkF d ep hd = -1) := Lib.hid (by simp [lkF, hhd])
    go_enter Try.func57, Try.ntmps57
    go_wp2_with fail
    refine at_world (w := w) ?G (fun hG => (tableOkS_any _ _ d (HT.out.grow hG) WF.out).mono ?_)
    case G => ((repeat (first | with_reducible exact Grow.refl _ | (with_reducible refine Grow.alloc_ ?_ _) | (with_reducible refine Grow.setCell_ ?_ (by first | exact Nat.le_refl _ | (simp only [World.alloc, Array.size_push]; omega) | omega) _))))
    rintro _ w1 ⟨rfl, hg⟩
    rw [htb]
    have B0 := Lib.hid ((Box.alloc w _ _).grow ((Grow.alloc _ _).trans hg))
    have B2 := Lib.hid (((Box.alloc (w.alloc _) _ _).grow hg).at_ (b' := w.heap.size + 1) (by simp only [World.alloc, Array.size_push]))
    have HG := Lib.hid (hG.trans hg)
    clear hG hg
    have h0 := B2.out.one
    have hl := B2.out.1
    go_wp2_with fail
    refine (headOkS_any _ _ hd (HH.out.grow HG.out)).mono ?_
    rintro _ w2 ⟨rfl, hg⟩
    rw [hhd]
    have HG := Lib.hid (HG.out.trans hg)
    go_wp2
    go_ret
    exact ⟨ret_int HX.out.symm, HG.out⟩

  have HX : Hid (lkF d ep hd = idxN (lkP d.es ep hd) d.es.length) := Lib.hid (by simp [lkF, htb, hhd])
  go_enter Try.func57, Try.ntmps57
  go_wp2_with fail
  refine at_world (w := w) ?G (fun hG => (tableOkS_any _ _ d (HT.out.grow hG) WF.out).mono ?_)
  case G => ((repeat (first | with_reducible exact Grow.refl _ | (with_reducible refine Grow.alloc_ ?_ _) | (with_reducible refine Grow.setCell_ ?_ (by first | exact Nat.le_refl _ | (simp only [World.alloc, Array.size_push]; omega) | omega) _))))
  rintro _ w1 ⟨rfl, hg⟩
  rw [htb]
  have B0 := Lib.hid ((Box.alloc w _ _).grow ((Grow.alloc _ _).trans hg))
  have B2 := Lib.hid (((Box.alloc (w.alloc _) _ _).grow hg).at_ (b' := w.heap.size + 1) (by simp only [World.alloc, Array.size_push]))
  have HG := Lib.hid (hG.trans hg)
  clear hG hg
  have h0 := B2.out.one
  have hl := B2.out.1
  go_wp2_with fail
  refine (headOkS_any _ _ hd (HH.out.grow HG.out)).mono ?_
  rintro _ w2 ⟨rfl, hg⟩
  rw [hhd]
  have HG := Lib.hid (HG.out.trans hg)
  clear h0 hl
  have B0 := Lib.hid (B0.out.grow hg)
  have B2 := Lib.hid (B2.out.grow hg)
  clear hg
  obtain ⟨cap, es⟩ := d
  simp only at hlc hm HX HV ⊢
  obtain ⟨aa, cc, ev, hlc2, hm2, hn2, hel⟩ := HV.out
  simp only [Value.slice.injEq] at ev
  obtain ⟨rfl, -, rfl⟩ := ev
  have H := Lib.hid hel
  have WES := Lib.hid (show WfES es from WF.out.2)
  unfold maxLen at hm
  clear hlc2 hm2 hn2 hel
  have ⟨t0, t1⟩ := B0.out.two
  have tl := B0.out.1
  go_wp2
  obtain ⟨wo, hwo⟩ : ∃ wo : World, wo = w2 := ⟨_, rfl⟩
  subst hwo
  go_loopw [19] (fun i wr => ∃ k : Nat, k ≤ es.length ∧ i = .int .i64 k ∧ (∀ j, j < k → lkP es ep hd j = false) ∧ Grow wo wr) (fun i _ => es.length - (intOf i).toNat)
  case atStart => exact ⟨0, Nat.zero_le _, rfl, fun j hj => absurd hj (Nat.not_lt_zero _), Grow.refl _⟩
  case round =>
    obtain ⟨k, hk, rfl, hal, hgr⟩ := hrel
    have HA := Lib.hid hal; have HGR := Lib.hid hgr; clear hal hgr t0 t1 tl
    rename World => wr
    have ⟨t0, t1⟩ := (B0.out.grow HGR.out).two
    have tl := (B0.out.grow HGR.out).1
    by_cases hlt : k < es.length
    · obtain ⟨b, off, rfl, hes⟩ := ent_open H.out hlt
      obtain ⟨a0, k0, a1, k1, a2, k2, hE⟩ := hes k hlt
      have WE := Lib.hid (WES.out.at k hlt)
      have HY := Lib.hid (idxN_yes (P := lkP es ep hd) hlt)
      have HP : Hid (lkP es ep hd k = (decide ((es.getD k default).epoch = ep) && hitOk (es.getD k default).m hd.vs)) := Lib.hid rfl
      clear hes
      generalize es.getD k default = e at hE WE HP
      have HE := Lib.hid (hE.grow (HG.out.trans HGR.out))
      clear hE t0 t1 tl
      by_cases q : e.epoch = ep
      rotate_left
      · have hb : (e.epoch == ep) = false := by simpa using q
        have HX2 : Hid (lkP es ep hd k = false) := Lib.hid (by rw [HP.out]; simp [q])
        clear q
        go_wp2_with fail
        have hne : Nonempty (Cl (Grow wr)) := ⟨⟨wr, Grow.refl _⟩⟩
        have ⟨p0, p1⟩ := (B0.out.grow HGR.out).two_
        have p2 := (B2.out.grow HGR.out).one_
        obtain ⟨x0, x1, x2, x3⟩ : (∀ x : Cl (Grow wr), x.w.cell? ⟨b, off + k * 6, none⟩ = some (.int .i64 e.epoch)) ∧ (∀ x : Cl (Grow wr), x.w.cell? ⟨b, off + k * 6 + 1, none⟩ = some (.int .i64 e.prio)) ∧ (∀ x : Cl (Grow wr), x.w.cell? ⟨b, off + k * 6 + 2, none⟩ = some (.slice a0 e.m.vs.length k0)) ∧ (∀ x : Cl (Grow wr), x.w.cell? ⟨b, off + k * 6 + 3, none⟩ = some (.slice a1 e.m.ms.length k1)) := ⟨fun x => (HE.out.grow x.ok).1, fun x => (HE.out.grow x.ok).2.1, fun x => (HE.out.grow x.ok).2.2.1, fun x => (HE.out.grow x.ok).2.2.2.1⟩
        refine wp_region_mix (Cls (Grow wr)) 18 #[false, false, false, false, false, false, false, false, false, false, false, false, false, false, false, false, false, false] (by kernel_rfl) (by kernel_rfl) ⟨⟨_, Grow.drewN _ 1⟩, rfl⟩ ?_
        refine anyC_seg [0, 1, 2, 3, 4, 5, 6, 7, 8, 9, 10, 11, 12, 13, 14, 15] #[true, true, true, true, true, true, true, true, true, true, true, true, true, true, true, true, false, false] (fuel := 2) rfl (by kernel_rfl) ⟨⟨_, Grow.drewN _ 1⟩, rfl⟩ ?_
        simp only [pickOps, List.getD_cons_succ, List.getD_cons_zero]
        repeat (go_big_quiet_step (fail))
        refine wpQuiet_nil ?_
        refine anyC_sole 16 #[true, true, true, true, true, true, true, true, true, true, true, true, true, true, true, true, true, false] (fuel := 1) (by kernel_rfl) ?_
        simp only [List.getD_cons_succ, List.getD_cons_zero]
        go_wp2
        refine ⟨⟨⟨_, Grow.drewN _ 1⟩, rfl⟩, ?_⟩
        refine anyC_seg [17] #[true, true, true, true, true, true, true, true, true, true, true, true, true, true, true, true, true, true] (fuel := 0) rfl (by kernel_rfl) ⟨⟨_, Grow.drewN _ 1⟩, rfl⟩ ?_
        simp only [pickOps, List.getD_cons_succ, List.getD_cons_zero]
        repeat (go_big_quiet_step (fail))
        refine wpQuiet_nil ?_
        refine anyC_done (by kernel_rfl) ?_
        go_wp2
        go_roundw
        case rel => exact ⟨k + 1, by omega, by go_num, belowP HA.out HX2.out, HGR.out.trans (Grow.drewN _ 1)⟩
        case measure => simp [intOf]; omega

      have hb : (e.epoch == ep) = true := by simpa using q
      cases hp : hitOk e.m hd.vs
      · have HX2 : Hid (lkP es ep hd k = false) := Lib.hid (by rw [HP.out, hp]; simp)
        clear q
        go_wp2_with fail
        have hne : Nonempty (Cl (Grow wr)) := ⟨⟨wr, Grow.refl _⟩⟩
        have ⟨p0, p1⟩ := (B0.out.grow HGR.out).two_
        have p2 := (B2.out.grow HGR.out).one_
        obtain ⟨x0, x1, x2, x3⟩ : (∀ x : Cl (Grow wr), x.w.cell? ⟨b, off + k * 6, none⟩ = some (.int .i64 e.epoch)) ∧ (∀ x : Cl (Grow wr), x.w.cell? ⟨b, off + k * 6 + 1, none⟩ = some (.int .i64 e.prio)) ∧ (∀ x : Cl (Grow wr), x.w.cell? ⟨b, off + k * 6 + 2, none⟩ = some (.slice a0 e.m.vs.length k0)) ∧ (∀ x : Cl (Grow wr), x.w.cell? ⟨b, off + k * 6 + 3, none⟩ = some (.slice a1 e.m.ms.length k1)) := ⟨fun x => (HE.out.grow x.ok).1, fun x => (HE.out.grow x.ok).2.1, fun x => (HE.out.grow x.ok).2.2.1, fun x => (HE.out.grow x.ok).2.2.2.1⟩
        refine wp_region_mix (Cls (Grow wr)) 18 #[false, false, false, false, false, false, false, false, false, false, false, false, false, false, false, false, false, false] (by kernel_rfl) (by kernel_rfl) ⟨⟨_, Grow.drewN _ 1⟩, rfl⟩ ?_
        refine anyC_seg [0, 1, 2, 3, 4, 5, 6, 7, 8, 9, 10, 11, 12, 13, 14, 15] #[true, true, true, true, true, true, true, true, true, true, true, true, true, true, true, true, false, false] (fuel := 2) rfl (by kernel_rfl) ⟨⟨_, Grow.drewN _ 1⟩, rfl⟩ ?_
        simp only [pickOps, List.getD_cons_succ, List.getD_cons_zero]
        repeat (go_big_quiet_step (fail))
        refine wpQuiet_nil ?_
        refine anyC_sole 16 #[true, true, true, true, true, true, true, true, true, true, true, true, true, true, true, true, true, false] (fuel := 1) (by kernel_rfl) ?_
        simp only [List.getD_cons_succ, List.getD_cons_zero]
        go_wp2_with fail
        refine (hitsS_any _ _ _ e.m hd ((HE.out.m).grow (Grow.drewN _ 1)) ((HH.out.grow (HG.out.trans HGR.out)).grow (Grow.drewN _ 1)) WE.out.2.2.1 wh).mono ?_
        rintro _ w9 ⟨rfl, hg⟩
        rw [hp]
        have D9 := Lib.hid ((Grow.drewN _ 1).trans hg); clear hg
        go_wp2
        refine ⟨⟨⟨_, D9.out⟩, rfl⟩, ?_⟩
        refine anyC_seg [17] #[true, true, true, true, true, true, true, true, true, true, true, true, true, true, true, true, true, true] (fuel := 0) rfl (by kernel_rfl) ⟨⟨_, D9.out⟩, rfl⟩ ?_
        simp only [pickOps, List.getD_cons_succ, List.getD_cons_zero]
        repeat (go_big_quiet_step (fail))
        refine wpQuiet_nil ?_
        refine anyC_done (by kernel_rfl) ?_
        go_wp2
        go_roundw
        case rel => exact ⟨k + 1, by omega, by go_num, belowP HA.out HX2.out, HGR.out.trans (D9.out)⟩
        case measure => simp [intOf]; omega

      have HX2 := Lib.hid (HY.out (by rw [HP.out, hp]; simp [q]) HA.out)
      clear q
      go_wp2_with fail
      have hne : Nonempty (Cl (Grow wr)) := ⟨⟨wr, Grow.refl _⟩⟩
      have ⟨p0, p1⟩ := (B0.out.grow HGR.out).two_
      have p2 := (B2.out.grow HGR.out).one_
      obtain ⟨x0, x1, x2, x3⟩ : (∀ x : Cl (Grow wr), x.w.cell? ⟨b, off + k * 6, none⟩ = some (.int .i64 e.epoch)) ∧ (∀ x : Cl (Grow wr), x.w.cell? ⟨b, off + k * 6 + 1, none⟩ = some (.int .i64 e.prio)) ∧ (∀ x : Cl (Grow wr), x.w.cell? ⟨b, off + k * 6 + 2, none⟩ = some (.slice a0 e.m.vs.length k0)) ∧ (∀ x : Cl (Grow wr), x.w.cell? ⟨b, off + k * 6 + 3, none⟩ = some (.slice a1 e.m.ms.length k1)) := ⟨fun x => (HE.out.grow x.ok).1, fun x => (HE.out.grow x.ok).2.1, fun x => (HE.out.grow x.ok).2.2.1, fun x => (HE.out.grow x.ok).2.2.2.1⟩
      refine wp_region_mix (Cls (Grow wr)) 18 #[false, false, false, false, false, false, false, false, false, false, false, false, false, false, false, false, false, false] (by kernel_rfl) (by kernel_rfl) ⟨⟨_, Grow.drewN _ 1⟩, rfl⟩ ?_
      refine anyC_seg [0, 1, 2, 3, 4, 5, 6, 7, 8, 9, 10, 11, 12, 13, 14, 15] #[true, true, true, true, true, true, true, true, true, true, true, true, true, true, true, true, false, false] (fuel := 2) rfl (by kernel_rfl) ⟨⟨_, Grow.drewN _ 1⟩, rfl⟩ ?_
      simp only [pickOps, List.getD_cons_succ, List.getD_cons_zero]
      repeat (go_big_quiet_step (fail))
      refine wpQuiet_nil ?_
      refine anyC_sole 16 #[true, true, true, true, true, true, true, true, true, true, true, true, true, true, true, true, true, false] (fuel := 1) (by kernel_rfl) ?_
      simp only [List.getD_cons_succ, List.getD_cons_zero]
      go_wp2_with fail
      refine (hitsS_any _ _ _ e.m hd ((HE.out.m).grow (Grow.drewN _ 1)) ((HH.out.grow (HG.out.trans HGR.out)).grow (Grow.drewN _ 1)) WE.out.2.2.1 wh).mono ?_
      rintro _ w9 ⟨rfl, hg⟩
      rw [hp]
      have D9 := Lib.hid ((Grow.drewN _ 1).trans hg); clear hg
      go_wp2
      refine ⟨⟨⟨_, D9.out⟩, rfl⟩, ?_⟩
      refine anyC_seg [17] #[true, true, true, true, true, true, true, true, true, true, true, true, true, true, true, true, true, true] (fuel := 0) rfl (by kernel_rfl) ⟨⟨_, D9.out⟩, rfl⟩ ?_
      simp only [pickOps, List.getD_cons_succ, List.getD_cons_zero]
      repeat (go_big_quiet_step (fail))
      refine wpQuiet_nil ?_
      refine anyC_done (by kernel_rfl) ?_
      go_wp2
      go_ret
      exact ⟨ret_int (by rw [HX.out]; exact HX2.out.symm), HG.out.trans (HGR.out.trans D9.out)⟩
    · obtain rfl : k = es.length := by omega
      have HX2 := Lib.hid (idxN_no HA.out)
      go_wp2
      go_ret
      exact ⟨ret_int (by rw [HX.out]; exact HX2.out.symm), HG.out.trans (HGR.out.trans (by ((repeat (first | with_reducible exact Grow.refl _ | (with_reducible refine Grow.alloc_ ?_ _) | (with_reducible refine Grow.setCell_ ?_ (by first | exact Nat.le_refl _ | (simp only [World.alloc, Array.size_push]; omega) | omega) _))))))⟩
--%
end Go.Proofs.Ytgigdpdmdldhnaa
