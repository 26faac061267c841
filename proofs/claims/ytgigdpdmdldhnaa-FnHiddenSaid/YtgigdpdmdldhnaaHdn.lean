/- Hidden: contracts of the code (printed by gh.py). -/
import Derived.Test.YtgigdpdmdldhnaaLk
import Derived.WalkKit
import Derived.ProofKit
import Derived.Deep.QuietTactic
import Derived.BigQuiet
import Derived.Outline
import Derived.WalkSpells
namespace Go.Proofs.Ytgigdpdmdldhnaa
open Go.ChangeShapes Go.WideShapes Go.ChangeAt Go.RowKit
set_option linter.unusedVariables false
set_option linter.unusedSimpArgs false
--%
/-- Ints gathered over appends, in blocks made since w1. -/
def AccN (w1 w : World) (v : Value) (zs : List Int) : Prop := Grow w1 w ∧ w.ownsRow w1.heap.size 3 1 v zs.length (zs.map (Value.int .i64))
theorem AccN.nil {w1 w : World} (g : Grow w1 w) : AccN w1 w (.slice none 0 0) [] := ⟨g, World.ownsRow_nil _ _ _ _⟩
theorem AccN.grow {w1 w w' : World} {v : Value} {zs : List Int} (h : AccN w1 w v zs) (g : Grow w w') : AccN w1 w' v zs := ⟨h.1.trans g, own_grow h.2 g⟩
theorem AccN.own {w1 w : World} {v : Value} {zs : List Int} (h : AccN w1 w v zs) : OwnN w v zs (fpOf v) ∧ Fresh w1 (fpOf v) := OwnR.of h.2
theorem AccN.onto {w1 w w' : World} {v v' : Value} {zs ys : List Int} (h : AccN w1 w v zs) (ho : w'.ownsRow w1.heap.size 3 1 v' (zs.length + ys.length) (zs.map (Value.int .i64) ++ ys.map (Value.int .i64))) (hg : w.grownBy w' v.ownBlock) : AccN w1 w' v' (zs ++ ys) := by
  refine ⟨h.1.then_upd (Upd.of_grown hg) h.own.2, ?_⟩
  rw [List.length_append, List.map_append]
  exact ho
theorem AccN.upd {w1 w w' : World} {v : Value} {zs : List Int} {fp : List Nat} (h : AccN w1 w v zs) (u : Upd fp w w') (hf : Fresh w1 fp) (ha : ∀ x ∈ fpOf v, x ∉ fp) : AccN w1 w' v zs := by
  refine ⟨h.1.then_upd u hf, ?_⟩
  have h1 := h.own.1.upd u ha
  obtain ⟨⟨hl, h3⟩, _⟩ := h1
  refine ⟨hl, ?_⟩
  rcases h3 with h4 | ⟨b, cap, cur, rfl, hb, r⟩
  · exact .inl h4
  · exact .inr ⟨b, cap, cur, rfl, h.own.2 b (by simp [fpOf, Value.ownBlock]), r⟩
theorem accN_lit {W : World} {n : Nat} (h : W.heap.size = n) : AccN W (W.alloc (.cells #[] 3)) (.slice (some ⟨n, 0, none⟩) 0 0) [] := by
  subst h
  exact ⟨Grow.alloc _ _, World.ownsRow_lit W #[] 0 (Nat.le_refl _) (by decide) rfl⟩
def anyN (P : Nat → Bool) : Nat → Bool
  | 0 => false
  | n + 1 => anyN P n || P n
theorem anyN_congr {P Q : Nat → Bool} : ∀ {n : Nat}, (∀ j, j < n → P j = Q j) → anyN P n = anyN Q n
  | 0, _ => rfl
  | n + 1, h => by unfold anyN; rw [anyN_congr (n := n) (fun j hj => h j (by omega)), h n (by omega)]
theorem anyN_no {P : Nat → Bool} : ∀ {n : Nat}, (∀ j, j < n → P j = false) → anyN P n = false
  | 0, _ => rfl
  | n + 1, h => by unfold anyN; rw [anyN_no (n := n) (fun j hj => h j (by omega)), h n (by omega)]; rfl
theorem anyN_yes {P : Nat → Bool} {k : Nat} : ∀ {n : Nat}, k < n → P k = true → anyN P n = true
  | 0, hk, _ => absurd hk (Nat.not_lt_zero _)
  | n + 1, hk, hp => by
    unfold anyN
    rcases Nat.lt_or_ge k n with h' | h'
    · rw [anyN_yes (n := n) h' hp]; rfl
    · obtain rfl : k = n := by omega
      rw [hp]; simp
theorem idxN_s (P : Nat → Bool) (n : Nat) : idxN P (n + 1) = if 0 ≤ idxN P n then idxN P n else if P n then (n : Int) else -1 := rfl
theorem anyN_s (P : Nat → Bool) (n : Nat) : anyN P (n + 1) = (anyN P n || P n) := rfl
theorem idxN_any (P : Nat → Bool) (n : Nat) : decide (0 ≤ idxN P n) = anyN P n := by
  induction n with
  | zero => rfl
  | succ n ih =>
    rw [anyN_s, ← ih, idxN_s]
    by_cases h : 0 ≤ idxN P n
    · simp [h]
    · by_cases h2 : P n = true
      · simp [h, h2]
      · simp [h, h2]
/-- Entry k hides entry i. -/
def hidP (es : List EntryD) (i k : Nat) : Bool := decide ((es.getD k default).epoch = (es.getD i default).epoch) && cvOk (es.getD k default).m (es.getD i default).m
def hdL (es : List EntryD) : Nat → List Int
  | 0 => []
  | n + 1 => if anyN (hidP es n) n then hdL es n ++ [(n : Int)] else hdL es n
theorem hdL_len (es : List EntryD) : ∀ n, (hdL es n).length ≤ n
  | 0 => Nat.le_refl _
  | n + 1 => by
    have := hdL_len es n
    unfold hdL; split
    · simp; omega
    · omega
theorem hdL_yes {es : List EntryD} {n : Nat} (h : anyN (hidP es n) n = true) : hdL es (n + 1) = hdL es n ++ [(n : Int)] := by simp [hdL, h]
theorem hdL_no {es : List EntryD} {n : Nat} (h : anyN (hidP es n) n = false) : hdL es (n + 1) = hdL es n := by simp [hdL, h]
def hdF (d : TableD) : List Int := if tbB d = true then hdL d.es d.es.length else []
theorem tb_len {d : TableD} (h : tbB d = true) : d.es.length ≤ 400 := by
  have := of_decide_eq_true h
  have h1 := this.1; have h2 := this.2.1; omega
theorem getD_take {es : List EntryD} {n k : Nat} (h : k < n) : (es.take n).getD k default = es.getD k default := by
  simp [List.getD_eq_getElem?_getD, List.getElem?_take, h]
theorem RdES.take {w : World} {a : Option Addr} {c : Nat} {es : List EntryD} (h : RdES w (.slice a es.length c) es) (n : Nat) (hn : n ≤ es.length) : RdES w (.slice a n c) (es.take n) := by
  obtain ⟨a', c', e, h1, h2, h3, h4⟩ := h
  simp only [Value.slice.injEq] at e
  obtain ⟨rfl, -, rfl⟩ := e
  have hl : (es.take n).length = n := by simp; omega
  refine ⟨a, c, by rw [hl], by omega, h2, h3, fun j hj => ?_⟩
  have hj' : j < es.length := by omega
  have := h4 j hj'
  rwa [List.getElem_take]
theorem WfES.take {es : List EntryD} (h : WfES es) (n : Nat) : WfES (es.take n) := fun d hd => h d (List.mem_of_mem_take hd)
--% Hidden1 109
theorem hidden1_any (w : World) (V : Value) (x e : EntryD) (bx : Nat) (a3 a4 a5 : Option Addr) (k3 k4 k5 : Nat) (h : RdE w V x) (wx : WfE x) (we : WfE e) (hb : Box w bx [.int .i64 e.epoch, .int .i64 e.prio, .slice a3 e.m.vs.length k3, .slice a4 e.m.ms.length k4, .slice a5 e.acts.length k5, .int .i64 e.hits]) (he : RdE w (.agg #[.int .i64 e.epoch, .int .i64 e.prio, .slice a3 e.m.vs.length k3, .slice a4 e.m.ms.length k4, .slice a5 e.acts.length k5, .int .i64 e.hits]) e) :
    Calls Try.prog 109 #[V, .pointer (some ⟨bx, 0, none⟩)] w (RetV (.bool (decide (x.epoch = e.epoch) && cvOk x.m e.m)) w) := by
  obtain ⟨a0, k0, a1, k1, a2, k2, rfl⟩ := h.shape
  have HX := Lib.hid h.m; have HM := Lib.hid he.m
  have ⟨c0, c1, c2, c3, c4, c5⟩ := hb.six
  have l1 := hb.1
  clear h he hb
  by_cases q : x.epoch = e.epoch
  rotate_left
  · have hb : (x.epoch == e.epoch) = false := by simpa using q
    have HE : Hid ((decide (x.epoch = e.epoch) && cvOk x.m e.m) = false) := Lib.hid (by simp [q])
    clear q
    go_enter Try.func109, Try.ntmps109
    go_wp2
    go_ret
    refine ⟨ret_bool HE.out.symm, ?_⟩
    ((repeat (first | with_reducible exact Grow.refl _ | (with_reducible refine Grow.alloc_ ?_ _) | (with_reducible refine Grow.setCell_ ?_ (by first | exact Nat.le_refl _ | (simp only [World.alloc, Array.size_push]; omega) | omega) _))))
  have hb : (x.epoch == e.epoch) = true := by simpa using q
  have HE : Hid ((decide (x.epoch = e.epoch) && cvOk x.m e.m) = cvOk x.m e.m) := Lib.hid (by simp [q])
  clear q
  go_enter Try.func109, Try.ntmps109
  go_wp2_with fail
  refine at_world (w := w) ?G (fun hG => (coversI_any _ _ _ x.m e.m (HX.out.grow hG) (HM.out.grow hG) wx.2.2.1 we.2.2.1).mono ?_)
  case G => ((repeat (first | with_reducible exact Grow.refl _ | (with_reducible refine Grow.alloc_ ?_ _) | (with_reducible refine Grow.setCell_ ?_ (by first | exact Nat.le_refl _ | (simp only [World.alloc, Array.size_push]; omega) | omega) _))))
  rintro _ w1 ⟨rfl, hg⟩
  have HG := Lib.hid (hG.trans hg); clear hG hg
  go_wp2
  go_ret
  exact ⟨ret_bool HE.out.symm, HG.out⟩
--% IndexH 104 109
def hxP (es : List EntryD) (e : EntryD) (k : Nat) : Bool := decide ((es.getD k default).epoch = e.epoch) && cvOk (es.getD k default).m e.m
theorem indexH_any (w : World) (v : Value) (es : List EntryD) (e : EntryD) (bx : Nat) (a3 a4 a5 : Option Addr) (k3 k4 k5 : Nat) (h : RdES w v es) (wf : WfES es) (we : WfE e) (hb : Box w bx [.int .i64 e.epoch, .int .i64 e.prio, .slice a3 e.m.vs.length k3, .slice a4 e.m.ms.length k4, .slice a5 e.acts.length k5, .int .i64 e.hits]) (he : RdE w (.agg #[.int .i64 e.epoch, .int .i64 e.prio, .slice a3 e.m.vs.length k3, .slice a4 e.m.ms.length k4, .slice a5 e.acts.length k5, .int .i64 e.hits]) e) :
    Calls Try.prog 104 #[v, .func (Fn.func 109) #[] #[.pointer (some ⟨bx, 0, none⟩)]] w (RetV (.int .i64 (idxN (hxP es e) es.length)) w) := by
  obtain ⟨a, c, rfl, hlc, hm, hn, hel⟩ := h
  have H := Lib.hid hel; have WF := Lib.hid wf.at; have HB := Lib.hid hb; have HD := Lib.hid he
  clear hel hn wf hb he
  unfold maxLen at hm
  go_enter Try.func104, Try.ntmps104
  go_wp2
  go_loopw [8] (fun i wr => ∃ k : Nat, k ≤ es.length ∧ i = .int .i64 k ∧ (∀ j, j < k → hxP es e j = false) ∧ Grow w wr) (fun i _ => es.length - (intOf i).toNat)
  case atStart => exact ⟨0, Nat.zero_le _, rfl, fun j hj => absurd hj (Nat.not_lt_zero _), Grow.refl _⟩
  case round =>
    obtain ⟨k, hk, rfl, hal, hgr⟩ := hrel
    have HA := Lib.hid hal; have HG := Lib.hid hgr; clear hal hgr
    by_cases hlt : k < es.length
    · obtain ⟨b, off, rfl, hes⟩ := ent_open H.out hlt
      obtain ⟨a0, k0, a1, k1, a2, k2, hE⟩ := hes k hlt
      have WE := Lib.hid (WF.out k hlt)
      have HY := Lib.hid (idxN_yes (P := hxP es e) hlt)
      have HP : Hid (hxP es e k = (decide ((es.getD k default).epoch = e.epoch) && cvOk (es.getD k default).m e.m)) := Lib.hid rfl
      clear hes
      generalize es.getD k default = x at hE WE HP
      have HE := Lib.hid (hE.grow HG.out)
      clear hE
      obtain ⟨x0, x1, x2, x3, x4, x5, -, -, -⟩ := HE.out
      cases hp : (decide (x.epoch = e.epoch) && cvOk x.m e.m)
      · have HX := Lib.hid (HP.out.trans hp)
        go_wp2_with fail
        refine (hidden1_any _ _ x e bx _ _ _ _ _ _ HE.out.rd WE.out we (HB.out.grow HG.out) (HD.out.grow HG.out)).mono ?_
        rintro _ w1 ⟨rfl, hg⟩
        rw [hp]
        have HG1 := Lib.hid (HG.out.trans hg); clear hg
        go_wp2
        go_roundw
        case rel => exact ⟨k + 1, by omega, by go_num, belowP HA.out HX.out, HG1.out⟩
        case measure => simp [intOf]; omega
      · have HX := Lib.hid (HY.out (HP.out.trans hp) HA.out)
        go_wp2_with fail
        refine (hidden1_any _ _ x e bx _ _ _ _ _ _ HE.out.rd WE.out we (HB.out.grow HG.out) (HD.out.grow HG.out)).mono ?_
        rintro _ w1 ⟨rfl, hg⟩
        rw [hp]
        have HG1 := Lib.hid (HG.out.trans hg); clear hg
        go_wp2
        go_ret
        exact ⟨ret_int HX.out.symm, HG1.out⟩
    · obtain rfl : k = es.length := by omega
      have HX := Lib.hid (idxN_no HA.out)
      go_wp2
      go_ret
      exact ⟨ret_int HX.out.symm, HG.out⟩
--% ContainsH 108 109
theorem containsH_any (w : World) (v : Value) (es : List EntryD) (e : EntryD) (bx : Nat) (a3 a4 a5 : Option Addr) (k3 k4 k5 : Nat) (h : RdES w v es) (wf : WfES es) (we : WfE e) (hb : Box w bx [.int .i64 e.epoch, .int .i64 e.prio, .slice a3 e.m.vs.length k3, .slice a4 e.m.ms.length k4, .slice a5 e.acts.length k5, .int .i64 e.hits]) (he : RdE w (.agg #[.int .i64 e.epoch, .int .i64 e.prio, .slice a3 e.m.vs.length k3, .slice a4 e.m.ms.length k4, .slice a5 e.acts.length k5, .int .i64 e.hits]) e) :
    Calls Try.prog 108 #[v, .func (Fn.func 109) #[] #[.pointer (some ⟨bx, 0, none⟩)]] w (RetV (.bool (anyN (hxP es e) es.length)) w) := by
  have HV := Lib.hid h; have HB := Lib.hid hb; have HE := Lib.hid he; clear h hb he
  go_enter Try.func108, Try.ntmps108
  go_wp2_with fail
  refine (indexH_any _ _ _ e bx _ _ _ _ _ _ HV.out wf we HB.out HE.out).mono ?_
  rintro _ w1 ⟨rfl, hg⟩
  go_wp2
  go_ret
  exact ⟨ret_bool (idxN_any _ _), hg⟩
--% hiddenI 60
set_option maxHeartbeats 4000000 in
theorem hiddenI_any (w : World) (V : Value) (d : TableD) (h : RdT w V d) (wf : WfT d) : Calls Try.prog 60 #[V] w (RetNew OwnN (hdF d) w) := by
  have HT := Lib.hid h
  obtain ⟨v0, rfl, hv⟩ := h
  have HV := Lib.hid hv
  obtain ⟨a, c, rfl, hlc, hm, hn, hel⟩ := hv
  have WF := Lib.hid wf
  have H := Lib.hid hel
  clear hel hn wf
  obtain ⟨cap, es⟩ := d
  simp only at hlc hm HV H ⊢
  have WES := Lib.hid (show WfES es from WF.out.2)
  unfold maxLen at hm
  cases htb : tbB ⟨cap, es⟩
  · have HX : Hid (hdF ⟨cap, es⟩ = []) := Lib.hid (by simp [hdF, htb])
    go_enter Try.func60, Try.ntmps60
    go_wp2_with fail
    have B0 := Lib.hid (Box.alloc w [.int .i64 cap, .slice a es.length c] 79)
    have GB := Lib.hid (Grow.alloc w (.cells #[.int .i64 cap, .slice a es.length c] 79))
    have hsz : (w.alloc (.cells #[.int .i64 cap, .slice a es.length c] 79)).heap.size = w.heap.size + 1 := by simp only [World.alloc, Array.size_push]
    generalize w.alloc (.cells #[.int .i64 cap, .slice a es.length c] 79) = wB at *
    have AC0 : Hid (AccN wB (wB.alloc (.cells #[] 3)) (.slice (some ⟨w.heap.size + 1, 0, none⟩) 0 0) []) := Lib.hid (accN_lit hsz)
    clear hsz
    refine (tableOkI_any _ _ ⟨cap, es⟩ (HT.out.grow (GB.out.trans (Grow.alloc _ _))) WF.out).mono ?_
    rintro _ w1 ⟨rfl, hg⟩
    rw [htb]
    have AC := Lib.hid (AC0.out.grow hg)
    clear hg AC0
    go_wp2
    go_ret
    rw [HX.out]
    exact ⟨_, _, rfl, AC.out.own.1, AC.out.own.2.older GB.out, GB.out.trans AC.out.1⟩
  have HX : Hid (hdF ⟨cap, es⟩ = hdL es es.length) := Lib.hid (by simp [hdF, htb])
  have hlen : es.length ≤ 400 := tb_len htb
  go_enter Try.func60, Try.ntmps60
  go_wp2_with fail
  have B0 := Lib.hid (Box.alloc w [.int .i64 cap, .slice a es.length c] 79)
  have GB := Lib.hid (Grow.alloc w (.cells #[.int .i64 cap, .slice a es.length c] 79))
  have hsz : (w.alloc (.cells #[.int .i64 cap, .slice a es.length c] 79)).heap.size = w.heap.size + 1 := by simp only [World.alloc, Array.size_push]
  generalize w.alloc (.cells #[.int .i64 cap, .slice a es.length c] 79) = wB at *
  have AC0 : Hid (AccN wB (wB.alloc (.cells #[] 3)) (.slice (some ⟨w.heap.size + 1, 0, none⟩) 0 0) []) := Lib.hid (accN_lit hsz)
  clear hsz
  refine (tableOkI_any _ _ ⟨cap, es⟩ (HT.out.grow (GB.out.trans (Grow.alloc _ _))) WF.out).mono ?_
  rintro _ w1 ⟨rfl, hg⟩
  rw [htb]
  have AC := Lib.hid (AC0.out.grow hg)
  clear hg AC0
  have ⟨t0, t1⟩ := (B0.out.grow AC.out.1).two
  have tl := (B0.out.grow AC.out.1).1
  go_wp2
  go_loopw [3, 14] (fun q i wr => ∃ k : Nat, k ≤ es.length ∧ i = .int .i64 k ∧ AccN wB wr q (hdL es k)) (fun _ i _ => es.length - (intOf i).toNat)
  case atStart => exact ⟨0, Nat.zero_le _, rfl, AC.out⟩
  case round =>
    obtain ⟨k, hk, rfl, hacc⟩ := hrel
    rename World => wr
    rename Value => qv
    have AC := Lib.hid hacc
    have HG := Lib.hid hacc.1
    have hzl := hdL_len es k
    obtain ⟨oa, oc, rfl⟩ := own_shape hacc.2
    clear hacc t0 t1 tl
    have ⟨t0, t1⟩ := (B0.out.grow HG.out).two
    have tl := (B0.out.grow HG.out).1
    by_cases hlt : k < es.length
    · obtain ⟨b, off, rfl, hes⟩ := ent_open H.out hlt
      have HS := Lib.hid hes
      obtain ⟨a3, k3, a4, k4, a5, k5, hE⟩ := hes k hlt
      have WE := Lib.hid (WES.out.at k hlt)
      have HEQ : Hid (∀ j, hidP es k j = hxP es (es.getD k default) j) := Lib.hid (fun j => rfl)
      clear hes
      generalize es.getD k default = e at hE WE HEQ
      have HE := Lib.hid (hE.grow (GB.out.trans HG.out))
      clear hE
      obtain ⟨c0, c1, c2, c3, c4, c5, -, -, -⟩ := HE.out
      go_wp2_with fail
      have BE := Lib.hid (Box.alloc wr [.int .i64 e.epoch, .int .i64 e.prio, .slice a3 e.m.vs.length k3, .slice a4 e.m.ms.length k4, .slice a5 e.acts.length k5, .int .i64 e.hits] 68)
      have GE := Lib.hid (Grow.alloc wr (.cells #[.int .i64 e.epoch, .int .i64 e.prio, .slice a3 e.m.vs.length k3, .slice a4 e.m.ms.length k4, .slice a5 e.acts.length k5, .int .i64 e.hits] 68))
      generalize wr.alloc (.cells #[.int .i64 e.epoch, .int .i64 e.prio, .slice a3 e.m.vs.length k3, .slice a4 e.m.ms.length k4, .slice a5 e.acts.length k5, .int .i64 e.hits] 68) = wE at *
      refine (containsH_any _ _ (es.take k) e _ _ _ _ _ _ _ ((HV.out.grow (GB.out.trans (HG.out.trans GE.out))).take k hk) (WES.out.take k) WE.out BE.out (HE.out.rd.grow GE.out)).mono ?_
      rintro _ w2 ⟨rfl, hg⟩
      have AC2 := Lib.hid (AC.out.grow (GE.out.trans hg))
      have HN : Hid (anyN (hxP (es.take k) e) (es.take k).length = anyN (hidP es k) k) := Lib.hid (by
        have hl : (es.take k).length = k := by simp; omega
        rw [hl]
        refine anyN_congr (fun j hj => ?_)
        rw [HEQ.out j]; unfold hxP; rw [getD_take hj])
      rw [HN.out]
      clear hg c0 c1 c2 c3 c4 c5 t0 t1 tl
      cases hz : anyN (hidP es k) k
      · have HZ := Lib.hid (hdL_no hz)
        go_wp2
        go_roundw
        case rel => exact ⟨k + 1, by omega, by go_num, by rw [HZ.out]; exact AC2.out⟩
        case measure => simp [intOf]; omega
      · have HZ := Lib.hid (hdL_yes hz)
        go_wp2_with (at_builtin; refine wpl_append Try.elemI64 rfl _ _ rfl wB.heap.size rfl (AC2.out.grow (Grow.alloc _ (.cells #[Value.int .i64 k] 3))).2 1 rfl (rd_built _ _ 1 1 [Value.int .i64 k] rfl (by decide)) rfl (oneCell_ints .i64 [_]) (by omega) (by unfold maxLen; omega) (AC2.out.grow (Grow.alloc _ (.cells #[Value.int .i64 k] 3))).1.size ?_; intro v5 w5 hown hgr hmv; have A3 := Lib.hid ((AC2.out.grow (Grow.alloc _ (.cells #[Value.int .i64 k] 3))).onto (ys := [(k : Int)]) hown hgr); clear hown hgr hmv)
        go_roundw
        case rel => exact ⟨k + 1, by omega, by go_num, by rw [HZ.out]; exact A3.out⟩
        case measure => simp [intOf]; omega
    · obtain rfl : k = es.length := by omega
      go_wp2
      go_ret
      rw [HX.out]
      exact ⟨_, _, rfl, AC.out.own.1, AC.out.own.2.older GB.out, GB.out.trans AC.out.1⟩
--% hiddenS 59
set_option maxHeartbeats 4000000 in
theorem hiddenS_any (w : World) (V : Value) (d : TableD) (h : RdT w V d) (wf : WfT d) : Calls Try.prog 59 #[V] w (RetNew OwnN (hdF d) w) := by
  have HT := Lib.hid h
  obtain ⟨v0, rfl, hv⟩ := h
  have HV := Lib.hid hv
  obtain ⟨a, c, rfl, hlc, hm, hn, hel⟩ := hv
  have WF := Lib.hid wf
  have H := Lib.hid hel
  clear hel hn wf
  obtain ⟨cap, es⟩ := d
  simp only at hlc hm HV H ⊢
  have WES := Lib.hid (show WfES es from WF.out.2)
  unfold maxLen at hm
  cases htb : tbB ⟨cap, es⟩
  · have HX : Hid (hdF ⟨cap, es⟩ = []) := Lib.hid (by simp [hdF, htb])
    go_enter Try.func59, Try.ntmps59
    go_wp2_with fail
    have B0 := Lib.hid (Box.alloc w [.int .i64 cap, .slice a es.length c] 79)
    have GB := Lib.hid (Grow.alloc w (.cells #[.int .i64 cap, .slice a es.length c] 79))
    have hsz : (w.alloc (.cells #[.int .i64 cap, .slice a es.length c] 79)).heap.size = w.heap.size + 1 := by simp only [World.alloc, Array.size_push]
    generalize w.alloc (.cells #[.int .i64 cap, .slice a es.length c] 79) = wB at *
    have AC0 : Hid (AccN wB (wB.alloc (.cells #[] 3)) (.slice (some ⟨w.heap.size + 1, 0, none⟩) 0 0) []) := Lib.hid (accN_lit hsz)
    clear hsz
    refine (tableOkS_any _ _ ⟨cap, es⟩ (HT.out.grow (GB.out.trans (Grow.alloc _ _))) WF.out).mono ?_
    rintro _ w1 ⟨rfl, hg⟩
    rw [htb]
    have AC := Lib.hid (AC0.out.grow hg)
    clear hg AC0
    go_wp2
    go_ret
    rw [HX.out]
    exact ⟨_, _, rfl, AC.out.own.1, AC.out.own.2.older GB.out, GB.out.trans AC.out.1⟩
  have HX : Hid (hdF ⟨cap, es⟩ = hdL es es.length) := Lib.hid (by simp [hdF, htb])
  have hlen : es.length ≤ 400 := tb_len htb
  go_enter Try.func59, Try.ntmps59
  go_wp2_with fail
  have B0 := Lib.hid (Box.alloc w [.int .i64 cap, .slice a es.length c] 79)
  have GB := Lib.hid (Grow.alloc w (.cells #[.int .i64 cap, .slice a es.length c] 79))
  have hsz : (w.alloc (.cells #[.int .i64 cap, .slice a es.length c] 79)).heap.size = w.heap.size + 1 := by simp only [World.alloc, Array.size_push]
  generalize w.alloc (.cells #[.int .i64 cap, .slice a es.length c] 79) = wB at *
  have AC0 : Hid (AccN wB (wB.alloc (.cells #[] 3)) (.slice (some ⟨w.heap.size + 1, 0, none⟩) 0 0) []) := Lib.hid (accN_lit hsz)
  clear hsz
  refine (tableOkS_any _ _ ⟨cap, es⟩ (HT.out.grow (GB.out.trans (Grow.alloc _ _))) WF.out).mono ?_
  rintro _ w1 ⟨rfl, hg⟩
  rw [htb]
  have AC := Lib.hid (AC0.out.grow hg)
  clear hg AC0
  have ⟨t0, t1⟩ := (B0.out.grow AC.out.1).two
  have tl := (B0.out.grow AC.out.1).1
  go_wp2
  go_loopw [3, 15] (fun q i wr => ∃ k : Nat, k ≤ es.length ∧ i = .int .i64 k ∧ AccN wB wr q (hdL es k)) (fun _ i _ => es.length - (intOf i).toNat)
  case atStart => exact ⟨0, Nat.zero_le _, rfl, AC.out⟩
  case round =>
    obtain ⟨k, hk, rfl, hacc⟩ := hrel
    rename World => wr
    rename Value => qv
    have AC := Lib.hid hacc
    have HG := Lib.hid hacc.1
    have hzl := hdL_len es k
    obtain ⟨oa, oc, rfl⟩ := own_shape hacc.2
    clear hacc t0 t1 tl
    have ⟨t0, t1⟩ := (B0.out.grow HG.out).two
    have tl := (B0.out.grow HG.out).1
    by_cases hlt : k < es.length
    · obtain ⟨b, off, rfl, hes⟩ := ent_open H.out hlt
      have HS := Lib.hid hes
      obtain ⟨a3, k3, a4, k4, a5, k5, hE⟩ := hes k hlt
      have WE := Lib.hid (WES.out.at k hlt)
      have HEQ : Hid (∀ j, hidP es k j = hxP es (es.getD k default) j) := Lib.hid (fun j => rfl)
      clear hes
      generalize es.getD k default = e at hE WE HEQ
      have HE := Lib.hid (hE.grow (GB.out.trans HG.out))
      clear hE
      go_wp2
      obtain ⟨wo, hwo⟩ : ∃ wo : World, wo = wr := ⟨_, rfl⟩
      subst hwo
      go_loopw [5, 6] (fun q i wr => ∃ m : Nat, m ≤ k ∧ i = .int .i64 m ∧ q = .bool (anyN (hidP es k) m) ∧ Grow wo wr) (fun _ i _ => k - (intOf i).toNat)
      case atStart => exact ⟨0, Nat.zero_le _, rfl, rfl, Grow.refl _⟩
      case round =>
        obtain ⟨m, hm', rfl, rfl, hgi⟩ := hrel
        rename World => wi
        have HI := Lib.hid hgi; clear hgi t0 t1 tl
        have ⟨t0, t1⟩ := (B0.out.grow (HG.out.trans HI.out)).two
        have tl := (B0.out.grow (HG.out.trans HI.out)).1
        by_cases hml : m < k
        · obtain ⟨a6, k6, a7, k7, a8, k8, hQ⟩ := HS.out m (by omega)
          have WQ := Lib.hid (WES.out.at m (by omega))
          have HZ : Hid (anyN (hidP es k) (m + 1) = (anyN (hidP es k) m || (decide ((es.getD m default).epoch = e.epoch) && cvOk (es.getD m default).m e.m))) := Lib.hid (by unfold anyN; rw [HEQ.out m]; cases m <;> rfl)
          generalize es.getD m default = g at hQ WQ HZ
          have HQ := Lib.hid (hQ.grow (GB.out.trans (HG.out.trans HI.out)))
          have hml2 : m < es.length := by omega
          clear hQ t0 t1 tl
          by_cases q : g.epoch = e.epoch
          rotate_left
          · have hb : (g.epoch == e.epoch) = false := by simpa using q
            have HZ := Lib.hid (HZ.out.trans (show _ = anyN (hidP es k) m by simp [q]))
            clear q
            go_wp2_with fail
            have hne : Nonempty (Cl (Grow wi)) := ⟨⟨wi, Grow.refl _⟩⟩
            have ⟨p0, p1⟩ := (B0.out.grow (HG.out.trans HI.out)).two_
            obtain ⟨x0, x1, x2, x3⟩ : (∀ x : Cl (Grow wi), x.w.cell? ⟨b, off + m * 6, none⟩ = some (.int .i64 g.epoch)) ∧ (∀ x : Cl (Grow wi), x.w.cell? ⟨b, off + m * 6 + 1, none⟩ = some (.int .i64 g.prio)) ∧ (∀ x : Cl (Grow wi), x.w.cell? ⟨b, off + m * 6 + 2, none⟩ = some (.slice a6 g.m.vs.length k6)) ∧ (∀ x : Cl (Grow wi), x.w.cell? ⟨b, off + m * 6 + 3, none⟩ = some (.slice a7 g.m.ms.length k7)) := ⟨fun x => (HQ.out.grow x.ok).1, fun x => (HQ.out.grow x.ok).2.1, fun x => (HQ.out.grow x.ok).2.2.1, fun x => (HQ.out.grow x.ok).2.2.2.1⟩
            obtain ⟨y0, y1, y2, y3⟩ : (∀ x : Cl (Grow wi), x.w.cell? ⟨b, off + k * 6, none⟩ = some (.int .i64 e.epoch)) ∧ (∀ x : Cl (Grow wi), x.w.cell? ⟨b, off + k * 6 + 1, none⟩ = some (.int .i64 e.prio)) ∧ (∀ x : Cl (Grow wi), x.w.cell? ⟨b, off + k * 6 + 2, none⟩ = some (.slice a3 e.m.vs.length k3)) ∧ (∀ x : Cl (Grow wi), x.w.cell? ⟨b, off + k * 6 + 3, none⟩ = some (.slice a4 e.m.ms.length k4)) := ⟨fun x => ((HE.out.grow HI.out).grow x.ok).1, fun x => ((HE.out.grow HI.out).grow x.ok).2.1, fun x => ((HE.out.grow HI.out).grow x.ok).2.2.1, fun x => ((HE.out.grow HI.out).grow x.ok).2.2.2.1⟩
            refine wp_region_mix (Cls (Grow wi)) 28 #[false, false, false, false, false, false, false, false, false, false, false, false, false, false, false, false, false, false, false, false, false, false, false, false, false, false, false, false] (by kernel_rfl) (by kernel_rfl) ⟨⟨_, Grow.drewN _ 1⟩, rfl⟩ ?_
            refine anyC_seg [0, 1, 2, 3, 4, 5, 6, 7, 8, 9, 10, 11, 12, 13, 14, 15, 16, 17, 18, 19, 20, 21, 22, 23, 24, 25] #[true, true, true, true, true, true, true, true, true, true, true, true, true, true, true, true, true, true, true, true, true, true, true, true, true, true, false, false] (fuel := 2) rfl (by kernel_rfl) ⟨⟨_, Grow.drewN _ 1⟩, rfl⟩ ?_
            simp only [pickOps, List.getD_cons_succ, List.getD_cons_zero]
            repeat (go_big_quiet_step (fail))
            refine wpQuiet_nil ?_
            refine anyC_sole 26 #[true, true, true, true, true, true, true, true, true, true, true, true, true, true, true, true, true, true, true, true, true, true, true, true, true, true, true, false] (fuel := 1) (by kernel_rfl) ?_
            simp only [List.getD_cons_succ, List.getD_cons_zero]
            go_wp2
            refine ⟨⟨⟨_, Grow.drewN _ 1⟩, rfl⟩, ?_⟩
            refine anyC_seg [27] #[true, true, true, true, true, true, true, true, true, true, true, true, true, true, true, true, true, true, true, true, true, true, true, true, true, true, true, true] (fuel := 0) rfl (by kernel_rfl) ⟨⟨_, Grow.drewN _ 1⟩, rfl⟩ ?_
            simp only [pickOps, List.getD_cons_succ, List.getD_cons_zero]
            repeat (go_big_quiet_step (fail))
            refine wpQuiet_nil ?_
            refine anyC_done (by kernel_rfl) ?_
            go_wp2
            go_roundw
            case rel => exact ⟨m + 1, by omega, by go_num, by rw [HZ.out], HI.out.trans (Grow.drewN _ 1)⟩
            case measure => simp [intOf]; omega

          have hb : (g.epoch == e.epoch) = true := by simpa using q
          cases hp : cvOk g.m e.m
          · have HZ := Lib.hid (HZ.out.trans (show _ = anyN (hidP es k) m by simp [hp]))
            clear q
            go_wp2_with fail
            have hne : Nonempty (Cl (Grow wi)) := ⟨⟨wi, Grow.refl _⟩⟩
            have ⟨p0, p1⟩ := (B0.out.grow (HG.out.trans HI.out)).two_
            obtain ⟨x0, x1, x2, x3⟩ : (∀ x : Cl (Grow wi), x.w.cell? ⟨b, off + m * 6, none⟩ = some (.int .i64 g.epoch)) ∧ (∀ x : Cl (Grow wi), x.w.cell? ⟨b, off + m * 6 + 1, none⟩ = some (.int .i64 g.prio)) ∧ (∀ x : Cl (Grow wi), x.w.cell? ⟨b, off + m * 6 + 2, none⟩ = some (.slice a6 g.m.vs.length k6)) ∧ (∀ x : Cl (Grow wi), x.w.cell? ⟨b, off + m * 6 + 3, none⟩ = some (.slice a7 g.m.ms.length k7)) := ⟨fun x => (HQ.out.grow x.ok).1, fun x => (HQ.out.grow x.ok).2.1, fun x => (HQ.out.grow x.ok).2.2.1, fun x => (HQ.out.grow x.ok).2.2.2.1⟩
            obtain ⟨y0, y1, y2, y3⟩ : (∀ x : Cl (Grow wi), x.w.cell? ⟨b, off + k * 6, none⟩ = some (.int .i64 e.epoch)) ∧ (∀ x : Cl (Grow wi), x.w.cell? ⟨b, off + k * 6 + 1, none⟩ = some (.int .i64 e.prio)) ∧ (∀ x : Cl (Grow wi), x.w.cell? ⟨b, off + k * 6 + 2, none⟩ = some (.slice a3 e.m.vs.length k3)) ∧ (∀ x : Cl (Grow wi), x.w.cell? ⟨b, off + k * 6 + 3, none⟩ = some (.slice a4 e.m.ms.length k4)) := ⟨fun x => ((HE.out.grow HI.out).grow x.ok).1, fun x => ((HE.out.grow HI.out).grow x.ok).2.1, fun x => ((HE.out.grow HI.out).grow x.ok).2.2.1, fun x => ((HE.out.grow HI.out).grow x.ok).2.2.2.1⟩
            refine wp_region_mix (Cls (Grow wi)) 28 #[false, false, false, false, false, false, false, false, false, false, false, false, false, false, false, false, false, false, false, false, false, false, false, false, false, false, false, false] (by kernel_rfl) (by kernel_rfl) ⟨⟨_, Grow.drewN _ 1⟩, rfl⟩ ?_
            refine anyC_seg [0, 1, 2, 3, 4, 5, 6, 7, 8, 9, 10, 11, 12, 13, 14, 15, 16, 17, 18, 19, 20, 21, 22, 23, 24, 25] #[true, true, true, true, true, true, true, true, true, true, true, true, true, true, true, true, true, true, true, true, true, true, true, true, true, true, false, false] (fuel := 2) rfl (by kernel_rfl) ⟨⟨_, Grow.drewN _ 1⟩, rfl⟩ ?_
            simp only [pickOps, List.getD_cons_succ, List.getD_cons_zero]
            repeat (go_big_quiet_step (fail))
            refine wpQuiet_nil ?_
            refine anyC_sole 26 #[true, true, true, true, true, true, true, true, true, true, true, true, true, true, true, true, true, true, true, true, true, true, true, true, true, true, true, false] (fuel := 1) (by kernel_rfl) ?_
            simp only [List.getD_cons_succ, List.getD_cons_zero]
            go_wp2_with fail
            refine (coversS_any _ _ _ g.m e.m (HQ.out.m.grow (Grow.drewN _ 1)) ((HE.out.grow HI.out).m.grow (Grow.drewN _ 1)) WQ.out.2.2.1 WE.out.2.2.1).mono ?_
            rintro _ w9 ⟨rfl, hg⟩
            rw [hp]
            have D9 := Lib.hid ((Grow.drewN _ 1).trans hg); clear hg
            go_wp2
            refine ⟨⟨⟨_, D9.out⟩, rfl⟩, ?_⟩
            refine anyC_seg [27] #[true, true, true, true, true, true, true, true, true, true, true, true, true, true, true, true, true, true, true, true, true, true, true, true, true, true, true, true] (fuel := 0) rfl (by kernel_rfl) ⟨⟨_, D9.out⟩, rfl⟩ ?_
            simp only [pickOps, List.getD_cons_succ, List.getD_cons_zero]
            repeat (go_big_quiet_step (fail))
            refine wpQuiet_nil ?_
            refine anyC_done (by kernel_rfl) ?_
            go_wp2
            go_roundw
            case rel => exact ⟨m + 1, by omega, by go_num, by rw [HZ.out], HI.out.trans (D9.out)⟩
            case measure => simp [intOf]; omega

          have HZ := Lib.hid (HZ.out.trans (show _ = true by simp [hp, q]))
          clear q
          go_wp2_with fail
          have hne : Nonempty (Cl (Grow wi)) := ⟨⟨wi, Grow.refl _⟩⟩
          have ⟨p0, p1⟩ := (B0.out.grow (HG.out.trans HI.out)).two_
          obtain ⟨x0, x1, x2, x3⟩ : (∀ x : Cl (Grow wi), x.w.cell? ⟨b, off + m * 6, none⟩ = some (.int .i64 g.epoch)) ∧ (∀ x : Cl (Grow wi), x.w.cell? ⟨b, off + m * 6 + 1, none⟩ = some (.int .i64 g.prio)) ∧ (∀ x : Cl (Grow wi), x.w.cell? ⟨b, off + m * 6 + 2, none⟩ = some (.slice a6 g.m.vs.length k6)) ∧ (∀ x : Cl (Grow wi), x.w.cell? ⟨b, off + m * 6 + 3, none⟩ = some (.slice a7 g.m.ms.length k7)) := ⟨fun x => (HQ.out.grow x.ok).1, fun x => (HQ.out.grow x.ok).2.1, fun x => (HQ.out.grow x.ok).2.2.1, fun x => (HQ.out.grow x.ok).2.2.2.1⟩
          obtain ⟨y0, y1, y2, y3⟩ : (∀ x : Cl (Grow wi), x.w.cell? ⟨b, off + k * 6, none⟩ = some (.int .i64 e.epoch)) ∧ (∀ x : Cl (Grow wi), x.w.cell? ⟨b, off + k * 6 + 1, none⟩ = some (.int .i64 e.prio)) ∧ (∀ x : Cl (Grow wi), x.w.cell? ⟨b, off + k * 6 + 2, none⟩ = some (.slice a3 e.m.vs.length k3)) ∧ (∀ x : Cl (Grow wi), x.w.cell? ⟨b, off + k * 6 + 3, none⟩ = some (.slice a4 e.m.ms.length k4)) := ⟨fun x => ((HE.out.grow HI.out).grow x.ok).1, fun x => ((HE.out.grow HI.out).grow x.ok).2.1, fun x => ((HE.out.grow HI.out).grow x.ok).2.2.1, fun x => ((HE.out.grow HI.out).grow x.ok).2.2.2.1⟩
          refine wp_region_mix (Cls (Grow wi)) 28 #[false, false, false, false, false, false, false, false, false, false, false, false, false, false, false, false, false, false, false, false, false, false, false, false, false, false, false, false] (by kernel_rfl) (by kernel_rfl) ⟨⟨_, Grow.drewN _ 1⟩, rfl⟩ ?_
          refine anyC_seg [0, 1, 2, 3, 4, 5, 6, 7, 8, 9, 10, 11, 12, 13, 14, 15, 16, 17, 18, 19, 20, 21, 22, 23, 24, 25] #[true, true, true, true, true, true, true, true, true, true, true, true, true, true, true, true, true, true, true, true, true, true, true, true, true, true, false, false] (fuel := 2) rfl (by kernel_rfl) ⟨⟨_, Grow.drewN _ 1⟩, rfl⟩ ?_
          simp only [pickOps, List.getD_cons_succ, List.getD_cons_zero]
          repeat (go_big_quiet_step (fail))
          refine wpQuiet_nil ?_
          refine anyC_sole 26 #[true, true, true, true, true, true, true, true, true, true, true, true, true, true, true, true, true, true, true, true, true, true, true, true, true, true, true, false] (fuel := 1) (by kernel_rfl) ?_
          simp only [List.getD_cons_succ, List.getD_cons_zero]
          go_wp2_with fail
          refine (coversS_any _ _ _ g.m e.m (HQ.out.m.grow (Grow.drewN _ 1)) ((HE.out.grow HI.out).m.grow (Grow.drewN _ 1)) WQ.out.2.2.1 WE.out.2.2.1).mono ?_
          rintro _ w9 ⟨rfl, hg⟩
          rw [hp]
          have D9 := Lib.hid ((Grow.drewN _ 1).trans hg); clear hg
          go_wp2
          refine ⟨⟨⟨_, D9.out⟩, rfl⟩, ?_⟩
          refine anyC_seg [27] #[true, true, true, true, true, true, true, true, true, true, true, true, true, true, true, true, true, true, true, true, true, true, true, true, true, true, true, true] (fuel := 0) rfl (by kernel_rfl) ⟨⟨_, D9.out⟩, rfl⟩ ?_
          simp only [pickOps, List.getD_cons_succ, List.getD_cons_zero]
          repeat (go_big_quiet_step (fail))
          refine wpQuiet_nil ?_
          refine anyC_done (by kernel_rfl) ?_
          go_wp2
          go_roundw
          case rel => exact ⟨m + 1, by omega, by go_num, by rw [HZ.out], HI.out.trans (D9.out)⟩
          case measure => simp [intOf]; omega

        · obtain rfl : m = k := by omega
          have AC2 := Lib.hid (AC.out.grow HI.out)
          cases hz : anyN (hidP es m) m
          · have HZ := Lib.hid (hdL_no hz)
            go_wp2
            go_roundw
            case rel => exact ⟨m + 1, by omega, by go_num, by rw [HZ.out]; exact AC2.out⟩
            case measure => simp [intOf]; omega
          · have HZ := Lib.hid (hdL_yes hz)
            go_wp2_with (at_builtin; refine wpl_append Try.elemI64 rfl _ _ rfl wB.heap.size rfl (AC2.out.grow (Grow.alloc _ (.cells #[Value.int .i64 m] 3))).2 1 rfl (rd_built _ _ 1 1 [Value.int .i64 m] rfl (by decide)) rfl (oneCell_ints .i64 [_]) (by omega) (by unfold maxLen; omega) (AC2.out.grow (Grow.alloc _ (.cells #[Value.int .i64 m] 3))).1.size ?_; intro v5 w5 hown hgr hmv; have A3 := Lib.hid ((AC2.out.grow (Grow.alloc _ (.cells #[Value.int .i64 m] 3))).onto (ys := [(m : Int)]) hown hgr); clear hown hgr hmv)
            go_roundw
            case rel => exact ⟨m + 1, by omega, by go_num, by rw [HZ.out]; exact A3.out⟩
            case measure => simp [intOf]; omega
    · obtain rfl : k = es.length := by omega
      go_wp2
      go_ret
      rw [HX.out]
      exact ⟨_, _, rfl, AC.out.own.1, AC.out.own.2.older GB.out, GB.out.trans AC.out.1⟩
--%
end Go.Proofs.Ytgigdpdmdldhnaa
