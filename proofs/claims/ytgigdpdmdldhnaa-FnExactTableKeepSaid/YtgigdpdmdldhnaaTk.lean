/- TableKeep: slices.DeleteFunc at its closure (printed by gtk.py). -/
import Derived.Test.YtgigdpdmdldhnaaCp3
import Derived.Test.YtgigdpdmdldhnaaToks
import Derived.Laws.CopyRow
import Derived.WalkKit
import Derived.ProofKit
import Derived.Deep.QuietTactic
import Derived.BigQuiet
import Derived.Outline
import Derived.WalkSpells
namespace Go.Proofs.Ytgigdpdmdldhnaa
open Go.ChangeShapes Go.WideShapes Go.ChangeAt Go.RowKit
set_option linter.unusedVariables false
set_option linter.unusedSimpArgs false
--% clear
theorem zeros_one (k : Nat) : ∀ v ∈ (Builtin.zeroCells entZ.cells k).toList, v.oneCell' = true := by
  intro v hv
  simp only [Builtin.zeroCells, Array.toList_map, List.mem_map] at hv
  obtain ⟨i, -, rfl⟩ := hv
  have hs : entZ.cells.size = 6 := rfl
  rw [hs]
  have h6 : i % 6 = 0 ∨ i % 6 = 1 ∨ i % 6 = 2 ∨ i % 6 = 3 ∨ i % 6 = 4 ∨ i % 6 = 5 := by omega
  rcases h6 with h | h | h | h | h | h <;> rw [h] <;> rfl
theorem clear_tail {w : World} {g n c m c' : Nat} {cs : List Value} (h : w.ownsRow 0 68 6 (.slice (some ⟨g, 0, none⟩) n c) n cs) (hm : m < n) :
    ∃ w', (∀ ty : TypeId, (Builtin.clear_ #[77] ty #[.slice (some ⟨g, m * 6, none⟩) (n - m) c']).run Try.prog w = .ok (.tuple #[]) w') ∧ w'.ownsRow 0 68 6 (.slice (some ⟨g, 0, none⟩) m c) m (cs.take (m * 6)) ∧ Upd [g] w w' := by
  obtain ⟨i0, hi, hz0, hz1, hz2⟩ := info_parts Try.infoEnt
  obtain ⟨hl, ⟨e0, _⟩ | ⟨g', cap, cur, e0, _, hg, hnc, hcm, hcs, htake⟩⟩ := h
  · cases e0
  simp only [Value.slice.injEq, Option.some.injEq, Addr.mk.injEq] at e0
  obtain ⟨⟨rfl, -, -⟩, -, rfl⟩ := e0
  have hzs : (Builtin.zeroCells entZ.cells (n - m)).toList.length = (n - m) * 6 := by
    simp only [Builtin.zeroCells, Array.toList_map, List.length_map, Array.length_toList, Array.size_range]
    rfl
  have hfit : m * 6 + 0 + (Builtin.zeroCells entZ.cells (n - m)).toList.length ≤ cur.size := by rw [hzs, hcs]; omega
  have hst := run_storeCells_at Try.prog g (m * 6) 68 (Builtin.zeroCells entZ.cells (n - m)).toList 0 cur w hg hfit (zeros_one _)
  obtain ⟨r, hr⟩ : ∃ r, n - m = r + 1 := ⟨n - m - 1, by omega⟩
  have hv : ∀ W : World, (zeroValue 68).run Try.prog W = .ok entZ W := fun W => by simp [zeroValue, typeInfo, hi, hz0]
  have hu := run_underlying (P := Try.prog) Try.underlying77
  refine ⟨w.setRow g (cur.toList.take (m * 6) ++ (Builtin.zeroCells entZ.cells (n - m)).toList ++ cur.toList.drop (m * 6 + (Builtin.zeroCells entZ.cells (n - m)).toList.length)).toArray, ?_, ?_, ?_⟩
  · intro ty
    simp only [Nat.add_zero] at hst
    rw [hr] at hst ⊢
    simp [Builtin.clear_, hu, hv, hst]
  · have htk : cs.take (m * 6) = cur.toList.take (m * 6) := by rw [← htake, List.take_take, Nat.min_eq_left (by omega)]
    refine ⟨by rw [List.length_take, hl]; omega, .inr ⟨g, c, _, rfl, Nat.zero_le _, setRow_heap w g cur _ _ _ hg, by omega, hcm, ?_, ?_⟩⟩
    · have hz2 : (Builtin.zeroCells entZ.cells (n - m)).size = (n - m) * 6 := by rw [← Array.length_toList]; exact hzs
      simp only [List.size_toArray, List.length_append, List.length_take, List.length_drop, Array.length_toList, hz2]
      omega
    · rw [htk, List.append_assoc]
      have : (cur.toList.take (m * 6)).length = m * 6 := by simp; omega
      exact List.take_left' this
  · refine ⟨rfl, rfl, rfl, by simp, fun k _ hk => setRow_other w g k _ (fun e => hk (by simp [e]))⟩
section
variable {P : Program} {t : TypeId} {ops : Array Oper} {rest : List Oper} {o : Oper} {a : Act} {Q : Exit → Act → World → Prop} {w : World}
theorem wpl_clear (hgd : o.guard = none) (x : Operand) (ho : o.op = .call { callee := .builtin .clear, args := #[x], argTypes := #[t] }) {u : Value} {w' : World} (hx : a.eval x = u)
    (hr : (Builtin.clear_ #[t] o.type #[u]).run P w = .ok (.tuple #[]) w') (h : wpList P ops Q rest (a.put o.dst (.tuple #[])) w') : wpList P ops Q (o :: rest) a w := by
  refine wpList_plain hgd fun K hK => ?_
  unfold Oper.wp execOp
  simp only [ho, resolve, invoke, builtin, Sem.run_bind, Sem.run_pure, Result.andThen_ok, List.map_toArray, List.map_cons, List.map_nil, hx, hr]
  exact hK _ _ h
end
theorem idxN_cases (P : Nat → Bool) : ∀ n, (∀ j, j < n → P j = false) ∨ ∃ i, i < n ∧ P i = true ∧ ∀ j, j < i → P j = false
  | 0 => .inl (fun j hj => absurd hj (Nat.not_lt_zero _))
  | n + 1 => by
    rcases idxN_cases P n with h | ⟨i, h1, h2⟩
    · cases hp : P n
      · refine .inl (fun j hj => ?_)
        by_cases e : j = n
        · subst e; exact hp
        · exact h j (by omega)
      · exact .inr ⟨n, by omega, hp, h⟩
    · exact .inr ⟨i, by omega, h2⟩
--% Keep1 117
theorem keep1_any (w : World) (V : Value) (x : EntryD) (ep : Int) (bx : Nat) (h : RdE w V x) (hb : Box w bx [.int .i64 ep]) :
    Calls Try.prog 117 #[V, .pointer (some ⟨bx, 0, none⟩)] w (RetV (.bool (!decide (x.epoch = ep))) w) := by
  obtain ⟨a0, k0, a1, k1, a2, k2, rfl⟩ := h.shape
  have c0 := hb.one
  have l1 := hb.1
  clear h hb
  by_cases q : x.epoch = ep
  · have hb : (x.epoch != ep) = false := by simpa using q
    have HE : Hid ((!decide (x.epoch = ep)) = false) := Lib.hid (by simp [q])
    clear q
    go_enter Try.func117, Try.ntmps117
    go_wp2
    go_ret
    refine ⟨ret_bool HE.out.symm, ?_⟩
    ((repeat (first | with_reducible exact Grow.refl _ | (with_reducible refine Grow.alloc_ ?_ _) | (with_reducible refine Grow.setCell_ ?_ (by first | exact Nat.le_refl _ | (simp only [World.alloc, Array.size_push]; omega) | omega) _))))
  · have hb : (x.epoch != ep) = true := by simpa using q
    have HE : Hid ((!decide (x.epoch = ep)) = true) := Lib.hid (by simp [q])
    clear q
    go_enter Try.func117, Try.ntmps117
    go_wp2
    go_ret
    refine ⟨ret_bool HE.out.symm, ?_⟩
    ((repeat (first | with_reducible exact Grow.refl _ | (with_reducible refine Grow.alloc_ ?_ _) | (with_reducible refine Grow.setCell_ ?_ (by first | exact Nat.le_refl _ | (simp only [World.alloc, Array.size_push]; omega) | omega) _))))
--% IndexK 104 117
def gonP (es : List EntryD) (ep : Int) (k : Nat) : Bool := !decide ((es.getD k default).epoch = ep)
theorem indexK_any (w : World) (v : Value) (es : List EntryD) (ep : Int) (bx : Nat) (h : RdES w v es) (hb : Box w bx [.int .i64 ep]) :
    Calls Try.prog 104 #[v, .func (Fn.func 117) #[] #[.pointer (some ⟨bx, 0, none⟩)]] w (RetV (.int .i64 (idxN (gonP es ep) es.length)) w) := by
  obtain ⟨a, c, rfl, hlc, hm, hn, hel⟩ := h
  have H := Lib.hid hel; have HB := Lib.hid hb
  clear hel hn hb
  unfold maxLen at hm
  go_enter Try.func104, Try.ntmps104
  go_wp2
  go_loopw [8] (fun i wr => ∃ k : Nat, k ≤ es.length ∧ i = .int .i64 k ∧ (∀ j, j < k → gonP es ep j = false) ∧ Grow w wr) (fun i _ => es.length - (intOf i).toNat)
  case atStart => exact ⟨0, Nat.zero_le _, rfl, fun j hj => absurd hj (Nat.not_lt_zero _), Grow.refl _⟩
  case round =>
    obtain ⟨k, hk, rfl, hal, hgr⟩ := hrel
    have HA := Lib.hid hal; have HG := Lib.hid hgr; clear hal hgr
    by_cases hlt : k < es.length
    · obtain ⟨b, off, rfl, hes⟩ := ent_open H.out hlt
      obtain ⟨a0, k0, a1, k1, a2, k2, hE⟩ := hes k hlt
      have HY := Lib.hid (idxN_yes (P := gonP es ep) hlt)
      have HP : Hid (gonP es ep k = !decide ((es.getD k default).epoch = ep)) := Lib.hid rfl
      clear hes
      generalize es.getD k default = x at hE HP
      have HE := Lib.hid (hE.grow HG.out)
      clear hE
      obtain ⟨x0, x1, x2, x3, x4, x5, -, -, -⟩ := HE.out
      cases hp : (!decide (x.epoch = ep))
      · have HX := Lib.hid (HP.out.trans hp)
        go_wp2_with fail
        refine (keep1_any _ _ x ep bx HE.out.rd (HB.out.grow HG.out)).mono ?_
        rintro _ w1 ⟨rfl, hg⟩
        rw [hp]
        have HG1 := Lib.hid (HG.out.trans hg); clear hg
        go_wp2
        go_roundw
        case rel => exact ⟨k + 1, by omega, by go_num, belowP HA.out HX.out, HG1.out⟩
        case measure => simp [intOf]; omega
      · have HX := Lib.hid (HY.out (HP.out.trans hp) HA.out)
        go_wp2_with fail
        refine (keep1_any _ _ x ep bx HE.out.rd (HB.out.grow HG.out)).mono ?_
        rintro _ w1 ⟨rfl, hg⟩
        rw [hp]
        have HG1 := Lib.hid (HG.out.trans hg); clear hg
        go_wp2
        go_ret
        exact ⟨ret_int HX.out.symm, HG1.out⟩
    · obtain rfl : k = es.length := by omega
      have HX := Lib.hid (idxN_no HA.out)
      go_wp2
      go_ret
      exact ⟨ret_int HX.out.symm, HG.out⟩
--% DeleteK 137 117
def keepL (ep : Int) (es : List EntryD) : List EntryD := es.filter (fun e => decide (e.epoch = ep))
theorem keepL_yes {ep : Int} {es : List EntryD} {k : Nat} (h : k < es.length) (e : es[k].epoch = ep) : keepL ep (es.take (k + 1)) = keepL ep (es.take k) ++ [es[k]] := by
  unfold keepL; rw [List.take_succ_eq_append_getElem h, List.filter_append]; simp [e]
theorem keepL_no {ep : Int} {es : List EntryD} {k : Nat} (h : k < es.length) (e : ¬ es[k].epoch = ep) : keepL ep (es.take (k + 1)) = keepL ep (es.take k) := by
  unfold keepL; rw [List.take_succ_eq_append_getElem h, List.filter_append]; simp [e]
theorem keepL_len (ep : Int) (es : List EntryD) (k : Nat) : (keepL ep (es.take k)).length ≤ k :=
  Nat.le_trans (List.length_filter_le _ _) (by simp; omega)
theorem keepL_all {ep : Int} {es : List EntryD} : ∀ k, k ≤ es.length → (∀ j, j < k → gonP es ep j = false) → keepL ep (es.take k) = es.take k
  | 0, _, _ => by simp [keepL]
  | k + 1, hk, h => by
    have h1 := h k (by omega)
    unfold gonP at h1
    rw [getD_E (by omega)] at h1
    rw [keepL_yes (by omega) (by simpa using h1), keepL_all k (by omega) (fun j hj => h j (by omega)), List.take_succ_eq_append_getElem (by omega)]
/-- While entries are moved down: the kept ones in front, the rest as it was. -/
structure DelI (w W : World) (V : Value) (es : List EntryD) (F : Nat → List Nat) (ks : List EntryD) (k : Nat) (cs : List Value) (σ : Nat → Nat) : Prop where
  row : W.ownsRow 0 68 6 V es.length cs
  kept : ∀ j (hj : j < ks.length), EntF W cs j ks[j] (F (σ j))
  rest : ∀ j (hj : j < es.length), k ≤ j → EntF W cs j es[j] (F j)
  src : ∀ j, j < ks.length → σ j < k
  up : ∀ i j, i < j → j < ks.length → σ i < σ j
  upd : Upd (fpOf V) w W
  cnt : ks.length < k
theorem DelI.grow {w W W' : World} {V : Value} {es : List EntryD} {F : Nat → List Nat} {ks : List EntryD} {k : Nat} {cs : List Value} {σ : Nat → Nat} (h : DelI w W V es F ks k cs σ) (g : Grow W W') : DelI w W' V es F ks k cs σ :=
  ⟨own_grow h.row g, fun j hj => (h.kept j hj).upd (g.upd []) (by simp) (fun _ _ => rfl), fun j hj hk => (h.rest j hj hk).upd (g.upd []) (by simp) (fun _ _ => rfl), h.src, h.up, (h.upd.trans (g.upd (fpOf V))).mono (fun x hx _ => by simpa using hx), h.cnt⟩
theorem DelI.drop {w W : World} {V : Value} {es : List EntryD} {F : Nat → List Nat} {ks : List EntryD} {k : Nat} {cs : List Value} {σ : Nat → Nat} (h : DelI w W V es F ks k cs σ) : DelI w W V es F ks (k + 1) cs σ :=
  ⟨h.row, h.kept, fun j hj hk => h.rest j hj (by omega), fun j hj => by have := h.src j hj; omega, h.up, h.upd, by have := h.cnt; omega⟩
theorem DelI.keep {w W W' : World} {g n c : Nat} {es : List EntryD} {F : Nat → List Nat} {ks : List EntryD} {k : Nat} {cs cs' : List Value} {σ : Nat → Nat} (h : DelI w W (.slice (some ⟨g, 0, none⟩) n c) es F ks k cs σ) (hk : k < es.length)
    (hF : ∀ j, j < es.length → g ∉ F j) (hr : W'.ownsRow 0 68 6 (.slice (some ⟨g, 0, none⟩) n c) es.length cs') (u : Upd [g] W W')
    (h6 : ∀ i, i < 6 → cs'[ks.length * 6 + i]? = cs[k * 6 + i]?) (ho : ∀ i, (i < ks.length * 6 ∨ ks.length * 6 + 5 < i) → cs'[i]? = cs[i]?) :
    DelI w W' (.slice (some ⟨g, 0, none⟩) n c) es F (ks ++ [es[k]]) (k + 1) cs' (fun j => if j = ks.length then k else σ j) := by
  have hl : (ks ++ [es[k]]).length = ks.length + 1 := by simp
  have hc := h.cnt
  have na : ∀ j, j < es.length → ∀ x ∈ F j, x ∉ [g] := fun j hj x hx hm => by
    simp only [List.mem_cons, List.not_mem_nil, or_false] at hm; subst hm; exact hF j hj hx
  refine ⟨hr, fun j hj => ?_, fun j hj hkj => ?_, fun j hj => ?_, fun i j hij hj => ?_, (h.upd.trans u).mono (fun x hx _ => ?_), by rw [hl]; omega⟩
  · rw [hl] at hj
    show EntF W' cs' j _ (F (if j = ks.length then k else σ j))
    by_cases e : j = ks.length
    · subst e
      rw [if_pos rfl, List.getElem_append_right (Nat.le_refl _)]
      simp only [Nat.sub_self, List.getElem_cons_zero]
      obtain ⟨v0, v1, v2, f0, f1, f2, c0, c1, c2, c3, c4, c5, o0, o1, o2, hf, hd⟩ := h.rest k hk (Nat.le_refl _)
      have hn := na k hk
      rw [hf] at hn
      refine ⟨v0, v1, v2, f0, f1, f2, ?_, ?_, ?_, ?_, ?_, ?_, o0.upd u (fun x hx => hn x (by simp [hx])), o1.upd u (fun x hx => hn x (by simp [hx])), o2.upd u (fun x hx => hn x (by simp [hx])), hf, hd⟩
      · have := h6 0 (by decide); rw [Nat.add_zero, Nat.add_zero] at this; rw [this]; exact c0
      · rw [h6 1 (by decide)]; exact c1
      · rw [h6 2 (by decide)]; exact c2
      · rw [h6 3 (by decide)]; exact c3
      · rw [h6 4 (by decide)]; exact c4
      · rw [h6 5 (by decide)]; exact c5
    · rw [if_neg e, List.getElem_append_left (by omega)]
      have hs := h.src j (by omega)
      exact (h.kept j (by omega)).upd u (na _ (by omega)) (fun i hi => ho _ (.inl (by omega)))
  · exact (h.rest j hj (by omega)).upd u (na j hj) (fun i hi => ho _ (.inr (by omega)))
  · rw [hl] at hj
    by_cases e : j = ks.length
    · simp only [if_pos e]; omega
    · simp only [if_neg e]; have := h.src j (by omega); omega
  · rw [hl] at hj
    have hi : i ≠ ks.length := by omega
    simp only [if_neg hi]
    by_cases e : j = ks.length
    · simp only [if_pos e]; exact h.src i (by omega)
    · simp only [if_neg e]; exact h.up i j hij (by omega)
  · simp only [List.mem_append, List.mem_cons, List.not_mem_nil, or_false] at hx
    rcases hx with h1 | rfl
    · exact h1
    · simp [fpOf, Value.ownBlock]
set_option maxHeartbeats 2000000 in
set_option maxRecDepth 20000 in
theorem delK_any (w : World) (v : Value) (es : List EntryD) (fp : List Nat) (ep : Int) (bx : Nat) (h : OwnES2 w v es fp) (hb : Box w bx [.int .i64 ep]) (hnb : bx ∉ fp) (hl : es.length ≤ 1048576) :
    Calls Try.prog 137 #[v, .func (Fn.func 117) #[] #[.pointer (some ⟨bx, 0, none⟩)]] w (fun e w' => ∃ v', e = .returned v' ∧ Upd fp w w' ∧ ∃ fp', OwnES2 w' v' (keepL ep es) fp' ∧ ∀ x ∈ fp', x ∈ fp) := by
  have HR := Lib.hid h.rd; have HO := Lib.hid h; have HB := Lib.hid hb
  obtain ⟨cs0, F, ⟨h1, h2, h3, h4⟩, rfl⟩ := h
  obtain ⟨a, c, rfl⟩ := own_shape h1
  have NB := Lib.hid hnb
  have H1 := Lib.hid h1; have H2 := Lib.hid h2; have H3 := Lib.hid h3; have H4 := Lib.hid h4
  clear h1 h2 h3 h4 hb hnb
  rcases idxN_cases (gonP es ep) es.length with hall | ⟨i0, hi0, hp0, hb0⟩
  · have HK : Hid (keepL ep es = es) := Lib.hid (by have := keepL_all (ep := ep) (es := es) es.length (Nat.le_refl _) hall; rwa [List.take_of_length_le (Nat.le_refl _)] at this)
    have hix := idxN_no hall
    clear hall
    go_enter Try.func137, Try.ntmps137
    go_wp2_with fail
    refine (indexK_any _ _ es ep bx HR.out HB.out).mono ?_
    rintro _ w1 ⟨rfl, hg⟩
    rw [hix]
    clear hix
    have HG := Lib.hid hg; clear hg
    go_wp2
    go_ret
    rw [HK.out]
    exact ⟨_, rfl, HG.out.upd _, _, HO.out.grow HG.out, fun x hx => hx⟩
  have hix := idxN_yes hi0 hp0 hb0
  obtain ⟨g, rfl⟩ := own_some H1.out (by omega)
  have ST : Hid (DelI w w (.slice (some ⟨g, 0, none⟩) es.length c) es F (keepL ep (es.take (i0 + 1))) (i0 + 1) cs0 id) := Lib.hid (by
    have hg0 : ¬ es[i0].epoch = ep := by
      unfold gonP at hp0; rw [getD_E hi0] at hp0; simpa using hp0
    rw [keepL_no hi0 hg0, keepL_all i0 (by omega) hb0]
    have hlen : (es.take i0).length = i0 := by simp; omega
    refine ⟨H1.out, fun j hj => ?_, fun j hj _ => H2.out j hj, fun j hj => ?_, fun i j hij _ => hij, Upd.refl _ _, by omega⟩
    · rw [List.getElem_take]; exact H2.out j (by omega)
    · show j < i0 + 1; omega)
  have LK0 : Hid ((keepL ep (es.take (i0 + 1))).length = i0) := Lib.hid (by
    have hg0 : ¬ es[i0].epoch = ep := by
      unfold gonP at hp0; rw [getD_E hi0] at hp0; simpa using hp0
    rw [keepL_no hi0 hg0, keepL_all i0 (by omega) hb0]; simp; omega)
  have HF : Hid (∀ j, j < es.length → g ∉ F j) := Lib.hid (fun j hj hm => H3.out j hj g (by simp [fpOf, Value.ownBlock]) hm)
  clear hp0 hb0
  have hb1 : ((i0 : Int) == -1) = false := by simp
  go_enter Try.func137, Try.ntmps137
  go_wp2_with fail
  refine (indexK_any _ _ es ep bx HR.out HB.out).mono ?_
  rintro _ w1 ⟨rfl, hg⟩
  rw [hix]
  clear hix
  have HB1 := Lib.hid (HB.out.grow hg)
  have ST1 := Lib.hid (ST.out.grow hg); clear hg
  go_wp2
  go_loopw [5, 6] (fun i j wr => ∃ (k : Nat) (cs : List Value) (σ : Nat → Nat), i0 < k ∧ k ≤ es.length ∧ i = .int .i64 ((keepL ep (es.take k)).length : Nat) ∧ j = .int .i64 k ∧ DelI w wr (.slice (some ⟨g, 0, none⟩) es.length c) es F (keepL ep (es.take k)) k cs σ) (fun _ j _ => es.length - (intOf j).toNat)
  case atStart => exact ⟨i0 + 1, cs0, id, by omega, by omega, by rw [LK0.out], by go_num, ST1.out⟩
  case round =>
    obtain ⟨k, cs, σ, hik, hk, rfl, rfl, hst⟩ := hrel
    rename World => wr
    have ST := Lib.hid hst
    have hml : (keepL ep (es.take k)).length < k := hst.cnt
    clear hst
    by_cases hlt : k < es.length
    · have HKY := Lib.hid (keepL_yes (ep := ep) hlt); have HKN := Lib.hid (keepL_no (ep := ep) hlt)
      obtain ⟨v0, v1, v2, f0, f1, f2, c0, c1, c2, c3, c4, c5, o0, o1, o2, hf, hd⟩ := ST.out.rest k hlt (Nat.le_refl _)
      obtain ⟨a0, k0, rfl⟩ := own_shape o0.1
      obtain ⟨a1, k1, rfl⟩ := own_shape o1.1
      obtain ⟨a2, k2, rfl⟩ := own_shape o2.1
      have RE : Hid (RdE wr (.agg #[.int .i64 es[k].epoch, .int .i64 es[k].prio, .slice a0 es[k].m.vs.length k0, .slice a1 es[k].m.ms.length k1, .slice a2 es[k].acts.length k2, .int .i64 es[k].hits]) es[k]) := Lib.hid ⟨_, _, _, rfl, o0.rd, o1.rd, o2.rd⟩
      have hlen : cs.length = es.length * 6 := ST.out.row.1
      have s0 : wr.cell? ⟨g, k * 6, none⟩ = some (.int .i64 es[k].epoch) := by rw [ST.out.row.cellAt _ (by omega)]; exact c0
      have s1 : wr.cell? ⟨g, k * 6 + 1, none⟩ = some (.int .i64 es[k].prio) := by rw [ST.out.row.cellAt _ (by omega)]; exact c1
      have s2 : wr.cell? ⟨g, k * 6 + 2, none⟩ = some (.slice a0 es[k].m.vs.length k0) := by rw [ST.out.row.cellAt _ (by omega)]; exact c2
      have s3 : wr.cell? ⟨g, k * 6 + 3, none⟩ = some (.slice a1 es[k].m.ms.length k1) := by rw [ST.out.row.cellAt _ (by omega)]; exact c3
      have s4 : wr.cell? ⟨g, k * 6 + 4, none⟩ = some (.slice a2 es[k].acts.length k2) := by rw [ST.out.row.cellAt _ (by omega)]; exact c4
      have s5 : wr.cell? ⟨g, k * 6 + 5, none⟩ = some (.int .i64 es[k].hits) := by rw [ST.out.row.cellAt _ (by omega)]; exact c5
      have CC := Lib.hid (And.intro c0 (And.intro c1 (And.intro c2 (And.intro c3 (And.intro c4 c5)))))
      have HLEN := Lib.hid hlen
      have BX := Lib.hid (HB.out.upd ST.out.upd (fun hm => NB.out (mem_allF.2 (.inl hm))))
      clear c0 c1 c2 c3 c4 c5 o0 o1 o2 hf hd hlen
      generalize hek : es[k] = e at *
      have HEK := Lib.hid hek
      clear hek
      have SB := Lib.hid (Box.alloc wr [Value.int .i64 e.epoch, .int .i64 e.prio, .slice a0 e.m.vs.length k0, .slice a1 e.m.ms.length k1, .slice a2 e.acts.length k2, .int .i64 e.hits] 68)
      have GB := Lib.hid (Grow.alloc wr (.cells #[Value.int .i64 e.epoch, .int .i64 e.prio, .slice a0 e.m.vs.length k0, .slice a1 e.m.ms.length k1, .slice a2 e.acts.length k2, .int .i64 e.hits] 68))
      generalize hml2 : (keepL ep (es.take k)).length = m at *
      have HML := Lib.hid hml2
      clear hml2
      by_cases hep : e.epoch = ep
      · have hb : (!decide (e.epoch = ep)) = false := by simp [hep]
        have HKY := Lib.hid (HKY.out hep)
        clear hep HKN
        go_wp2_with fail
        refine (keep1_any _ _ e ep bx (RE.out.grow GB.out) (BX.out.grow GB.out)).mono ?_
        rintro _ w2 ⟨rfl, hg⟩
        rw [hb]
        have ⟨x0, x1, x2, x3, x4, x5⟩ := (SB.out.grow hg).six
        have hq := own_grow ST.out.row (GB.out.trans hg)
        have G2 := Lib.hid (GB.out.trans hg)
        have hlen := HLEN.out
        have s6 := set6 cs (m * 6) (.int .i64 e.epoch) (.int .i64 e.prio) (.slice a0 e.m.vs.length k0) (.slice a1 e.m.ms.length k1) (.slice a2 e.acts.length k2) (.int .i64 e.hits) (by omega)
        have d0 : ∃ c, w2.cell? ⟨g, m * 6, none⟩ = some c := ⟨_, by rw [hq.cellAt (m * 6) (by omega)]; exact List.getElem?_eq_getElem (by omega)⟩
        have d1 : ∃ c, w2.cell? ⟨g, m * 6 + 1, none⟩ = some c := ⟨_, by rw [hq.cellAt (m * 6 + 1) (by omega)]; exact List.getElem?_eq_getElem (by omega)⟩
        have d2 : ∃ c, w2.cell? ⟨g, m * 6 + 2, none⟩ = some c := ⟨_, by rw [hq.cellAt (m * 6 + 2) (by omega)]; exact List.getElem?_eq_getElem (by omega)⟩
        have d3 : ∃ c, w2.cell? ⟨g, m * 6 + 3, none⟩ = some c := ⟨_, by rw [hq.cellAt (m * 6 + 3) (by omega)]; exact List.getElem?_eq_getElem (by omega)⟩
        have d4 : ∃ c, w2.cell? ⟨g, m * 6 + 4, none⟩ = some c := ⟨_, by rw [hq.cellAt (m * 6 + 4) (by omega)]; exact List.getElem?_eq_getElem (by omega)⟩
        have d5 : ∃ c, w2.cell? ⟨g, m * 6 + 5, none⟩ = some c := ⟨_, by rw [hq.cellAt (m * 6 + 5) (by omega)]; exact List.getElem?_eq_getElem (by omega)⟩
        obtain ⟨y0, d0⟩ := d0; obtain ⟨y1, d1⟩ := d1; obtain ⟨y2, d2⟩ := d2; obtain ⟨y3, d3⟩ := d3; obtain ⟨y4, d4⟩ := d4; obtain ⟨y5, d5⟩ := d5
        have hfz : ∀ o, w2.frozen? ⟨g, o, none⟩ = false := fun o => hq.frozenAt o
        have h1 := (hq.stored (m * 6) (.int .i64 e.epoch)).1
        have h2 := (h1.stored (m * 6 + 1) (.int .i64 e.prio)).1
        have h3 := (h2.stored (m * 6 + 2) (.slice a0 e.m.vs.length k0)).1
        have h4 := (h3.stored (m * 6 + 3) (.slice a1 e.m.ms.length k1)).1
        have h5 := (h4.stored (m * 6 + 4) (.slice a2 e.acts.length k2)).1
        have h6 := (h5.stored (m * 6 + 5) (.int .i64 e.hits)).1
        have UX := Lib.hid (Upd.setCell (p := ⟨g, m * 6 + 5, none⟩) (Upd.setCell (p := ⟨g, m * 6 + 4, none⟩) (Upd.setCell (p := ⟨g, m * 6 + 3, none⟩) (Upd.setCell (p := ⟨g, m * 6 + 2, none⟩) (Upd.setCell (p := ⟨g, m * 6 + 1, none⟩) (Upd.setCell (p := ⟨g, m * 6, none⟩) (Upd.refl [g] w2) (by simp) (.int .i64 e.epoch)) (by simp) (.int .i64 e.prio)) (by simp) (.slice a0 e.m.vs.length k0)) (by simp) (.slice a1 e.m.ms.length k1)) (by simp) (.slice a2 e.acts.length k2)) (by simp) (.int .i64 e.hits))
        have HS6 := Lib.hid h6; have SS := Lib.hid s6
        clear hq h1 h2 h3 h4 h5 h6 s6 hg hlen s0 s1 s2 s3 s4 s5
        go_wp2
        go_roundw
        case rel =>
          obtain ⟨t0, t1, t2, t3, t4, t5, t6⟩ := SS.out
          obtain ⟨c0, c1, c2, c3, c4, c5⟩ := CC.out
          have u6 : Upd [g] wr _ := ((G2.out.upd [g]).trans UX.out).mono (fun x hx _ => by simpa using hx)
          have hn := DelI.keep ST.out hlt HF.out HS6.out u6 (by
            intro i hi
            rw [HML.out]
            match i, hi with
            | 0, _ => simp only [Nat.add_zero]; rw [t0, c0]
            | 1, _ => rw [t1, c1]
            | 2, _ => rw [t2, c2]
            | 3, _ => rw [t3, c3]
            | 4, _ => rw [t4, c4]
            | 5, _ => rw [t5, c5]) (fun i hi => t6 i (by rw [HML.out] at hi; exact hi))
          rw [HEK.out] at hn
          refine ⟨k + 1, _, _, by omega, by omega, ?_, by go_num, by rw [HKY.out]; exact hn⟩
          rw [HKY.out, List.length_append, HML.out]; go_num
        case measure => simp [intOf]; omega
      · have hb : (!decide (e.epoch = ep)) = true := by simp [hep]
        have HKN := Lib.hid (HKN.out hep)
        clear hep HKY
        go_wp2_with fail
        refine (keep1_any _ _ e ep bx (RE.out.grow GB.out) (BX.out.grow GB.out)).mono ?_
        rintro _ w2 ⟨rfl, hg⟩
        rw [hb]
        have S2 := Lib.hid ((ST.out.grow (GB.out.trans hg)).drop)
        clear hg s0 s1 s2 s3 s4 s5
        go_wp2
        go_roundw
        case rel => exact ⟨k + 1, cs, σ, by omega, by omega, by rw [HKN.out, HML.out], by go_num, by rw [HKN.out]; exact S2.out⟩
        case measure => simp [intOf]; omega
    · obtain rfl : k = es.length := by omega
      have HW : Hid (keepL ep (es.take es.length) = keepL ep es) := Lib.hid (by rw [List.take_of_length_le (Nat.le_refl _)])
      generalize hks : keepL ep (es.take es.length) = ks at *
      clear hks
      obtain ⟨w3, hrun, hown, hu3⟩ := clear_tail (c' := c - ks.length) ST.out.row hml
      have HO3 := Lib.hid hown; have HU3 := Lib.hid hu3; have HRUN := Lib.hid hrun
      have hnc : es.length ≤ c := by
        obtain ⟨-, ⟨e0, _⟩ | ⟨g', cap, cur, e0, _, _, hnc, _⟩⟩ := ST.out.row
        · cases e0
        · simp only [Value.slice.injEq] at e0; omega
      have hcm : c ≤ 9223372036854775807 := by
        obtain ⟨-, ⟨e0, _⟩ | ⟨g', cap, cur, e0, _, _, hnc, hcm, _⟩⟩ := ST.out.row
        · cases e0
        · simp only [Value.slice.injEq] at e0; unfold maxLen at hcm; omega
      clear hown hu3 hrun
      have hrun0 := HRUN.out 0
      go_wp2
      clear hrun0
      go_ret
      rw [← HW.out]
      have S := ST.out
      have u3 := HU3.out
      refine ⟨_, rfl, ?_, allF (.slice (some ⟨g, 0, none⟩) ks.length c) (fun j => F (σ j)) ks.length, ⟨cs.take (ks.length * 6), fun j => F (σ j), ⟨HO3.out, fun j hj => ?_, fun j hj x hx hm => ?_, fun i j hij hj x hx hm => ?_⟩, rfl⟩, fun x hx => ?_⟩
      · refine (S.upd.trans u3).mono (fun x hx _ => ?_)
        rw [mem_allF]
        simp only [List.mem_append, List.mem_cons, List.not_mem_nil, or_false] at hx
        rcases hx with h1 | rfl
        · exact .inl h1
        · exact .inl (by simp [fpOf, Value.ownBlock])
      · have hs := S.src j hj
        refine (S.kept j hj).upd u3 (fun x hx hm => ?_) (fun i hi => by rw [List.getElem?_take, if_pos (by omega)])
        simp only [List.mem_cons, List.not_mem_nil, or_false] at hm; subst hm; exact HF.out _ (by omega) hx
      · have hs := S.src j hj
        have hx' : x = g := by simpa [fpOf, Value.ownBlock] using hx
        subst hx'; exact HF.out _ (by omega) hm
      · have hs := S.src j hj; have h5 := S.up i j hij hj
        exact H4.out (σ i) (σ j) h5 (by omega) x hx hm
      · rcases mem_allF.1 hx with h1 | ⟨j, hj, h1⟩
        · exact mem_allF.2 (.inl (by simpa [fpOf, Value.ownBlock] using h1))
        · have hs := S.src j hj
          exact mem_allF.2 (.inr ⟨σ j, by omega, h1⟩)
--%
end Go.Proofs.Ytgigdpdmdldhnaa
