/- Tables owned row by row: what toTable makes, markTable, heldTable (printed by gtab3.py). -/
import Derived.Test.YtgigdpdmdldhnaaTab2
import Derived.WalkKit
import Derived.ProofKit
import Derived.Deep.QuietTactic
import Derived.BigQuiet
import Derived.Outline
import Derived.WalkSpells
namespace Go.Proofs.Ytgigdpdmdldhnaa
open Go.ChangeShapes Go.WideShapes Go.ChangeAt Go.RowKit
set_option linter.unusedVariables false
set_option linter.unusedSimpArgs false
--% acts
def mkA (ds : List ActD) (k : Int) : List ActD := (List.range ds.length).map fun i => ⟨k + 3 * (i : Nat), k + 3 * (i : Nat) + 1, k + 3 * (i : Nat) + 1 + 1⟩
theorem mkA_len (ds : List ActD) (k : Int) : (mkA ds k).length = ds.length := by simp [mkA]
theorem mkA_at (ds : List ActD) (k : Int) (j : Nat) (h : j < (mkA ds k).length) : (mkA ds k)[j] = ⟨k + 3 * (j : Nat), k + 3 * (j : Nat) + 1, k + 3 * (j : Nat) + 1 + 1⟩ := by simp [mkA]
def midA (ds : List ActD) (k : Int) (j : Nat) : List ActD := (mkA ds k).take j ++ ds.drop j
theorem midA_0 (ds : List ActD) (k : Int) : midA ds k 0 = ds := by simp [midA]
theorem midA_end (ds : List ActD) (k : Int) : midA ds k ds.length = mkA ds k := by
  unfold midA; rw [List.drop_length, List.append_nil, List.take_of_length_le (by rw [mkA_len]; exact Nat.le_refl _)]
theorem midA_len (ds : List ActD) (k : Int) (j : Nat) (h : j ≤ ds.length) : (midA ds k j).length = ds.length := by
  unfold midA; rw [List.length_append, List.length_take, List.length_drop, mkA_len]; omega
theorem actsC_app3 (xs ys : List ActD) : actsC (xs ++ ys) = actsC xs ++ actsC ys := by simp [actsC]
theorem midA_set (ds : List ActD) (k : Int) (j : Nat) (hj : j < ds.length) (z : Int) (hz : z = k + 3 * (j : Nat)) : (((actsC (midA ds k j)).set (j * 3) (.int .i64 z)).set (j * 3 + 1) (.int .i64 (z + 1))).set (j * 3 + 2) (.int .i64 (z + 1 + 1)) = actsC (midA ds k (j + 1)) := by
  subst hz
  unfold midA
  have hl : j < (mkA ds k).length := by rw [mkA_len]; exact hj
  have e : (actsC ((mkA ds k).take j)).length = j * 3 := by rw [actsC_len, List.length_take]; congr 1; omega
  have e3 : (mkA ds k).take (j + 1) = (mkA ds k).take j ++ [(mkA ds k)[j]] := List.take_succ_eq_append_getElem hl
  have e4 : ds.drop j = ds[j] :: ds.drop (j + 1) := (List.getElem_cons_drop hj).symm
  rw [e3, e4, actsC_app3, actsC_app3, actsC_app3, actsC_cons, actsC_cons, mkA_at]
  have h5 : ∀ (x y : ActD) (pre : List Value) (post : List Value), pre.length = j * 3 → (((pre ++ (actC x ++ post)).set (j * 3) (.int .i64 y.kind)).set (j * 3 + 1) (.int .i64 y.a)).set (j * 3 + 2) (.int .i64 y.b) = pre ++ (actC y ++ post) := by
    intro x y pre post hp
    unfold actC
    rw [List.set_append_right _ _ (by omega), hp, Nat.sub_self, List.set_append_right _ _ (by omega), hp, Nat.add_sub_cancel_left, List.set_append_right _ _ (by omega), hp, Nat.add_sub_cancel_left]
    rfl
  have h6 := h5 ds[j] ⟨k + 3 * (j : Nat), k + 3 * (j : Nat) + 1, k + 3 * (j : Nat) + 1 + 1⟩ _ (actsC (ds.drop (j + 1))) e
  rw [h6]
  simp [actsC]
theorem fp_mem (g n c : Nat) : g ∈ fpOf (.slice (some ⟨g, 0, none⟩) n c) := by simp [fpOf, Value.ownBlock]
--% markActS 38
theorem mark_A (w : World) (v : Value) (ds : List ActD) (fp : List Nat) (k0 : Int) (h : OwnA w v ds fp) (hs : SmA ds) (hk : 0 ≤ k0 ∧ k0 ≤ 1000000000) : Calls Try.prog 38 #[v, .int .i64 k0] w (RetMark OwnA v (mkA ds k0) fp (k0 + cntA ds) w) := by
  obtain ⟨h, rfl⟩ := h
  obtain ⟨a, cap, rfl⟩ := own_shape h
  unfold SmA sizeA at hs
  have h0 : w.ownsRow 0 96 3 (.slice a ds.length cap) ds.length (actsC (midA ds k0 0)) := by rw [midA_0]; exact h
  have H := Lib.hid h0; clear h h0
  go_enter Try.func38, Try.ntmps38
  go_wp2
  go_loopw [1, 5] (fun q i wr => ∃ (k : Nat) (z : Int), k ≤ ds.length ∧ i = .int .i64 k ∧ q = .int .i64 z ∧ z = k0 + 3 * (k : Nat) ∧ wr.ownsRow 0 96 3 (.slice a ds.length cap) ds.length (actsC (midA ds k0 k)) ∧ Upd (fpOf (.slice a ds.length cap)) w wr) (fun _ i _ => ds.length - (intOf i).toNat)
  case atStart => exact ⟨0, _, Nat.zero_le _, rfl, rfl, by simp, H.out, Upd.refl _ _⟩
  case round =>
    obtain ⟨k, z, hk', rfl, rfl, hz, hown, hgr⟩ := hrel
    by_cases hlt : k < ds.length
    · obtain ⟨g, rfl⟩ := own_some hown (by omega)
      have hl : (actsC (midA ds k0 k)).length = ds.length * 3 := by rw [actsC_len, midA_len _ _ _ hk']
      have d0 : ∃ c, wr.cell? ⟨g, k * 3, none⟩ = some c := ⟨_, by rw [hown.cellAt (k * 3) (by omega)]; exact List.getElem?_eq_getElem (by omega)⟩
      have d1 : ∃ c, wr.cell? ⟨g, k * 3 + 1, none⟩ = some c := ⟨_, by rw [hown.cellAt (k * 3 + 1) (by omega)]; exact List.getElem?_eq_getElem (by omega)⟩
      have d2 : ∃ c, wr.cell? ⟨g, k * 3 + 2, none⟩ = some c := ⟨_, by rw [hown.cellAt (k * 3 + 2) (by omega)]; exact List.getElem?_eq_getElem (by omega)⟩
      obtain ⟨x0, d0⟩ := d0; obtain ⟨x1, d1⟩ := d1; obtain ⟨x2, d2⟩ := d2
      have hf : ∀ o, wr.frozen? ⟨g, o, none⟩ = false := fun o => hown.frozenAt o
      have h1 := (hown.stored (k * 3) (.int .i64 z)).1
      have h2 := (h1.stored (k * 3 + 1) (.int .i64 (z + 1))).1
      have h3 := (h2.stored (k * 3 + 2) (.int .i64 (z + 1 + 1))).1
      rw [midA_set ds k0 k hlt z hz] at h3
      have HS := Lib.hid h3
      have HU := Lib.hid hgr
      have HZ := Lib.hid hz
      have hzb : 0 ≤ z ∧ z ≤ 1100000000 := by omega
      clear h1 h2 h3 hown hgr hl hz
      go_wp2
      go_roundw
      case rel =>
        refine ⟨k + 1, _, by omega, by go_num, rfl, by have := HZ.out; omega, HS.out, ?_⟩
        exact Upd.setCell (Upd.setCell (Upd.setCell HU.out (fp_mem _ _ _) _) (fp_mem _ _ _) _) (fp_mem _ _ _) _
      case measure => simp [intOf]; omega
    · obtain rfl : k = ds.length := by omega
      have HO := Lib.hid hown; have HU := Lib.hid hgr; have HZ := Lib.hid hz
      clear hown hgr hz
      go_wp2
      go_ret
      refine ⟨ret_int (by rw [HZ.out]; unfold cntA; rfl), ⟨?_, rfl⟩, HU.out⟩
      have := HO.out
      rw [midA_end] at this
      rw [mkA_len]; exact this
--% heldActS 135
theorem held_A (w : World) (v : Value) (ds : List ActD) (k0 : Int) (h : RdA w v (mkA ds k0)) (hs : SmA ds) (hk : 0 ≤ k0 ∧ k0 ≤ 1000000000) : Calls Try.prog 135 #[v, .int .i64 k0] w (RetV (.int .i64 (k0 + cntA ds)) w) := by
  obtain ⟨a, c, rfl, hlc, hm, hn, hc⟩ := RdA.acts h
  clear h hn
  have hl := mkA_len ds k0
  have H : Hid (∀ j, j < ds.length → ∃ b off, a = some ⟨b, off, none⟩ ∧ w.cell? ⟨b, off + j * 3, none⟩ = some (.int .i64 (k0 + 3 * (j : Nat))) ∧ w.cell? ⟨b, off + j * 3 + 1, none⟩ = some (.int .i64 (k0 + 3 * (j : Nat) + 1)) ∧ w.cell? ⟨b, off + j * 3 + 2, none⟩ = some (.int .i64 (k0 + 3 * (j : Nat) + 1 + 1))) := Lib.hid (fun j hj => by
    have := hc j (by omega)
    rwa [mkA_at] at this)
  rw [hl] at hlc ⊢
  clear hc hl
  unfold SmA sizeA at hs
  unfold maxLen at hm
  go_enter Try.func135, Try.ntmps135
  go_wp2
  go_loopw [1, 5] (fun q i wr => ∃ (k : Nat) (z : Int), k ≤ ds.length ∧ i = .int .i64 k ∧ q = .int .i64 z ∧ z = k0 + 3 * (k : Nat) ∧ Grow w wr) (fun _ i _ => ds.length - (intOf i).toNat)
  case atStart => exact ⟨0, _, Nat.zero_le _, rfl, rfl, by simp, Grow.refl _⟩
  case round =>
    obtain ⟨k, z, hk', rfl, rfl, hz, hgr⟩ := hrel
    have HG := Lib.hid hgr; clear hgr
    by_cases hlt : k < ds.length
    · obtain ⟨b, off, rfl, s0, s1, s2⟩ := H.out k hlt
      rw [← hz] at s0 s1 s2
      have r0 := HG.out.cell s0; have r1 := HG.out.cell s1; have r2 := HG.out.cell s2
      have HZ := Lib.hid hz
      have hzb : 0 ≤ z ∧ z ≤ 1100000000 := by omega
      clear s0 s1 s2 hz
      go_wp2
      go_roundw
      case rel => exact ⟨k + 1, _, by omega, by go_num, rfl, by have := HZ.out; omega, HG.out⟩
      case measure => simp [intOf]; omega
    · obtain rfl : k = ds.length := by omega
      have HZ := Lib.hid hz
      clear hz
      go_wp2
      go_ret
      exact ⟨ret_int (by rw [HZ.out]; unfold cntA; rfl), HG.out⟩
--% rows
/-- Entry j lies in six of the cells cs; its three rows are owned, no two of them in one block. -/
def EntF (W : World) (cs : List Value) (j : Nat) (e : EntryD) (f : List Nat) : Prop := ∃ v0 v1 v2 f0 f1 f2,
  cs[j * 6]? = some (.int .i64 e.epoch) ∧ cs[j * 6 + 1]? = some (.int .i64 e.prio) ∧ cs[j * 6 + 2]? = some v0 ∧ cs[j * 6 + 3]? = some v1 ∧ cs[j * 6 + 4]? = some v2 ∧ cs[j * 6 + 5]? = some (.int .i64 e.hits) ∧
  OwnN W v0 e.m.vs f0 ∧ OwnN W v1 e.m.ms f1 ∧ OwnA W v2 e.acts f2 ∧ f = (f0 ++ f1) ++ f2 ∧ (∀ x ∈ f0, x ∉ f1) ∧ (∀ x ∈ f0 ++ f1, x ∉ f2)
theorem EntF.upd {W W' : World} {cs cs' : List Value} {j : Nat} {e : EntryD} {f fq : List Nat} (h : EntF W cs j e f) (u : Upd fq W W') (ha : ∀ x ∈ f, x ∉ fq) (hc : ∀ i, i < 6 → cs'[j * 6 + i]? = cs[j * 6 + i]?) : EntF W' cs' j e f := by
  obtain ⟨v0, v1, v2, f0, f1, f2, c0, c1, c2, c3, c4, c5, o0, o1, o2, rfl, hd⟩ := h
  refine ⟨v0, v1, v2, f0, f1, f2, ?_, ?_, ?_, ?_, ?_, ?_, o0.upd u (fun x hx => ha x (by simp [hx])), o1.upd u (fun x hx => ha x (by simp [hx])), o2.upd u (fun x hx => ha x (by simp [hx])), rfl, hd⟩
  · have := hc 0 (by decide); rw [Nat.add_zero] at this; rw [this]; exact c0
  · rw [hc 1 (by decide)]; exact c1
  · rw [hc 2 (by decide)]; exact c2
  · rw [hc 3 (by decide)]; exact c3
  · rw [hc 4 (by decide)]; exact c4
  · rw [hc 5 (by decide)]; exact c5
theorem EntF.here {W : World} {cs : List Value} {j : Nat} {e : EntryD} {f : List Nat} (h : EntF W cs j e f) : Here W f := by
  obtain ⟨v0, v1, v2, f0, f1, f2, c0, c1, c2, c3, c4, c5, o0, o1, o2, rfl, hd⟩ := h
  intro b hb
  rcases List.mem_append.1 hb with hb | hb
  · rcases List.mem_append.1 hb with hb | hb
    · exact o0.here b hb
    · exact o1.here b hb
  · exact o2.here b hb
/-- Entries owned: the block of the cells, and the rows F j of each. -/
def OwnESF (w : World) (V : Value) (es : List EntryD) (cs : List Value) (F : Nat → List Nat) : Prop :=
  w.ownsRow 0 68 6 V es.length cs ∧ (∀ j (hj : j < es.length), EntF w cs j es[j] (F j)) ∧ (∀ j, j < es.length → ∀ x ∈ fpOf V, x ∉ F j) ∧ (∀ i j, i < j → j < es.length → ∀ x ∈ F i, x ∉ F j)
def allF (V : Value) (F : Nat → List Nat) (n : Nat) : List Nat := fpOf V ++ (List.range n).flatMap F
theorem mem_allF {V : Value} {F : Nat → List Nat} {n x : Nat} : x ∈ allF V F n ↔ x ∈ fpOf V ∨ ∃ j, j < n ∧ x ∈ F j := by
  simp [allF]
def OwnES2 (w : World) (V : Value) (es : List EntryD) (fp : List Nat) : Prop := ∃ cs F, OwnESF w V es cs F ∧ fp = allF V F es.length
theorem OwnES2.here {w : World} {V : Value} {es : List EntryD} {fp : List Nat} (h : OwnES2 w V es fp) : Here w fp := by
  obtain ⟨cs, F, ⟨h1, h2, -⟩, rfl⟩ := h
  intro b hb
  rcases mem_allF.1 hb with hb | ⟨j, hj, hb⟩
  · exact (OwnR.of h1).1.here b hb
  · exact (h2 j hj).here b hb
theorem OwnES2.upd {w w' : World} {V : Value} {es : List EntryD} {fp fq : List Nat} (h : OwnES2 w V es fp) (u : Upd fq w w') (ha : ∀ x ∈ fp, x ∉ fq) : OwnES2 w' V es fp := by
  obtain ⟨cs, F, ⟨h1, h2, h3⟩, rfl⟩ := h
  refine ⟨cs, F, ⟨((OwnR.of h1).1.upd u (fun x hx => ha x (mem_allF.2 (.inl hx)))).1, fun j hj => (h2 j hj).upd u (fun x hx => ha x (mem_allF.2 (.inr ⟨j, hj, hx⟩))) (fun _ _ => rfl), h3⟩, rfl⟩
theorem OwnES2.grow {w w' : World} {V : Value} {es : List EntryD} {fp : List Nat} (h : OwnES2 w V es fp) (g : Grow w w') : OwnES2 w' V es fp := h.upd (g.upd []) (by simp)
theorem OwnES2.rd {w : World} {V : Value} {es : List EntryD} {fp : List Nat} (h : OwnES2 w V es fp) : RdES w V es := by
  obtain ⟨cs, F, ⟨h1, h2, -⟩, -⟩ := h
  obtain ⟨a, cap, rfl⟩ := own_shape h1
  have hr : Rd w 6 (.slice a es.length cap) cs := Rd.of_own h1
  obtain ⟨a', n, cap', e, hl, hlc, hm, hn, -⟩ := hr
  simp only [Value.slice.injEq] at e
  obtain ⟨rfl, hnl, rfl⟩ := e
  refine ⟨a, cap, rfl, by omega, hm, hn, fun j hj => ?_⟩
  obtain ⟨g, rfl⟩ := own_some h1 (by omega)
  obtain ⟨v0, v1, v2, f0, f1, f2, c0, c1, c2, c3, c4, c5, o0, o1, o2, -⟩ := h2 j hj
  refine ⟨g, 0, v0, v1, v2, rfl, ?_, ?_, ?_, ?_, ?_, ?_, o0.rd, o1.rd, o2.rd⟩
  all_goals rw [Nat.zero_add, h1.cellAt _ (by omega)]; assumption
def OwnT2 (w : World) (V : Value) (d : TableD) (fp : List Nat) : Prop := ∃ v0, V = .agg #[.int .i64 d.cap, v0] ∧ OwnES2 w v0 d.es fp
theorem OwnT2.rd {w : World} {V : Value} {d : TableD} {fp : List Nat} (h : OwnT2 w V d fp) : RdT w V d := by obtain ⟨v0, rfl, h⟩ := h; exact ⟨v0, rfl, h.rd⟩
theorem OwnT2.here {w : World} {V : Value} {d : TableD} {fp : List Nat} (h : OwnT2 w V d fp) : Here w fp := by obtain ⟨v0, rfl, h⟩ := h; exact h.here
theorem OwnT2.upd {w w' : World} {V : Value} {d : TableD} {fp fq : List Nat} (h : OwnT2 w V d fp) (u : Upd fq w w') (ha : ∀ x ∈ fp, x ∉ fq) : OwnT2 w' V d fp := by obtain ⟨v0, rfl, h⟩ := h; exact ⟨v0, rfl, h.upd u ha⟩
theorem OwnT2.grow {w w' : World} {V : Value} {d : TableD} {fp : List Nat} (h : OwnT2 w V d fp) (g : Grow w w') : OwnT2 w' V d fp := h.upd (g.upd []) (by simp)
/-! numbers of a mark -/
def cntE (e : EntryD) : Int := cntN e.m.vs + cntN e.m.ms + cntA e.acts + 3
def mkE (e : EntryD) (z : Int) : EntryD := ⟨z, z + 1, ⟨mkN e.m.vs (z + 1 + 1), mkN e.m.ms (z + 1 + 1 + cntN e.m.vs)⟩, mkA e.acts (z + 1 + 1 + cntN e.m.vs + cntN e.m.ms), z + 1 + 1 + cntN e.m.vs + cntN e.m.ms + cntA e.acts⟩
def cntES : List EntryD → Int
  | [] => 0
  | e :: es => cntE e + cntES es
def mkES : List EntryD → Int → List EntryD
  | [], _ => []
  | e :: es, z => mkE e z :: mkES es (z + cntE e)
theorem mkES_len : ∀ (es : List EntryD) (z : Int), (mkES es z).length = es.length
  | [], _ => rfl
  | e :: es, z => by simp [mkES, mkES_len es]
theorem mkES_at : ∀ (es : List EntryD) (z : Int) (j : Nat) (hj : j < es.length) (hj' : j < (mkES es z).length), (mkES es z)[j] = mkE es[j] (z + cntES (es.take j))
  | [], _, j, hj, _ => absurd hj (Nat.not_lt_zero _)
  | e :: es, z, 0, _, _ => by simp [mkES, cntES]
  | e :: es, z, j + 1, hj, hj' => by
    have := mkES_at es (z + cntE e) j (by simpa using hj) (by simpa [mkES] using hj')
    simp only [mkES, List.getElem_cons_succ, List.take_succ_cons, cntES, this]
    rw [Int.add_assoc]
theorem cntE_bd (e : EntryD) : 3 ≤ cntE e ∧ cntE e ≤ 3 + 3 * sizeE e := by unfold cntE cntN cntA sizeE sizeM sizeA; omega
theorem cntES_bd : ∀ es : List EntryD, 0 ≤ cntES es ∧ cntES es ≤ 3 * sizeES es
  | [] => by simp [cntES, sizeES, sumE]
  | e :: es => by
    have h1 := cntES_bd es; have h2 := cntE_bd e
    unfold sizeES at *; unfold cntES; simp only [sumE, List.length_cons]; omega
theorem cntES_app (a b : List EntryD) : cntES (a ++ b) = cntES a + cntES b := by
  induction a with
  | nil => simp [cntES]
  | cons x a ih => simp only [List.cons_append, cntES, ih]; omega
theorem cntES_take {es : List EntryD} {k : Nat} (h : k < es.length) : cntES (es.take (k + 1)) = cntES (es.take k) + cntE es[k] := by
  rw [List.take_succ_eq_append_getElem h, cntES_app]; simp [cntES]
theorem cntES_le (es : List EntryD) (k : Nat) : 0 ≤ cntES (es.take k) ∧ cntES (es.take k) ≤ cntES es := by
  have h := cntES_app (es.take k) (es.drop k)
  rw [List.take_append_drop] at h
  have h1 := cntES_bd (es.take k); have h2 := cntES_bd (es.drop k)
  omega
def mkT (d : TableD) (z : Int) : TableD := ⟨d.cap, mkES d.es z⟩
def cntT (d : TableD) : Int := cntES d.es
theorem cntT_bd (d : TableD) (h : SmT d) : 0 ≤ cntT d ∧ cntT d ≤ 3145728 := by
  have := cntES_bd d.es; unfold SmT sizeT at h; unfold cntT; omega
theorem set3h (cs : List Value) (p : Nat) (x0 x1 x5 : Value) (h : p + 5 < cs.length) :
    let r := ((cs.set p x0).set (p + 1) x1).set (p + 5) x5
    r[p]? = some x0 ∧ r[p + 1]? = some x1 ∧ r[p + 2]? = cs[p + 2]? ∧ r[p + 3]? = cs[p + 3]? ∧ r[p + 4]? = cs[p + 4]? ∧ r[p + 5]? = some x5 ∧ ∀ i, (i < p ∨ p + 5 < i) → r[i]? = cs[i]? := by
  intro r
  refine ⟨?_, ?_, ?_, ?_, ?_, ?_, fun i hi => ?_⟩
  all_goals simp only [r, List.getElem?_set, List.length_set]
  all_goals (repeat (first | rw [if_neg (by omega)] | rw [if_pos (by omega)] | rw [if_pos rfl] | rw [if_pos trivial]))
--% markEntryS 111
set_option maxHeartbeats 1000000 in
theorem mark_ES (w : World) (v : Value) (es : List EntryD) (fp : List Nat) (k0 : Int) (h : OwnES2 w v es fp) (hs : SmES es) (hk : 0 ≤ k0 ∧ k0 ≤ 100000000) : Calls Try.prog 111 #[v, .int .i64 k0] w (RetMark OwnES2 v (mkES es k0) fp (k0 + cntES es) w) := by
  obtain ⟨cs0, F, ⟨hr, he, hgf, hff⟩, rfl⟩ := h
  obtain ⟨a, cap, rfl⟩ := own_shape hr
  have H := Lib.hid (And.intro hr he); have GF := Lib.hid hgf; have FF := Lib.hid hff
  have HS := Lib.hid hs
  have hdl : (es.length : Int) ≤ 1048576 := by have := sumE_nn es; unfold SmES sizeES at hs; omega
  clear hr he hgf hff hs
  go_enter Try.func111, Try.ntmps111
  go_wp2
  go_loopw [1, 5] (fun q i wr => ∃ (k : Nat) (z : Int) (cs : List Value), k ≤ es.length ∧ i = .int .i64 k ∧ q = .int .i64 z ∧ z = k0 + cntES (es.take k) ∧ wr.ownsRow 0 68 6 (.slice a es.length cap) es.length cs ∧ (∀ j (hj : j < es.length), j < k → EntF wr cs j (mkE es[j] (k0 + cntES (es.take j))) (F j)) ∧ (∀ j (hj : j < es.length), k ≤ j → EntF wr cs j es[j] (F j)) ∧ Upd (allF (.slice a es.length cap) F es.length) w wr) (fun _ i _ => es.length - (intOf i).toNat)
  case atStart => exact ⟨0, _, cs0, Nat.zero_le _, rfl, rfl, by simp [cntES], H.out.1, (fun j hj h => absurd h (Nat.not_lt_zero _)), (fun j hj _ => H.out.2 j hj), Upd.refl _ _⟩
  case round =>
    obtain ⟨k, z, cs, hk', rfl, rfl, hz, hown, hdone, htodo, hu0⟩ := hrel
    have HU := Lib.hid hu0; have HD := Lib.hid hdone; have HT := Lib.hid htodo; have HZ := Lib.hid hz
    have hzb : 0 ≤ z ∧ z ≤ 103145728 := by
      have h1 := cntES_le es k; have h2 := cntES_bd es; have h3 := HS.out; unfold SmES at h3; omega
    have HO := Lib.hid hown
    clear hu0 hdone htodo hz hown
    by_cases hlt : k < es.length
    · obtain ⟨g, rfl⟩ := own_some HO.out (by omega)
      have SM := Lib.hid (HS.out.at hlt)
      have HNX := Lib.hid (cntES_take hlt)
      have HN0 : Hid (mkE es[k] z = mkE es[k] (k0 + cntES (es.take k))) := Lib.hid (by rw [HZ.out])
      obtain ⟨v0, v1, v2, f0, f1, f2, c0, c1, c2, c3, c4, c5, o0, o1, o2, hfk, hd0, hd1⟩ := HT.out k hlt (Nat.le_refl _)
      generalize hek : es[k] = e at *
      obtain ⟨a0, m0, rfl⟩ := own_shape o0.1
      obtain ⟨a1, m1, rfl⟩ := own_shape o1.1
      obtain ⟨a2, m2, rfl⟩ := own_shape o2.1
      have hlen : cs.length = es.length * 6 := HO.out.1
      have hgF : ∀ x ∈ (f0 ++ f1) ++ f2, x ∉ [g] := fun x hx hm => by
        simp only [List.mem_cons, List.not_mem_nil, or_false] at hm
        exact GF.out k hlt g (fp_mem _ _ _) (by rw [hfk]; exact hm ▸ hx)
      have hgF' : ∀ x ∈ fpOf (.slice (some ⟨g, 0, none⟩) es.length cap), ∀ f : List Nat, (∀ y ∈ f, y ∈ (f0 ++ f1) ++ f2) → x ∉ f := fun x hx f hf hm => by
        have hxg : x = g := by simpa [fpOf, Value.ownBlock] using hx
        exact hgF x (hf x hm) (by simp [hxg])
      have s3 := set3h cs (k * 6) (.int .i64 z) (.int .i64 (z + 1)) (.int .i64 (z + 1 + 1 + cntN e.m.vs + cntN e.m.ms + cntA e.acts)) (by omega)
      have SS := Lib.hid s3
      have hr1 := (HO.out.stored (k * 6) (.int .i64 z)).1
      have hr2 := (hr1.stored (k * 6 + 1) (.int .i64 (z + 1))).1
      have ua : Upd [g] wr ((wr.setCell ⟨g, k * 6, none⟩ (.int .i64 z)).setCell ⟨g, k * 6 + 1, none⟩ (.int .i64 (z + 1))) := Upd.setCell (Upd.setCell (Upd.refl [g] wr) (by simp) _) (by simp) _
      have e0 : wr.cell? ⟨g, k * 6, none⟩ = some (.int .i64 e.epoch) := by rw [HO.out.cellAt _ (by omega)]; exact c0
      have e1 : wr.cell? ⟨g, k * 6 + 1, none⟩ = some (.int .i64 e.prio) := by rw [HO.out.cellAt _ (by omega)]; exact c1
      have e2 : wr.cell? ⟨g, k * 6 + 2, none⟩ = some (.slice a0 e.m.vs.length m0) := by rw [HO.out.cellAt _ (by omega)]; exact c2
      have hfz : ∀ o, wr.frozen? ⟨g, o, none⟩ = false := fun o => HO.out.frozenAt o
      have RW := Lib.hid (OwnR.of hr2).1
      have P0 := Lib.hid (o0.upd ua (fun x hx => hgF x (by simp [hx]))); have P1 := Lib.hid (o1.upd ua (fun x hx => hgF x (by simp [hx]))); have P2 := Lib.hid (o2.upd ua (fun x hx => hgF x (by simp [hx])))
      have UA := Lib.hid ua
      have CS := Lib.hid (And.intro c2 (And.intro c3 c4))
      have GG := Lib.hid hgF; have GG' := Lib.hid hgF'; have D0 := Lib.hid hd0; have D1 := Lib.hid hd1; have HFK := Lib.hid hfk
      have hgl : g < wr.heap.size := (own_block HO.out (b := g) rfl).2
      have hlr : ∀ (p : Nat), k * 6 + 1 < p → p < k * 6 + 6 → ((cs.set (k * 6) (.int .i64 z)).set (k * 6 + 1) (.int .i64 (z + 1)))[p]? = cs[p]? := fun p h1 h2 => by
        rw [List.getElem?_set_ne (by omega), List.getElem?_set_ne (by omega)]
      have LR := Lib.hid hlr
      have hb0 := cntN_bd _ SM.out.m.vs; have hb1 := cntN_bd _ SM.out.m.ms
      have hb2 : 0 ≤ cntA e.acts ∧ cntA e.acts ≤ 3145728 := by have := SM.out.acts; unfold SmA sizeA at this; unfold cntA; omega
      clear o0 o1 o2 ua hr1 hr2 c0 c1 c2 c3 c4 c5 s3 hgF hgF' hd0 hd1 hfk hlr HNX
      go_wp2_with fail
      generalize (wr.setCell ⟨g, k * 6, none⟩ (.int .i64 z)).setCell ⟨g, k * 6 + 1, none⟩ (.int .i64 (z + 1)) = wA at *
      clear e0 e1 e2 hfz
      refine (mark_N _ _ _ _ _ P0.out SM.out.m.vs (by omega)).mono ?_
      rintro _ wB ⟨rfl, ho, hu⟩
      have Q0 := Lib.hid ho
      have P1 := Lib.hid (P1.out.upd hu (fun x hx hm => D0.out x hm hx)); have P2 := Lib.hid (P2.out.upd hu (fun x hx hm => D1.out x (by simp [hm]) hx))
      have RW := Lib.hid (RW.out.upd hu (fun x hx => GG'.out x hx f0 (fun y hy => by simp [hy])))
      have UA := Lib.hid (UA.out.trans hu)
      clear ho hu
      have e3 : wB.cell? ⟨g, k * 6 + 3, none⟩ = some (.slice a1 e.m.ms.length m1) := by rw [RW.out.1.cellAt _ (by omega), LR.out _ (by omega) (by omega)]; exact CS.out.2.1
      go_wp2_with fail
      refine (mark_N _ _ _ _ _ P1.out SM.out.m.ms (by omega)).mono ?_
      rintro _ wC ⟨rfl, ho, hu⟩
      have Q0 := Lib.hid (Q0.out.upd hu D0.out); have Q1 := Lib.hid ho
      have P2 := Lib.hid (P2.out.upd hu (fun x hx hm => D1.out x (by simp [hm]) hx))
      have RW := Lib.hid (RW.out.upd hu (fun x hx => GG'.out x hx f1 (fun y hy => by simp [hy])))
      have UA := Lib.hid (UA.out.trans hu)
      clear ho hu e3
      have e4 : wC.cell? ⟨g, k * 6 + 4, none⟩ = some (.slice a2 e.acts.length m2) := by rw [RW.out.1.cellAt _ (by omega), LR.out _ (by omega) (by omega)]; exact CS.out.2.2
      go_wp2_with fail
      refine (mark_A _ _ _ _ _ P2.out SM.out.acts (by omega)).mono ?_
      rintro _ wD ⟨rfl, ho, hu⟩
      have Q0 := Lib.hid (Q0.out.upd hu (fun x hx => D1.out x (by simp [hx]))); have Q1 := Lib.hid (Q1.out.upd hu (fun x hx => D1.out x (by simp [hx]))); have Q2 := Lib.hid ho
      have RW := Lib.hid (RW.out.upd hu (fun x hx => GG'.out x hx f2 (fun y hy => by simp [hy])))
      have UA := Lib.hid (UA.out.trans hu)
      clear ho hu e4
      have hsl : ((cs.set (k * 6) (.int .i64 z)).set (k * 6 + 1) (.int .i64 (z + 1))).length = es.length * 6 := by simp [hlen]
      have e5 : ∃ x, wD.cell? ⟨g, k * 6 + 5, none⟩ = some x := ⟨_, by rw [RW.out.1.cellAt _ (by omega)]; exact List.getElem?_eq_getElem (by omega)⟩
      obtain ⟨x5, e5⟩ := e5
      have hfz : ∀ o, wD.frozen? ⟨g, o, none⟩ = false := fun o => RW.out.1.frozenAt o
      have HR := Lib.hid (RW.out.1.stored (k * 6 + 5) (.int .i64 (z + 1 + 1 + cntN e.m.vs + cntN e.m.ms + cntA e.acts))).1
      have UZ := Lib.hid (Upd.setCell (p := ⟨g, k * 6 + 5, none⟩) (Upd.refl [g] wD) (by simp) (.int .i64 (z + 1 + 1 + cntN e.m.vs + cntN e.m.ms + cntA e.acts)))
      have HNX := Lib.hid (cntES_take hlt)
      clear hsl
      go_wp2
      go_roundw
      case rel =>
        have hnx : cntES (es.take (k + 1)) = cntES (es.take k) + cntE e := by have := HNX.out; rw [hek] at this; exact this
        obtain ⟨t0, t1, t2, t3, t4, t5, t6⟩ := SS.out
        have hall : ∀ x ∈ [g] ++ f0 ++ f1 ++ f2 ++ [g], x ∈ allF (.slice (some ⟨g, 0, none⟩) es.length cap) F es.length := fun x hx => by
          rw [mem_allF]
          simp only [List.mem_append, List.mem_cons, List.not_mem_nil, or_false] at hx
          by_cases hg : x = g
          · exact .inl (by rw [hg]; exact fp_mem _ _ _)
          · refine .inr ⟨k, hlt, ?_⟩
            rw [HFK.out]; simp only [List.mem_append]
            rcases hx with (((h | h) | h) | h) | h
            · exact absurd h hg
            · exact .inl (.inl h)
            · exact .inl (.inr h)
            · exact .inr h
            · exact absurd h hg
        have uall := UA.out.trans UZ.out
        have hoth : ∀ j, j < es.length → j ≠ k → ∀ x ∈ F j, x ∉ [g] ++ f0 ++ f1 ++ f2 ++ [g] := fun j hj hne x hx hm => by
          have hfk : x ∈ F k ∨ x = g := by
            rw [HFK.out]; simp only [List.mem_append, List.mem_cons, List.not_mem_nil, or_false] at hm ⊢
            rcases hm with (((h | h) | h) | h) | h
            · exact .inr h
            · exact .inl (.inl (.inl h))
            · exact .inl (.inl (.inr h))
            · exact .inl (.inr h)
            · exact .inr h
          rcases hfk with h | h
          · rcases Nat.lt_or_gt_of_ne hne with h' | h'
            · exact FF.out j k h' hlt x hx h
            · exact FF.out k j h' hj x h hx
          · exact GF.out j hj g (fp_mem _ _ _) (h ▸ hx)
        refine ⟨k + 1, _, _, by omega, by go_num, rfl, ?_, HR.out, ?_, ?_, (HU.out.trans uall).mono ?_⟩
        · rw [hnx, HZ.out]; unfold cntE; omega
        · intro j hj hjk
          by_cases hjl : j < k
          · exact (HD.out j hj hjl).upd uall (hoth j hj (by omega)) (fun i hi => t6 _ (.inl (by omega)))
          · obtain rfl : j = k := by omega
            rw [hek, ← HN0.out]
            have hga : ∀ f : List Nat, (∀ y ∈ f, y ∈ (f0 ++ f1) ++ f2) → ∀ x ∈ f, x ∉ [g] := fun f hf x hx => GG.out x (hf x hx)
            refine ⟨_, _, _, f0, f1, f2, t0, t1, t2.trans CS.out.1, t3.trans CS.out.2.1, t4.trans CS.out.2.2, t5, ?_, ?_, ?_, HFK.out, D0.out, D1.out⟩
            · exact Q0.out.upd UZ.out (hga f0 (fun y hy => by simp [hy]))
            · exact Q1.out.upd UZ.out (hga f1 (fun y hy => by simp [hy]))
            · exact Q2.out.upd UZ.out (hga f2 (fun y hy => by simp [hy]))
        · intro j hj hjk
          exact (HT.out j hj (by omega)).upd uall (hoth j hj (by omega)) (fun i hi => t6 _ (.inr (by omega)))
        · intro x hx _
          rcases List.mem_append.1 hx with h | h
          · exact h
          · exact hall x h
      case measure => simp [intOf]; omega
    · obtain rfl : k = es.length := by omega
      go_wp2
      go_ret
      refine ⟨ret_int (by rw [HZ.out, List.take_of_length_le (Nat.le_refl _)]), ⟨cs, F, ⟨?_, fun j hj => ?_, ?_, ?_⟩, ?_⟩, HU.out⟩
      · rw [mkES_len]; exact HO.out
      · have hj' : j < es.length := by rw [mkES_len] at hj; exact hj
        rw [mkES_at es k0 j hj']; exact HD.out j hj' hj'
      · rw [mkES_len]; exact GF.out
      · rw [mkES_len]; exact FF.out
      · rw [mkES_len]
--% markTable 61
theorem mark_T (w : World) (V : Value) (d : TableD) (fp : List Nat) (k : Int) (h : OwnT2 w V d fp) (hs : SmT d) (hk : 0 ≤ k ∧ k ≤ 100000000) : Calls Try.prog 61 #[V, .int .i64 k] w (RetMark OwnT2 V (mkT d k) fp (k + cntT d) w) := by
  obtain ⟨v, rfl, hv⟩ := h
  have HV := Lib.hid hv; clear hv
  have HS : Hid (SmES d.es) := Lib.hid hs
  have hb := cntT_bd d hs; clear hs
  go_enter Try.func61, Try.ntmps61
  go_wp2_with fail
  refine at_world (w := w) ?G (fun hG => (mark_ES _ _ _ _ _ (HV.out.grow hG) HS.out (by omega)).mono ?_)
  case G => ((repeat (first | with_reducible exact Grow.refl _ | (with_reducible refine Grow.alloc_ ?_ _) | (with_reducible refine Grow.setCell_ ?_ (by first | exact Nat.le_refl _ | (simp only [World.alloc, Array.size_push]; omega) | omega) _))))
  rintro e w1 ⟨rfl, ho, hu⟩
  have HO := Lib.hid ho; have HU := Lib.hid (hG.upd_then hu)
  clear ho hu hG
  go_wp2
  go_ret
  exact ⟨rfl, ⟨v, rfl, HO.out⟩, HU.out⟩
--%
end Go.Proofs.Ytgigdpdmdldhnaa
