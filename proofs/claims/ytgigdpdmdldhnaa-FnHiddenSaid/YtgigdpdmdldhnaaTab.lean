/- Slices of entries and tables: what they read as; contracts of the laws' helpers (results that are bool only). -/
import Derived.Test.YtgigdpdmdldhnaaEn2
import Derived.WalkKit
import Derived.ProofKit
import Derived.Deep.QuietTactic
import Derived.BigQuiet
import Derived.Outline
import Derived.WalkSpells
namespace Go.Proofs.Ytgigdpdmdldhnaa
open Go.ChangeShapes Go.WideShapes Go.ChangeAt Go.RowKit
set_option linter.unusedVariables false
set_option linter.unusedSimpArgs false
--%
instance : Inhabited EntryD := ⟨⟨0, 0, ⟨[], []⟩, [], 0⟩⟩
structure TableD where
  cap : Int
  es : List EntryD
deriving DecidableEq
abbrev DatT := TableD
abbrev DatES := List EntryD
/-- Six cells hold an entry. -/
def EntAt (w : World) (b o : Nat) (v0 v1 v2 : Value) (e : EntryD) : Prop :=
  w.cell? ⟨b, o, none⟩ = some (.int .i64 e.epoch) ∧ w.cell? ⟨b, o + 1, none⟩ = some (.int .i64 e.prio) ∧ w.cell? ⟨b, o + 2, none⟩ = some v0 ∧ w.cell? ⟨b, o + 3, none⟩ = some v1 ∧ w.cell? ⟨b, o + 4, none⟩ = some v2 ∧ w.cell? ⟨b, o + 5, none⟩ = some (.int .i64 e.hits) ∧
  RdN w v0 e.m.vs ∧ RdN w v1 e.m.ms ∧ RdA w v2 e.acts
theorem EntAt.grow {w w' : World} {b o : Nat} {v0 v1 v2 : Value} {e : EntryD} (h : EntAt w b o v0 v1 v2 e) (g : Grow w w') : EntAt w' b o v0 v1 v2 e := by
  obtain ⟨c0, c1, c2, c3, c4, c5, r0, r1, r2⟩ := h
  exact ⟨g.cell c0, g.cell c1, g.cell c2, g.cell c3, g.cell c4, g.cell c5, r0.grow g, r1.grow g, r2.grow g⟩
theorem EntAt.rd {w : World} {b o : Nat} {v0 v1 v2 : Value} {e : EntryD} (h : EntAt w b o v0 v1 v2 e) : RdE w (.agg #[.int .i64 e.epoch, .int .i64 e.prio, v0, v1, v2, .int .i64 e.hits]) e :=
  ⟨v0, v1, v2, rfl, h.2.2.2.2.2.2.1, h.2.2.2.2.2.2.2.1, h.2.2.2.2.2.2.2.2⟩
def RdES (w : World) (v : Value) (ds : List EntryD) : Prop := ∃ a cap, v = .slice a ds.length cap ∧ ds.length ≤ cap ∧ cap ≤ maxLen ∧ (a = none → cap = 0) ∧
  ∀ j (hj : j < ds.length), ∃ b off v0 v1 v2, a = some ⟨b, off, none⟩ ∧ EntAt w b (off + j * 6) v0 v1 v2 ds[j]
theorem RdES.grow {w w' : World} {v : Value} {ds : List EntryD} (h : RdES w v ds) (g : Grow w w') : RdES w' v ds := by
  obtain ⟨a, cap, rfl, h1, h2, h3, h4⟩ := h
  exact ⟨a, cap, rfl, h1, h2, h3, fun j hj => by obtain ⟨b, off, v0, v1, v2, e, he⟩ := h4 j hj; exact ⟨b, off, v0, v1, v2, e, he.grow g⟩⟩
theorem RdES.nil (w : World) : RdES w (.slice none 0 0) [] := ⟨none, 0, rfl, Nat.le_refl _, by simp [maxLen], fun _ => rfl, fun j hj => by simp at hj⟩
def RdT (w : World) (V : Value) (d : TableD) : Prop := ∃ v0, V = .agg #[.int .i64 d.cap, v0] ∧ RdES w v0 d.es
theorem RdT.grow {w w' : World} {V : Value} {d : TableD} (h : RdT w V d) (g : Grow w w') : RdT w' V d := by obtain ⟨v0, e, h⟩ := h; exact ⟨v0, e, h.grow g⟩
/-- What it reads as hangs on the blocks fp alone. -/
def Framed (R : World → Prop) (w : World) (fp : List Nat) : Prop := Here w fp ∧ ∀ W' : World, (∀ x ∈ fp, W'.heap[x]? = w.heap[x]?) → R W'
theorem Framed.rd {R : World → Prop} {w : World} {fp : List Nat} (h : Framed R w fp) : R w := h.2 w (fun _ _ => rfl)
theorem Framed.upd {R : World → Prop} {w w' : World} {fp fq : List Nat} (h : Framed R w fp) (u : Upd fq w w') (ha : ∀ x ∈ fp, x ∉ fq) : Framed R w' fp :=
  ⟨fun x hx => Nat.lt_of_lt_of_le (h.1 x hx) u.size, fun W' hW => h.2 W' (fun x hx => (hW x hx).trans (u.block x (h.1 x hx) (ha x hx)))⟩
theorem Framed.grow {R : World → Prop} {w w' : World} {fp : List Nat} (h : Framed R w fp) (g : Grow w w') : Framed R w' fp := h.upd (g.upd []) (by simp)
def OwnES (w : World) (V : Value) (d : List EntryD) (fp : List Nat) : Prop := Framed (fun W => RdES W V d) w fp
def OwnT (w : World) (V : Value) (d : TableD) (fp : List Nat) : Prop := Framed (fun W => RdT W V d) w fp
theorem OwnES.rd {w : World} {V : Value} {d : List EntryD} {fp : List Nat} (h : OwnES w V d fp) : RdES w V d := Framed.rd h
theorem OwnT.rd {w : World} {V : Value} {d : TableD} {fp : List Nat} (h : OwnT w V d fp) : RdT w V d := Framed.rd h
theorem OwnT.here {w : World} {V : Value} {d : TableD} {fp : List Nat} (h : OwnT w V d fp) : Here w fp := h.1
theorem OwnT.grow {w w' : World} {V : Value} {d : TableD} {fp : List Nat} (h : OwnT w V d fp) (g : Grow w w') : OwnT w' V d fp := Framed.grow h g
theorem OwnT.upd {w w' : World} {V : Value} {d : TableD} {fp fq : List Nat} (h : OwnT w V d fp) (u : Upd fq w w') (ha : ∀ x ∈ fp, x ∉ fq) : OwnT w' V d fp := Framed.upd h u ha
def WfES (ds : List EntryD) : Prop := ∀ d ∈ ds, WfE d
def WfT (d : TableD) : Prop := (-9223372036854775808 ≤ d.cap ∧ d.cap ≤ 9223372036854775807) ∧ WfES d.es
def sumE : List EntryD → Int
  | [] => 0
  | d :: r => sizeE d + sumE r
theorem sizeE_nn (d : EntryD) : 0 ≤ sizeE d := by unfold sizeE sizeM sizeA; omega
theorem sumE_nn : ∀ ds : List EntryD, 0 ≤ sumE ds
  | [] => Int.le_refl _
  | d :: r => by have := sizeE_nn d; have := sumE_nn r; unfold sumE; omega
theorem sumE_app (a b : List EntryD) : sumE (a ++ b) = sumE a + sumE b := by
  induction a with
  | nil => simp [sumE]
  | cons d r ih => simp only [List.cons_append, sumE, ih]; omega
theorem sumE_take {ds : List EntryD} {k : Nat} (h : k < ds.length) : sumE (ds.take (k + 1)) = sumE (ds.take k) + sizeE ds[k] := by
  rw [List.take_succ_eq_append_getElem h, sumE_app]; simp [sumE]
theorem sumE_le (ds : List EntryD) (k : Nat) : sumE (ds.take k) ≤ sumE ds := by
  have h := sumE_app (ds.take k) (ds.drop k)
  rw [List.take_append_drop] at h
  have := sumE_nn (ds.drop k)
  omega
def sizeES (ds : List EntryD) : Int := ds.length + sumE ds
def SmES (ds : List EntryD) : Prop := sizeES ds ≤ 1048576
def sizeT (d : TableD) : Int := sizeES d.es
def SmT (d : TableD) : Prop := sizeT d ≤ 1048576
theorem SmES.at {ds : List EntryD} (h : SmES ds) {k : Nat} (hk : k < ds.length) : SmE ds[k] := by
  have h1 := sumE_take hk; have h2 := sumE_le ds (k + 1); have h3 := sumE_nn (ds.take k)
  unfold SmES sizeES at h; unfold SmE; omega
--% szEntryS 96
theorem sz_ES (w : World) (v : Value) (ds : List EntryD) (l : Int) (h : RdES w v ds) (hl : 0 ≤ l ∧ l ≤ 1048576) : Calls Try.prog 96 #[v, .int .i64 l] w (RetV (.int .i64 (leftOf l (sizeES ds))) w) := by
  obtain ⟨a, c, rfl, hlc, hm, hn, hc⟩ := h
  have H := Lib.hid hc; clear hc hn
  unfold maxLen at hm
  by_cases hs : l < ds.length
  · have HE := Lib.hid (leftOf_no (l := l) (s := sizeES ds) (by have := sumE_nn ds; unfold sizeES; omega))
    go_enter Try.func96, Try.ntmps96
    go_wp2
    go_ret
    exact ⟨ret_int HE.out.symm, Grow.refl _⟩
  go_enter Try.func96, Try.ntmps96
  go_wp2
  go_loopw [1, 5] (fun q i wr => ∃ k : Nat, k ≤ ds.length ∧ i = .int .i64 k ∧ q = .int .i64 (l - ds.length - sumE (ds.take k)) ∧ 0 ≤ l - ds.length - sumE (ds.take k) ∧ Grow w wr) (fun _ i _ => ds.length - (intOf i).toNat)
  case atStart => exact ⟨0, Nat.zero_le _, rfl, by simp [sumE], by simp [sumE]; omega, Grow.refl _⟩
  case round =>
    obtain ⟨k, hk, rfl, rfl, hq, hgr⟩ := hrel
    have HG := Lib.hid hgr; clear hgr
    by_cases hlt : k < ds.length
    · obtain ⟨b, off, v0, v1, v2, rfl, he⟩ := H.out k hlt
      have HE := Lib.hid (he.grow HG.out)
      obtain ⟨a0, k0, rfl⟩ := RdN.sh he.2.2.2.2.2.2.1
      obtain ⟨a1, k1, rfl⟩ := RdN.sh he.2.2.2.2.2.2.2.1
      obtain ⟨a2, k2, rfl⟩ := RdA.sh he.2.2.2.2.2.2.2.2
      have ht := sumE_take hlt
      have hle := sumE_le ds (k + 1)
      have hnn := sumE_nn (ds.take k)
      have hse := sizeE_nn ds[k]
      obtain ⟨q, hqe⟩ : ∃ q, l - ds.length - sumE (ds.take k) = q := ⟨_, rfl⟩
      have HQ := Lib.hid hqe
      rw [hqe] at hq ⊢
      have hq2 : q ≤ 1048576 := by omega
      have hn1 : l - ds.length - sumE (ds.take (k + 1)) = q - sizeE ds[k] := by omega
      have hno : q < sizeE ds[k] → leftOf l (sizeES ds) = -1 := fun h => leftOf_no (by unfold sizeES; omega)
      have HN1 := Lib.hid hn1; have HNO := Lib.hid hno
      have SZ := Lib.hid (fun (w' : World) (g : Grow wr w') => sz_E w' _ ds[k] q (HE.out.grow g).rd ⟨hq, hq2⟩)
      clear he ht hle hnn hqe hn1 hno
      obtain ⟨c0, c1, c2, c3, c4, c5, -, -, -⟩ := HE.out
      by_cases hs2 : q < sizeE ds[k]
      · have HL := Lib.hid (HNO.out hs2)
        rw [leftOf_no hs2] at SZ
        clear hs2 hse
        go_wp2_with fail
        refine (SZ.out _ (Grow.refl _)).mono ?_
        rintro e w1 ⟨rfl, hg⟩
        have HG2 := Lib.hid (HG.out.trans hg); clear hg
        go_wp2
        go_ret
        exact ⟨ret_int HL.out.symm, HG2.out⟩
      · rw [leftOf_yes hs2] at SZ
        generalize sizeE ds[k] = z at *
        have hz0 : 0 ≤ q - z := by omega
        go_wp2_with fail
        refine (SZ.out _ (Grow.refl _)).mono ?_
        rintro e w1 ⟨rfl, hg⟩
        have HG2 := Lib.hid (HG.out.trans hg); clear hg
        clear c0 c1 c2 c3 c4 c5
        go_wp2
        go_roundw
        case rel => exact ⟨k + 1, by omega, by go_num, by rw [HN1.out], by rw [HN1.out]; omega, HG2.out⟩
        case measure => simp [intOf]; omega
    · obtain rfl : k = ds.length := by omega
      have hfin : l - ds.length - sumE (ds.take ds.length) = leftOf l (sizeES ds) := by
        rw [List.take_of_length_le (Nat.le_refl _)] at hq ⊢
        rw [leftOf_yes (by unfold sizeES; omega)]; unfold sizeES; omega
      have HF := Lib.hid hfin; clear hfin hq
      go_wp2
      go_ret
      exact ⟨ret_int HF.out, HG.out⟩
--% row
theorem cell_of_block {w w' : World} {b o : Nat} {v : Value} (h : w'.heap[b]? = w.heap[b]?) (hc : w.cell? ⟨b, o, none⟩ = some v) : w'.cell? ⟨b, o, none⟩ = some v := by
  rw [← hc]; unfold World.cell?; rw [h]
theorem Upd.then_ {g : Nat} {a b c : World} (u : Upd [g] a b) (v : Upd [g] b c) : Upd [g] a c := (u.trans v).mono (by simp)
theorem set6 (cs : List Value) (p : Nat) (x0 x1 x2 x3 x4 x5 : Value) (h : p + 5 < cs.length) :
    let r := (((((cs.set p x0).set (p + 1) x1).set (p + 2) x2).set (p + 3) x3).set (p + 4) x4).set (p + 5) x5
    r[p]? = some x0 ∧ r[p + 1]? = some x1 ∧ r[p + 2]? = some x2 ∧ r[p + 3]? = some x3 ∧ r[p + 4]? = some x4 ∧ r[p + 5]? = some x5 ∧ ∀ i, (i < p ∨ p + 5 < i) → r[i]? = cs[i]? := by
  intro r
  refine ⟨?_, ?_, ?_, ?_, ?_, ?_, fun i hi => ?_⟩
  all_goals simp only [r, List.getElem?_set, List.length_set]
  all_goals (repeat (first | rw [if_neg (by omega)] | rw [if_pos (by omega)] | rw [if_pos rfl] | rw [if_pos trivial]))
def EntO (W : World) (g : Nat) (cs : List Value) (j : Nat) (e : EntryD) : Prop := ∃ v0 v1 v2 f0 f1 f2,
  cs[j * 6]? = some (.int .i64 e.epoch) ∧ cs[j * 6 + 1]? = some (.int .i64 e.prio) ∧ cs[j * 6 + 2]? = some v0 ∧ cs[j * 6 + 3]? = some v1 ∧ cs[j * 6 + 4]? = some v2 ∧ cs[j * 6 + 5]? = some (.int .i64 e.hits) ∧
  OwnN W v0 e.m.vs f0 ∧ OwnN W v1 e.m.ms f1 ∧ OwnA W v2 e.acts f2 ∧ (∀ x ∈ (f0 ++ f1) ++ f2, g < x)
theorem EntO.upd {W W' : World} {g : Nat} {cs cs' : List Value} {j : Nat} {e : EntryD} (h : EntO W g cs j e) (u : Upd [g] W W') (hc : ∀ i, i < (j + 1) * 6 → cs'[i]? = cs[i]?) : EntO W' g cs' j e := by
  obtain ⟨v0, v1, v2, f0, f1, f2, c0, c1, c2, c3, c4, c5, o0, o1, o2, hg⟩ := h
  have ha : ∀ x ∈ (f0 ++ f1) ++ f2, x ∉ [g] := fun x hx hm => by simp only [List.mem_cons, List.not_mem_nil, or_false] at hm; exact Nat.lt_irrefl _ (hm ▸ hg x hx)
  refine ⟨v0, v1, v2, f0, f1, f2, ?_, ?_, ?_, ?_, ?_, ?_, o0.upd u (fun x hx => ha x (by simp [hx])), o1.upd u (fun x hx => ha x (by simp [hx])), o2.upd u (fun x hx => ha x (by simp [hx])), hg⟩
  all_goals rw [hc _ (by omega)]; assumption
--% toEntryS 99
def entZ : Value := .agg #[.int .i64 0, .int .i64 0, .slice none 0 0, .slice none 0 0, .slice none 0 0, .int .i64 0]
theorem Try.infoEnt : (Try.prog.info? 68).map (fun i => (i.zero, i.size, i.bytes)) = some (some entZ, 6, 96) := by kernel_rfl
set_option maxHeartbeats 1000000 in
theorem to_ES (w : World) (v : Value) (ds : List EntryD) (h : RdES w v ds) (hs : SmES ds) : Calls Try.prog 99 #[v] w (RetNew OwnES ds w) := by
  obtain ⟨a, c, rfl, hlc, hm, hn, hc⟩ := h
  have H := Lib.hid hc; clear hc hn
  have HS := Lib.hid hs
  have hdl : (ds.length : Int) ≤ 1048576 := by have := sumE_nn ds; unfold SmES sizeES at hs; omega
  clear hs
  obtain ⟨i0, hi, hz0, hz1, hz2⟩ := info_parts Try.infoEnt
  go_enter Try.func99, Try.ntmps99
  go_wp2_with (at_make; refine wpList_make_full _ rfl _ _ 77 rfl w.heap.size 68 i0 entZ 6 Try.underlying77 hi hz0 hz1 .i64 .i64 _ _ ds.length rfl rfl rfl rfl (by rw [hz2]; omega) (by unfold maxLen; omega) (Nat.le_refl _) ?_; intro w1 hown hgr)
  have hgw := Grow.of_grown hgr
  clear hgr
  obtain ⟨cs0, hcs0⟩ : ∃ cs, (madeCells entZ.cells (ds.length * 6)).toList = cs := ⟨_, rfl⟩
  rw [hcs0] at hown
  clear hcs0
  go_loopw [4] (fun i wr => ∃ (k : Nat) (cs : List Value), k ≤ ds.length ∧ i = .int .i64 k ∧ wr.ownsRow w.heap.size 68 6 (.slice (some ⟨w.heap.size, 0, none⟩) ds.length ds.length) ds.length cs ∧ (∀ j (hj : j < ds.length), j < k → EntO wr w.heap.size cs j ds[j]) ∧ Grow w wr) (fun i _ => ds.length - (intOf i).toNat)
  case atStart => exact ⟨0, cs0, Nat.zero_le _, rfl, hown, (fun j hj hjk => absurd hjk (Nat.not_lt_zero _)), hgw⟩
  case round =>
    obtain ⟨k, cs, hk, rfl, hown2, hent, hgr⟩ := hrel
    clear hown hgw
    have HO := Lib.hid hown2; have HT := Lib.hid hent; have HG := Lib.hid hgr
    clear hown2 hent hgr
    by_cases hlt : k < ds.length
    · obtain ⟨b, off, v0, v1, v2, rfl, he⟩ := H.out k hlt
      have HE := Lib.hid (he.grow HG.out)
      obtain ⟨a0, k0, rfl⟩ := RdN.sh he.2.2.2.2.2.2.1
      obtain ⟨a1, k1, rfl⟩ := RdN.sh he.2.2.2.2.2.2.2.1
      obtain ⟨a2, k2, rfl⟩ := RdA.sh he.2.2.2.2.2.2.2.2
      obtain ⟨r0, r1, r2, r3, r4, r5, -, -, -⟩ := HE.out
      have SM := Lib.hid (HS.out.at hlt)
      clear he
      go_wp2_with fail
      refine (to_E2 _ _ ds[k] HE.out.rd SM.out).mono ?_
      rintro e wq ⟨V, fp, rfl, ho, hf, hg⟩
      obtain ⟨u0, u1, u2, f0, f1, f2, rfl, o0, o1, o2, rfl, -, -⟩ := ho
      obtain ⟨b0, m0, rfl⟩ := own_shape o0.1
      obtain ⟨b1, m1, rfl⟩ := own_shape o1.1
      obtain ⟨b2, m2, rfl⟩ := own_shape o2.1
      have hq := own_grow HO.out hg
      have hlen : cs.length = ds.length * 6 := hq.1
      have hgl : w.heap.size < wr.heap.size := (own_block HO.out (b := w.heap.size) rfl).2
      have s6 := set6 cs (k * 6) (.int .i64 ds[k].epoch) (.int .i64 ds[k].prio) (.slice b0 ds[k].m.vs.length m0) (.slice b1 ds[k].m.ms.length m1) (.slice b2 ds[k].acts.length m2) (.int .i64 ds[k].hits) (by omega)
      have d0 : ∃ c, wq.cell? ⟨w.heap.size, k * 6, none⟩ = some c := ⟨_, by rw [hq.cellAt (k * 6) (by omega)]; exact List.getElem?_eq_getElem (by omega)⟩
      have d1 : ∃ c, wq.cell? ⟨w.heap.size, k * 6 + 1, none⟩ = some c := ⟨_, by rw [hq.cellAt (k * 6 + 1) (by omega)]; exact List.getElem?_eq_getElem (by omega)⟩
      have d2 : ∃ c, wq.cell? ⟨w.heap.size, k * 6 + 2, none⟩ = some c := ⟨_, by rw [hq.cellAt (k * 6 + 2) (by omega)]; exact List.getElem?_eq_getElem (by omega)⟩
      have d3 : ∃ c, wq.cell? ⟨w.heap.size, k * 6 + 3, none⟩ = some c := ⟨_, by rw [hq.cellAt (k * 6 + 3) (by omega)]; exact List.getElem?_eq_getElem (by omega)⟩
      have d4 : ∃ c, wq.cell? ⟨w.heap.size, k * 6 + 4, none⟩ = some c := ⟨_, by rw [hq.cellAt (k * 6 + 4) (by omega)]; exact List.getElem?_eq_getElem (by omega)⟩
      have d5 : ∃ c, wq.cell? ⟨w.heap.size, k * 6 + 5, none⟩ = some c := ⟨_, by rw [hq.cellAt (k * 6 + 5) (by omega)]; exact List.getElem?_eq_getElem (by omega)⟩
      obtain ⟨x0, d0⟩ := d0; obtain ⟨x1, d1⟩ := d1; obtain ⟨x2, d2⟩ := d2; obtain ⟨x3, d3⟩ := d3; obtain ⟨x4, d4⟩ := d4; obtain ⟨x5, d5⟩ := d5
      have hfz : ∀ o, wq.frozen? ⟨w.heap.size, o, none⟩ = false := fun o => hq.frozenAt o
      have h1 := (hq.stored (k * 6) (.int .i64 ds[k].epoch)).1
      have h2 := (h1.stored (k * 6 + 1) (.int .i64 ds[k].prio)).1
      have h3 := (h2.stored (k * 6 + 2) (.slice b0 ds[k].m.vs.length m0)).1
      have h4 := (h3.stored (k * 6 + 3) (.slice b1 ds[k].m.ms.length m1)).1
      have h5 := (h4.stored (k * 6 + 4) (.slice b2 ds[k].acts.length m2)).1
      have h6 := (h5.stored (k * 6 + 5) (.int .i64 ds[k].hits)).1
      have UX := Lib.hid (Upd.setCell (p := ⟨w.heap.size, k * 6 + 5, none⟩) (Upd.setCell (p := ⟨w.heap.size, k * 6 + 4, none⟩) (Upd.setCell (p := ⟨w.heap.size, k * 6 + 3, none⟩) (Upd.setCell (p := ⟨w.heap.size, k * 6 + 2, none⟩) (Upd.setCell (p := ⟨w.heap.size, k * 6 + 1, none⟩) (Upd.setCell (p := ⟨w.heap.size, k * 6, none⟩) (Upd.refl [w.heap.size] wq) (by simp) (.int .i64 ds[k].epoch)) (by simp) (.int .i64 ds[k].prio)) (by simp) (.slice b0 ds[k].m.vs.length m0)) (by simp) (.slice b1 ds[k].m.ms.length m1)) (by simp) (.slice b2 ds[k].acts.length m2)) (by simp) (.int .i64 ds[k].hits))
      have HW := Lib.hid (HG.out.trans hg)
      have HS6 := Lib.hid h6
      have SS := Lib.hid s6
      have ON := Lib.hid (And.intro o0 (And.intro o1 o2))
      have FF : Hid (∀ x ∈ (f0 ++ f1) ++ f2, w.heap.size < x) := Lib.hid (fun x hx => by have := hf x hx; omega)
      have UG := Lib.hid (hg.upd [w.heap.size])
      clear hq h1 h2 h3 h4 h5 h6 s6 o0 o1 o2 hf hg r0 r1 r2 r3 r4 r5 hlen hgl HE
      go_wp2
      go_roundw
      case rel =>
        refine ⟨k + 1, _, by omega, by go_num, HS6.out, fun j hj hjk => ?_, HW.out.then_upd UX.out (by simp [Fresh])⟩
        obtain ⟨t0, t1, t2, t3, t4, t5, t6⟩ := SS.out
        by_cases hjl : j < k
        · exact (HT.out j hj hjl).upd (UG.out.then_ UX.out) (fun i hi' => t6 i (.inl (by omega)))
        · obtain rfl : j = k := by omega
          have ha : ∀ x ∈ (f0 ++ f1) ++ f2, x ∉ [w.heap.size] := fun x hx hm => by simp only [List.mem_cons, List.not_mem_nil, or_false] at hm; exact Nat.lt_irrefl _ (hm ▸ FF.out x hx)
          exact ⟨_, _, _, f0, f1, f2, t0, t1, t2, t3, t4, t5, ON.out.1.upd UX.out (fun x hx => ha x (by simp [hx])), ON.out.2.1.upd UX.out (fun x hx => ha x (by simp [hx])), ON.out.2.2.upd UX.out (fun x hx => ha x (by simp [hx])), FF.out⟩
      case measure => simp [intOf]; omega
    · obtain rfl : k = ds.length := by omega
      go_wp2
      go_ret
      refine ⟨_, List.range' w.heap.size (wr.heap.size - w.heap.size), rfl, ⟨fun x hx => ?_, fun W' hW => ?_⟩, fun x hx => ?_, HG.out⟩
      · have := (List.mem_range'_1.1 hx); omega
      · refine ⟨_, _, rfl, Nat.le_refl _, by unfold maxLen; omega, (fun e => by cases e), fun j hj => ?_⟩
        obtain ⟨v0, v1, v2, f0, f1, f2, c0, c1, c2, c3, c4, c5, o0, o1, o2, hgf⟩ := HT.out j hj hj
        have hq := HO.out
        have hgl : w.heap.size < wr.heap.size := (own_block HO.out (b := w.heap.size) rfl).2
        have hin : ∀ x, w.heap.size ≤ x → x < wr.heap.size → W'.heap[x]? = wr.heap[x]? := fun x h1 h2 => hW x (List.mem_range'_1.2 ⟨h1, by omega⟩)
        have hcell : ∀ o v, wr.cell? ⟨w.heap.size, o, none⟩ = some v → W'.cell? ⟨w.heap.size, o, none⟩ = some v := fun o v h => cell_of_block (hin _ (Nat.le_refl _) hgl) h
        have hfr : ∀ (v : Value) (f : List Nat) (zs : List Int), OwnN wr v zs f → (∀ x ∈ f, w.heap.size < x) → RdN W' v zs := fun v f zs o hx => Rd.frame o.rd (fun b hb hlt => by
          obtain ⟨_, rfl⟩ := o
          exact hin b (Nat.le_of_lt (hx b (by simp [fpOf, hb]))) hlt)
        refine ⟨_, 0, v0, v1, v2, rfl, ?_, ?_, ?_, ?_, ?_, ?_, hfr v0 f0 _ o0 (fun x hx => hgf x (by simp [hx])), hfr v1 f1 _ o1 (fun x hx => hgf x (by simp [hx])), ?_⟩
        · rw [Nat.zero_add]; exact hcell _ _ (by rw [hq.cellAt _ (by omega)]; exact c0)
        · rw [Nat.zero_add]; exact hcell _ _ (by rw [hq.cellAt _ (by omega)]; exact c1)
        · rw [Nat.zero_add]; exact hcell _ _ (by rw [hq.cellAt _ (by omega)]; exact c2)
        · rw [Nat.zero_add]; exact hcell _ _ (by rw [hq.cellAt _ (by omega)]; exact c3)
        · rw [Nat.zero_add]; exact hcell _ _ (by rw [hq.cellAt _ (by omega)]; exact c4)
        · rw [Nat.zero_add]; exact hcell _ _ (by rw [hq.cellAt _ (by omega)]; exact c5)
        · exact Rd.frame o2.rd (fun b hb hlt => by
            obtain ⟨_, rfl⟩ := o2
            exact hin b (Nat.le_of_lt (hgf b (by simp [fpOf, hb]))) hlt)
      · have := (List.mem_range'_1.1 hx); omega
--%
end Go.Proofs.Ytgigdpdmdldhnaa
