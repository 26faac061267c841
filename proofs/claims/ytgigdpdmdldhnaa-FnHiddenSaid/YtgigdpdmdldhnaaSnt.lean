/- Slices of sends: what they read as, what is owned; numbers of a mark. No walk here. -/
import Derived.Test.YtgigdpdmdldhnaaCln
import Derived.Test.YtgigdpdmdldhnaaPkt
import Derived.WalkKit
import Derived.ProofKit
namespace Go.Proofs.Ytgigdpdmdldhnaa
open Go.ChangeShapes Go.WideShapes Go.ChangeAt Go.RowKit
set_option linter.unusedVariables false
set_option linter.unusedSimpArgs false
--% 56
structure SentD where
  port : Int
  vs : List Int
deriving DecidableEq
instance : Inhabited SentD := ⟨⟨0, []⟩⟩
abbrev DatS := List SentD
def sntZ : Value := .agg #[.int .i64 0, .slice none 0 0]
theorem Try.infoSnt : (Try.prog.info? 56).map (fun i => (i.zero, i.size, i.bytes)) = some (some sntZ, 2, 32) := by kernel_rfl
theorem Try.elemSnt : ElemOk Try.prog 39 56 2 32 := by
  obtain ⟨i0, hi, hz0, hz1, hz2⟩ := info_parts Try.infoSnt
  exact ⟨Try.underlying39, ⟨i0, _, hi, hz0, hz1, hz2, rfl⟩, by decide⟩
def SntAt (w : World) (b o : Nat) (v0 : Value) (e : SentD) : Prop :=
  w.cell? ⟨b, o, none⟩ = some (.int .i64 e.port) ∧ w.cell? ⟨b, o + 1, none⟩ = some v0 ∧ RdN w v0 e.vs
theorem SntAt.grow {w w' : World} {b o : Nat} {v0 : Value} {e : SentD} (h : SntAt w b o v0 e) (g : Grow w w') : SntAt w' b o v0 e :=
  ⟨g.cell h.1, g.cell h.2.1, h.2.2.grow g⟩
def RdS (w : World) (v : Value) (ds : List SentD) : Prop := ∃ a cap, v = .slice a ds.length cap ∧ ds.length ≤ cap ∧ cap ≤ maxLen ∧ (a = none → cap = 0) ∧
  ∀ j (hj : j < ds.length), ∃ b off v0, a = some ⟨b, off, none⟩ ∧ SntAt w b (off + j * 2) v0 ds[j]
theorem RdS.grow {w w' : World} {v : Value} {ds : List SentD} (h : RdS w v ds) (g : Grow w w') : RdS w' v ds := by
  obtain ⟨a, cap, rfl, h1, h2, h3, h4⟩ := h
  exact ⟨a, cap, rfl, h1, h2, h3, fun j hj => by obtain ⟨b, off, v0, e, he⟩ := h4 j hj; exact ⟨b, off, v0, e, he.grow g⟩⟩
theorem RdS.shape {w : World} {v : Value} {ds : List SentD} (h : RdS w v ds) : ∃ a c, v = .slice a ds.length c := by
  obtain ⟨a, c, rfl, -⟩ := h; exact ⟨a, c, rfl⟩
def SntF (W : World) (cs : List Value) (j : Nat) (e : SentD) (f : List Nat) : Prop := ∃ v0,
  cs[j * 2]? = some (.int .i64 e.port) ∧ cs[j * 2 + 1]? = some v0 ∧ OwnN W v0 e.vs f
theorem SntF.upd {W W' : World} {cs cs' : List Value} {j : Nat} {e : SentD} {f fq : List Nat} (h : SntF W cs j e f) (u : Upd fq W W') (ha : ∀ x ∈ f, x ∉ fq) (hc : ∀ i, i < 2 → cs'[j * 2 + i]? = cs[j * 2 + i]?) : SntF W' cs' j e f := by
  obtain ⟨v0, c0, c1, o0⟩ := h
  refine ⟨v0, ?_, ?_, o0.upd u ha⟩
  · have := hc 0 (by decide); rw [Nat.add_zero] at this; rw [this]; exact c0
  · rw [hc 1 (by decide)]; exact c1
/-- Sends owned: the block of the cells, and the row F j of each. -/
def OwnSF (w : World) (V : Value) (es : List SentD) (cs : List Value) (F : Nat → List Nat) : Prop :=
  w.ownsRow 0 56 2 V es.length cs ∧ (∀ j (hj : j < es.length), SntF w cs j es[j] (F j)) ∧ (∀ j, j < es.length → ∀ x ∈ fpOf V, x ∉ F j) ∧ (∀ i j, i < j → j < es.length → ∀ x ∈ F i, x ∉ F j)
def allS (V : Value) (F : Nat → List Nat) (n : Nat) : List Nat := fpOf V ++ (List.range n).flatMap F
theorem mem_allS {V : Value} {F : Nat → List Nat} {n x : Nat} : x ∈ allS V F n ↔ x ∈ fpOf V ∨ ∃ j, j < n ∧ x ∈ F j := by
  simp [allS]
def OwnS (w : World) (V : Value) (es : List SentD) (fp : List Nat) : Prop := ∃ cs F, OwnSF w V es cs F ∧ fp = allS V F es.length
theorem OwnS.here {w : World} {V : Value} {es : List SentD} {fp : List Nat} (h : OwnS w V es fp) : Here w fp := by
  obtain ⟨cs, F, ⟨h1, h2, -⟩, rfl⟩ := h
  intro b hb
  rcases mem_allS.1 hb with hb | ⟨j, hj, hb⟩
  · exact (OwnR.of h1).1.here b hb
  · obtain ⟨v0, _, _, o⟩ := h2 j hj; exact o.here b hb
theorem OwnS.upd {w w' : World} {V : Value} {es : List SentD} {fp fq : List Nat} (h : OwnS w V es fp) (u : Upd fq w w') (ha : ∀ x ∈ fp, x ∉ fq) : OwnS w' V es fp := by
  obtain ⟨cs, F, ⟨h1, h2, h3⟩, rfl⟩ := h
  refine ⟨cs, F, ⟨((OwnR.of h1).1.upd u (fun x hx => ha x (mem_allS.2 (.inl hx)))).1, fun j hj => (h2 j hj).upd u (fun x hx => ha x (mem_allS.2 (.inr ⟨j, hj, hx⟩))) (fun _ _ => rfl), h3⟩, rfl⟩
theorem OwnS.grow {w w' : World} {V : Value} {es : List SentD} {fp : List Nat} (h : OwnS w V es fp) (g : Grow w w') : OwnS w' V es fp := h.upd (g.upd []) (by simp)
theorem OwnS.rd {w : World} {V : Value} {es : List SentD} {fp : List Nat} (h : OwnS w V es fp) : RdS w V es := by
  obtain ⟨cs, F, ⟨h1, h2, -⟩, -⟩ := h
  obtain ⟨a, cap, rfl⟩ := own_shape h1
  have hr : Rd w 2 (.slice a es.length cap) cs := Rd.of_own h1
  obtain ⟨a', n, cap', e, hl, hlc, hm, hn, -⟩ := hr
  simp only [Value.slice.injEq] at e
  obtain ⟨rfl, hnl, rfl⟩ := e
  refine ⟨a, cap, rfl, by omega, hm, hn, fun j hj => ?_⟩
  obtain ⟨g, rfl⟩ := own_some h1 (by omega)
  obtain ⟨v0, c0, c1, o0⟩ := h2 j hj
  refine ⟨g, 0, v0, rfl, ?_, ?_, o0.rd⟩
  all_goals rw [Nat.zero_add, h1.cellAt _ (by omega)]; assumption
theorem OwnS.nil (w : World) : OwnS w (.slice none 0 0) [] [] :=
  ⟨[], fun _ => [], ⟨World.ownsRow_nil _ _ _ _, fun j hj => absurd hj (Nat.not_lt_zero _), fun j hj => absurd hj (Nat.not_lt_zero _), fun i j _ hj => absurd hj (Nat.not_lt_zero _)⟩, rfl⟩
/-! gathered over appends -/
theorem own_from {w : World} {B : Nat} {t : TypeId} {size n : Nat} {v : Value} {xs : List Value} (h : w.ownsRow 0 t size v n xs) (hf : ∀ x ∈ fpOf v, B ≤ x) : w.ownsRow B t size v n xs := by
  obtain ⟨hl, h⟩ := h
  refine ⟨hl, ?_⟩
  rcases h with h4 | ⟨b, cap, cur, rfl, hb, r⟩
  · exact .inl h4
  · exact .inr ⟨b, cap, cur, rfl, hf b (by simp [fpOf, Value.ownBlock]), r⟩
def AccSF (w1 w : World) (v : Value) (es : List SentD) (cs : List Value) (F : Nat → List Nat) : Prop :=
  Grow w1 w ∧ OwnSF w v es cs F ∧ Fresh w1 (allS v F es.length) ∧ w.ownsRow w1.heap.size 56 2 v es.length cs
def AccS (w1 w : World) (v : Value) (es : List SentD) : Prop := ∃ cs F, AccSF w1 w v es cs F
theorem AccS.own {w1 w : World} {v : Value} {es : List SentD} (h : AccS w1 w v es) : ∃ fp, OwnS w v es fp ∧ Fresh w1 fp := by
  obtain ⟨cs, F, h1, h2, h3, h4⟩ := h
  exact ⟨_, ⟨cs, F, h2, rfl⟩, h3⟩
theorem AccS.grew {w1 w : World} {v : Value} {es : List SentD} (h : AccS w1 w v es) : Grow w1 w := by
  obtain ⟨cs, F, h1, h2, h3, h4⟩ := h; exact h1
theorem AccS.shape {w1 w : World} {v : Value} {es : List SentD} (h : AccS w1 w v es) : ∃ a c, v = .slice a es.length c := by
  obtain ⟨cs, F, h1, h2, h3, h4⟩ := h; exact own_shape h4
theorem accS_of {w1 w : World} {v : Value} {es : List SentD} {fp : List Nat} (g : Grow w1 w) (h : OwnS w v es fp) (hf : Fresh w1 fp) : AccS w1 w v es := by
  obtain ⟨cs, F, h1, rfl⟩ := h
  exact ⟨cs, F, g, h1, hf, own_from h1.1 (fun x hx => hf x (mem_allS.2 (.inl hx)))⟩
theorem AccSF.here {w1 w : World} {v : Value} {es : List SentD} {cs : List Value} {F : Nat → List Nat} (h : AccSF w1 w v es cs F) : Here w (allS v F es.length) := OwnS.here ⟨cs, F, h.2.1, rfl⟩
theorem AccSF.upd {w1 w w' : World} {v : Value} {es : List SentD} {cs : List Value} {F : Nat → List Nat} {fq : List Nat} (h : AccSF w1 w v es cs F) (u : Upd fq w w') (hf : Fresh w1 fq) (ha : ∀ x ∈ allS v F es.length, x ∉ fq) : AccSF w1 w' v es cs F := by
  obtain ⟨h1, ⟨h2, h3, h4⟩, h5, h6⟩ := h
  have r := ((OwnR.of h2).1.upd u (fun x hx => ha x (mem_allS.2 (.inl hx)))).1
  exact ⟨h1.then_upd u hf, ⟨r, fun j hj => (h3 j hj).upd u (fun x hx => ha x (mem_allS.2 (.inr ⟨j, hj, hx⟩))) (fun _ _ => rfl), h4⟩, h5, own_from r (fun x hx => h5 x (mem_allS.2 (.inl hx)))⟩
theorem AccSF.grow {w1 w w' : World} {v : Value} {es : List SentD} {cs : List Value} {F : Nat → List Nat} (h : AccSF w1 w v es cs F) (g : Grow w w') : AccSF w1 w' v es cs F :=
  h.upd (g.upd []) (by simp [Fresh]) (by simp)
theorem AccS.grow {w1 w w' : World} {v : Value} {es : List SentD} (h : AccS w1 w v es) (g : Grow w w') : AccS w1 w' v es := by
  obtain ⟨cs, F, h⟩ := h; exact ⟨cs, F, h.grow g⟩
/-- Something else is written, in blocks that the sends do not stand on. -/
theorem AccS.past {w1 w w' : World} {v : Value} {es : List SentD} {fq : List Nat} (h : AccS w1 w v es) (u : Upd fq w w') (hf : Fresh w1 fq) (ha : ∀ fp, OwnS w v es fp → Fresh w1 fp → ∀ x ∈ fp, x ∉ fq) : AccS w1 w' v es := by
  obtain ⟨cs, F, h⟩ := h
  exact ⟨cs, F, h.upd u hf (ha _ ⟨cs, F, h.2.1, rfl⟩ h.2.2.1)⟩
theorem AccS.nil {w1 w : World} (g : Grow w1 w) : AccS w1 w (.slice none 0 0) [] := accS_of g (OwnS.nil w) (by simp [Fresh])
theorem accS_lit {w1 W : World} {n : Nat} (g : Grow w1 W) (h : W.heap.size = n) : AccS w1 (W.alloc (.cells #[] 56)) (.slice (some ⟨n, 0, none⟩) 0 0) [] := by
  subst h
  have h0 : OwnS (W.alloc (.cells #[] 56)) (.slice (some ⟨W.heap.size, 0, none⟩) 0 0) [] [W.heap.size] :=
    ⟨[], fun _ => [], ⟨own_mono (World.ownsRow_lit W #[] 0 (Nat.le_refl _) (by decide) rfl) (Nat.zero_le _), fun j hj => absurd hj (Nat.not_lt_zero _), fun j hj => absurd hj (Nat.not_lt_zero _), fun i j _ hj => absurd hj (Nat.not_lt_zero _)⟩, by simp [allS, fpOf, Value.ownBlock]⟩
  exact accS_of (g.trans (Grow.alloc _ _)) h0 (fun x hx => by simp only [List.mem_cons, List.not_mem_nil, or_false] at hx; subst hx; exact g.size)
theorem cells2_left {cs l : List Value} {n i : Nat} (h : cs.length = n * 2) (hi : i < n * 2) : (cs ++ l)[i]? = cs[i]? := List.getElem?_append_left (by omega)
theorem cells2_right {cs l : List Value} {n i : Nat} (h : cs.length = n * 2) : (cs ++ l)[n * 2 + i]? = l[i]? := by
  rw [List.getElem?_append_right (by omega)]; congr 1; omega
/-- One send more. -/
theorem AccSF.onto_ {w1 w w' : World} {v v' : Value} {es : List SentD} {cs : List Value} {F : Nat → List Nat} {e : SentD} {x0 : Value} {fe : List Nat} (h : AccSF w1 w v es cs F)
    (he : OwnN w x0 e.vs fe) (hfe : Fresh w1 fe) (hd : ∀ x ∈ allS v F es.length, x ∉ fe)
    (ho : w'.ownsRow w1.heap.size 56 2 v' (es.length + 1) (cs ++ [.int .i64 e.port, x0])) (hg : w.grownBy w' v.ownBlock) (hm : Moved w v v') : AccSF w1 w' v' (es ++ [e]) (cs ++ [.int .i64 e.port, x0]) (fun j => if j = es.length then fe else F j) := by
  have hH := h.here
  have hHe := he.here
  obtain ⟨h1, ⟨h2, h3, h4, h5⟩, h6, h7⟩ := h
  have u := Upd.of_grown hg
  have hl : cs.length = es.length * 2 := h2.1
  have hfv : Fresh w1 (fpOf v) := fun x hx => h6 x (mem_allS.2 (.inl hx))
  have hmv : ∀ x ∈ fpOf v', x ∈ fpOf v ∨ w.heap.size ≤ x := fun x hx => by
    have hb : v'.ownBlock = some x := by simpa [fpOf] using hx
    rcases hm x hb with h | h
    · exact .inl (by simp [fpOf, h])
    · exact .inr h
  have hlen : (es ++ [e]).length = es.length + 1 := by simp
  refine ⟨h1.then_upd u hfv, ⟨?_, fun j hj => ?_, fun j hj x hx hx2 => ?_, fun i j hij hj x hx hx2 => ?_⟩, fun x hx => ?_, ?_⟩
  · rw [hlen]; exact own_mono ho (Nat.zero_le _)
  · rw [hlen] at hj
    show SntF _ _ _ _ (if j = es.length then fe else F j)
    by_cases hjl : j < es.length
    · rw [if_neg (by omega), List.getElem_append_left hjl]
      exact (h3 j hjl).upd u (fun x hx hxv => h4 j hjl x hxv hx) (fun i hi => cells2_left hl (by omega))
    · obtain rfl : j = es.length := by omega
      rw [if_pos rfl]
      have hee : (es ++ [e])[es.length] = e := by simp
      rw [hee]
      have ha : ∀ x ∈ fe, x ∉ fpOf v := fun x hx hxv => hd x (mem_allS.2 (.inl hxv)) hx
      refine ⟨x0, ?_, ?_, he.upd u ha⟩
      · have := cells2_right (l := [.int .i64 e.port, x0]) (i := 0) hl; rw [Nat.add_zero] at this; rw [this]; rfl
      · rw [cells2_right hl]; rfl
  · rw [hlen] at hj
    change x ∈ (if j = es.length then fe else F j) at hx2
    by_cases hjl : j < es.length
    · rw [if_neg (by omega)] at hx2
      rcases hmv x hx with h | h
      · exact h4 j hjl x h hx2
      · have := hH x (mem_allS.2 (.inr ⟨j, hjl, hx2⟩)); omega
    · rw [if_pos (by omega)] at hx2
      rcases hmv x hx with h | h
      · exact hd x (mem_allS.2 (.inl h)) hx2
      · have := hHe x hx2; omega
  · rw [hlen] at hj
    have hil : i < es.length := by omega
    simp only [if_neg (show ¬ i = es.length by omega)] at hx
    change x ∈ (if j = es.length then fe else F j) at hx2
    by_cases hjl : j < es.length
    · rw [if_neg (by omega)] at hx2
      exact h5 i j hij hjl x hx hx2
    · rw [if_pos (by omega)] at hx2
      exact hd x (mem_allS.2 (.inr ⟨i, hil, hx⟩)) hx2
  · rw [hlen] at hx
    rcases mem_allS.1 hx with hx | ⟨j, hj, hx⟩
    · have hb : v'.ownBlock = some x := by simpa [fpOf] using hx
      exact (own_block ho hb).1
    · change x ∈ (if j = es.length then fe else F j) at hx
      by_cases hjl : j < es.length
      · rw [if_neg (by omega)] at hx
        exact h6 x (mem_allS.2 (.inr ⟨j, hjl, hx⟩))
      · rw [if_pos (by omega)] at hx
        exact hfe x hx
  · rw [hlen]; exact ho
/-! numbers of a mark -/
def cntSe (e : SentD) : Int := cntN e.vs + 1
def mkSe (e : SentD) (z : Int) : SentD := ⟨z, mkN e.vs (z + 1)⟩
def cntS : List SentD → Int
  | [] => 0
  | e :: es => cntSe e + cntS es
def mkS : List SentD → Int → List SentD
  | [], _ => []
  | e :: es, z => mkSe e z :: mkS es (z + cntSe e)
theorem mkS_len : ∀ (es : List SentD) (z : Int), (mkS es z).length = es.length
  | [], _ => rfl
  | e :: es, z => by simp [mkS, mkS_len es]
theorem mkS_at : ∀ (es : List SentD) (z : Int) (j : Nat) (hj : j < es.length) (hj' : j < (mkS es z).length), (mkS es z)[j] = mkSe es[j] (z + cntS (es.take j))
  | [], _, j, hj, _ => absurd hj (Nat.not_lt_zero _)
  | e :: es, z, 0, _, _ => by simp [mkS, cntS]
  | e :: es, z, j + 1, hj, hj' => by
    have := mkS_at es (z + cntSe e) j (by simpa using hj) (by simpa [mkS] using hj')
    simp only [mkS, List.getElem_cons_succ, List.take_succ_cons, cntS, this]
    rw [Int.add_assoc]
/-- Few enough sends, each of a short head. -/
def SmS (es : List SentD) : Prop := es.length ≤ 1000 ∧ ∀ e ∈ es, e.vs.length ≤ 1000
theorem SmS.at {es : List SentD} (h : SmS es) {k : Nat} (hk : k < es.length) : SmN es[k].vs := by
  have := h.2 _ (List.getElem_mem hk); unfold SmN; omega
theorem cntS_nn : ∀ es : List SentD, 0 ≤ cntS es
  | [] => Int.le_refl _
  | e :: es => by have := cntS_nn es; unfold cntS cntSe cntN; omega
theorem cntS_up : ∀ (es : List SentD) , (∀ e ∈ es, e.vs.length ≤ 1000) → cntS es ≤ 1001 * es.length
  | [], _ => by simp [cntS]
  | e :: es, h => by
    have h1 := cntS_up es (fun x hx => h x (by simp [hx])); have h2 := h e (by simp)
    unfold cntS cntSe cntN; simp only [List.length_cons]; omega
theorem cntS_bd (es : List SentD) (h : SmS es) : 0 ≤ cntS es ∧ cntS es ≤ 3145728 := by
  have h1 := cntS_up es h.2; have h2 := cntS_nn es; have h3 := h.1; omega
theorem cntS_app (a b : List SentD) : cntS (a ++ b) = cntS a + cntS b := by
  induction a with
  | nil => simp [cntS]
  | cons x a ih => simp only [List.cons_append, cntS, ih]; omega
theorem cntS_take {es : List SentD} {k : Nat} (h : k < es.length) : cntS (es.take (k + 1)) = cntS (es.take k) + cntSe es[k] := by
  rw [List.take_succ_eq_append_getElem h, cntS_app]; simp [cntS]
theorem cntS_le (es : List SentD) (k : Nat) : 0 ≤ cntS (es.take k) ∧ cntS (es.take k) ≤ cntS es := by
  have h := cntS_app (es.take k) (es.drop k)
  rw [List.take_append_drop] at h
  have h1 := cntS_nn (es.take k); have h2 := cntS_nn (es.drop k)
  omega
--%
end Go.Proofs.Ytgigdpdmdldhnaa
