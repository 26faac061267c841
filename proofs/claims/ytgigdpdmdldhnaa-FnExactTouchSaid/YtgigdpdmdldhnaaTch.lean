/- Touch: contracts of the code (printed by gto.py). -/
import Derived.Test.YtgigdpdmdldhnaaCp3
import Derived.Test.YtgigdpdmdldhnaaToks
import Derived.Lib.MinMax
import Derived.Deep.Cut
import Derived.WalkKit
import Derived.ProofKit
import Derived.Deep.QuietTactic
import Derived.BigQuiet
import Derived.Outline
import Derived.WalkSpells
namespace Go.Proofs.Ytgigdpdmdldhnaa
open Go.ChangeShapes Go.WideShapes Go.ChangeAt Go.RowKit
set_option linter.unusedVariables false
set_option linter.unusedSimpArgs false
--%
theorem OwnES2.bump {w : World} {v : Value} {es : List EntryD} {fp : List Nat} (h : OwnES2 w v es fp) (k : Nat) (hk : k < es.length) (z : Int) :
    ∃ g c, v = .slice (some ⟨g, 0, none⟩) es.length c ∧ g ∈ fp ∧ w.cell? ⟨g, k * 6 + 5, none⟩ = some (.int .i64 es[k].hits) ∧ (∀ o, w.frozen? ⟨g, o, none⟩ = false) ∧ g < w.heap.size ∧ OwnES2 (w.setCell ⟨g, k * 6 + 5, none⟩ (.int .i64 z)) v (es.set k { es[k] with hits := z }) fp := by
  obtain ⟨cs, F, ⟨h1, h2, h3, h4⟩, rfl⟩ := h
  obtain ⟨a, c, rfl⟩ := own_shape h1
  obtain ⟨g, rfl⟩ := own_some h1 (by omega)
  have hg : g ∈ fpOf (.slice (some ⟨g, 0, none⟩) es.length c) := by simp [fpOf, Value.ownBlock]
  have hl : cs.length = es.length * 6 := h1.1
  have u : Upd [g] w (w.setCell ⟨g, k * 6 + 5, none⟩ (.int .i64 z)) := Upd.setCell (p := ⟨g, k * 6 + 5, none⟩) (Upd.refl [g] w) (by simp) _
  have hs := (h1.stored (k * 6 + 5) (.int .i64 z)).1
  refine ⟨g, c, rfl, mem_allF.2 (.inl hg), ?_, fun o => h1.frozenAt o, (own_block h1 rfl).2, cs.set (k * 6 + 5) (.int .i64 z), F, ⟨by rw [List.length_set]; exact hs, fun j hj => ?_, fun j hj => h3 j (by simpa using hj), fun i j hij hj => h4 i j hij (by simpa using hj)⟩, by rw [List.length_set]⟩
  · obtain ⟨_, _, _, _, _, _, _, _, _, _, _, c5, _⟩ := h2 k hk
    rw [h1.cellAt _ (by omega)]; exact c5
  · have hj' : j < es.length := by simpa using hj
    have hd : ∀ x ∈ F j, x ∉ [g] := fun x hx hm => by
      simp only [List.mem_cons, List.not_mem_nil, or_false] at hm; subst hm; exact h3 j hj' x hg hx
    by_cases e : j = k
    · subst e
      rw [List.getElem_set_self]
      obtain ⟨v0, v1, v2, f0, f1, f2, c0, c1, c2, c3, c4, c5, o0, o1, o2, hf, hd1⟩ := h2 j hj'
      rw [hf] at hd
      refine ⟨v0, v1, v2, f0, f1, f2, ?_, ?_, ?_, ?_, ?_, ?_, o0.upd u (fun x hx => hd x (by simp [hx])), o1.upd u (fun x hx => hd x (by simp [hx])), o2.upd u (fun x hx => hd x (by simp [hx])), hf, hd1⟩
      · rw [List.getElem?_set_ne (by omega)]; exact c0
      · rw [List.getElem?_set_ne (by omega)]; exact c1
      · rw [List.getElem?_set_ne (by omega)]; exact c2
      · rw [List.getElem?_set_ne (by omega)]; exact c3
      · rw [List.getElem?_set_ne (by omega)]; exact c4
      · rw [List.getElem?_set_self (by omega)]
    · rw [List.getElem_set_ne (Ne.symm e)]
      exact (h2 j hj').upd u hd (fun i hi => by rw [List.getElem?_set_ne (by omega)])
def bumpE (e : EntryD) : EntryD := { e with hits := min (e.hits + 1) 1000000000 }
def tcF (d : TableD) (i : Int) : TableD × Bool := if tbB d = true ∧ 0 ≤ i ∧ i < d.es.length then (⟨d.cap, d.es.set i.toNat (bumpE (d.es.getD i.toNat default))⟩, true) else (⟨0, []⟩, false)
theorem OwnT2.zero (w : World) : OwnT2 w (.agg #[.int .i64 0, .slice none 0 0]) ⟨0, []⟩ [] := ⟨_, rfl, OwnES2.nil w⟩
theorem tcF_no {d : TableD} {i : Int} (h : ¬ (tbB d = true ∧ 0 ≤ i ∧ i < d.es.length)) : tcF d i = (⟨0, []⟩, false) := by unfold tcF; rw [if_neg h]
theorem tcF_yes {d : TableD} {k : Nat} (h : tbB d = true) (hk : k < d.es.length) : tcF d k = (⟨d.cap, d.es.set k (bumpE d.es[k])⟩, true) := by
  unfold tcF; rw [if_pos ⟨h, by omega, by omega⟩]; simp [hk]
theorem tb_hits {d : TableD} (h : tbB d = true) {k : Nat} (hk : k < d.es.length) : 0 ≤ d.es[k].hits ∧ d.es[k].hits ≤ 1000000000 := by
  have h1 := ((of_decide_eq_true h).2.2 k hk).1
  rw [getD_E hk] at h1
  unfold enOk at h1
  simp only [Bool.and_eq_true] at h1
  exact inB_iff.1 h1.2.2.1
theorem boolT_no {b : Bool} (d : TableD) (i : Int) (h : tcF d i = (⟨0, []⟩, false)) : (tcF d i).1 = ⟨0, []⟩ ∧ (tcF d i).2 = false := by rw [h]; exact ⟨rfl, rfl⟩
--% touchI 63
set_option maxHeartbeats 2000000 in
theorem touchI_any (w : World) (V : Value) (d : TableD) (i : Int) (h : RdT w V d) (wf : WfT d) (sm : SmT d) (hi : -9223372036854775808 ≤ i ∧ i ≤ 9223372036854775807) : Calls Try.prog 63 #[V, .int .i64 i] w (RetNew2 OwnT2 (tcF d i).1 (.bool (tcF d i).2) w) := by
  have HT := Lib.hid h; have WF := Lib.hid wf; have SM := Lib.hid sm
  obtain ⟨v0, rfl, hv⟩ := h
  obtain ⟨a, c, rfl, hlc, hm, -, -⟩ := hv
  obtain ⟨cap, es⟩ := d
  simp only at hlc hm HT WF SM ⊢
  have hdl : es.length ≤ 1048576 := by have := sumE_nn es; unfold SmT sizeT sizeES at sm; simp only at sm; omega
  clear sm wf
  unfold maxLen at hm
  cases htb : tbB ⟨cap, es⟩
  · have HX := Lib.hid (tcF_no (d := ⟨cap, es⟩) (i := i) (by simp [htb]))
    go_enter Try.func63, Try.ntmps63
    go_wp2_with fail
    have BP0 : Hid (Box ((w.alloc (.cells #[Value.int .i64 cap, .slice a es.length c] 79)).alloc (.cells #[Value.int .i64 0, .slice none 0 0] 79)) w.heap.size [Value.int .i64 cap, .slice a es.length c]) := Lib.hid ((Box.alloc w [Value.int .i64 cap, .slice a es.length c] 79).grow (Grow.alloc _ _))
    have BR0 : Hid (Box ((w.alloc (.cells #[Value.int .i64 cap, .slice a es.length c] 79)).alloc (.cells #[Value.int .i64 0, .slice none 0 0] 79)) (w.heap.size + 1) [Value.int .i64 0, .slice none 0 0]) := Lib.hid ((Box.alloc (w.alloc (.cells #[Value.int .i64 cap, .slice a es.length c] 79)) [Value.int .i64 0, .slice none 0 0] 79).at_ (b' := w.heap.size + 1) (by simp only [World.alloc, Array.size_push]))
    have G0 : Hid (Grow w ((w.alloc (.cells #[Value.int .i64 cap, .slice a es.length c] 79)).alloc (.cells #[Value.int .i64 0, .slice none 0 0] 79))) := Lib.hid ((Grow.alloc _ _).trans (Grow.alloc _ _))
    generalize ((w.alloc (.cells #[Value.int .i64 cap, .slice a es.length c] 79)).alloc (.cells #[Value.int .i64 0, .slice none 0 0] 79)) = W0 at *
    refine (tableOkI_any _ _ ⟨cap, es⟩ (HT.out.grow G0.out) WF.out).mono ?_
    rintro _ w1 ⟨rfl, hg⟩
    rw [htb]
    have G1 := Lib.hid (G0.out.trans hg); have BP := Lib.hid (BP0.out.grow hg); have BR := Lib.hid (BR0.out.grow hg)
    clear hg
    have ⟨p0, p1⟩ := BP.out.two
    have pl := BP.out.1
    have pz := BP.out.2.2
    have ⟨r0, r1⟩ := BR.out.two
    have rl := BR.out.1
    have rz := BR.out.2.2
    have HR : Hid (∀ W, Upd [w.heap.size + 1] w1 W → RetNew2 OwnT2 (tcF ⟨cap, es⟩ i).1 (.bool (tcF ⟨cap, es⟩ i).2) w (.returned (.tuple #[.agg #[.int .i64 0, .slice none 0 0], .bool false])) W) := Lib.hid (fun W hu => by
      rw [HX.out]
      exact ⟨_, [], rfl, OwnT2.zero _, by simp [Fresh], G1.out.box_end hu (by simp)⟩)
    go_wp2
    refine bodyPost_ret (v := .tuple #[.agg #[.int .i64 0, .slice none 0 0], .bool false]) ?_ rfl (HR.out _ ?_)
    · simp [results, Try.results63, go_sem, p0, p1, r0, r1, rl, rz, pl, pz]
    · ((repeat (first | with_reducible exact Upd.refl _ _ | (with_reducible refine Upd.setCell ?_ (by simp) _))))
  by_cases hin : 0 ≤ i ∧ i < es.length
  rotate_left
  · have HX := Lib.hid (tcF_no (d := ⟨cap, es⟩) (i := i) (fun h => hin h.2))
    have hI : inB 0 ((es.length : Int) - 1) i = false := inB_false (by omega)
    clear hin
    go_enter Try.func63, Try.ntmps63
    go_wp2_with fail
    have BP0 : Hid (Box ((w.alloc (.cells #[Value.int .i64 cap, .slice a es.length c] 79)).alloc (.cells #[Value.int .i64 0, .slice none 0 0] 79)) w.heap.size [Value.int .i64 cap, .slice a es.length c]) := Lib.hid ((Box.alloc w [Value.int .i64 cap, .slice a es.length c] 79).grow (Grow.alloc _ _))
    have BR0 : Hid (Box ((w.alloc (.cells #[Value.int .i64 cap, .slice a es.length c] 79)).alloc (.cells #[Value.int .i64 0, .slice none 0 0] 79)) (w.heap.size + 1) [Value.int .i64 0, .slice none 0 0]) := Lib.hid ((Box.alloc (w.alloc (.cells #[Value.int .i64 cap, .slice a es.length c] 79)) [Value.int .i64 0, .slice none 0 0] 79).at_ (b' := w.heap.size + 1) (by simp only [World.alloc, Array.size_push]))
    have G0 : Hid (Grow w ((w.alloc (.cells #[Value.int .i64 cap, .slice a es.length c] 79)).alloc (.cells #[Value.int .i64 0, .slice none 0 0] 79))) := Lib.hid ((Grow.alloc _ _).trans (Grow.alloc _ _))
    generalize ((w.alloc (.cells #[Value.int .i64 cap, .slice a es.length c] 79)).alloc (.cells #[Value.int .i64 0, .slice none 0 0] 79)) = W0 at *
    refine (tableOkI_any _ _ ⟨cap, es⟩ (HT.out.grow G0.out) WF.out).mono ?_
    rintro _ w1 ⟨rfl, hg⟩
    rw [htb]
    have G1 := Lib.hid (G0.out.trans hg); have BP := Lib.hid (BP0.out.grow hg); have BR := Lib.hid (BR0.out.grow hg)
    clear hg
    have ⟨p0, p1⟩ := BP.out.two
    have pl := BP.out.1
    have pz := BP.out.2.2
    have ⟨r0, r1⟩ := BR.out.two
    have rl := BR.out.1
    have rz := BR.out.2.2
    have HR : Hid (∀ W, Upd [w.heap.size + 1] w1 W → RetNew2 OwnT2 (tcF ⟨cap, es⟩ i).1 (.bool (tcF ⟨cap, es⟩ i).2) w (.returned (.tuple #[.agg #[.int .i64 0, .slice none 0 0], .bool false])) W) := Lib.hid (fun W hu => by
      rw [HX.out]
      exact ⟨_, [], rfl, OwnT2.zero _, by simp [Fresh], G1.out.box_end hu (by simp)⟩)
    go_wp2_with (go_at_call 93; refine (upTo_any _ _ _).mono ?_; rintro e w' ⟨rfl, rfl⟩; rw [hI])
    refine bodyPost_ret (v := .tuple #[.agg #[.int .i64 0, .slice none 0 0], .bool false]) ?_ rfl (HR.out _ ?_)
    · simp [results, Try.results63, go_sem, p0, p1, r0, r1, rl, rz, pl, pz]
    · ((repeat (first | with_reducible exact Upd.refl _ _ | (with_reducible refine Upd.setCell ?_ (by simp) _))))
  obtain ⟨k, rfl⟩ := Int.eq_ofNat_of_zero_le hin.1
  have hk : k < es.length := by omega
  have HX := Lib.hid (tcF_yes (d := ⟨cap, es⟩) htb hk)
  have hh := tb_hits (d := ⟨cap, es⟩) htb hk
  simp only at hh HX
  clear hin
  have hI : inB 0 ((es.length : Int) - 1) k = true := inB_true (by omega) (by omega)
  go_enter Try.func63, Try.ntmps63
  go_wp2_with fail
  have BP0 : Hid (Box ((w.alloc (.cells #[Value.int .i64 cap, .slice a es.length c] 79)).alloc (.cells #[Value.int .i64 0, .slice none 0 0] 79)) w.heap.size [Value.int .i64 cap, .slice a es.length c]) := Lib.hid ((Box.alloc w [Value.int .i64 cap, .slice a es.length c] 79).grow (Grow.alloc _ _))
  have BR0 : Hid (Box ((w.alloc (.cells #[Value.int .i64 cap, .slice a es.length c] 79)).alloc (.cells #[Value.int .i64 0, .slice none 0 0] 79)) (w.heap.size + 1) [Value.int .i64 0, .slice none 0 0]) := Lib.hid ((Box.alloc (w.alloc (.cells #[Value.int .i64 cap, .slice a es.length c] 79)) [Value.int .i64 0, .slice none 0 0] 79).at_ (b' := w.heap.size + 1) (by simp only [World.alloc, Array.size_push]))
  have G0 : Hid (Grow w ((w.alloc (.cells #[Value.int .i64 cap, .slice a es.length c] 79)).alloc (.cells #[Value.int .i64 0, .slice none 0 0] 79))) := Lib.hid ((Grow.alloc _ _).trans (Grow.alloc _ _))
  generalize ((w.alloc (.cells #[Value.int .i64 cap, .slice a es.length c] 79)).alloc (.cells #[Value.int .i64 0, .slice none 0 0] 79)) = W0 at *
  refine (tableOkI_any _ _ ⟨cap, es⟩ (HT.out.grow G0.out) WF.out).mono ?_
  rintro _ w1 ⟨rfl, hg⟩
  rw [htb]
  have G1 := Lib.hid (G0.out.trans hg); have BP := Lib.hid (BP0.out.grow hg); have BR := Lib.hid (BR0.out.grow hg)
  clear hg
  have ⟨p0, p1⟩ := BP.out.two
  have pl := BP.out.1
  have pz := BP.out.2.2
  have ⟨r0, r1⟩ := BR.out.two
  have rl := BR.out.1
  have rz := BR.out.2.2
  go_wp2_with (first | (go_at_call 93; refine (upTo_any _ _ _).mono ?_; rintro e w' ⟨rfl, rfl⟩; rw [hI]) | fail)
  refine (copyTable_any _ _ ⟨cap, es⟩ (HT.out.grow G1.out) SM.out).mono ?_
  rintro _ w2 ⟨V2, fp, rfl, ho, hf, hg⟩
  obtain ⟨zv, rfl, ho⟩ := ho
  simp only at ho
  have G2 := Lib.hid (G1.out.trans hg)
  have BP2 := Lib.hid (((BP.out.grow hg).set 0 (.int .i64 cap) (by simp)).set 1 zv (by simp))
  have BR2 := Lib.hid (BR.out.grow hg)
  have U2 : Hid (Upd [w.heap.size] w2 ((w2.setCell ⟨w.heap.size, 0, none⟩ (.int .i64 cap)).setCell ⟨w.heap.size, 1, none⟩ zv)) := Lib.hid (Upd.setCell (Upd.one_cell w2 w.heap.size 0 (.int .i64 cap)) (p := ⟨w.heap.size, 1, none⟩) (by simp) zv)
  have F2 : Hid (∀ x ∈ fp, w.heap.size + 1 < x) := Lib.hid (fun x hx => by have h1 := hf x hx; have h2 := BR.out.1; omega)
  have O2 := Lib.hid (ho.upd U2.out (fun x hx hm => by have := F2.out x hx; simp only [List.mem_cons, List.not_mem_nil, or_false] at hm; omega))
  obtain ⟨g, zc, rfl, hgf, c5, hfz, hgl, hset⟩ := O2.out.bump k hk (min (es[k].hits + 1) 1000000000)
  have HE0 : Hid (OwnES2 _ _ (es.set k (bumpE es[k])) fp) := Lib.hid hset
  have HC := Lib.hid (And.intro c5 (And.intro hfz hgl)); have HGF := Lib.hid hgf
  have BR3 := Lib.hid (BR2.out.upd U2.out (by simp))
  have G3 := Lib.hid (G2.out.then_upd U2.out (by simp [Fresh]))
  clear ho hf hset c5 hfz hgl hgf p0 p1 pl pz r0 r1 rl rz
  have ⟨p0, p1⟩ := (BP.out.grow hg).two
  have pl := (BP.out.grow hg).1
  have pz := (BP.out.grow hg).2.2
  clear hg
  go_wp2_with fail
  generalize hwA : (w2.setCell ⟨w.heap.size, 0, none⟩ (.int .i64 cap)).setCell ⟨w.heap.size, 1, none⟩ (.slice (some ⟨g, 0, none⟩) es.length zc) = wA at *
  clear hwA p0 p1 pl pz
  have hne : Nonempty (Cl (Grow wA)) := ⟨⟨wA, Grow.refl _⟩⟩
  have p1 := BP2.out.two_.2
  generalize hhe : es[k].hits = eh at *
  have p5 : ∀ x : Cl (Grow wA), x.w.cell? ⟨g, k * 6 + 5, none⟩ = some (.int .i64 eh) := fun x => x.ok.cell HC.out.1
  refine wp_region_last (Cls (Grow wA)) 13 14 #[false, false, false, false, false, false, false, false, false, false, false, false, false, false] (by kernel_rfl) (by kernel_rfl) ?_
  refine anyL_seg [0, 1, 2, 3, 4, 5, 6, 7, 8, 9] #[true, true, true, true, true, true, true, true, true, true, false, false, false, false] (fuel := 4) rfl (by kernel_rfl) ⟨⟨_, Grow.drewN _ 1⟩, rfl⟩ ?_
  simp only [pickOps, List.getD_cons_succ, List.getD_cons_zero]
  repeat (go_big_quiet_step (fail))
  refine wpQuiet_nil ?_
  refine anyL_sole 10 #[true, true, true, true, true, true, true, true, true, true, true, false, false, false] (fuel := 3) (by kernel_rfl) ?_
  simp only [List.getD_cons_succ, List.getD_cons_zero]
  go_wp2
  refine ⟨⟨⟨_, Grow.drewN _ 1⟩, rfl⟩, ?_⟩
  refine anyL_sole 11 #[true, true, true, true, true, true, true, true, true, true, true, true, false, false] (fuel := 2) (by kernel_rfl) ?_
  simp only [List.getD_cons_succ, List.getD_cons_zero]
  go_wp2
  refine ⟨⟨⟨_, Grow.drewN _ 1⟩, rfl⟩, ?_⟩
  refine anyL_sole 12 #[true, true, true, true, true, true, true, true, true, true, true, true, true, false] (fuel := 1) (by kernel_rfl) ?_
  simp only [List.getD_cons_succ, List.getD_cons_zero]
  go_wp2
  refine ⟨⟨⟨_, Grow.drewN _ 1⟩, rfl⟩, ?_⟩
  refine anyL_last (by kernel_rfl) ?_
  simp only [List.getD_cons_succ, List.getD_cons_zero]
  have c5 := HC.out.1
  have hfz := HC.out.2.1
  have hgl := HC.out.2.2
  have ST : Hid (OwnES2 ((wA.drewN 1).setCell ⟨g, k * 6 + 5, none⟩ (.int .i64 (min (eh + 1) 1000000000))) (.slice (some ⟨g, 0, none⟩) es.length zc) (es.set k (bumpE es[k])) fp) := Lib.hid (by
    have h0 := O2.out.grow (Grow.drewN wA 1)
    obtain ⟨g', c', e', -, -, -, -, h1⟩ := h0.bump k hk (min (es[k].hits + 1) 1000000000)
    rw [hhe] at h1
    simp only [Value.slice.injEq, Option.some.injEq, Addr.mk.injEq] at e'
    obtain ⟨⟨rfl, -⟩, -, rfl⟩ := e'
    have : bumpE es[k] = { es[k] with hits := min (eh + 1) 1000000000 } := by unfold bumpE; rw [hhe]
    rw [this]; exact h1)
  have UA : Hid (Upd fp wA ((wA.drewN 1).setCell ⟨g, k * 6 + 5, none⟩ (.int .i64 (min (eh + 1) 1000000000)))) := Lib.hid (Upd.setCell (p := ⟨g, k * 6 + 5, none⟩) ((Grow.drewN wA 1).upd fp) HGF.out _)
  clear p1 p5 hhe
  go_wp2
  refine ⟨trivial, ?_⟩
  generalize (wA.drewN 1).setCell ⟨g, k * 6 + 5, none⟩ (.int .i64 (min (eh + 1) 1000000000)) = wF at *
  clear c5 hfz hgl
  have BP4 := Lib.hid (BP2.out.upd UA.out (fun hm => by have := F2.out _ hm; omega))
  have BR4 := Lib.hid (BR3.out.upd UA.out (fun hm => by have := F2.out _ hm; omega))
  have ⟨p0, p1⟩ := BP4.out.two
  have pl := BP4.out.1
  have pz := BP4.out.2.2
  have ⟨r0, r1⟩ := BR4.out.two
  have rl := BR4.out.1
  have rz := BR4.out.2.2
  go_wp2
  have HR : Hid (∀ W, Upd [w.heap.size + 1] wF W → RetNew2 OwnT2 (tcF ⟨cap, es⟩ k).1 (.bool (tcF ⟨cap, es⟩ k).2) w (.returned (.tuple #[.agg #[.int .i64 cap, .slice (some ⟨g, 0, none⟩) es.length zc], .bool true])) W) := Lib.hid (fun W hu => by
    rw [HX.out]
    exact ⟨_, fp, rfl, ⟨_, rfl, ST.out.upd hu (fun x hx hm => by have := F2.out x hx; simp only [List.mem_cons, List.not_mem_nil, or_false] at hm; omega)⟩, fun x hx => by have := F2.out x hx; omega, (G3.out.then_upd UA.out (fun x hx => by have := F2.out x hx; omega)).box_end hu (by simp)⟩)
  refine bodyPost_ret (v := .tuple #[.agg #[.int .i64 cap, .slice (some ⟨g, 0, none⟩) es.length zc], .bool true]) ?_ rfl (HR.out _ ?_)
  · simp [results, Try.results63, go_sem, p0, p1, r0, r1, rl, rz, pl, pz]
  · ((repeat (first | with_reducible exact Upd.refl _ _ | (with_reducible refine Upd.setCell ?_ (by simp) _))))
--%
theorem bump_lo {e : EntryD} (h : e.hits < 1000000000) : bumpE e = { e with hits := e.hits + 1 } := by unfold bumpE; rw [Int.min_eq_left (by omega)]
theorem bump_hi {e : EntryD} (h : e.hits = 1000000000) : bumpE e = e := by
  unfold bumpE; rw [h, Int.min_eq_right (by omega), ← h]
--% touchS 62
set_option maxHeartbeats 2000000 in
theorem touchS_any (w : World) (V : Value) (d : TableD) (i : Int) (h : RdT w V d) (wf : WfT d) (sm : SmT d) (hi : -9223372036854775808 ≤ i ∧ i ≤ 9223372036854775807) : Calls Try.prog 62 #[V, .int .i64 i] w (RetNew2 OwnT2 (tcF d i).1 (.bool (tcF d i).2) w) := by
  have HT := Lib.hid h; have WF := Lib.hid wf; have SM := Lib.hid sm
  obtain ⟨v0, rfl, hv⟩ := h
  obtain ⟨a, c, rfl, hlc, hm, -, -⟩ := hv
  obtain ⟨cap, es⟩ := d
  simp only at hlc hm HT WF SM ⊢
  have hdl : es.length ≤ 1048576 := by have := sumE_nn es; unfold SmT sizeT sizeES at sm; simp only at sm; omega
  clear sm wf
  unfold maxLen at hm
  cases htb : tbB ⟨cap, es⟩
  · have HX := Lib.hid (tcF_no (d := ⟨cap, es⟩) (i := i) (by simp [htb]))
    go_enter Try.func62, Try.ntmps62
    go_wp2_with fail
    have BP0 : Hid (Box ((w.alloc (.cells #[Value.int .i64 cap, .slice a es.length c] 79)).alloc (.cells #[Value.int .i64 0, .slice none 0 0] 79)) w.heap.size [Value.int .i64 cap, .slice a es.length c]) := Lib.hid ((Box.alloc w [Value.int .i64 cap, .slice a es.length c] 79).grow (Grow.alloc _ _))
    have BR0 : Hid (Box ((w.alloc (.cells #[Value.int .i64 cap, .slice a es.length c] 79)).alloc (.cells #[Value.int .i64 0, .slice none 0 0] 79)) (w.heap.size + 1) [Value.int .i64 0, .slice none 0 0]) := Lib.hid ((Box.alloc (w.alloc (.cells #[Value.int .i64 cap, .slice a es.length c] 79)) [Value.int .i64 0, .slice none 0 0] 79).at_ (b' := w.heap.size + 1) (by simp only [World.alloc, Array.size_push]))
    have G0 : Hid (Grow w ((w.alloc (.cells #[Value.int .i64 cap, .slice a es.length c] 79)).alloc (.cells #[Value.int .i64 0, .slice none 0 0] 79))) := Lib.hid ((Grow.alloc _ _).trans (Grow.alloc _ _))
    generalize ((w.alloc (.cells #[Value.int .i64 cap, .slice a es.length c] 79)).alloc (.cells #[Value.int .i64 0, .slice none 0 0] 79)) = W0 at *
    refine (tableOkS_any _ _ ⟨cap, es⟩ (HT.out.grow G0.out) WF.out).mono ?_
    rintro _ w1 ⟨rfl, hg⟩
    rw [htb]
    have G1 := Lib.hid (G0.out.trans hg); have BP := Lib.hid (BP0.out.grow hg); have BR := Lib.hid (BR0.out.grow hg)
    clear hg
    have ⟨p0, p1⟩ := BP.out.two
    have pl := BP.out.1
    have pz := BP.out.2.2
    have ⟨r0, r1⟩ := BR.out.two
    have rl := BR.out.1
    have rz := BR.out.2.2
    have HR : Hid (∀ W, Upd [w.heap.size + 1] w1 W → RetNew2 OwnT2 (tcF ⟨cap, es⟩ i).1 (.bool (tcF ⟨cap, es⟩ i).2) w (.returned (.tuple #[.agg #[.int .i64 0, .slice none 0 0], .bool false])) W) := Lib.hid (fun W hu => by
      rw [HX.out]
      exact ⟨_, [], rfl, OwnT2.zero _, by simp [Fresh], G1.out.box_end hu (by simp)⟩)
    go_wp2
    refine bodyPost_ret (v := .tuple #[.agg #[.int .i64 0, .slice none 0 0], .bool false]) ?_ rfl (HR.out _ ?_)
    · simp [results, Try.results62, go_sem, p0, p1, r0, r1, rl, rz, pl, pz]
    · ((repeat (first | with_reducible exact Upd.refl _ _ | (with_reducible refine Upd.setCell ?_ (by simp) _))))
  by_cases hi0 : i < 0
  · have HX := Lib.hid (tcF_no (d := ⟨cap, es⟩) (i := i) (fun h => by omega))
    go_enter Try.func62, Try.ntmps62
    go_wp2_with fail
    have BP0 : Hid (Box ((w.alloc (.cells #[Value.int .i64 cap, .slice a es.length c] 79)).alloc (.cells #[Value.int .i64 0, .slice none 0 0] 79)) w.heap.size [Value.int .i64 cap, .slice a es.length c]) := Lib.hid ((Box.alloc w [Value.int .i64 cap, .slice a es.length c] 79).grow (Grow.alloc _ _))
    have BR0 : Hid (Box ((w.alloc (.cells #[Value.int .i64 cap, .slice a es.length c] 79)).alloc (.cells #[Value.int .i64 0, .slice none 0 0] 79)) (w.heap.size + 1) [Value.int .i64 0, .slice none 0 0]) := Lib.hid ((Box.alloc (w.alloc (.cells #[Value.int .i64 cap, .slice a es.length c] 79)) [Value.int .i64 0, .slice none 0 0] 79).at_ (b' := w.heap.size + 1) (by simp only [World.alloc, Array.size_push]))
    have G0 : Hid (Grow w ((w.alloc (.cells #[Value.int .i64 cap, .slice a es.length c] 79)).alloc (.cells #[Value.int .i64 0, .slice none 0 0] 79))) := Lib.hid ((Grow.alloc _ _).trans (Grow.alloc _ _))
    generalize ((w.alloc (.cells #[Value.int .i64 cap, .slice a es.length c] 79)).alloc (.cells #[Value.int .i64 0, .slice none 0 0] 79)) = W0 at *
    refine (tableOkS_any _ _ ⟨cap, es⟩ (HT.out.grow G0.out) WF.out).mono ?_
    rintro _ w1 ⟨rfl, hg⟩
    rw [htb]
    have G1 := Lib.hid (G0.out.trans hg); have BP := Lib.hid (BP0.out.grow hg); have BR := Lib.hid (BR0.out.grow hg)
    clear hg
    have ⟨p0, p1⟩ := BP.out.two
    have pl := BP.out.1
    have pz := BP.out.2.2
    have ⟨r0, r1⟩ := BR.out.two
    have rl := BR.out.1
    have rz := BR.out.2.2
    have HR : Hid (∀ W, Upd [w.heap.size + 1] w1 W → RetNew2 OwnT2 (tcF ⟨cap, es⟩ i).1 (.bool (tcF ⟨cap, es⟩ i).2) w (.returned (.tuple #[.agg #[.int .i64 0, .slice none 0 0], .bool false])) W) := Lib.hid (fun W hu => by
      rw [HX.out]
      exact ⟨_, [], rfl, OwnT2.zero _, by simp [Fresh], G1.out.box_end hu (by simp)⟩)
    go_wp2
    refine bodyPost_ret (v := .tuple #[.agg #[.int .i64 0, .slice none 0 0], .bool false]) ?_ rfl (HR.out _ ?_)
    · simp [results, Try.results62, go_sem, p0, p1, r0, r1, rl, rz, pl, pz]
    · ((repeat (first | with_reducible exact Upd.refl _ _ | (with_reducible refine Upd.setCell ?_ (by simp) _))))
  by_cases hi1 : (es.length : Int) ≤ i
  · have HX := Lib.hid (tcF_no (d := ⟨cap, es⟩) (i := i) (fun h => by have := h.2.2; simp only at this; omega))
    go_enter Try.func62, Try.ntmps62
    go_wp2_with fail
    have BP0 : Hid (Box ((w.alloc (.cells #[Value.int .i64 cap, .slice a es.length c] 79)).alloc (.cells #[Value.int .i64 0, .slice none 0 0] 79)) w.heap.size [Value.int .i64 cap, .slice a es.length c]) := Lib.hid ((Box.alloc w [Value.int .i64 cap, .slice a es.length c] 79).grow (Grow.alloc _ _))
    have BR0 : Hid (Box ((w.alloc (.cells #[Value.int .i64 cap, .slice a es.length c] 79)).alloc (.cells #[Value.int .i64 0, .slice none 0 0] 79)) (w.heap.size + 1) [Value.int .i64 0, .slice none 0 0]) := Lib.hid ((Box.alloc (w.alloc (.cells #[Value.int .i64 cap, .slice a es.length c] 79)) [Value.int .i64 0, .slice none 0 0] 79).at_ (b' := w.heap.size + 1) (by simp only [World.alloc, Array.size_push]))
    have G0 : Hid (Grow w ((w.alloc (.cells #[Value.int .i64 cap, .slice a es.length c] 79)).alloc (.cells #[Value.int .i64 0, .slice none 0 0] 79))) := Lib.hid ((Grow.alloc _ _).trans (Grow.alloc _ _))
    generalize ((w.alloc (.cells #[Value.int .i64 cap, .slice a es.length c] 79)).alloc (.cells #[Value.int .i64 0, .slice none 0 0] 79)) = W0 at *
    refine (tableOkS_any _ _ ⟨cap, es⟩ (HT.out.grow G0.out) WF.out).mono ?_
    rintro _ w1 ⟨rfl, hg⟩
    rw [htb]
    have G1 := Lib.hid (G0.out.trans hg); have BP := Lib.hid (BP0.out.grow hg); have BR := Lib.hid (BR0.out.grow hg)
    clear hg
    have ⟨p0, p1⟩ := BP.out.two
    have pl := BP.out.1
    have pz := BP.out.2.2
    have ⟨r0, r1⟩ := BR.out.two
    have rl := BR.out.1
    have rz := BR.out.2.2
    have HR : Hid (∀ W, Upd [w.heap.size + 1] w1 W → RetNew2 OwnT2 (tcF ⟨cap, es⟩ i).1 (.bool (tcF ⟨cap, es⟩ i).2) w (.returned (.tuple #[.agg #[.int .i64 0, .slice none 0 0], .bool false])) W) := Lib.hid (fun W hu => by
      rw [HX.out]
      exact ⟨_, [], rfl, OwnT2.zero _, by simp [Fresh], G1.out.box_end hu (by simp)⟩)
    go_wp2
    refine bodyPost_ret (v := .tuple #[.agg #[.int .i64 0, .slice none 0 0], .bool false]) ?_ rfl (HR.out _ ?_)
    · simp [results, Try.results62, go_sem, p0, p1, r0, r1, rl, rz, pl, pz]
    · ((repeat (first | with_reducible exact Upd.refl _ _ | (with_reducible refine Upd.setCell ?_ (by simp) _))))
  have hin : 0 ≤ i ∧ i < es.length := by omega
  clear hi0 hi1
  obtain ⟨k, rfl⟩ := Int.eq_ofNat_of_zero_le hin.1
  have hk : k < es.length := by omega
  have HX := Lib.hid (tcF_yes (d := ⟨cap, es⟩) htb hk)
  have hh := tb_hits (d := ⟨cap, es⟩) htb hk
  simp only at hh HX
  clear hin
  go_enter Try.func62, Try.ntmps62
  go_wp2_with fail
  have BP0 : Hid (Box ((w.alloc (.cells #[Value.int .i64 cap, .slice a es.length c] 79)).alloc (.cells #[Value.int .i64 0, .slice none 0 0] 79)) w.heap.size [Value.int .i64 cap, .slice a es.length c]) := Lib.hid ((Box.alloc w [Value.int .i64 cap, .slice a es.length c] 79).grow (Grow.alloc _ _))
  have BR0 : Hid (Box ((w.alloc (.cells #[Value.int .i64 cap, .slice a es.length c] 79)).alloc (.cells #[Value.int .i64 0, .slice none 0 0] 79)) (w.heap.size + 1) [Value.int .i64 0, .slice none 0 0]) := Lib.hid ((Box.alloc (w.alloc (.cells #[Value.int .i64 cap, .slice a es.length c] 79)) [Value.int .i64 0, .slice none 0 0] 79).at_ (b' := w.heap.size + 1) (by simp only [World.alloc, Array.size_push]))
  have G0 : Hid (Grow w ((w.alloc (.cells #[Value.int .i64 cap, .slice a es.length c] 79)).alloc (.cells #[Value.int .i64 0, .slice none 0 0] 79))) := Lib.hid ((Grow.alloc _ _).trans (Grow.alloc _ _))
  generalize ((w.alloc (.cells #[Value.int .i64 cap, .slice a es.length c] 79)).alloc (.cells #[Value.int .i64 0, .slice none 0 0] 79)) = W0 at *
  refine (tableOkS_any _ _ ⟨cap, es⟩ (HT.out.grow G0.out) WF.out).mono ?_
  rintro _ w1 ⟨rfl, hg⟩
  rw [htb]
  have G1 := Lib.hid (G0.out.trans hg); have BP := Lib.hid (BP0.out.grow hg); have BR := Lib.hid (BR0.out.grow hg)
  clear hg
  have ⟨p0, p1⟩ := BP.out.two
  have pl := BP.out.1
  have pz := BP.out.2.2
  have ⟨r0, r1⟩ := BR.out.two
  have rl := BR.out.1
  have rz := BR.out.2.2
  go_wp2_with fail
  refine (l07Copy_any _ _ ⟨cap, es⟩ (HT.out.grow G1.out) SM.out).mono ?_
  rintro _ w2 ⟨V2, fp, rfl, ho, hf, hg⟩
  obtain ⟨zv, rfl, ho⟩ := ho
  simp only at ho
  have G2 := Lib.hid (G1.out.trans hg)
  have BR2 := Lib.hid (BR.out.grow hg)
  have F2 : Hid (∀ x ∈ fp, w.heap.size + 1 < x) := Lib.hid (fun x hx => by have h1 := hf x hx; have h2 := BR.out.1; omega)
  have O2 := Lib.hid ho
  obtain ⟨g, zc, rfl, hgf, c5, hfz, hgl, hset⟩ := ho.bump k hk (es[k].hits + 1)
  have HGF := Lib.hid hgf
  have BO := Lib.hid (Box.alloc w2 [.int .i64 cap, .slice (some ⟨g, 0, none⟩) es.length zc] 79)
  have GA := Lib.hid (Grow.alloc w2 (.cells #[.int .i64 cap, .slice (some ⟨g, 0, none⟩) es.length zc] 79))
  clear ho hf hset c5 hfz hgl hgf hg
  go_upto_region 4 with (fail)
  clear p0 p1 pl pz r0 r1 rl rz
  generalize w2.alloc _ = wA at *
  have BO : Hid (Box wA w2.heap.size [.int .i64 cap, .slice (some ⟨g, 0, none⟩) es.length zc]) := BO
  have OA := Lib.hid (O2.out.grow GA.out)
  have BR3 := Lib.hid (BR2.out.grow GA.out)
  have GF := Lib.hid (G2.out.trans GA.out)
  have FO : Hid (∀ x ∈ fp, x ≠ w2.heap.size) := Lib.hid (fun x hx => by have := O2.out.here x hx; omega)
  have RO : Hid (w.heap.size + 1 ≠ w2.heap.size) := Lib.hid (by have := BR2.out.1; omega)
  generalize w2.heap.size = bo at *
  obtain ⟨g', zc', e', hgf, c5, hfz, hgl, hset⟩ := OA.out.bump k hk (es[k].hits + 1)
  simp only [Value.slice.injEq, Option.some.injEq, Addr.mk.injEq] at e'
  obtain ⟨⟨rfl, -⟩, -, rfl⟩ := e'
  have HS := Lib.hid hset
  clear hset hgf
  have ⟨q0, q1⟩ := BO.out.two
  have ql := BO.out.1
  have qz := BO.out.2.2
  by_cases hlo : es[k].hits < 1000000000
  · have HB := Lib.hid (bump_lo hlo)
    have ST : Hid (OwnES2 (wA.setCell ⟨g, k * 6 + 5, none⟩ (.int .i64 (es[k].hits + 1))) (.slice (some ⟨g, 0, none⟩) es.length zc) (es.set k (bumpE es[k])) fp) := Lib.hid (by rw [HB.out]; exact HS.out)
    clear HS HB
    have UA : Hid (Upd fp wA (wA.setCell ⟨g, k * 6 + 5, none⟩ (.int .i64 (es[k].hits + 1)))) := Lib.hid (Upd.setCell (p := ⟨g, k * 6 + 5, none⟩) (Upd.refl fp wA) HGF.out _)
    generalize es[k].hits = eh at *
    go_upto_region 6 with (fail)
    clear q0 q1 ql qz c5 hfz hgl
    generalize wA.setCell _ _ = wF at *
    have GF := Lib.hid (GF.out.then_upd UA.out (fun x hx => by have := F2.out x hx; omega))
    have BO4 := Lib.hid (BO.out.upd UA.out (fun hm => FO.out _ hm rfl))
    have BR4 := Lib.hid (BR3.out.upd UA.out (fun hm => by have := F2.out _ hm; omega))
    have ⟨q0, q1⟩ := BO4.out.two
    have ql := BO4.out.1
    have qz := BO4.out.2.2
    have ⟨r0, r1⟩ := BR4.out.two
    have rl := BR4.out.1
    have rz := BR4.out.2.2
    go_wp2
    have HR : Hid (∀ W, Upd [w.heap.size + 1] wF W → RetNew2 OwnT2 (tcF ⟨cap, es⟩ k).1 (.bool (tcF ⟨cap, es⟩ k).2) w (.returned (.tuple #[.agg #[.int .i64 cap, .slice (some ⟨g, 0, none⟩) es.length zc], .bool true])) W) := Lib.hid (fun W hu => by
      rw [HX.out]
      exact ⟨_, fp, rfl, ⟨_, rfl, ST.out.upd hu (fun x hx hm => by have := F2.out x hx; simp only [List.mem_cons, List.not_mem_nil, or_false] at hm; omega)⟩, fun x hx => by have := F2.out x hx; omega, GF.out.box_end hu (by simp)⟩)
    refine bodyPost_ret (v := .tuple #[.agg #[.int .i64 cap, .slice (some ⟨g, 0, none⟩) es.length zc], .bool true]) ?_ rfl (HR.out _ ?_)
    · simp [results, Try.results62, go_sem, q0, q1, r0, r1, rl, rz, ql, qz]
    · ((repeat (first | with_reducible exact Upd.refl _ _ | (with_reducible refine Upd.setCell ?_ (by simp) _))))
  · have HB := Lib.hid (bump_hi (e := es[k]) (by omega))
    have ST : Hid (OwnES2 wA (.slice (some ⟨g, 0, none⟩) es.length zc) (es.set k (bumpE es[k])) fp) := Lib.hid (by rw [HB.out, List.set_getElem_self]; exact OA.out)
    clear HS HB
    generalize es[k].hits = eh at *
    go_upto_region 6 with (fail)
    clear q0 q1 ql qz c5 hfz hgl
    have BO4 := BO
    have BR4 := BR3
    have ⟨q0, q1⟩ := BO4.out.two
    have ql := BO4.out.1
    have qz := BO4.out.2.2
    have ⟨r0, r1⟩ := BR4.out.two
    have rl := BR4.out.1
    have rz := BR4.out.2.2
    go_wp2
    have HR : Hid (∀ W, Upd [w.heap.size + 1] wA W → RetNew2 OwnT2 (tcF ⟨cap, es⟩ k).1 (.bool (tcF ⟨cap, es⟩ k).2) w (.returned (.tuple #[.agg #[.int .i64 cap, .slice (some ⟨g, 0, none⟩) es.length zc], .bool true])) W) := Lib.hid (fun W hu => by
      rw [HX.out]
      exact ⟨_, fp, rfl, ⟨_, rfl, ST.out.upd hu (fun x hx hm => by have := F2.out x hx; simp only [List.mem_cons, List.not_mem_nil, or_false] at hm; omega)⟩, fun x hx => by have := F2.out x hx; omega, GF.out.box_end hu (by simp)⟩)
    refine bodyPost_ret (v := .tuple #[.agg #[.int .i64 cap, .slice (some ⟨g, 0, none⟩) es.length zc], .bool true]) ?_ rfl (HR.out _ ?_)
    · simp [results, Try.results62, go_sem, q0, q1, r0, r1, rl, rz, ql, qz]
    · ((repeat (first | with_reducible exact Upd.refl _ _ | (with_reducible refine Upd.setCell ?_ (by simp) _))))
--%
end Go.Proofs.Ytgigdpdmdldhnaa
