/- Tables owned row by row: what toTable makes, heldTable (printed by gtab4.py). -/
import Derived.Test.YtgigdpdmdldhnaaTab3
import Derived.WalkKit
import Derived.ProofKit
import Derived.Deep.QuietTactic
import Derived.BigQuiet
import Derived.Outline
import Derived.WalkSpells
namespace Go.Proofs.Ytgigdpdmdldhnaa
open Go.ChangeShapes Go.WideShapes Go.ChangeAt Go.RowKit
set_option linter.unusedVariables false
set_option linter.unusedSimpArgs false
--% toEntryS 99
set_option maxHeartbeats 1000000 in
theorem to_ES2 (w : World) (v : Value) (ds : List EntryD) (h : RdES w v ds) (hs : SmES ds) : Calls Try.prog 99 #[v] w (RetNew OwnES2 ds w) := by
  obtain ⟨a, c, rfl, hlc, hm, hn, hc⟩ := h
  have H := Lib.hid hc; clear hc hn
  have HS := Lib.hid hs
  have hdl : (ds.length : Int) ≤ 1048576 := by have := sumE_nn ds; unfold SmES sizeES at hs; omega
  clear hs
  obtain ⟨i0, hi, hz0, hz1, hz2⟩ := info_parts Try.infoEnt
  go_enter Try.func99, Try.ntmps99
  go_wp2_with (at_make; refine wpList_make_full _ rfl _ _ 77 rfl w.heap.size 68 i0 entZ 6 Try.underlying77 hi hz0 hz1 .i64 .i64 _ _ ds.length rfl rfl rfl rfl (by rw [hz2]; omega) (by unfold maxLen; omega) (Nat.le_refl _) ?_; intro w1 hown hgr)
  have hgw := Grow.of_grown hgr
  clear hgr
  obtain ⟨cs0, hcs0⟩ : ∃ cs, (madeCells entZ.cells (ds.length * 6)).toList = cs := ⟨_, rfl⟩
  rw [hcs0] at hown
  clear hcs0
  go_loopw [4] (fun i wr => ∃ (k : Nat) (cs : List Value) (F : Nat → List Nat), k ≤ ds.length ∧ i = .int .i64 k ∧ wr.ownsRow w.heap.size 68 6 (.slice (some ⟨w.heap.size, 0, none⟩) ds.length ds.length) ds.length cs ∧ (∀ j (hj : j < ds.length), j < k → EntF wr cs j ds[j] (F j)) ∧ (∀ j, j < k → ∀ x ∈ F j, w.heap.size < x ∧ x < wr.heap.size) ∧ (∀ i j, i < j → j < k → ∀ x ∈ F i, x ∉ F j) ∧ Grow w wr) (fun i _ => ds.length - (intOf i).toNat)
  case atStart => exact ⟨0, cs0, (fun _ => []), Nat.zero_le _, rfl, hown, (fun j hj hjk => absurd hjk (Nat.not_lt_zero _)), (fun j hjk => absurd hjk (Nat.not_lt_zero _)), (fun i j _ hjk => absurd hjk (Nat.not_lt_zero _)), hgw⟩
  case round =>
    obtain ⟨k, cs, F, hk, rfl, hown2, hent, hbnd, hdis, hgr⟩ := hrel
    have BN := Lib.hid hbnd; have DS := Lib.hid hdis; clear hbnd hdis
    clear hown hgw
    have HO := Lib.hid hown2; have HT := Lib.hid hent; have HG := Lib.hid hgr
    clear hown2 hent hgr
    by_cases hlt : k < ds.length
    · obtain ⟨b, off, v0, v1, v2, rfl, he⟩ := H.out k hlt
      have HE := Lib.hid (he.grow HG.out)
      obtain ⟨a0, k0, rfl⟩ := RdN.sh he.2.2.2.2.2.2.1
      obtain ⟨a1, k1, rfl⟩ := RdN.sh he.2.2.2.2.2.2.2.1
      obtain ⟨a2, k2, rfl⟩ := RdA.sh he.2.2.2.2.2.2.2.2
      obtain ⟨r0, r1, r2, r3, r4, r5, -, -, -⟩ := HE.out
      have SM := Lib.hid (HS.out.at hlt)
      clear he
      go_wp2_with fail
      refine (to_E2 _ _ ds[k] HE.out.rd SM.out).mono ?_
      rintro e wq ⟨V, fp, rfl, ho, hf, hg⟩
      obtain ⟨u0, u1, u2, f0, f1, f2, rfl, o0, o1, o2, rfl, hd0, hd1⟩ := ho
      have DD := Lib.hid (And.intro hd0 hd1); clear hd0 hd1
      have FR : Hid (∀ x ∈ (f0 ++ f1) ++ f2, wr.heap.size ≤ x) := Lib.hid hf
      have FH : Hid (∀ x ∈ (f0 ++ f1) ++ f2, x < wq.heap.size) := Lib.hid (fun x hx => by
        rcases List.mem_append.1 hx with h | h
        · rcases List.mem_append.1 h with h | h
          · exact o0.here x h
          · exact o1.here x h
        · exact o2.here x h)
      have SZ := Lib.hid hg.size
      obtain ⟨b0, m0, rfl⟩ := own_shape o0.1
      obtain ⟨b1, m1, rfl⟩ := own_shape o1.1
      obtain ⟨b2, m2, rfl⟩ := own_shape o2.1
      have hq := own_grow HO.out hg
      have hlen : cs.length = ds.length * 6 := hq.1
      have hgl : w.heap.size < wr.heap.size := (own_block HO.out (b := w.heap.size) rfl).2
      have s6 := set6 cs (k * 6) (.int .i64 ds[k].epoch) (.int .i64 ds[k].prio) (.slice b0 ds[k].m.vs.length m0) (.slice b1 ds[k].m.ms.length m1) (.slice b2 ds[k].acts.length m2) (.int .i64 ds[k].hits) (by omega)
      have d0 : ∃ c, wq.cell? ⟨w.heap.size, k * 6, none⟩ = some c := ⟨_, by rw [hq.cellAt (k * 6) (by omega)]; exact List.getElem?_eq_getElem (by omega)⟩
      have d1 : ∃ c, wq.cell? ⟨w.heap.size, k * 6 + 1, none⟩ = some c := ⟨_, by rw [hq.cellAt (k * 6 + 1) (by omega)]; exact List.getElem?_eq_getElem (by omega)⟩
      have d2 : ∃ c, wq.cell? ⟨w.heap.size, k * 6 + 2, none⟩ = some c := ⟨_, by rw [hq.cellAt (k * 6 + 2) (by omega)]; exact List.getElem?_eq_getElem (by omega)⟩
      have d3 : ∃ c, wq.cell? ⟨w.heap.size, k * 6 + 3, none⟩ = some c := ⟨_, by rw [hq.cellAt (k * 6 + 3) (by omega)]; exact List.getElem?_eq_getElem (by omega)⟩
      have d4 : ∃ c, wq.cell? ⟨w.heap.size, k * 6 + 4, none⟩ = some c := ⟨_, by rw [hq.cellAt (k * 6 + 4) (by omega)]; exact List.getElem?_eq_getElem (by omega)⟩
      have d5 : ∃ c, wq.cell? ⟨w.heap.size, k * 6 + 5, none⟩ = some c := ⟨_, by rw [hq.cellAt (k * 6 + 5) (by omega)]; exact List.getElem?_eq_getElem (by omega)⟩
      obtain ⟨x0, d0⟩ := d0; obtain ⟨x1, d1⟩ := d1; obtain ⟨x2, d2⟩ := d2; obtain ⟨x3, d3⟩ := d3; obtain ⟨x4, d4⟩ := d4; obtain ⟨x5, d5⟩ := d5
      have hfz : ∀ o, wq.frozen? ⟨w.heap.size, o, none⟩ = false := fun o => hq.frozenAt o
      have h1 := (hq.stored (k * 6) (.int .i64 ds[k].epoch)).1
      have h2 := (h1.stored (k * 6 + 1) (.int .i64 ds[k].prio)).1
      have h3 := (h2.stored (k * 6 + 2) (.slice b0 ds[k].m.vs.length m0)).1
      have h4 := (h3.stored (k * 6 + 3) (.slice b1 ds[k].m.ms.length m1)).1
      have h5 := (h4.stored (k * 6 + 4) (.slice b2 ds[k].acts.length m2)).1
      have h6 := (h5.stored (k * 6 + 5) (.int .i64 ds[k].hits)).1
      have UX := Lib.hid (Upd.setCell (p := ⟨w.heap.size, k * 6 + 5, none⟩) (Upd.setCell (p := ⟨w.heap.size, k * 6 + 4, none⟩) (Upd.setCell (p := ⟨w.heap.size, k * 6 + 3, none⟩) (Upd.setCell (p := ⟨w.heap.size, k * 6 + 2, none⟩) (Upd.setCell (p := ⟨w.heap.size, k * 6 + 1, none⟩) (Upd.setCell (p := ⟨w.heap.size, k * 6, none⟩) (Upd.refl [w.heap.size] wq) (by simp) (.int .i64 ds[k].epoch)) (by simp) (.int .i64 ds[k].prio)) (by simp) (.slice b0 ds[k].m.vs.length m0)) (by simp) (.slice b1 ds[k].m.ms.length m1)) (by simp) (.slice b2 ds[k].acts.length m2)) (by simp) (.int .i64 ds[k].hits))
      have HW := Lib.hid (HG.out.trans hg)
      have HS6 := Lib.hid h6
      have SS := Lib.hid s6
      have ON := Lib.hid (And.intro o0 (And.intro o1 o2))
      have FF : Hid (∀ x ∈ (f0 ++ f1) ++ f2, w.heap.size < x) := Lib.hid (fun x hx => by have := hf x hx; omega)
      have UG := Lib.hid (hg.upd [w.heap.size])
      clear hq h1 h2 h3 h4 h5 h6 s6 o0 o1 o2 hf hg r0 r1 r2 r3 r4 r5 hlen hgl HE
      go_wp2
      go_roundw
      case rel =>
        have hsz : wr.heap.size ≤ wq.heap.size := SZ.out
        have us := UX.out.size
        refine ⟨k + 1, _, (fun j => if j = k then (f0 ++ f1) ++ f2 else F j), by omega, by go_num, HS6.out, fun j hj hjk => ?_, fun j hjk x hx => ?_, fun i j hij hjk x hx hm => ?_, HW.out.then_upd UX.out (by simp [Fresh])⟩
        · obtain ⟨t0, t1, t2, t3, t4, t5, t6⟩ := SS.out
          show EntF _ _ _ _ (if j = k then (f0 ++ f1) ++ f2 else F j)
          by_cases hjl : j < k
          · rw [if_neg (by omega)]
            exact (HT.out j hj hjl).upd (UG.out.then_ UX.out) (fun x hx hm => by simp only [List.mem_cons, List.not_mem_nil, or_false] at hm; exact Nat.lt_irrefl _ (hm ▸ (BN.out j hjl x hx).1)) (fun i hi' => t6 _ (.inl (by omega)))
          · obtain rfl : j = k := by omega
            rw [if_pos rfl]
            have ha : ∀ x ∈ (f0 ++ f1) ++ f2, x ∉ [w.heap.size] := fun x hx hm => by simp only [List.mem_cons, List.not_mem_nil, or_false] at hm; exact Nat.lt_irrefl _ (hm ▸ FF.out x hx)
            exact ⟨_, _, _, f0, f1, f2, t0, t1, t2, t3, t4, t5, ON.out.1.upd UX.out (fun x hx => ha x (by simp [hx])), ON.out.2.1.upd UX.out (fun x hx => ha x (by simp [hx])), ON.out.2.2.upd UX.out (fun x hx => ha x (by simp [hx])), rfl, DD.out.1, DD.out.2⟩
        · by_cases hjl : j = k
          · simp only [if_pos hjl] at hx
            exact ⟨FF.out x hx, Nat.lt_of_lt_of_le (FH.out x hx) us⟩
          · simp only [if_neg hjl] at hx
            have h1 := BN.out j (by omega) x hx
            exact ⟨h1.1, by omega⟩
        · have hik : i ≠ k := by omega
          simp only [if_neg hik] at hx
          by_cases hjl : j = k
          · simp only [if_pos hjl] at hm
            have h1 := BN.out i (by omega) x hx; have h2 := FR.out x hm; omega
          · simp only [if_neg hjl] at hm
            exact DS.out i j hij (by omega) x hx hm
      case measure => simp [intOf]; omega
    · obtain rfl : k = ds.length := by omega
      go_wp2
      go_ret
      refine ⟨_, _, rfl, ⟨cs, F, ⟨(OwnR.of HO.out).1.1, fun j hj => HT.out j hj hj, fun j hj x hx hm => ?_, DS.out⟩, rfl⟩, fun x hx => ?_, HG.out⟩
      · have h1 := BN.out j hj x hm
        have h2 : x = w.heap.size := by simpa [fpOf, Value.ownBlock] using hx
        omega
      · rcases mem_allF.1 hx with h | ⟨j, hj, h⟩
        · have h2 : x = w.heap.size := by simpa [fpOf, Value.ownBlock] using h
          omega
        · exact Nat.le_of_lt (BN.out j hj x h).1
--% toTable 54
theorem to_T2 (w : World) (V : Value) (d : TableD) (h : RdT w V d) (hs : SmT d) : Calls Try.prog 54 #[V] w (RetNew OwnT2 d w) := by
  obtain ⟨v0, rfl, hv⟩ := h
  have HV := Lib.hid hv
  obtain ⟨a, c, rfl, -⟩ := hv
  have SM : Hid (SmES d.es) := Lib.hid hs; clear hs
  go_enter Try.func54, Try.ntmps54
  go_wp2_with fail
  refine at_world (w := w) ?G (fun hG => (to_ES2 _ _ d.es (HV.out.grow hG) SM.out).mono ?_)
  case G => ((repeat (first | with_reducible exact Grow.refl _ | (with_reducible refine Grow.alloc_ ?_ _) | (with_reducible refine Grow.setCell_ ?_ (by first | exact Nat.le_refl _ | (simp only [World.alloc, Array.size_push]; omega) | omega) _))))
  rintro e w1 ⟨v', fp, rfl, ho, hf, hg⟩
  have HO := Lib.hid ho
  obtain ⟨a', c', rfl, -⟩ := ho.rd
  have HG1 := Lib.hid (hG.trans hg)
  have BR := Lib.hid (((Box.alloc (w.alloc _) _ _).grow ((Grow.alloc _ _).trans hg)).at_ (b' := w.heap.size + 1) (by simp only [World.alloc, Array.size_push]))
  have BO := Lib.hid (((Box.alloc ((w.alloc _).alloc _) _ _).grow hg).at_ (b' := w.heap.size + 1 + 1) (by simp only [World.alloc, Array.size_push]))
  have HF : Hid (∀ x ∈ fp, w.heap.size + 1 + 1 < x) := Lib.hid (fun x hx => by have h1 := hf x hx; simp only [World.alloc, Array.size_push] at h1; omega)
  have HR : Hid (∀ W, Upd [w.heap.size + 1 + 1, w.heap.size + 1] w1 W → RetNew OwnT2 d w (.returned (.agg #[.int .i64 d.cap, .slice a' d.es.length c'])) W) := Lib.hid (fun W hu => by
    have o1 := OwnES2.upd HO.out hu (fun x hx hm => by have := HF.out x hx; simp only [List.mem_cons, List.not_mem_nil, or_false] at hm; omega)
    exact ⟨_, fp, rfl, ⟨_, rfl, o1⟩, fun x hx => by have := HF.out x hx; omega, HG1.out.box_end hu (by intro b hb; simp only [List.mem_cons, List.not_mem_nil, or_false] at hb; omega)⟩)
  clear ho hf hg hG
  have ⟨q0, q1⟩ := BO.out.two
  have qz := BO.out.2.2
  have ql := BO.out.1
  have ⟨r0, r1⟩ := BR.out.two
  have rz := BR.out.2.2
  have rl := BR.out.1
  go_wp2
  refine bodyPost_ret (v := .agg #[.int .i64 d.cap, .slice a' d.es.length c']) ?_ rfl (HR.out _ ?_)
  · simp [results, Try.results54, go_sem, r0, r1, rz, rl, q0, q1, qz, ql]
  · ((repeat (first | with_reducible exact Upd.refl _ _ | (with_reducible refine Upd.setCell ?_ (by simp) _))))
--% heldEntryS 114
set_option maxHeartbeats 1000000 in
theorem held_ES (w : World) (v : Value) (es : List EntryD) (k0 : Int) (h : RdES w v (mkES es k0)) (hs : SmES es) (hk : 0 ≤ k0 ∧ k0 ≤ 100000000) : Calls Try.prog 114 #[v, .int .i64 k0] w (RetV (.int .i64 (k0 + cntES es)) w) := by
  obtain ⟨a, c, rfl, hlc, hm, hn, hc⟩ := h
  have H : Hid (∀ j (hj : j < es.length), ∃ b off v0 v1 v2, a = some ⟨b, off, none⟩ ∧ EntAt w b (off + j * 6) v0 v1 v2 (mkE es[j] (k0 + cntES (es.take j)))) := Lib.hid (fun j hj => by
    have := hc j (by rw [mkES_len]; exact hj)
    rwa [mkES_at es k0 j hj] at this)
  rw [mkES_len] at hlc ⊢
  have HS := Lib.hid hs
  have hdl : (es.length : Int) ≤ 1048576 := by have := sumE_nn es; unfold SmES sizeES at hs; omega
  unfold maxLen at hm
  clear hc hn hs
  go_enter Try.func114, Try.ntmps114
  go_wp2
  go_loopw [1, 5] (fun q i wr => ∃ (k : Nat) (z : Int), k ≤ es.length ∧ i = .int .i64 k ∧ q = .int .i64 z ∧ z = k0 + cntES (es.take k) ∧ Grow w wr) (fun _ i _ => es.length - (intOf i).toNat)
  case atStart => exact ⟨0, _, Nat.zero_le _, rfl, rfl, by simp [cntES], Grow.refl _⟩
  case round =>
    obtain ⟨k, z, hk', rfl, rfl, hz, hgr⟩ := hrel
    have HG := Lib.hid hgr; have HZ := Lib.hid hz
    have hzb : 0 ≤ z ∧ z ≤ 103145728 := by
      have h1 := cntES_le es k; have h2 := cntES_bd es; have h3 := HS.out; unfold SmES at h3; omega
    clear hgr
    by_cases hlt : k < es.length
    · obtain ⟨b, off, v0, v1, v2, rfl, he⟩ := H.out k hlt
      have SM := Lib.hid (HS.out.at hlt)
      have HNX := Lib.hid (cntES_take hlt)
      rw [← hz] at he
      generalize hek : es[k] = e at *
      have HEK := Lib.hid hek
      have HE := Lib.hid (he.grow HG.out)
      obtain ⟨a0, m0, e0⟩ := RdN.sh he.2.2.2.2.2.2.1
      obtain ⟨a1, m1, e1⟩ := RdN.sh he.2.2.2.2.2.2.2.1
      obtain ⟨a2, m2, e2⟩ := RdA.sh he.2.2.2.2.2.2.2.2
      subst e0 e1 e2
      obtain ⟨c0, c1, c2, c3, c4, c5, -, -, -⟩ := HE.out
      have hb0 := cntN_bd _ SM.out.m.vs; have hb1 := cntN_bd _ SM.out.m.ms
      have hb2 : 0 ≤ cntA e.acts ∧ cntA e.acts ≤ 3145728 := by have := SM.out.acts; unfold SmA sizeA at this; unfold cntA; omega
      simp only [mkE] at c0 c1 c2 c3 c4 c5
      clear he hz hek
      go_wp2_with fail
      refine (held_N _ _ _ _ HE.out.2.2.2.2.2.2.1 SM.out.m.vs (by omega)).mono ?_
      rintro _ wB ⟨rfl, hg⟩
      have HG := Lib.hid (HG.out.trans hg); have HE := Lib.hid (HE.out.grow hg)
      clear hg c0 c1 c2 c3 c4 c5
      obtain ⟨c0, c1, c2, c3, c4, c5, -, -, -⟩ := HE.out
      simp only [mkE] at c0 c1 c2 c3 c4 c5
      go_wp2_with fail
      refine (held_N _ _ _ _ HE.out.2.2.2.2.2.2.2.1 SM.out.m.ms (by omega)).mono ?_
      rintro _ wC ⟨rfl, hg⟩
      have HG := Lib.hid (HG.out.trans hg); have HE := Lib.hid (HE.out.grow hg)
      clear hg c0 c1 c2 c3 c4 c5
      obtain ⟨c0, c1, c2, c3, c4, c5, -, -, -⟩ := HE.out
      simp only [mkE] at c0 c1 c2 c3 c4 c5
      go_wp2_with fail
      refine (held_A _ _ _ _ HE.out.2.2.2.2.2.2.2.2 SM.out.acts (by omega)).mono ?_
      rintro _ wD ⟨rfl, hg⟩
      have HG := Lib.hid (HG.out.trans hg); have HE := Lib.hid (HE.out.grow hg)
      clear hg c0 c1 c2 c3 c4 c5
      obtain ⟨c0, c1, c2, c3, c4, c5, -, -, -⟩ := HE.out
      simp only [mkE] at c0 c1 c2 c3 c4 c5
      go_wp2
      go_roundw
      case rel => exact ⟨k + 1, _, by omega, by go_num, rfl, by rw [HNX.out, HZ.out]; unfold cntE; omega, HG.out⟩
      case measure => simp [intOf]; omega
    · obtain rfl : k = es.length := by omega
      clear hz
      go_wp2
      go_ret
      exact ⟨ret_int (by rw [HZ.out, List.take_of_length_le (Nat.le_refl _)]), HG.out⟩
--% heldTable 64
theorem held_T (w : World) (V : Value) (d : TableD) (k : Int) (h : RdT w V (mkT d k)) (hs : SmT d) (hk : 0 ≤ k ∧ k ≤ 100000000) : Calls Try.prog 64 #[V, .int .i64 k] w (RetV (.int .i64 (k + cntT d)) w) := by
  obtain ⟨v, rfl, hv⟩ := h
  have HV : Hid (RdES w v (mkES d.es k)) := Lib.hid hv; clear hv
  have HS : Hid (SmES d.es) := Lib.hid hs
  have hb := cntT_bd d hs; clear hs
  go_enter Try.func64, Try.ntmps64
  go_wp2_with fail
  refine at_world (w := w) ?G (fun hG => (held_ES _ _ d.es _ (HV.out.grow hG) HS.out (by omega)).mono ?_)
  case G => ((repeat (first | with_reducible exact Grow.refl _ | (with_reducible refine Grow.alloc_ ?_ _) | (with_reducible refine Grow.setCell_ ?_ (by first | exact Nat.le_refl _ | (simp only [World.alloc, Array.size_push]; omega) | omega) _))))
  rintro e w1 ⟨rfl, hg⟩
  have HG := Lib.hid (hG.trans hg)
  clear hg hG
  have hb1 : 0 ≤ cntES d.es := hb.1
  have hb2 : cntES d.es ≤ 3145728 := hb.2
  go_wp2
  go_ret
  exact ⟨rfl, HG.out⟩
--%
end Go.Proofs.Ytgigdpdmdldhnaa
