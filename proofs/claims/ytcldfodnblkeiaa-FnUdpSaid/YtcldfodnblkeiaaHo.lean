/- HeadOf: contracts of the code (printed by gho.py). -/
import Derived.Test.YtcldfodnblkeiaaIrs
import Derived.Test.YtcldfodnblkeiaaPb
import Derived.WalkKit
import Derived.ProofKit
import Derived.Deep.QuietTactic
import Derived.BigQuiet
import Derived.Outline
import Derived.WalkSpells
namespace Go.Proofs.Ytcldfodnblkeiaa
open Go.ChangeShapes Go.WideShapes Go.ChangeAt Go.RowKit
set_option linter.unusedVariables false
set_option linter.unusedSimpArgs false
--%
def zeroHd : HeadD := ⟨[]⟩
def hoX (d : PacketD) : List Int := if d.typ = 2048 then [(irF d.body).1.src, (irF d.body).1.dst, (irF d.body).1.proto] else [0, 0, 0]
def hoF (d : PacketD) (i : Int) : HeadD × Bool := if pkOk d = true ∧ 1 ≤ i ∧ i ≤ 255 then (⟨[i, d.src, d.dst, d.typ, d.tag + 1] ++ hoX d⟩, true) else (zeroHd, false)
theorem hoF_no {d : PacketD} {i : Int} (h : ¬ (pkOk d = true ∧ 1 ≤ i ∧ i ≤ 255)) : hoF d i = (zeroHd, false) := by unfold hoF; rw [if_neg h]
theorem hoF_yes {d : PacketD} {i : Int} (h : pkOk d = true) (h1 : 1 ≤ i) (h2 : i ≤ 255) : hoF d i = (⟨[i, d.src, d.dst, d.typ, d.tag + 1] ++ hoX d⟩, true) := by unfold hoF; rw [if_pos ⟨h, h1, h2⟩]
theorem irF_zero {b : List Int} (h : ¬ (irF b).2 = 0) : (irF b).1 = zeroI := by
  unfold irF at h ⊢
  split
  · rfl
  · rename_i c1
    rw [if_neg c1] at h
    split
    · rfl
    · rename_i c2
      rw [if_neg c2] at h
      split
      · rfl
      · rename_i c3
        rw [if_neg c3] at h
        split
        · rfl
        · rename_i c4
          rw [if_neg c4] at h
          split
          · rename_i c5; rw [if_pos c5] at h; exact absurd rfl h
          · rfl
theorem Upd.then_grow {fp : List Nat} {a b c : World} (u : Upd fp a b) (g : Grow b c) : Upd fp a c :=
  ⟨g.os.trans u.os, g.tape.trans u.tape, g.output.trans u.output, Nat.le_trans u.size g.size, fun k hk hn => (g.block k (Nat.lt_of_lt_of_le hk u.size)).trans (u.block k hk hn)⟩
theorem Upd.setRow {fp : List Nat} {a b : World} {g : Nat} (u : Upd fp a b) (hg : g ∈ fp) (cs : Array Value) : Upd fp a (b.setRow g cs) :=
  ⟨u.os, u.tape, u.output, by have := u.size; simpa [World.setRow] using this, fun k hk hn => (setRow_other b g k cs (fun e => hn (e ▸ hg))).trans (u.block k hk hn)⟩
theorem ownN_nil (w : World) : OwnN w (.slice none 0 0) [] [] := ⟨World.ownsRow_nil _ _ _ _, rfl⟩
theorem ownN_built (w : World) (zs : List Int) (h : zs.length ≤ 1000) : OwnN (w.alloc (.cells (zs.map (Value.int .i64)).toArray 3)) (.slice (some ⟨w.heap.size, 0, none⟩) zs.length zs.length) zs [w.heap.size] :=
  ⟨own_mono (own_built w _ 1 zs.length (zs.map (Value.int .i64)) (by simp) (by unfold maxLen; omega)) (Nat.zero_le _), rfl⟩
theorem ownN_row {w : World} {g : Nat} {zs : List Int} (h : w.heap[g]? = some (.cells (zs.map (Value.int .i64)).toArray 3 (0, 0))) (hl : zs.length ≤ 1000) :
    OwnN w (.slice (some ⟨g, 0, none⟩) zs.length zs.length) zs [g] :=
  ⟨⟨by simp, .inr ⟨g, zs.length, _, rfl, Nat.zero_le _, h, Nat.le_refl _, by unfold maxLen; omega, by simp, by simp [List.take_of_length_le]⟩⟩, rfl⟩
theorem heap_upd {fp : List Nat} {a b : World} (u : Upd fp a b) {k : Nat} {o : Obj} (h : a.heap[k]? = some o) (hn : k ∉ fp) : b.heap[k]? = some o := by
  have hk : k < a.heap.size := by
    cases Nat.lt_or_ge k a.heap.size with
    | inl h1 => exact h1
    | inr h1 => rw [Array.getElem?_eq_none h1] at h; cases h
  exact (u.block k hk hn).trans h
theorem info_int_one : (Try.prog.info? 3).map (·.size) = some 1 := by kernel_rfl
--% HeadOfS 61
set_option maxHeartbeats 1000000 in
theorem headOfS_any (w : World) (V : Value) (d : PacketD) (i : Int) (h : RdP w V d) (b : WfP d) (sm : SmP d) : Calls Try.prog 61 #[V, .int .i64 i] w (RetNew2 OwnH (hoF d i).1 (.bool (hoF d i).2) w) := by
  obtain ⟨v, rfl, hv⟩ := h
  obtain ⟨a, c, rfl, hlc, hm, -, -⟩ := Rd.ints hv
  have HV := Lib.hid hv
  have HP : Hid (RdP w _ d) := Lib.hid ⟨_, rfl, hv⟩
  have WB := Lib.hid b.2.2.2.2
  have SB : Hid (SmB d.body) := Lib.hid (by unfold SmP sizeP at sm; unfold SmB; omega)
  clear hv b sm
  unfold maxLen at hm
  have HZ : ∀ (w1 : World), Grow w w1 → RetNew2 OwnH zeroHd (.bool false) w (.returned (.tuple #[.agg #[.slice none 0 0], .bool false])) w1 := fun w1 hg => ⟨_, [], rfl, ⟨_, rfl, ownN_nil _⟩, by simp [Fresh], hg⟩
  have HZ := Lib.hid HZ
  cases hok : pkOk d
  · rw [hoF_no (by rw [hok]; simp)]
    go_enter Try.func61, Try.ntmps61
    go_wp2_with fail
    refine at_world (w := w) ?G (fun hG => (packetOkS _ _ d (HP.out.grow hG)).mono ?_)
    case G => ((repeat (first | with_reducible exact Grow.refl _ | (with_reducible refine Grow.alloc_ ?_ _) | (with_reducible refine Grow.setCell_ ?_ (by first | exact Nat.le_refl _ | (simp only [World.alloc, Array.size_push]; omega) | omega) _))))
    rintro e w1 ⟨rfl, hg⟩
    rw [hok]
    have B0 := Lib.hid ((Box.alloc w _ _).grow ((Grow.alloc _ _).trans hg))
    have BX := Lib.hid (((Box.alloc (w.alloc _) _ _).grow hg).at_ (b' := w.heap.size + 1) (by simp only [World.alloc, Array.size_push]))
    have HG := Lib.hid (hG.trans hg)
    clear hG hg
    have q0 := BX.out.one
    have z0 := BX.out.2.2
    have l0 := BX.out.1
    go_wp2
    refine bodyPost_ret (v := .tuple #[.agg #[.slice none 0 0], .bool false]) ?_ rfl (HZ.out _ (HG.out.box_end (fq := [w.heap.size + 1]) ?_ (by simp)))
    · simp [results, Try.results61, go_sem, q0, z0] <;> omega
    · ((repeat (first | (with_reducible refine Upd.setCell ?_ (by simp) _) | with_reducible exact Upd.refl _ _)))

  by_cases h1 : 1 ≤ i
  rotate_left
  · rw [hoF_no (by omega)]
    go_enter Try.func61, Try.ntmps61
    go_wp2_with fail
    refine at_world (w := w) ?G (fun hG => (packetOkS _ _ d (HP.out.grow hG)).mono ?_)
    case G => ((repeat (first | with_reducible exact Grow.refl _ | (with_reducible refine Grow.alloc_ ?_ _) | (with_reducible refine Grow.setCell_ ?_ (by first | exact Nat.le_refl _ | (simp only [World.alloc, Array.size_push]; omega) | omega) _))))
    rintro e w1 ⟨rfl, hg⟩
    rw [hok]
    have B0 := Lib.hid ((Box.alloc w _ _).grow ((Grow.alloc _ _).trans hg))
    have BX := Lib.hid (((Box.alloc (w.alloc _) _ _).grow hg).at_ (b' := w.heap.size + 1) (by simp only [World.alloc, Array.size_push]))
    have HG := Lib.hid (hG.trans hg)
    clear hG hg
    have q0 := BX.out.one
    have z0 := BX.out.2.2
    have l0 := BX.out.1
    go_wp2
    refine bodyPost_ret (v := .tuple #[.agg #[.slice none 0 0], .bool false]) ?_ rfl (HZ.out _ (HG.out.box_end (fq := [w.heap.size + 1]) ?_ (by simp)))
    · simp [results, Try.results61, go_sem, q0, z0] <;> omega
    · ((repeat (first | (with_reducible refine Upd.setCell ?_ (by simp) _) | with_reducible exact Upd.refl _ _)))

  by_cases h2 : i ≤ 255
  rotate_left
  · rw [hoF_no (by omega)]
    go_enter Try.func61, Try.ntmps61
    go_wp2_with fail
    refine at_world (w := w) ?G (fun hG => (packetOkS _ _ d (HP.out.grow hG)).mono ?_)
    case G => ((repeat (first | with_reducible exact Grow.refl _ | (with_reducible refine Grow.alloc_ ?_ _) | (with_reducible refine Grow.setCell_ ?_ (by first | exact Nat.le_refl _ | (simp only [World.alloc, Array.size_push]; omega) | omega) _))))
    rintro e w1 ⟨rfl, hg⟩
    rw [hok]
    have B0 := Lib.hid ((Box.alloc w _ _).grow ((Grow.alloc _ _).trans hg))
    have BX := Lib.hid (((Box.alloc (w.alloc _) _ _).grow hg).at_ (b' := w.heap.size + 1) (by simp only [World.alloc, Array.size_push]))
    have HG := Lib.hid (hG.trans hg)
    clear hG hg
    have q0 := BX.out.one
    have z0 := BX.out.2.2
    have l0 := BX.out.1
    go_wp2
    refine bodyPost_ret (v := .tuple #[.agg #[.slice none 0 0], .bool false]) ?_ rfl (HZ.out _ (HG.out.box_end (fq := [w.heap.size + 1]) ?_ (by simp)))
    · simp [results, Try.results61, go_sem, q0, z0] <;> omega
    · ((repeat (first | (with_reducible refine Upd.setCell ?_ (by simp) _) | with_reducible exact Upd.refl _ _)))

  rw [hoF_yes hok h1 h2]
  have hpk := pkOk_iff hok
  have htag := hpk.2.2.1
  clear hpk
  obtain ⟨Q, hQ⟩ : ∃ Q, irF d.body = Q := ⟨_, rfl⟩
  have HQ := Lib.hid hQ
  by_cases ht : d.typ = 2048
  · have hb : (d.typ == 2048) = true := by simpa using ht
    have HX : Hid (hoX d = [Q.1.src, Q.1.dst, Q.1.proto]) := Lib.hid (by unfold hoX; rw [if_pos ht, hQ])
    rw [HX.out]
    have HT := Lib.hid ht
    clear ht hQ
    go_enter Try.func61, Try.ntmps61
    go_wp2_with fail
    refine at_world (w := w) ?G (fun hG => (packetOkS _ _ d (HP.out.grow hG)).mono ?_)
    case G => ((repeat (first | with_reducible exact Grow.refl _ | (with_reducible refine Grow.alloc_ ?_ _) | (with_reducible refine Grow.setCell_ ?_ (by first | exact Nat.le_refl _ | (simp only [World.alloc, Array.size_push]; omega) | omega) _))))
    rintro e w1 ⟨rfl, hg⟩
    rw [hok]
    have B0 := Lib.hid ((Box.alloc w _ _).grow ((Grow.alloc _ _).trans hg))
    have BX := Lib.hid (((Box.alloc (w.alloc _) _ _).grow hg).at_ (b' := w.heap.size + 1) (by simp only [World.alloc, Array.size_push]))
    have HG := Lib.hid (hG.trans hg)
    clear hG hg
    have BX0 := Lib.hid BX.out.1
    have BD := Lib.hid (Box.alloc w1 [.int .i64 0, .int .i64 0, .int .i64 0, .int .i64 0, .slice none 0 0] 47)
    have ⟨p0, p1, p2, p3, p4⟩ := (B0.out.grow (Grow.alloc w1 (.cells #[.int .i64 0, .int .i64 0, .int .i64 0, .int .i64 0, .slice none 0 0] 47))).five
    rw [HT.out] at p3
    go_wp2_with fail
    refine at_world (w := w1) ?G (fun hG => (ipReadS_any _ _ d.body (HV.out.grow (HG.out.trans hG)) WB.out SB.out).mono ?_)
    case G => ((repeat (first | with_reducible exact Grow.refl _ | (with_reducible refine Grow.alloc_ ?_ _) | (with_reducible refine Grow.setCell_ ?_ (by first | exact Nat.le_refl _ | (simp only [World.alloc, Array.size_push]; omega) | omega) _))))
    rw [HQ.out]
    rintro e w3 ⟨vq, fpq, rfl, ⟨vb, rfl, hob⟩, hfq, hg⟩
    obtain ⟨ab, cb, rfl⟩ := own_shape hob.1
    have BD := Lib.hid (BD.out.grow hg)
    have HG3 := Lib.hid (HG.out.trans (hG.trans hg))
    have B0 := Lib.hid (B0.out.grow (hG.trans hg))
    have HS3 : Hid (w.heap.size + 1 < w3.heap.size) := Lib.hid (by have h1 := BX.out.1; have h2 := (hG.trans hg).size; omega)
    have HR : Hid (∀ V, V.heap.size = w3.heap.size → Upd [w1.heap.size, w.heap.size + 1] w3 V → RetNew2 OwnH ⟨[i, d.src, d.dst, d.typ, d.tag + 1, Q.1.src, Q.1.dst, Q.1.proto]⟩ (.bool true) w (.returned (.tuple #[.agg #[.slice (some ⟨w3.heap.size, 0, none⟩) 8 8], .bool true])) (V.alloc (.cells #[.int .i64 i, .int .i64 d.src, .int .i64 d.dst, .int .i64 d.typ, .int .i64 (d.tag + 1), .int .i64 Q.1.src, .int .i64 Q.1.dst, .int .i64 Q.1.proto] 3))) := Lib.hid (fun V hs hu => by
      have o1 := ownN_built V [i, d.src, d.dst, d.typ, d.tag + 1, Q.1.src, Q.1.dst, Q.1.proto] (by simp)
      rw [hs] at o1
      have hl1 := BX0.out
      have hl2 := HS3.out
      have hgw := HG3.out.then_upd hu (by intro x hx; have := HG.out.size; simp only [List.mem_cons, List.not_mem_nil, or_false] at hx; omega)
      exact ⟨_, [w3.heap.size], rfl, ⟨_, rfl, o1⟩, by have := HG3.out.size; intro x hx; simp only [List.mem_cons, List.not_mem_nil, or_false] at hx; omega, hgw.trans (Grow.alloc V _)⟩)
    have BX := Lib.hid (BX.out.grow (hG.trans hg))
    clear hG hg hob hfq p0 p1 p2 p3 p4
    have ⟨p0, p1, p2, p3, p4⟩ := B0.out.five; have pl := B0.out.1
    have ⟨q0, q1, q2, q3, q4⟩ := BD.out.five; have ql := BD.out.1; have qz := BD.out.2.2
    have x0 := BX.out.one; have xl := BX.out.1; have xz := BX.out.2.2
    have hw1 : w.heap.size + 1 < w1.heap.size := BX0.out
    go_wp2
    refine bodyPost_ret (v := .tuple #[.agg #[.slice (some ⟨w3.heap.size, 0, none⟩) 8 8], .bool true]) ?_ rfl (HR.out _ ?_ ?_)
    · simp [results, Try.results61, go_sem, x0, xz, xl, hw1] <;> omega
    · simp only [size_set]
    · ((repeat (first | (with_reducible refine Upd.setCell ?_ (by simp) _) | with_reducible exact Upd.refl _ _)))

  have hb : (d.typ == 2048) = false := by simpa using ht
  have HX : Hid (hoX d = [0, 0, 0]) := Lib.hid (by unfold hoX; rw [if_neg ht])
  rw [HX.out]
  clear ht hQ
  go_enter Try.func61, Try.ntmps61
  go_wp2_with fail
  refine at_world (w := w) ?G (fun hG => (packetOkS _ _ d (HP.out.grow hG)).mono ?_)
  case G => ((repeat (first | with_reducible exact Grow.refl _ | (with_reducible refine Grow.alloc_ ?_ _) | (with_reducible refine Grow.setCell_ ?_ (by first | exact Nat.le_refl _ | (simp only [World.alloc, Array.size_push]; omega) | omega) _))))
  rintro e w1 ⟨rfl, hg⟩
  rw [hok]
  have B0 := Lib.hid ((Box.alloc w _ _).grow ((Grow.alloc _ _).trans hg))
  have BX := Lib.hid (((Box.alloc (w.alloc _) _ _).grow hg).at_ (b' := w.heap.size + 1) (by simp only [World.alloc, Array.size_push]))
  have HG := Lib.hid (hG.trans hg)
  clear hG hg
  have HR : Hid (∀ V, V.heap.size = w1.heap.size → Upd [w.heap.size + 1] w1 V → RetNew2 OwnH ⟨[i, d.src, d.dst, d.typ, d.tag + 1, 0, 0, 0]⟩ (.bool true) w (.returned (.tuple #[.agg #[.slice (some ⟨w1.heap.size + 1, 0, none⟩) 8 8], .bool true])) ((V.alloc (.cells #[.int .i64 0, .int .i64 0, .int .i64 0, .int .i64 0, .slice none 0 0] 47)).alloc (.cells #[.int .i64 i, .int .i64 d.src, .int .i64 d.dst, .int .i64 d.typ, .int .i64 (d.tag + 1), .int .i64 0, .int .i64 0, .int .i64 0] 3))) := Lib.hid (fun V hs hu => by
    have o1 := ownN_built (V.alloc (.cells #[.int .i64 0, .int .i64 0, .int .i64 0, .int .i64 0, .slice none 0 0] 47)) [i, d.src, d.dst, d.typ, d.tag + 1, 0, 0, 0] (by simp)
    rw [show (V.alloc (.cells #[.int .i64 0, .int .i64 0, .int .i64 0, .int .i64 0, .slice none 0 0] 47)).heap.size = w1.heap.size + 1 by simp only [World.alloc, Array.size_push, hs]] at o1
    have hgw := HG.out.then_upd hu (by intro x hx; simp only [List.mem_cons, List.not_mem_nil, or_false] at hx; omega)
    exact ⟨_, [w1.heap.size + 1], rfl, ⟨_, rfl, o1⟩, by have := HG.out.size; intro x hx; simp only [List.mem_cons, List.not_mem_nil, or_false] at hx; omega, (hgw.trans (Grow.alloc V _)).trans (Grow.alloc _ _)⟩)
  have x0 := BX.out.one; have xl := BX.out.1; have xz := BX.out.2.2
  have ⟨r0, r1, r2, r3, r4⟩ := B0.out.five; have rl := B0.out.1
  have ⟨p0, p1, p2, p3, p4⟩ := (B0.out.grow (Grow.alloc w1 (.cells #[.int .i64 0, .int .i64 0, .int .i64 0, .int .i64 0, .slice none 0 0] 47))).five
  have ⟨q0, q1, q2, q3, q4⟩ := (Box.alloc w1 [.int .i64 0, .int .i64 0, .int .i64 0, .int .i64 0, .slice none 0 0] 47).five
  have xl2 : w.heap.size + 1 < w1.heap.size + 1 := by omega
  go_wp2
  refine bodyPost_ret (v := .tuple #[.agg #[.slice (some ⟨w1.heap.size + 1, 0, none⟩) 8 8], .bool true]) ?_ rfl (HR.out _ ?_ ?_)
  · simp [results, Try.results61, go_sem, x0, xz, xl, xl2] <;> omega
  · simp only [size_set]
  · ((repeat (first | (with_reducible refine Upd.setCell ?_ (by simp) _) | with_reducible exact Upd.refl _ _)))
--% HeadOfI 62
set_option maxHeartbeats 1000000 in
theorem headOfI_any (w : World) (V : Value) (d : PacketD) (i : Int) (h : RdP w V d) (b : WfP d) (sm : SmP d) : Calls Try.prog 62 #[V, .int .i64 i] w (RetNew2 OwnH (hoF d i).1 (.bool (hoF d i).2) w) := by
  obtain ⟨v, rfl, hv⟩ := h
  obtain ⟨a, c, rfl, hlc, hm, -, -⟩ := Rd.ints hv
  have HV := Lib.hid hv
  have HP : Hid (RdP w _ d) := Lib.hid ⟨_, rfl, hv⟩
  have WB := Lib.hid b.2.2.2.2
  have SB : Hid (SmB d.body) := Lib.hid (by unfold SmP sizeP at sm; unfold SmB; omega)
  clear hv b sm
  unfold maxLen at hm
  have HZ : ∀ (w1 : World), Grow w w1 → RetNew2 OwnH zeroHd (.bool false) w (.returned (.tuple #[.agg #[.slice none 0 0], .bool false])) w1 := fun w1 hg => ⟨_, [], rfl, ⟨_, rfl, ownN_nil _⟩, by simp [Fresh], hg⟩
  have HZ := Lib.hid HZ
  cases hok : pkOk d
  · rw [hoF_no (by rw [hok]; simp)]
    go_enter Try.func62, Try.ntmps62
    go_wp2_with fail
    refine at_world (w := w) ?G (fun hG => (packetOkI _ _ d (HP.out.grow hG)).mono ?_)
    case G => ((repeat (first | with_reducible exact Grow.refl _ | (with_reducible refine Grow.alloc_ ?_ _) | (with_reducible refine Grow.setCell_ ?_ (by first | exact Nat.le_refl _ | (simp only [World.alloc, Array.size_push]; omega) | omega) _))))
    rintro e w1 ⟨rfl, hg⟩
    rw [hok]
    have B0 := Lib.hid ((Box.alloc w _ _).grow ((Grow.alloc _ _).trans hg))
    have BX := Lib.hid (((Box.alloc (w.alloc _) _ _).grow hg).at_ (b' := w.heap.size + 1) (by simp only [World.alloc, Array.size_push]))
    have HG := Lib.hid (hG.trans hg)
    clear hG hg
    have q0 := BX.out.one
    have z0 := BX.out.2.2
    have l0 := BX.out.1
    go_wp2
    refine bodyPost_ret (v := .tuple #[.agg #[.slice none 0 0], .bool false]) ?_ rfl (HZ.out _ (HG.out.box_end (fq := [w.heap.size + 1]) ?_ (by simp)))
    · simp [results, Try.results62, go_sem, q0, z0] <;> omega
    · ((repeat (first | (with_reducible refine Upd.setCell ?_ (by simp) _) | with_reducible exact Upd.refl _ _)))

  by_cases h1 : 1 ≤ i
  rotate_left
  · rw [hoF_no (by omega)]
    go_enter Try.func62, Try.ntmps62
    go_wp2_with fail
    refine at_world (w := w) ?G (fun hG => (packetOkI _ _ d (HP.out.grow hG)).mono ?_)
    case G => ((repeat (first | with_reducible exact Grow.refl _ | (with_reducible refine Grow.alloc_ ?_ _) | (with_reducible refine Grow.setCell_ ?_ (by first | exact Nat.le_refl _ | (simp only [World.alloc, Array.size_push]; omega) | omega) _))))
    rintro e w1 ⟨rfl, hg⟩
    rw [hok]
    have B0 := Lib.hid ((Box.alloc w _ _).grow ((Grow.alloc _ _).trans hg))
    have BX := Lib.hid (((Box.alloc (w.alloc _) _ _).grow hg).at_ (b' := w.heap.size + 1) (by simp only [World.alloc, Array.size_push]))
    have HG := Lib.hid (hG.trans hg)
    clear hG hg
    have q0 := BX.out.one
    have z0 := BX.out.2.2
    have l0 := BX.out.1
    go_wp2
    refine bodyPost_ret (v := .tuple #[.agg #[.slice none 0 0], .bool false]) ?_ rfl (HZ.out _ (HG.out.box_end (fq := [w.heap.size + 1]) ?_ (by simp)))
    · simp [results, Try.results62, go_sem, q0, z0] <;> omega
    · ((repeat (first | (with_reducible refine Upd.setCell ?_ (by simp) _) | with_reducible exact Upd.refl _ _)))

  by_cases h2 : i ≤ 255
  rotate_left
  · rw [hoF_no (by omega)]
    go_enter Try.func62, Try.ntmps62
    go_wp2_with fail
    refine at_world (w := w) ?G (fun hG => (packetOkI _ _ d (HP.out.grow hG)).mono ?_)
    case G => ((repeat (first | with_reducible exact Grow.refl _ | (with_reducible refine Grow.alloc_ ?_ _) | (with_reducible refine Grow.setCell_ ?_ (by first | exact Nat.le_refl _ | (simp only [World.alloc, Array.size_push]; omega) | omega) _))))
    rintro e w1 ⟨rfl, hg⟩
    rw [hok]
    have B0 := Lib.hid ((Box.alloc w _ _).grow ((Grow.alloc _ _).trans hg))
    have BX := Lib.hid (((Box.alloc (w.alloc _) _ _).grow hg).at_ (b' := w.heap.size + 1) (by simp only [World.alloc, Array.size_push]))
    have HG := Lib.hid (hG.trans hg)
    clear hG hg
    have q0 := BX.out.one
    have z0 := BX.out.2.2
    have l0 := BX.out.1
    go_wp2
    refine bodyPost_ret (v := .tuple #[.agg #[.slice none 0 0], .bool false]) ?_ rfl (HZ.out _ (HG.out.box_end (fq := [w.heap.size + 1]) ?_ (by simp)))
    · simp [results, Try.results62, go_sem, q0, z0] <;> omega
    · ((repeat (first | (with_reducible refine Upd.setCell ?_ (by simp) _) | with_reducible exact Upd.refl _ _)))

  rw [hoF_yes hok h1 h2]
  have hpk := pkOk_iff hok
  have htag := hpk.2.2.1
  clear hpk
  obtain ⟨Q, hQ⟩ : ∃ Q, irF d.body = Q := ⟨_, rfl⟩
  have HQ := Lib.hid hQ
  have PX : Hid (d.typ = 2048 → hoX d = [Q.1.src, Q.1.dst, Q.1.proto]) := Lib.hid (fun ht => by unfold hoX; rw [if_pos ht, HQ.out])
  have PZ : Hid (¬ d.typ = 2048 → hoX d = [0, 0, 0]) := Lib.hid (fun ht => by unfold hoX; rw [if_neg ht])
  obtain ⟨X, hX⟩ : ∃ X, hoX d = X := ⟨_, rfl⟩
  rw [hX] at PX PZ
  rw [hX]
  clear hX
  go_enter Try.func62, Try.ntmps62
  go_wp2_with fail
  refine at_world (w := w) ?G (fun hG => (packetOkI _ _ d (HP.out.grow hG)).mono ?_)
  case G => ((repeat (first | with_reducible exact Grow.refl _ | (with_reducible refine Grow.alloc_ ?_ _) | (with_reducible refine Grow.setCell_ ?_ (by first | exact Nat.le_refl _ | (simp only [World.alloc, Array.size_push]; omega) | omega) _))))
  rintro e w1 ⟨rfl, hg⟩
  rw [hok]
  have B0 := Lib.hid ((Box.alloc w _ _).grow ((Grow.alloc _ _).trans hg))
  have BX := Lib.hid (((Box.alloc (w.alloc _) _ _).grow hg).at_ (b' := w.heap.size + 1) (by simp only [World.alloc, Array.size_push]))
  have HG := Lib.hid (hG.trans hg)
  clear hG hg
  have ⟨p0, p1, p2, p3, p4⟩ := B0.out.five; have pl := B0.out.1
  go_wp2_with fail
  have BX0 := Lib.hid BX.out.1
  have BH := Lib.hid ((Box.alloc (w1.alloc (.cells #[.int .i64 i, .int .i64 d.src, .int .i64 d.dst, .int .i64 d.typ, .int .i64 (d.tag + 1), .int .i64 0, .int .i64 0, .int .i64 0] 3)) [.slice (some ⟨w1.heap.size, 0, none⟩) 8 8] 71).at_ (b' := w1.heap.size + 1) (by simp only [World.alloc, Array.size_push]))
  have G2 := Lib.hid ((Grow.alloc w1 (.cells #[.int .i64 i, .int .i64 d.src, .int .i64 d.dst, .int .i64 d.typ, .int .i64 (d.tag + 1), .int .i64 0, .int .i64 0, .int .i64 0] 3)).trans (Grow.alloc _ (.cells #[.slice (some ⟨w1.heap.size, 0, none⟩) 8 8] 71)))
  have RW := Lib.hid (((Grow.alloc (w1.alloc (.cells #[.int .i64 i, .int .i64 d.src, .int .i64 d.dst, .int .i64 d.typ, .int .i64 (d.tag + 1), .int .i64 0, .int .i64 0, .int .i64 0] 3)) (.cells #[.slice (some ⟨w1.heap.size, 0, none⟩) 8 8] 71)).block w1.heap.size (by simp only [World.alloc, Array.size_push]; omega)).trans (heap_alloc_new w1 (.cells #[.int .i64 i, .int .i64 d.src, .int .i64 d.dst, .int .i64 d.typ, .int .i64 (d.tag + 1), .int .i64 0, .int .i64 0, .int .i64 0] 3)))
  generalize (w1.alloc (.cells #[.int .i64 i, .int .i64 d.src, .int .i64 d.dst, .int .i64 d.typ, .int .i64 (d.tag + 1), .int .i64 0, .int .i64 0, .int .i64 0] 3)).alloc (.cells #[.slice (some ⟨w1.heap.size, 0, none⟩) 8 8] 71) = w2 at *
  clear p0 p1 p2 p3 p4 pl
  refine at_world (w := w2) ?G (fun hG => (ipReadI_any _ _ d.body (HV.out.grow (HG.out.trans (G2.out.trans hG))) WB.out SB.out).mono ?_)
  case G => ((repeat (first | with_reducible exact Grow.refl _ | (with_reducible refine Grow.alloc_ ?_ _) | (with_reducible refine Grow.setCell_ ?_ (by first | exact Nat.le_refl _ | (simp only [World.alloc, Array.size_push]; omega) | omega) _))))
  rw [HQ.out]
  rintro e w3 ⟨vq, fpq, rfl, ⟨vb, rfl, hob⟩, hfq, hg⟩
  obtain ⟨ab, cb, rfl⟩ := own_shape hob.1
  have G3 := Lib.hid (hG.trans hg)
  have L2 : Hid (w1.heap.size + 1 < w2.heap.size) := Lib.hid BH.out.1
  have HW3 := Lib.hid (HG.out.trans (G2.out.trans G3.out))
  have B0 := Lib.hid (B0.out.grow (G2.out.trans G3.out)); have BX := Lib.hid (BX.out.grow (G2.out.trans G3.out)); have BH := Lib.hid (BH.out.grow G3.out)
  have RW := Lib.hid ((G3.out.block w1.heap.size (by have := L2.out; omega)).trans RW.out)
  have L3 : Hid (w1.heap.size + 1 < w3.heap.size) := Lib.hid (by have h1 := L2.out; have h2 := G3.out.size; omega)
  have QB := Lib.hid hQ
  clear hG hg hob hfq hQ
  have ⟨p0, p1, p2, p3, p4⟩ := B0.out.five; have pl := B0.out.1
  have x0 := BX.out.one; have xl := BX.out.1; have xz := BX.out.2.2
  have y0 := BH.out.one; have yl := BH.out.1
  have hw1 : w.heap.size + 1 < w1.heap.size := BX0.out
  have hw3 : w1.heap.size + 1 < w3.heap.size := L3.out
  have ZR : Hid (X = [0, 0, 0] → ∀ V, V.heap.size = w3.heap.size → Upd [w.heap.size + 1] w3 V → RetNew2 OwnH ⟨[i, d.src, d.dst, d.typ, d.tag + 1] ++ X⟩ (.bool true) w (.returned (.tuple #[.agg #[.slice (some ⟨w1.heap.size, 0, none⟩) 8 8], .bool true])) (V.alloc (.cells #[.int .i64 Q.1.ttl, .int .i64 Q.1.proto, .int .i64 Q.1.src, .int .i64 Q.1.dst, .slice ab Q.1.data.length cb] 47))) := Lib.hid (fun hx V hs hu => by
    rw [hx]
    have o1 := (((ownN_row (zs := [i, d.src, d.dst, d.typ, d.tag + 1, 0, 0, 0]) RW.out (by simp)).upd hu (by intro x hx hm; simp only [List.mem_cons, List.not_mem_nil, or_false] at hx hm; omega)).grow (Grow.alloc V (.cells #[.int .i64 Q.1.ttl, .int .i64 Q.1.proto, .int .i64 Q.1.src, .int .i64 Q.1.dst, .slice ab Q.1.data.length cb] 47)))
    exact ⟨_, [w1.heap.size], rfl, ⟨_, rfl, o1⟩, by have := HG.out.size; intro x hx; simp only [List.mem_cons, List.not_mem_nil, or_false] at hx; omega, (HW3.out.then_upd hu (by intro x hx; simp only [List.mem_cons, List.not_mem_nil, or_false] at hx; omega)).trans (Grow.alloc V _)⟩)
  by_cases ht : d.typ = 2048
  rotate_left
  · have hb : (d.typ == 2048) = false := by simpa using ht
    have HX := Lib.hid (PZ.out ht)
    clear ht
    go_wp2
    refine bodyPost_ret (v := .tuple #[.agg #[.slice (some ⟨w1.heap.size, 0, none⟩) 8 8], .bool true]) ?_ rfl (ZR.out HX.out _ ?_ ?_)
    · simp [results, Try.results62, go_sem, x0, xz, xl, hw1, hw3] <;> omega
    · simp only [size_set]
    · ((repeat (first | (with_reducible refine Upd.setCell ?_ (by simp) _) | with_reducible exact Upd.refl _ _)))
  have hb : (d.typ == 2048) = true := by simpa using ht
  have PX := Lib.hid (PX.out ht)
  clear ht PZ
  by_cases hc : Q.2 = 0
  rotate_left
  · have hb2 : (Q.2 == 0) = false := by simpa using hc
    have HX : Hid (X = [0, 0, 0]) := Lib.hid (by rw [PX.out]; have := irF_zero (b := d.body) (by rw [QB.out]; exact hc); rw [QB.out] at this; rw [this]; rfl)
    clear hc
    go_wp2
    refine bodyPost_ret (v := .tuple #[.agg #[.slice (some ⟨w1.heap.size, 0, none⟩) 8 8], .bool true]) ?_ rfl (ZR.out HX.out _ ?_ ?_)
    · simp [results, Try.results62, go_sem, x0, xz, xl, hw1, hw3] <;> omega
    · simp only [size_set]
    · ((repeat (first | (with_reducible refine Upd.setCell ?_ (by simp) _) | with_reducible exact Upd.refl _ _)))
  have hb2 : (Q.2 == 0) = true := by simpa using hc
  clear hc ZR
  obtain rfl : X = [Q.1.src, Q.1.dst, Q.1.proto] := PX.out
  go_wp2_with fail
  have G4 := Lib.hid (Grow.alloc w3 (.cells #[.int .i64 Q.1.ttl, .int .i64 Q.1.proto, .int .i64 Q.1.src, .int .i64 Q.1.dst, .slice ab Q.1.data.length cb] 47))
  have BD := Lib.hid (Box.alloc w3 [.int .i64 Q.1.ttl, .int .i64 Q.1.proto, .int .i64 Q.1.src, .int .i64 Q.1.dst, .slice ab Q.1.data.length cb] 47)
  have BH := Lib.hid (BH.out.grow G4.out); have BX := Lib.hid (BX.out.grow G4.out); have RW := Lib.hid ((G4.out.block w1.heap.size (by omega)).trans RW.out)
  have HW4 := Lib.hid (HW3.out.trans G4.out)
  clear p0 p1 p2 p3 p4 pl x0 xl xz y0 yl
  generalize w3.alloc (.cells #[.int .i64 Q.1.ttl, .int .i64 Q.1.proto, .int .i64 Q.1.src, .int .i64 Q.1.dst, .slice ab Q.1.data.length cb] 47) = W4 at *
  generalize w3.heap.size = bd at *
  have hne : Nonempty (Cl (Upd [w1.heap.size] W4)) := ⟨⟨W4, Upd.refl _ _⟩⟩
  have D0 := Lib.hid ((Grow.drewN W4 1).upd [w1.heap.size])
  have y0 : ∀ x : Cl (Upd [w1.heap.size] W4), x.w.cell? ⟨w1.heap.size + 1, 0, none⟩ = some (.slice (some ⟨w1.heap.size, 0, none⟩) 8 8) := fun x => (BH.out.upd x.ok (by simp)).one
  have hbd : bd ∉ [w1.heap.size] := by simp; omega
  have q1 : ∀ x : Cl (Upd [w1.heap.size] W4), x.w.cell? ⟨bd, 1, none⟩ = some (.int .i64 Q.1.proto) := fun x => (BD.out.upd x.ok hbd).five.2.1
  have q2 : ∀ x : Cl (Upd [w1.heap.size] W4), x.w.cell? ⟨bd, 2, none⟩ = some (.int .i64 Q.1.src) := fun x => (BD.out.upd x.ok hbd).five.2.2.1
  have q3 : ∀ x : Cl (Upd [w1.heap.size] W4), x.w.cell? ⟨bd, 3, none⟩ = some (.int .i64 Q.1.dst) := fun x => (BD.out.upd x.ok hbd).five.2.2.2.1
  refine wp_region_mix (Cls (Upd [w1.heap.size] W4)) 11 #[false, false, false, false, false, false, false, false, false, false, false] (by kernel_rfl) (by kernel_rfl) ⟨⟨_, D0.out⟩, rfl⟩ ?_
  refine anyC_seg [0, 1, 2, 3, 4, 5, 6, 7, 8] #[true, true, true, true, true, true, true, true, true, false, false] (fuel := 2) rfl (by kernel_rfl) ⟨⟨_, D0.out⟩, rfl⟩ ?_
  simp only [pickOps, List.getD_cons_succ, List.getD_cons_zero]
  repeat (go_big_quiet_step (fail))
  refine wpQuiet_nil ?_
  refine anyC_sole 9 #[true, true, true, true, true, true, true, true, true, true, false] (fuel := 1) (by kernel_rfl) ?_
  simp only [List.getD_cons_succ, List.getD_cons_zero]
  go_wp2
  have D1 := Lib.hid (D0.out.then_grow (Grow.alloc (W4.drewN 1) (.cells #[.int .i64 Q.1.src, .int .i64 Q.1.dst, .int .i64 Q.1.proto] 3)))
  have SRC := Lib.hid (rd_src (rd_built (W4.drewN 1) 3 1 3 [.int .i64 Q.1.src, .int .i64 Q.1.dst, .int .i64 Q.1.proto] rfl (by decide))).2
  have RW := Lib.hid (((Grow.drewN W4 1).trans (Grow.alloc (W4.drewN 1) (.cells #[.int .i64 Q.1.src, .int .i64 Q.1.dst, .int .i64 Q.1.proto] 3))).block w1.heap.size (by have := BH.out.1; omega) |>.trans RW.out)
  refine ⟨⟨⟨_, D1.out⟩, rfl⟩, ?_⟩
  refine anyC_sole 10 #[true, true, true, true, true, true, true, true, true, true, true] (fuel := 0) (by kernel_rfl) ?_
  simp only [List.getD_cons_succ, List.getD_cons_zero]
  go_wp2_with (refine wpList_copy_own rfl _ _ _ _ rfl 3 Try.underlying69 info_int_one w1.heap.size 5 3 3 ⟨W4.heap.size, 0, none⟩ 3 3 rfl rfl #[.int .i64 i, .int .i64 d.src, .int .i64 d.dst, .int .i64 d.typ, .int .i64 (d.tag + 1), .int .i64 0, .int .i64 0, .int .i64 0] 3 RW.out ([Q.1.src, Q.1.dst, Q.1.proto].map (Value.int .i64)) rfl SRC.out (by simp) (oneCell_ints _ _) ?_)
  have D2 := Lib.hid (D1.out.setRow (g := w1.heap.size) (by simp) #[.int .i64 i, .int .i64 d.src, .int .i64 d.dst, .int .i64 d.typ, .int .i64 (d.tag + 1), .int .i64 Q.1.src, .int .i64 Q.1.dst, .int .i64 Q.1.proto])
  have R9 := Lib.hid (setRow_heap _ w1.heap.size _ #[.int .i64 i, .int .i64 d.src, .int .i64 d.dst, .int .i64 d.typ, .int .i64 (d.tag + 1), .int .i64 Q.1.src, .int .i64 Q.1.dst, .int .i64 Q.1.proto] _ _ RW.out)
  refine ⟨⟨⟨_, D2.out⟩, rfl⟩, ?_⟩
  refine anyC_done (by kernel_rfl) ?_
  clear hne y0 q1 q2 q3
  generalize hW9 : World.setRow _ w1.heap.size _ = W9
  rw [show World.setRow _ w1.heap.size _ = W9 from hW9] at D2 R9
  clear hW9
  have O9 := Lib.hid (ownN_row (zs := [i, d.src, d.dst, d.typ, d.tag + 1, Q.1.src, Q.1.dst, Q.1.proto]) R9.out (by simp))
  have BX9 := Lib.hid (BX.out.upd D2.out (by simp; omega)); have BH9 := Lib.hid (BH.out.upd D2.out (by simp))
  have HW9 := Lib.hid (HW4.out.then_upd D2.out (by intro x hx; have := HG.out.size; simp only [List.mem_cons, List.not_mem_nil, or_false] at hx; omega))
  have HR : Hid (∀ V, Upd [w.heap.size + 1] W9 V → RetNew2 OwnH ⟨[i, d.src, d.dst, d.typ, d.tag + 1, Q.1.src, Q.1.dst, Q.1.proto]⟩ (.bool true) w (.returned (.tuple #[.agg #[.slice (some ⟨w1.heap.size, 0, none⟩) 8 8], .bool true])) V) := Lib.hid (fun V hu => by
    exact ⟨_, [w1.heap.size], rfl, ⟨_, rfl, O9.out.upd hu (by intro x hx hm; simp only [List.mem_cons, List.not_mem_nil, or_false] at hx hm; omega)⟩, by have := HG.out.size; intro x hx; simp only [List.mem_cons, List.not_mem_nil, or_false] at hx; omega, HW9.out.then_upd hu (by intro x hx; simp only [List.mem_cons, List.not_mem_nil, or_false] at hx; omega)⟩)
  have x0 := BX9.out.one; have xl := BX9.out.1; have xz := BX9.out.2.2
  have y0 := BH9.out.one; have yl := BH9.out.1
  go_wp2
  refine bodyPost_ret (v := .tuple #[.agg #[.slice (some ⟨w1.heap.size, 0, none⟩) 8 8], .bool true]) ?_ rfl (HR.out _ ?_)
  · simp [results, Try.results62, go_sem, x0, xz, xl, hw1] <;> omega
  · ((repeat (first | (with_reducible refine Upd.setCell ?_ (by simp) _) | with_reducible exact Upd.refl _ _)))

--%
end Go.Proofs.Ytcldfodnblkeiaa
