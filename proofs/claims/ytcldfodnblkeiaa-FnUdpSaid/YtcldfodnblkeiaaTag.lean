/- Tagged and Hop: contracts of the code (printed by tag.py). -/
import Derived.Test.YtcldfodnblkeiaaPok
import Derived.Test.YtcldfodnblkeiaaPut
import Derived.WalkKit
import Derived.ProofKit
import Derived.Deep.QuietTactic
import Derived.BigQuiet
import Derived.Outline
import Derived.WalkSpells
namespace Go.Proofs.Ytcldfodnblkeiaa
open Go.ChangeShapes Go.WideShapes Go.ChangeAt Go.RowKit
set_option linter.unusedVariables false
set_option linter.unusedSimpArgs false
--%
theorem ownB_nil (w : World) : OwnB w (.slice none 0 0) [] [] := ⟨World.ownsRow_nil _ _ _ _, rfl⟩
/-- 'append([]byte{}, x...)' has made a copy. -/
theorem copied {w w' : World} {v' : Value} {zs : List Int} (ho : w'.ownsRow w.heap.size 5 1 v' (0 + zs.length) ([] ++ zs.map (Value.int .u8)))
    (hg : (w.alloc (.cells #[] 5)).grownBy w' (Value.slice (some ⟨w.heap.size, 0, none⟩) 0 0).ownBlock) : ∃ fp, OwnB w' v' zs fp ∧ Fresh w fp ∧ Grow w w' := by
  simp only [Nat.zero_add, List.nil_append] at ho
  exact ⟨_, (OwnR.of ho).1, (OwnR.of ho).2, Grow.of_grown (grown_trans (Grow.alloc w _).grown hg (fun g hg hlt => by have := own_new hg; omega))⟩
theorem size_set (w : World) (p : Addr) (x : Value) : (w.setCell p x).heap.size = w.heap.size := by simp [World.setCell]
theorem lit_set (w : World) (p : Addr) (x : Value) : ((w.setCell p x).alloc (.cells #[] 5)).ownsRow w.heap.size 5 1 (.slice (some ⟨w.heap.size, 0, none⟩) 0 0) 0 [] := by
  have := World.ownsRow_lit (base := w.heap.size) (e := 5) (size := 1) (w.setCell p x) #[] 0 (by rw [size_set]; exact Nat.le_refl _) (by decide) rfl
  rw [size_set] at this
  exact this
theorem copied_set {w w' : World} {p : Addr} {x : Value} {v' : Value} {zs : List Int} (ho : w'.ownsRow w.heap.size 5 1 v' (0 + zs.length) ([] ++ zs.map (Value.int .u8)))
    (hg : ((w.setCell p x).alloc (.cells #[] 5)).grownBy w' (Value.slice (some ⟨w.heap.size, 0, none⟩) 0 0).ownBlock) : ∃ fp, OwnB w' v' zs fp ∧ Fresh (w.setCell p x) fp ∧ Grow (w.setCell p x) w' :=
  copied (w := w.setCell p x) (by rw [size_set]; exact ho) (by rw [size_set]; exact hg)
theorem Grow.box_end {w w1 w2 : World} {fq : List Nat} (h : Grow w w1) (u : Upd fq w1 w2) (hq : ∀ b ∈ fq, w.heap.size ≤ b) : Grow w w2 := h.then_upd u hq
--% 87
theorem clone_B (w : World) (v : Value) (zs : List Int) (h : RdB w v zs) (sm : SmB zs) : Calls Try.prog 87 #[v] w (RetNew OwnB zs w) :=
  (clone_any v zs w h (by unfold SmB at sm; omega)).mono fun _ _ h => RetNew.of_row (n := 0) h
--%
def zeroP : PacketD := ⟨0, 0, 0, 0, []⟩
def tagD (d : PacketD) (t : Int) : PacketD := ⟨d.dst, d.src, t, d.typ, d.body⟩
def tagF (d : PacketD) (t : Int) : PacketD × Bool := if pkOk (tagD d t) = true then (tagD d t, true) else (zeroP, false)
theorem tagF_yes {d : PacketD} {t : Int} (h : pkOk (tagD d t) = true) : tagF d t = (tagD d t, true) := by simp [tagF, h]
theorem tagF_no {d : PacketD} {t : Int} (h : pkOk (tagD d t) = false) : tagF d t = (zeroP, false) := by simp [tagF, h]
theorem tagF_sm {d : PacketD} {t : Int} (h : SmP d) : SmP (tagF d t).1 := by
  unfold tagF; split
  · exact h
  · simp [SmP, sizeP, zeroP]
def zeroIp : IpD := ⟨0, 0, 0, 0, []⟩
def hopD (d : IpD) : IpD := ⟨d.ttl - 1, d.proto, d.src, d.dst, d.data⟩
def hopF (d : IpD) : IpD × Bool := if ipOk d = true ∧ 2 ≤ d.ttl then (hopD d, true) else (zeroIp, false)
theorem hopF_yes {d : IpD} (h : ipOk d = true) (h2 : 2 ≤ d.ttl) : hopF d = (hopD d, true) := by simp [hopF, h, h2]
theorem hopF_no {d : IpD} (h : ipOk d = false) : hopF d = (zeroIp, false) := by simp [hopF, h]
theorem hopF_lo {d : IpD} (h2 : ¬ 2 ≤ d.ttl) : hopF d = (zeroIp, false) := by simp [hopF, h2]
theorem hopF_sm {d : IpD} (h : SmIp d) : SmIp (hopF d).1 := by
  unfold hopF; split
  · exact h
  · simp [SmIp, sizeIp, zeroIp]
--% taggedI 36 87
theorem taggedI_any (w : World) (V : Value) (d : DatP) (t : Int) (h : RdP w V d) (wf : WfP d) (sm : SmP d) : Calls Try.prog 36 #[V, .int .i64 t] w (RetNew2 OwnP (tagF d t).1 (.bool (tagF d t).2) w) := by
  obtain ⟨v, rfl, hv⟩ := h
  obtain ⟨a, c, rfl, hlc, hm, hn, -⟩ := Rd.ints hv
  have HV := Lib.hid hv; clear hv hn
  unfold maxLen at hm
  have hsz := sm.body
  have HS := Lib.hid hsz
  unfold SmB at hsz
  clear sm
  obtain ⟨wf0, wf1, wf2, wf3, -⟩ := wf
  cases hok : pkOk (tagD d t)
  · skip
    rw [tagF_no hok]
    go_enter Try.func36, Try.ntmps36
    go_wp2_with fail
    refine at_world (w := w) ?G (fun hG => (packetOkI _ _ (tagD d t) ⟨_, rfl, HV.out.grow hG⟩).mono ?_)
    case G => ((repeat (first | with_reducible exact Grow.refl _ | (with_reducible refine Grow.alloc_ ?_ _) | (with_reducible refine Grow.setCell_ ?_ (by first | exact Nat.le_refl _ | (simp only [World.alloc, Array.size_push]; omega) | omega) _))))
    rintro e w1 ⟨rfl, hg⟩
    rw [hok]
    obtain ⟨hc, hfz⟩ := bcell hg
    have HG := Lib.hid (hG.trans hg)
    have HE : Hid (∀ w2, Upd [w.heap.size + 1] w1 w2 → RetNew2 OwnP zeroP (.bool false) w (.returned (.tuple #[.agg #[.int .i64 0, .int .i64 0, .int .i64 0, .int .i64 0, .slice none 0 0], .bool false])) w2) := Lib.hid (fun w2 hu => ⟨_, [], rfl, ⟨_, rfl, ownB_nil _⟩, by simp [Fresh], HG.out.box_end hu (by simp)⟩)
    clear hG hg
    go_wp2
    refine bodyPost_ret (v := .tuple #[.agg #[.int .i64 0, .int .i64 0, .int .i64 0, .int .i64 0, .slice none 0 0], .bool false]) ?_ rfl (HE.out _ ?_)
    · simp [results, Try.results36, go_sem, hc, hfz]
    · ((repeat (first | (with_reducible refine Upd.setCell ?_ (by simp) _) | with_reducible exact Upd.refl _ _)))
  · skip
    rw [tagF_yes hok]
    go_enter Try.func36, Try.ntmps36
    go_wp2_with fail
    refine at_world (w := w) ?G (fun hG => (packetOkI _ _ (tagD d t) ⟨_, rfl, HV.out.grow hG⟩).mono ?_)
    case G => ((repeat (first | with_reducible exact Grow.refl _ | (with_reducible refine Grow.alloc_ ?_ _) | (with_reducible refine Grow.setCell_ ?_ (by first | exact Nat.le_refl _ | (simp only [World.alloc, Array.size_push]; omega) | omega) _))))
    rintro e w1 ⟨rfl, hg⟩
    rw [hok]
    obtain ⟨hc, hfz⟩ := bcell hg
    go_wp2_with fail
    refine at_world (w := w1) ?G2 (fun hG2 => (clone_B _ _ _ (HV.out.grow (hG.trans (hg.trans hG2))) HS.out).mono ?_)
    case G2 => ((repeat (first | with_reducible exact Grow.refl _ | (with_reducible refine Grow.alloc_ ?_ _) | (with_reducible refine Grow.setCell_ ?_ (by first | exact Nat.le_refl _ | (simp only [World.alloc, Array.size_push]; omega) | omega) _))))
    rintro e w2 ⟨v2, fp2, rfl, ho, hf0, hg2⟩
    have hf : Fresh _ fp2 := hf0.older (hg.trans hG2)
    have hgW := hg.trans (hG2.trans hg2)
    obtain ⟨a2, c2, rfl⟩ := own_shape ho.1
    clear hc hfz
    obtain ⟨hc, hfz⟩ := bcell hgW
    have HE : Hid (∀ w3, Upd [w.heap.size + 1, w.heap.size] w2 w3 → RetNew2 OwnP (tagD d t) (.bool true) w (.returned (.tuple #[.agg #[.int .i64 d.dst, .int .i64 d.src, .int .i64 t, .int .i64 d.typ, .slice a2 d.body.length c2], .bool true])) w3) := Lib.hid (fun w3 hu => by
      obtain ⟨h1, h2, h3⟩ := Grow.boxes hG hgW hu hf (by intro b hb; simp only [List.mem_cons, List.not_mem_nil, or_false] at hb; simp only [World.alloc, Array.size_push]; omega)
      exact ⟨_, fp2, rfl, ⟨_, rfl, ho.upd hu h3⟩, h2, h1⟩)
    have ⟨q0, q1, q2, q3, q4⟩ := ((Box.alloc w _ _).grow ((Grow.alloc _ _).trans hgW)).five
    clear ho hf hf0 hg2 hgW hg hG hG2
    go_wp2
    refine bodyPost_ret (v := .tuple #[.agg #[.int .i64 d.dst, .int .i64 d.src, .int .i64 t, .int .i64 d.typ, .slice a2 d.body.length c2], .bool true]) ?_ rfl (HE.out _ ?_)
    · simp [results, Try.results36, go_sem, hc, hfz, q0, q1, q2, q3, q4]
    · ((repeat (first | (with_reducible refine Upd.setCell ?_ (by simp) _) | with_reducible exact Upd.refl _ _)))
--% hopI 49 87
theorem hopI_any (w : World) (V : Value) (d : IpD) (h : RdIp w V d) (wf : WfIp d) (sm : SmIp d) : Calls Try.prog 49 #[V] w (RetNew2 OwnIp (hopF d).1 (.bool (hopF d).2) w) := by
  obtain ⟨v, rfl, hv⟩ := h
  obtain ⟨a, c, rfl, hlc, hm, hn, -⟩ := Rd.ints hv
  have HV := Lib.hid hv; clear hv hn
  unfold maxLen at hm
  have hsz := sm.data
  have HS := Lib.hid hsz
  unfold SmB at hsz
  clear sm
  obtain ⟨wf0, -⟩ := wf
  cases hok : ipOk d
  · skip
    rw [hopF_no hok]
    go_enter Try.func49, Try.ntmps49
    go_wp2_with fail
    refine at_world (w := w) ?G (fun hG => (ipOkI _ _ d ⟨_, rfl, HV.out.grow hG⟩).mono ?_)
    case G => ((repeat (first | with_reducible exact Grow.refl _ | (with_reducible refine Grow.alloc_ ?_ _) | (with_reducible refine Grow.setCell_ ?_ (by first | exact Nat.le_refl _ | (simp only [World.alloc, Array.size_push]; omega) | omega) _))))
    rintro e w1 ⟨rfl, hg⟩
    rw [hok]
    obtain ⟨hc, hfz⟩ := bcell hg
    have ⟨q0, q1, q2, q3, q4⟩ := ((Box.alloc w _ _).grow ((Grow.alloc _ _).trans hg)).five
    have HG := Lib.hid (hG.trans hg)
    have HE : Hid (∀ w2, Upd [w.heap.size + 1] w1 w2 → RetNew2 OwnIp zeroIp (.bool false) w (.returned (.tuple #[.agg #[.int .i64 0, .int .i64 0, .int .i64 0, .int .i64 0, .slice none 0 0], .bool false])) w2) := Lib.hid (fun w2 hu => ⟨_, [], rfl, ⟨_, rfl, ownB_nil _⟩, by simp [Fresh], HG.out.box_end hu (by simp)⟩)
    clear hG hg
    go_wp2
    refine bodyPost_ret (v := .tuple #[.agg #[.int .i64 0, .int .i64 0, .int .i64 0, .int .i64 0, .slice none 0 0], .bool false]) ?_ rfl (HE.out _ ?_)
    · simp [results, Try.results49, go_sem, hc, hfz]
    · ((repeat (first | (with_reducible refine Upd.setCell ?_ (by simp) _) | with_reducible exact Upd.refl _ _)))
  · by_cases h2 : 2 ≤ d.ttl
    rotate_left
    · skip
      rw [hopF_lo h2]
      go_enter Try.func49, Try.ntmps49
      go_wp2_with fail
      refine at_world (w := w) ?G (fun hG => (ipOkI _ _ d ⟨_, rfl, HV.out.grow hG⟩).mono ?_)
      case G => ((repeat (first | with_reducible exact Grow.refl _ | (with_reducible refine Grow.alloc_ ?_ _) | (with_reducible refine Grow.setCell_ ?_ (by first | exact Nat.le_refl _ | (simp only [World.alloc, Array.size_push]; omega) | omega) _))))
      rintro e w1 ⟨rfl, hg⟩
      rw [hok]
      obtain ⟨hc, hfz⟩ := bcell hg
      have ⟨q0, q1, q2, q3, q4⟩ := ((Box.alloc w _ _).grow ((Grow.alloc _ _).trans hg)).five
      have HG := Lib.hid (hG.trans hg)
      have HE : Hid (∀ w2, Upd [w.heap.size + 1] w1 w2 → RetNew2 OwnIp zeroIp (.bool false) w (.returned (.tuple #[.agg #[.int .i64 0, .int .i64 0, .int .i64 0, .int .i64 0, .slice none 0 0], .bool false])) w2) := Lib.hid (fun w2 hu => ⟨_, [], rfl, ⟨_, rfl, ownB_nil _⟩, by simp [Fresh], HG.out.box_end hu (by simp)⟩)
      clear hG hg
      go_wp2
      refine bodyPost_ret (v := .tuple #[.agg #[.int .i64 0, .int .i64 0, .int .i64 0, .int .i64 0, .slice none 0 0], .bool false]) ?_ rfl (HE.out _ ?_)
      · simp [results, Try.results49, go_sem, hc, hfz]
      · ((repeat (first | (with_reducible refine Upd.setCell ?_ (by simp) _) | with_reducible exact Upd.refl _ _)))
    rw [hopF_yes hok h2]
    go_enter Try.func49, Try.ntmps49
    go_wp2_with fail
    refine at_world (w := w) ?G (fun hG => (ipOkI _ _ d ⟨_, rfl, HV.out.grow hG⟩).mono ?_)
    case G => ((repeat (first | with_reducible exact Grow.refl _ | (with_reducible refine Grow.alloc_ ?_ _) | (with_reducible refine Grow.setCell_ ?_ (by first | exact Nat.le_refl _ | (simp only [World.alloc, Array.size_push]; omega) | omega) _))))
    rintro e w1 ⟨rfl, hg⟩
    rw [hok]
    have B0 := (Box.alloc w _ _).grow ((Grow.alloc _ _).trans hg)
    have B1 : Box w1 (w.heap.size + 1) _ := ((Box.alloc _ _ _).grow hg).at_ (by simp only [World.alloc, Array.size_push])
    have HB0 := Lib.hid (B0.set 0 (.int .i64 (d.ttl - 1)) (by simp))
    have HB1 := Lib.hid (B1.upd (Upd.setCell (Upd.refl [w.heap.size] w1) (p := ⟨w.heap.size, 0, none⟩) (by simp) (.int .i64 (d.ttl - 1))) (by simp))
    have hG1 : Grow w (w1.setCell ⟨w.heap.size, 0, none⟩ (.int .i64 (d.ttl - 1))) := Grow.setCell_ (hG.trans hg) (Nat.le_refl _) _
    have HG1 := Lib.hid hG1
    have ⟨q0, q1, q2, q3, q4⟩ := B0.five
    have l0 := B0.1
    obtain ⟨hc, hfz⟩ := bcell hg
    clear B0 B1 hG hg hG1
    go_wp2_with fail
    refine (clone_B _ _ _ (HV.out.grow HG1.out) HS.out).mono ?_
    rintro e w2 ⟨v2, fp2, rfl, ho, hf, hg2⟩
    clear q0 q1 q2 q3 q4 l0 hc hfz
    obtain ⟨a2, c2, rfl⟩ := own_shape ho.1
    have ⟨q0, q1, q2, q3, q4⟩ := (HB0.out.grow hg2).five; have ⟨r0, r1, r2, r3, r4⟩ := (HB1.out.grow hg2).five; have z0 := (HB0.out.grow hg2).2.2; have z1 := (HB1.out.grow hg2).2.2; have HE : Hid (∀ w3, Upd [w.heap.size + 1, w.heap.size] w2 w3 → RetNew2 OwnIp (hopD d) (.bool true) w (.returned (.tuple #[.agg #[.int .i64 (d.ttl - 1), .int .i64 d.proto, .int .i64 d.src, .int .i64 d.dst, .slice a2 d.data.length c2], .bool true])) w3) := Lib.hid (fun w3 hu => by
      obtain ⟨h1, h2, h3⟩ := Grow.boxes HG1.out hg2 hu hf (by intro b hb; have e0 := HB0.out.1; have e1 := HB1.out.1; simp only [List.mem_cons, List.not_mem_nil, or_false] at hb; omega)
      exact ⟨_, fp2, rfl, ⟨_, rfl, ho.upd hu h3⟩, h2, h1⟩); clear ho hf hg2
    go_wp2
    refine bodyPost_ret (v := .tuple #[.agg #[.int .i64 (d.ttl - 1), .int .i64 d.proto, .int .i64 d.src, .int .i64 d.dst, .slice a2 d.data.length c2], .bool true]) ?_ rfl (HE.out _ ?_)
    · simp [results, Try.results49, go_sem, q0, q1, q2, q3, q4, r0, r1, r2, r3, r4, z0, z1]
    · ((repeat (first | (with_reducible refine Upd.setCell ?_ (by simp) _) | with_reducible exact Upd.refl _ _)))
--% taggedS 35 
theorem taggedS_any (w : World) (V : Value) (d : DatP) (t : Int) (h : RdP w V d) (wf : WfP d) (sm : SmP d) : Calls Try.prog 35 #[V, .int .i64 t] w (RetNew2 OwnP (tagF d t).1 (.bool (tagF d t).2) w) := by
  obtain ⟨v, rfl, hv⟩ := h
  obtain ⟨a, c, rfl, hlc, hm, hn, -⟩ := Rd.ints hv
  have HV := Lib.hid hv; clear hv hn
  unfold maxLen at hm
  have hsz := sm.body
  have HS := Lib.hid hsz
  unfold SmB at hsz
  clear sm
  obtain ⟨wf0, wf1, wf2, wf3, -⟩ := wf
  cases hok : pkOk (tagD d t)
  · skip
    rw [tagF_no hok]
    go_enter Try.func35, Try.ntmps35
    go_wp2_with fail
    refine at_world (w := w) ?G (fun hG => (packetOkS _ _ (tagD d t) ⟨_, rfl, HV.out.grow hG⟩).mono ?_)
    case G => ((repeat (first | with_reducible exact Grow.refl _ | (with_reducible refine Grow.alloc_ ?_ _) | (with_reducible refine Grow.setCell_ ?_ (by first | exact Nat.le_refl _ | (simp only [World.alloc, Array.size_push]; omega) | omega) _))))
    rintro e w1 ⟨rfl, hg⟩
    rw [hok]
    obtain ⟨hc, hfz⟩ := bcell hg
    have HG := Lib.hid (hG.trans hg)
    have HE : Hid (∀ w2, Upd [w.heap.size + 1] w1 w2 → RetNew2 OwnP zeroP (.bool false) w (.returned (.tuple #[.agg #[.int .i64 0, .int .i64 0, .int .i64 0, .int .i64 0, .slice none 0 0], .bool false])) w2) := Lib.hid (fun w2 hu => ⟨_, [], rfl, ⟨_, rfl, ownB_nil _⟩, by simp [Fresh], HG.out.box_end hu (by simp)⟩)
    clear hG hg
    go_wp2
    refine bodyPost_ret (v := .tuple #[.agg #[.int .i64 0, .int .i64 0, .int .i64 0, .int .i64 0, .slice none 0 0], .bool false]) ?_ rfl (HE.out _ ?_)
    · simp [results, Try.results35, go_sem, hc, hfz]
    · ((repeat (first | (with_reducible refine Upd.setCell ?_ (by simp) _) | with_reducible exact Upd.refl _ _)))
  · skip
    rw [tagF_yes hok]
    go_enter Try.func35, Try.ntmps35
    go_wp2_with fail
    refine at_world (w := w) ?G (fun hG => (packetOkS _ _ (tagD d t) ⟨_, rfl, HV.out.grow hG⟩).mono ?_)
    case G => ((repeat (first | with_reducible exact Grow.refl _ | (with_reducible refine Grow.alloc_ ?_ _) | (with_reducible refine Grow.setCell_ ?_ (by first | exact Nat.le_refl _ | (simp only [World.alloc, Array.size_push]; omega) | omega) _))))
    rintro e w1 ⟨rfl, hg⟩
    rw [hok]
    obtain ⟨hc, hfz⟩ := bcell hg
    have hrd : RdB w1 _ d.body := HV.out.grow (hG.trans hg)
    have HR := Lib.hid hrd; clear hrd
    have ⟨p0, p1, p2, p3, p4⟩ := ((Box.alloc w _ _).grow ((Grow.alloc _ _).trans hg)).five
    have hl := ((Box.alloc w _ _).grow ((Grow.alloc _ _).trans hg)).1
    go_wp2_with (at_builtin; refine wpl_append Try.elemU8 rfl _ _ rfl w1.heap.size rfl (World.ownsRow_lit w1 #[] 0 (Nat.le_refl _) (by decide) rfl) d.body.length rfl (HR.out.grow (Grow.alloc _ _)) (by simp) (oneCell_ints _ _) (by omega) (by unfold maxLen; omega) (by simp) ?_; intro v2 w2 hown hgr hmv; obtain ⟨fp2, ho, hf0, hg2⟩ := copied hown hgr; clear hown hgr hmv; have hf := hf0.older hg; have hgW := hg.trans hg2; obtain ⟨a2, c2, rfl⟩ := own_shape ho.1; obtain ⟨hc, hfz⟩ := bcell hgW; have HE : Hid (∀ w3, Upd [w.heap.size + 1, w.heap.size] w2 w3 → RetNew2 OwnP (tagD d t) (.bool true) w (.returned (.tuple #[.agg #[.int .i64 d.dst, .int .i64 d.src, .int .i64 t, .int .i64 d.typ, .slice a2 d.body.length c2], .bool true])) w3) := Lib.hid (fun w3 hu => by
      obtain ⟨h1, h2, h3⟩ := Grow.boxes hG hgW hu hf (by intro b hb; simp only [List.mem_cons, List.not_mem_nil, or_false] at hb; simp only [World.alloc, Array.size_push]; omega)
      exact ⟨_, fp2, rfl, ⟨_, rfl, ho.upd hu h3⟩, h2, h1⟩); have ⟨q0, q1, q2, q3, q4⟩ := ((Box.alloc w _ _).grow ((Grow.alloc _ _).trans hgW)).five; clear ho hf hf0 hg2 hgW)
    refine bodyPost_ret (v := .tuple #[.agg #[.int .i64 d.dst, .int .i64 d.src, .int .i64 t, .int .i64 d.typ, .slice a2 d.body.length c2], .bool true]) ?_ rfl (HE.out _ ?_)
    · simp [results, Try.results35, go_sem, hc, hfz, q0, q1, q2, q3, q4]
    · ((repeat (first | (with_reducible refine Upd.setCell ?_ (by simp) _) | with_reducible exact Upd.refl _ _)))
--% hopS 48 
theorem hopS_any (w : World) (V : Value) (d : IpD) (h : RdIp w V d) (wf : WfIp d) (sm : SmIp d) : Calls Try.prog 48 #[V] w (RetNew2 OwnIp (hopF d).1 (.bool (hopF d).2) w) := by
  obtain ⟨v, rfl, hv⟩ := h
  obtain ⟨a, c, rfl, hlc, hm, hn, -⟩ := Rd.ints hv
  have HV := Lib.hid hv; clear hv hn
  unfold maxLen at hm
  have hsz := sm.data
  have HS := Lib.hid hsz
  unfold SmB at hsz
  clear sm
  obtain ⟨wf0, -⟩ := wf
  cases hok : ipOk d
  · skip
    rw [hopF_no hok]
    go_enter Try.func48, Try.ntmps48
    go_wp2_with fail
    refine at_world (w := w) ?G (fun hG => (ipOkS _ _ d ⟨_, rfl, HV.out.grow hG⟩).mono ?_)
    case G => ((repeat (first | with_reducible exact Grow.refl _ | (with_reducible refine Grow.alloc_ ?_ _) | (with_reducible refine Grow.setCell_ ?_ (by first | exact Nat.le_refl _ | (simp only [World.alloc, Array.size_push]; omega) | omega) _))))
    rintro e w1 ⟨rfl, hg⟩
    rw [hok]
    obtain ⟨hc, hfz⟩ := bcell hg
    have ⟨q0, q1, q2, q3, q4⟩ := ((Box.alloc w _ _).grow ((Grow.alloc _ _).trans hg)).five
    have HG := Lib.hid (hG.trans hg)
    have HE : Hid (∀ w2, Upd [w.heap.size + 1] w1 w2 → RetNew2 OwnIp zeroIp (.bool false) w (.returned (.tuple #[.agg #[.int .i64 0, .int .i64 0, .int .i64 0, .int .i64 0, .slice none 0 0], .bool false])) w2) := Lib.hid (fun w2 hu => ⟨_, [], rfl, ⟨_, rfl, ownB_nil _⟩, by simp [Fresh], HG.out.box_end hu (by simp)⟩)
    clear hG hg
    go_wp2
    refine bodyPost_ret (v := .tuple #[.agg #[.int .i64 0, .int .i64 0, .int .i64 0, .int .i64 0, .slice none 0 0], .bool false]) ?_ rfl (HE.out _ ?_)
    · simp [results, Try.results48, go_sem, hc, hfz]
    · ((repeat (first | (with_reducible refine Upd.setCell ?_ (by simp) _) | with_reducible exact Upd.refl _ _)))
  · by_cases h2 : 2 ≤ d.ttl
    rotate_left
    · skip
      rw [hopF_lo h2]
      go_enter Try.func48, Try.ntmps48
      go_wp2_with fail
      refine at_world (w := w) ?G (fun hG => (ipOkS _ _ d ⟨_, rfl, HV.out.grow hG⟩).mono ?_)
      case G => ((repeat (first | with_reducible exact Grow.refl _ | (with_reducible refine Grow.alloc_ ?_ _) | (with_reducible refine Grow.setCell_ ?_ (by first | exact Nat.le_refl _ | (simp only [World.alloc, Array.size_push]; omega) | omega) _))))
      rintro e w1 ⟨rfl, hg⟩
      rw [hok]
      obtain ⟨hc, hfz⟩ := bcell hg
      have ⟨q0, q1, q2, q3, q4⟩ := ((Box.alloc w _ _).grow ((Grow.alloc _ _).trans hg)).five
      have HG := Lib.hid (hG.trans hg)
      have HE : Hid (∀ w2, Upd [w.heap.size + 1] w1 w2 → RetNew2 OwnIp zeroIp (.bool false) w (.returned (.tuple #[.agg #[.int .i64 0, .int .i64 0, .int .i64 0, .int .i64 0, .slice none 0 0], .bool false])) w2) := Lib.hid (fun w2 hu => ⟨_, [], rfl, ⟨_, rfl, ownB_nil _⟩, by simp [Fresh], HG.out.box_end hu (by simp)⟩)
      clear hG hg
      go_wp2
      refine bodyPost_ret (v := .tuple #[.agg #[.int .i64 0, .int .i64 0, .int .i64 0, .int .i64 0, .slice none 0 0], .bool false]) ?_ rfl (HE.out _ ?_)
      · simp [results, Try.results48, go_sem, hc, hfz]
      · ((repeat (first | (with_reducible refine Upd.setCell ?_ (by simp) _) | with_reducible exact Upd.refl _ _)))
    rw [hopF_yes hok h2]
    go_enter Try.func48, Try.ntmps48
    go_wp2_with fail
    refine at_world (w := w) ?G (fun hG => (ipOkS _ _ d ⟨_, rfl, HV.out.grow hG⟩).mono ?_)
    case G => ((repeat (first | with_reducible exact Grow.refl _ | (with_reducible refine Grow.alloc_ ?_ _) | (with_reducible refine Grow.setCell_ ?_ (by first | exact Nat.le_refl _ | (simp only [World.alloc, Array.size_push]; omega) | omega) _))))
    rintro e w1 ⟨rfl, hg⟩
    rw [hok]
    have B0 := (Box.alloc w _ _).grow ((Grow.alloc _ _).trans hg)
    have B1 : Box w1 (w.heap.size + 1) _ := ((Box.alloc _ _ _).grow hg).at_ (by simp only [World.alloc, Array.size_push])
    have HB0 := Lib.hid (B0.set 0 (.int .i64 (d.ttl - 1)) (by simp))
    have HB1 := Lib.hid (B1.upd (Upd.setCell (Upd.refl [w.heap.size] w1) (p := ⟨w.heap.size, 0, none⟩) (by simp) (.int .i64 (d.ttl - 1))) (by simp))
    have hG1 : Grow w (w1.setCell ⟨w.heap.size, 0, none⟩ (.int .i64 (d.ttl - 1))) := Grow.setCell_ (hG.trans hg) (Nat.le_refl _) _
    have HG1 := Lib.hid hG1
    have ⟨q0, q1, q2, q3, q4⟩ := B0.five
    have l0 := B0.1
    obtain ⟨hc, hfz⟩ := bcell hg
    clear B0 B1 hG hg hG1
    go_wp2_with (at_builtin; refine wpl_append Try.elemU8 rfl _ _ rfl w1.heap.size rfl (lit_set w1 _ _) d.data.length rfl ((HV.out.grow HG1.out).grow (Grow.alloc _ _)) (by simp) (oneCell_ints _ _) (by omega) (by unfold maxLen; omega) (by simp) ?_; intro v2 w2 hown hgr hmv; obtain ⟨fp2, ho, hf, hg2⟩ := copied_set hown hgr; clear hown hgr hmv q0 q1 q2 q3 q4 l0 hc hfz; obtain ⟨a2, c2, rfl⟩ := own_shape ho.1; have ⟨q0, q1, q2, q3, q4⟩ := (HB0.out.grow hg2).five; have ⟨r0, r1, r2, r3, r4⟩ := (HB1.out.grow hg2).five; have z0 := (HB0.out.grow hg2).2.2; have z1 := (HB1.out.grow hg2).2.2; have HE : Hid (∀ w3, Upd [w.heap.size + 1, w.heap.size] w2 w3 → RetNew2 OwnIp (hopD d) (.bool true) w (.returned (.tuple #[.agg #[.int .i64 (d.ttl - 1), .int .i64 d.proto, .int .i64 d.src, .int .i64 d.dst, .slice a2 d.data.length c2], .bool true])) w3) := Lib.hid (fun w3 hu => by
      obtain ⟨h1, h2, h3⟩ := Grow.boxes HG1.out hg2 hu hf (by intro b hb; have e0 := HB0.out.1; have e1 := HB1.out.1; simp only [List.mem_cons, List.not_mem_nil, or_false] at hb; omega)
      exact ⟨_, fp2, rfl, ⟨_, rfl, ho.upd hu h3⟩, h2, h1⟩); clear ho hf hg2)
    refine bodyPost_ret (v := .tuple #[.agg #[.int .i64 (d.ttl - 1), .int .i64 d.proto, .int .i64 d.src, .int .i64 d.dst, .slice a2 d.data.length c2], .bool true]) ?_ rfl (HE.out _ ?_)
    · simp [results, Try.results48, go_sem, q0, q1, q2, q3, q4, r0, r1, r2, r3, r4, z0, z1]
    · ((repeat (first | (with_reducible refine Upd.setCell ?_ (by simp) _) | with_reducible exact Upd.refl _ _)))
--%
end Go.Proofs.Ytcldfodnblkeiaa
