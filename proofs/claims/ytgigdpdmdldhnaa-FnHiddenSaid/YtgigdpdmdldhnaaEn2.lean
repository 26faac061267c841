/- Entries of a flow table: what toEntry makes is owned. -/
import Derived.Test.YtgigdpdmdldhnaaEnt
import Derived.WalkKit
import Derived.ProofKit
import Derived.Deep.QuietTactic
import Derived.BigQuiet
import Derived.Outline
import Derived.WalkSpells
namespace Go.Proofs.Ytgigdpdmdldhnaa
open Go.ChangeShapes Go.WideShapes Go.ChangeAt Go.RowKit
set_option linter.unusedVariables false
set_option linter.unusedSimpArgs false
--%
/-- The three rows of an entry, owned, no two of them in one block. -/
def OwnE2 (w : World) (V : Value) (d : EntryD) (fp : List Nat) : Prop := ∃ v0 v1 v2 f0 f1 f2, V = .agg #[.int .i64 d.epoch, .int .i64 d.prio, v0, v1, v2, .int .i64 d.hits] ∧ OwnN w v0 d.m.vs f0 ∧ OwnN w v1 d.m.ms f1 ∧ OwnA w v2 d.acts f2 ∧ fp = (f0 ++ f1) ++ f2 ∧ (∀ x ∈ f0, x ∉ f1) ∧ (∀ x ∈ f0 ++ f1, x ∉ f2)
theorem OwnE2.rd {w : World} {V : Value} {d : EntryD} {fp : List Nat} (h : OwnE2 w V d fp) : RdE w V d := by
  obtain ⟨v0, v1, v2, f0, f1, f2, rfl, h0, h1, h2, _⟩ := h
  exact ⟨v0, v1, v2, rfl, h0.rd, h1.rd, h2.rd⟩
theorem OwnE2.here {w : World} {V : Value} {d : EntryD} {fp : List Nat} (h : OwnE2 w V d fp) : Here w fp := by
  obtain ⟨v0, v1, v2, f0, f1, f2, rfl, h0, h1, h2, rfl, _⟩ := h
  intro b hb
  rcases List.mem_append.1 hb with hb | hb
  · rcases List.mem_append.1 hb with hb | hb
    · exact h0.here b hb
    · exact h1.here b hb
  · exact h2.here b hb
theorem OwnE2.upd {w w' : World} {V : Value} {d : EntryD} {fp fq : List Nat} (h : OwnE2 w V d fp) (u : Upd fq w w') (ha : ∀ x ∈ fp, x ∉ fq) : OwnE2 w' V d fp := by
  obtain ⟨v0, v1, v2, f0, f1, f2, rfl, h0, h1, h2, rfl, hd⟩ := h
  exact ⟨v0, v1, v2, f0, f1, f2, rfl, h0.upd u (fun x hx => ha x (by simp [hx])), h1.upd u (fun x hx => ha x (by simp [hx])), h2.upd u (fun x hx => ha x (by simp [hx])), rfl, hd⟩
theorem OwnE2.grow {w w' : World} {V : Value} {d : EntryD} {fp : List Nat} (h : OwnE2 w V d fp) (g : Grow w w') : OwnE2 w' V d fp := h.upd (g.upd []) (by simp)
--% toEntry 49
theorem to_E2 (w : World) (V : Value) (d : EntryD) (h : RdE w V d) (hs : SmE d) : Calls Try.prog 49 #[V] w (RetNew OwnE2 d w) := by
  obtain ⟨v0, v1, v2, rfl, h0, h1, h2⟩ := h
  have HM := Lib.hid (RdE.mOf h0 h1); have HA := Lib.hid h2; clear h0 h1 h2
  have SM := Lib.hid hs.m; have SA := Lib.hid hs.acts; clear hs
  go_enter Try.func49, Try.ntmps49
  go_wp2_with fail
  refine at_world (w := w) ?G (fun hG => (to_M _ _ d.m (HM.out.grow hG) SM.out).mono ?_)
  case G => ((repeat (first | with_reducible exact Grow.refl _ | (with_reducible refine Grow.alloc_ ?_ _) | (with_reducible refine Grow.setCell_ ?_ (by first | exact Nat.le_refl _ | (simp only [World.alloc, Array.size_push]; omega) | omega) _))))
  rintro e w1 ⟨vm, fp1, rfl, ho, hf, hg⟩
  obtain ⟨a0, c0, a1, c1, rfl⟩ := ho.rd.shape
  have HG1 := Lib.hid (hG.trans hg)
  have HO := Lib.hid ho
  have BP := Lib.hid ((Box.alloc w _ _).grow ((Grow.alloc _ _).trans ((Grow.alloc _ _).trans hg)))
  have BR := Lib.hid (((Box.alloc (w.alloc _) _ _).grow ((Grow.alloc _ _).trans hg)).at_ (b' := w.heap.size + 1) (by simp only [World.alloc, Array.size_push]))
  have BO := Lib.hid (((Box.alloc ((w.alloc _).alloc _) _ _).grow hg).at_ (b' := w.heap.size + 1 + 1) (by simp only [World.alloc, Array.size_push]))
  have HF1 : Hid (∀ x ∈ fp1, w.heap.size + 1 + 1 < x) := Lib.hid (fun x hx => by have h1 := hf x hx; simp only [World.alloc, Array.size_push] at h1; omega)
  clear ho hf hg hG
  have ⟨p0, p1, p2, p3, p4, p5⟩ := BP.out.six
  have pl := BP.out.1
  have ⟨q0, q1, q2, q3, q4, q5⟩ := BO.out.six
  have qz := BO.out.2.2
  have ql := BO.out.1
  go_wp2_with fail
  refine at_world (w := w) ?G (fun hG => (to_A _ _ d.acts (HA.out.grow hG) SA.out).mono ?_)
  case G => (((repeat (first | with_reducible exact Grow.refl _ | (with_reducible refine Grow.alloc_ ?_ _) | (with_reducible refine Grow.setCell_ ?_ (by first | exact Nat.le_refl _ | (simp only [World.alloc, Array.size_push]; omega) | omega) _)))); exact HG1.out)
  rintro e w2 ⟨va, fp2, rfl, ho2, hf2, hg⟩
  obtain ⟨a2, c2, rfl⟩ := ho2.rd.sh
  have HG2 := Lib.hid (hG.trans hg)
  have BO2 := Lib.hid (((BO.out.set 2 (.slice a0 d.m.vs.length c0) (by simp)).set 3 (.slice a1 d.m.ms.length c1) (by simp)).grow hg)
  have U1 := Lib.hid (Upd.setCell (Upd.one_cell w1 (w.heap.size + 1 + 1) 2 (.slice a0 d.m.vs.length c0)) (p := ⟨w.heap.size + 1 + 1, 3, none⟩) (by simp) (.slice a1 d.m.ms.length c1))
  have BR2 := Lib.hid ((BR.out.upd U1.out (by simp)).grow hg)
  have BP2 := Lib.hid ((BP.out.upd U1.out (by simp; omega)).grow hg)
  have HO1 := Lib.hid ((HO.out.upd U1.out (fun x hx hm => by have := HF1.out x hx; simp only [List.mem_cons, List.not_mem_nil, or_false] at hm; omega)).grow hg)
  have HO2 := Lib.hid ho2
  have HF2 : Hid (∀ x ∈ fp2, w.heap.size + 1 + 1 < x) := Lib.hid (fun x hx => by have h1 := hf2 x hx; have h2 := BO.out.1; have h3 := U1.out.size; omega)
  have DJ : Hid (∀ x ∈ fp1, x ∉ fp2) := Lib.hid (fun x hx hm => by have h1 := HO.out.here x hx; have h2 := hf2 x hm; have h3 := U1.out.size; omega)
  have HR : Hid (∀ W, Upd [w.heap.size + 1 + 1, w.heap.size + 1] w2 W → RetNew OwnE2 d w (.returned (.agg #[.int .i64 d.epoch, .int .i64 d.prio, .slice a0 d.m.vs.length c0, .slice a1 d.m.ms.length c1, .slice a2 d.acts.length c2, .int .i64 d.hits])) W) := Lib.hid (fun W hu => by
    have o1 := HO1.out.upd hu (fun x hx hm => by have := HF1.out x hx; simp only [List.mem_cons, List.not_mem_nil, or_false] at hm; omega)
    have o2 := HO2.out.upd hu (fun x hx hm => by have := HF2.out x hx; simp only [List.mem_cons, List.not_mem_nil, or_false] at hm; omega)
    obtain ⟨u0, u1, f0, f1, e, ef, hd, k0, k1⟩ := o1
    obtain ⟨rfl, rfl⟩ : Value.slice a0 d.m.vs.length c0 = u0 ∧ Value.slice a1 d.m.ms.length c1 = u1 := by simpa using e
    subst ef
    refine ⟨_, (f0 ++ f1) ++ fp2, rfl, ⟨_, _, _, f0, f1, fp2, rfl, k0, k1, o2, rfl, hd, DJ.out⟩, fun x hx => ?_, HG2.out.box_end hu (by intro b hb; simp only [List.mem_cons, List.not_mem_nil, or_false] at hb; omega)⟩
    rcases List.mem_append.1 hx with h | h
    · have := HF1.out x h; omega
    · have := HF2.out x h; omega)
  have HGW := Lib.hid HG2.out
  clear ho2 hf2 hG hg p0 p1 p2 p3 p4 p5 pl q0 q1 q2 q3 q4 q5 qz ql
  have ⟨p0, p1, p2, p3, p4, p5⟩ := BP2.out.six
  have pl := BP2.out.1
  have ⟨r0, r1, r2, r3, r4, r5⟩ := BR2.out.six
  have rz := BR2.out.2.2
  have rl := BR2.out.1
  have ⟨q0, q1, q2, q3, q4, q5⟩ := BO2.out.six
  have qz := BO2.out.2.2
  have ql := BO2.out.1
  go_wp2
  refine bodyPost_ret (v := .agg #[.int .i64 d.epoch, .int .i64 d.prio, .slice a0 d.m.vs.length c0, .slice a1 d.m.ms.length c1, .slice a2 d.acts.length c2, .int .i64 d.hits]) ?_ rfl (HR.out _ ?_)
  · simp [results, Try.results49, go_sem, r0, r1, r2, r3, r4, r5, rz, rl, q0, q1, q2, q3, q4, q5, qz, ql]
  · ((repeat (first | with_reducible exact Upd.refl _ _ | (with_reducible refine Upd.setCell ?_ (by simp) _))))
--%
end Go.Proofs.Ytgigdpdmdldhnaa
