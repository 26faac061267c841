/- FnCovers: the walk of the law. -/
import Derived.Test.YtkkhkojojnebjaaDrn
import Derived.Test.YtkkhkojojnebjaaPlc
import Derived.Test.YtkkhkojojnebjaaMi
import Derived.Test.YtkkhkojojnebjaaMoi
import Derived.Test.YtkkhkojojnebjaaOpn
import Derived.WalkKit
import Derived.ProofKit
import Derived.OpenShut
import Derived.ShutString
import Derived.ChangeOld
import Derived.Below
import Derived.SizedLaws
import Derived.WalkSpells
import Derived.Deep.QuietTactic
import Derived.BigQuiet
import Derived.Outline
namespace Go.Proofs.Ytkkhkojojnebjaa
open Go.ChangeShapes Go.WideShapes Go.ChangeAt Go.RowKit
open Go.ChangeMaps (open_string shut_string)
set_option linter.unusedVariables false
set_option linter.unusedSimpArgs false
--%
/-- Two matches and a head in hand: the slots of the results (older), the boxes, the rows. -/
structure T3 (w W : World) (p R1 R2 R3 ba bb bh gh ch : Nat) (a0 a1 b0 b1 : Value) (av am bv bw hs : List Int) : Prop where
  d : DS w W p
  r1 : Box W R1 [.slice none 0 0, .slice none 0 0]
  r2 : Box W R2 [.slice none 0 0, .slice none 0 0]
  r3 : Box W R3 [.slice none 0 0]
  fa : Bx w W ba [a0, a1]
  fb : Bx w W bb [b0, b1]
  fh : Bx w W bh [.slice (some ⟨gh, 0, none⟩) 8 ch]
  oa0 : ON w W a0 av
  oa1 : ON w W a1 am
  ob0 : ON w W b0 bv
  ob1 : ON w W b1 bw
  oh : ON w W (.slice (some ⟨gh, 0, none⟩) 8 ch) hs
  nr : R1 < w.heap.size ∧ R2 < w.heap.size ∧ R3 < w.heap.size ∧ R1 ≠ p ∧ R2 ≠ p ∧ R3 ≠ p ∧ R1 ≠ R2 ∧ R1 ≠ R3 ∧ R2 ≠ R3
  ng : ba ≠ gh ∧ bb ≠ gh ∧ bh ≠ gh
  nf : ∀ x, x ∈ fpOf a0 ∨ x ∈ fpOf a1 ∨ x ∈ fpOf b0 ∨ x ∈ fpOf b1 → x ≠ gh
theorem T3.call {w W W' : World} {p R1 R2 R3 ba bb bh gh ch : Nat} {a0 a1 b0 b1 : Value} {av am bv bw hs : List Int} (h : T3 w W p R1 R2 R3 ba bb bh gh ch a0 a1 b0 b1 av am bv bw hs) (hC : Cur W' p) (hU : Upd [p] W W') : T3 w W' p R1 R2 R3 ba bb bh gh ch a0 a1 b0 b1 av am bv bw hs :=
  ⟨h.d.call hC hU, h.r1.upd hU (by have := h.nr; simp; omega), h.r2.upd hU (by have := h.nr; simp; omega), h.r3.upd hU (by have := h.nr; simp; omega), h.fa.call h.d hU, h.fb.call h.d hU, h.fh.call h.d hU, h.oa0.call h.d hU, h.oa1.call h.d hU, h.ob0.call h.d hU, h.ob1.call h.d hU, h.oh.call h.d hU, h.nr, h.ng, h.nf⟩
theorem T3.grow {w W W' : World} {p R1 R2 R3 ba bb bh gh ch : Nat} {a0 a1 b0 b1 : Value} {av am bv bw hs : List Int} (h : T3 w W p R1 R2 R3 ba bb bh gh ch a0 a1 b0 b1 av am bv bw hs) (g : Grow W W') : T3 w W' p R1 R2 R3 ba bb bh gh ch a0 a1 b0 b1 av am bv bw hs :=
  ⟨h.d.grow g, h.r1.grow g, h.r2.grow g, h.r3.grow g, h.fa.grow g, h.fb.grow g, h.fh.grow g, h.oa0.grow g, h.oa1.grow g, h.ob0.grow g, h.ob1.grow g, h.oh.grow g, h.nr, h.ng, h.nf⟩
theorem T3.put {w W : World} {p R1 R2 R3 ba bb bh gh ch : Nat} {a0 a1 b0 b1 : Value} {av am bv bw hs : List Int} (h : T3 w W p R1 R2 R3 ba bb bh gh ch a0 a1 b0 b1 av am bv bw hs) (k : Nat) (hk : k < 8) (x : Int) : T3 w (W.setCell ⟨gh, k, none⟩ (.int .i64 x)) p R1 R2 R3 ba bb bh gh ch a0 a1 b0 b1 av am bv bw (hs.set k x) := by
  have u : Upd [gh] W (W.setCell ⟨gh, k, none⟩ (.int .i64 x)) := Upd.setCell (p := ⟨gh, k, none⟩) (Upd.refl [gh] W) (by simp) _
  have hg := (own_new_ h.oh gh (by simp [fpOf, Value.ownBlock])).1
  have nr := h.nr; have ng := h.ng
  have f : ∀ {v : Value}, (∀ x ∈ fpOf v, x ≠ gh) → ∀ x ∈ fpOf v, x ∉ [gh] := fun k x hx hm => by simp only [List.mem_cons, List.not_mem_nil, or_false] at hm; exact k x hx hm
  exact ⟨ON.set_ h.d h.oh k _, h.r1.upd u (by simp; omega), h.r2.upd u (by simp; omega), h.r3.upd u (by simp; omega), h.fa.own u (by simp; omega), h.fb.own u (by simp; omega), h.fh.own u (by simp; omega),
    own_apart h.oa0 u (f fun x hx => h.nf x (.inl hx)), own_apart h.oa1 u (f fun x hx => h.nf x (.inr (.inl hx))), own_apart h.ob0 u (f fun x hx => h.nf x (.inr (.inr (.inl hx)))), own_apart h.ob1 u (f fun x hx => h.nf x (.inr (.inr (.inr hx)))), h.oh.put k (by have := h.oh.len; omega) x, h.nr, h.ng, h.nf⟩
/-- Three drawn things. -/
def RetThree (w : World) (e : Ending) (w' : World) : Prop := ∃ a0 a1 b0 b1 v av am bv bw hs, e = .returned (.tuple #[.agg #[a0, a1], .agg #[b0, b1], .agg #[v]]) ∧ (RdN w' a0 av ∧ RdN w' a1 am ∧ RdN w' b0 bv ∧ RdN w' b1 bw ∧ RdN w' v hs) ∧ (WfN av ∧ WfN am ∧ WfN bv ∧ WfN bw ∧ WfN hs) ∧ Grow w w'
theorem T3.keep {w0 w W W' : World} {p R1 R2 R3 ba bb bh gh ch : Nat} {a0 a1 b0 b1 : Value} {av am bv bw hs : List Int} (h : T3 w W p R1 R2 R3 ba bb bh gh ch a0 a1 b0 b1 av am bv bw hs) (g : Grow w0 w) (h0 : w0.heap.size ≤ p ∧ w0.heap.size ≤ R1 ∧ w0.heap.size ≤ R2 ∧ w0.heap.size ≤ R3) (u : Upd [R1, R2, R3] W W') : (RdN W' a0 av ∧ RdN W' a1 am ∧ RdN W' b0 bv ∧ RdN W' b1 bw ∧ RdN W' (.slice (some ⟨gh, 0, none⟩) 8 ch) hs) ∧ Grow w0 W' := by
  have nr := h.nr
  have f : ∀ {v : Value} {zs : List Int}, ON w W v zs → RdN W' v zs := fun o => (OwnR.of (own_apart o u (fun x hx hm => by
    have := (own_new_ o x hx).1
    simp only [List.mem_cons, List.not_mem_nil, or_false] at hm; omega))).1.rd
  refine ⟨⟨f h.oa0, f h.oa1, f h.ob0, f h.ob1, f h.oh⟩, (g.then_upd h.d.upd (fun x hx => ?_)).then_upd u (fun x hx => ?_)⟩ <;> (simp only [List.mem_cons, List.not_mem_nil, or_false] at hx; omega)
--% spec.MakeThree 55
set_option maxRecDepth 20000 in
set_option maxHeartbeats 4000000 in
theorem makeThree_any (w : World) (v : Value) (cs : List Int) (h : RdB w v cs) (hb : Bytes cs) (hm : cs.length ≤ 1048576) : Calls Try.prog 55 #[v] w (RetThree w) := by
  have HV := Lib.hid h; have HB : Hid (Bytes cs) := Lib.hid hb
  clear h hb
  go_enter Try.func55, Try.ntmps55
  go_wp2_with fail
  have g1 := Grow.alloc w (.cells #[.slice none 0 0, .slice none 0 0] 41)
  have g2 := Grow.alloc (w.alloc (.cells #[.slice none 0 0, .slice none 0 0] 41)) (.cells #[.slice none 0 0, .slice none 0 0] 41)
  have g3 := Grow.alloc ((w.alloc (.cells #[.slice none 0 0, .slice none 0 0] 41)).alloc (.cells #[.slice none 0 0, .slice none 0 0] 41)) (.cells #[.slice none 0 0] 27)
  have R1B : Hid (Box (((w.alloc (.cells #[.slice none 0 0, .slice none 0 0] 41)).alloc (.cells #[.slice none 0 0, .slice none 0 0] 41)).alloc (.cells #[.slice none 0 0] 27)) w.heap.size [.slice none 0 0, .slice none 0 0]) := Lib.hid ((Box.alloc w [.slice none 0 0, .slice none 0 0] 41).grow (g2.trans g3))
  have R2B : Hid (Box (((w.alloc (.cells #[.slice none 0 0, .slice none 0 0] 41)).alloc (.cells #[.slice none 0 0, .slice none 0 0] 41)).alloc (.cells #[.slice none 0 0] 27)) (w.heap.size + 1) [.slice none 0 0, .slice none 0 0]) := Lib.hid (((Box.alloc (w.alloc (.cells #[.slice none 0 0, .slice none 0 0] 41)) [.slice none 0 0, .slice none 0 0] 41).at_ (by simp only [World.alloc, Array.size_push])).grow g3)
  have R3B : Hid (Box (((w.alloc (.cells #[.slice none 0 0, .slice none 0 0] 41)).alloc (.cells #[.slice none 0 0, .slice none 0 0] 41)).alloc (.cells #[.slice none 0 0] 27)) (w.heap.size + 1 + 1) [.slice none 0 0]) := Lib.hid ((Box.alloc ((w.alloc (.cells #[.slice none 0 0, .slice none 0 0] 41)).alloc (.cells #[.slice none 0 0, .slice none 0 0] 41)) [.slice none 0 0] 27).at_ (by simp only [World.alloc, Array.size_push]))
  have G0 := Lib.hid ((g1.trans g2).trans g3)
  clear g1 g2 g3
  generalize (((w.alloc (.cells #[.slice none 0 0, .slice none 0 0] 41)).alloc (.cells #[.slice none 0 0, .slice none 0 0] 41)).alloc (.cells #[.slice none 0 0] 27)) = W0 at *
  refine (l01New_any _ _ cs (HV.out.grow G0.out) HB.out hm).mono ?_
  rintro e w1 ⟨p, rfl, hC, hp, hg⟩
  have D := Lib.hid (DS.start hC)
  have G1 := Lib.hid (G0.out.trans hg)
  have NP : Hid (w.heap.size + 1 + 1 < p ∧ w.heap.size + 1 + 1 < w1.heap.size) := Lib.hid ⟨Nat.lt_of_lt_of_le R3B.out.1 hp, (R3B.out.grow hg).1⟩
  replace R1B := Lib.hid (R1B.out.grow hg); replace R2B := Lib.hid (R2B.out.grow hg); replace R3B := Lib.hid (R3B.out.grow hg)
  clear hC hp hg G0
  go_wp2_with fail
  refine (l05Two_any _ p D.out.cur).mono ?_
  rintro e w2 ⟨z0, z1, y0, y1, av, am, bv, bw, rfl, ⟨o0, o1, o2, o3⟩, ⟨v0, v1, v2, v3⟩, hC, hU⟩
  have WAV := Lib.hid v0; have WAM := Lib.hid v1; have WBV := Lib.hid v2; have WBM := Lib.hid v3
  have OA0 := Lib.hid o0; have OA1 := Lib.hid o1; have OB0 := Lib.hid o2; have OB1 := Lib.hid o3
  obtain ⟨a0, ca0, rfl⟩ := own_shape o0
  obtain ⟨a1, ca1, rfl⟩ := own_shape o1
  obtain ⟨b0, cb0, rfl⟩ := own_shape o2
  obtain ⟨b1, cb1, rfl⟩ := own_shape o3
  replace R1B := Lib.hid (R1B.out.upd hU (by have := NP.out; simp; omega)); replace R2B := Lib.hid (R2B.out.upd hU (by have := NP.out; simp; omega)); replace R3B := Lib.hid (R3B.out.upd hU (by have := NP.out; simp; omega))
  replace D := Lib.hid (D.out.call hC hU)
  have ga := Lib.hid ((Grow.alloc w2 (.cells #[.slice a0 av.length ca0, .slice a1 am.length ca1] 41)).trans (Grow.alloc (w2.alloc (.cells #[.slice a0 av.length ca0, .slice a1 am.length ca1] 41)) (.cells #[.slice b0 bv.length cb0, .slice b1 bw.length cb1] 41)))
  have FA : Hid (Bx w1 ((w2.alloc (.cells #[.slice a0 av.length ca0, .slice a1 am.length ca1] 41)).alloc (.cells #[.slice b0 bv.length cb0, .slice b1 bw.length cb1] 41)) w2.heap.size [.slice a0 av.length ca0, .slice a1 am.length ca1]) := Lib.hid ((Bx.new D.out [.slice a0 av.length ca0, .slice a1 am.length ca1] 41).grow (Grow.alloc _ _))
  have FB : Hid (Bx w1 ((w2.alloc (.cells #[.slice a0 av.length ca0, .slice a1 am.length ca1] 41)).alloc (.cells #[.slice b0 bv.length cb0, .slice b1 bw.length cb1] 41)) (w2.heap.size + 1) [.slice b0 bv.length cb0, .slice b1 bw.length cb1]) := Lib.hid ⟨(Box.alloc (w2.alloc (.cells #[.slice a0 av.length ca0, .slice a1 am.length ca1] 41)) [.slice b0 bv.length cb0, .slice b1 bw.length cb1] 41).at_ (by simp only [World.alloc, Array.size_push]), by have := D.out.size; omega⟩
  have NX : Hid (∀ x, x ∈ fpOf (.slice a0 av.length ca0) ∨ x ∈ fpOf (.slice a1 am.length ca1) ∨ x ∈ fpOf (.slice b0 bv.length cb0) ∨ x ∈ fpOf (.slice b1 bw.length cb1) → x < w2.heap.size) := Lib.hid (fun x hx => by
    rcases hx with k | k | k | k
    · exact (own_new_ o0 x k).2
    · exact (own_new_ o1 x k).2
    · exact (own_new_ o2 x k).2
    · exact (own_new_ o3 x k).2)
  replace R1B := Lib.hid (R1B.out.grow ga.out); replace R2B := Lib.hid (R2B.out.grow ga.out); replace R3B := Lib.hid (R3B.out.grow ga.out)
  replace OA0 := Lib.hid (OA0.out.grow ga.out); replace OA1 := Lib.hid (OA1.out.grow ga.out); replace OB0 := Lib.hid (OB0.out.grow ga.out); replace OB1 := Lib.hid (OB1.out.grow ga.out)
  replace D := Lib.hid (D.out.grow ga.out)
  clear o0 o1 o2 o3 v0 v1 v2 v3 hC hU ga
  go_wp2_with fail
  generalize (w2.alloc (.cells #[.slice a0 av.length ca0, .slice a1 am.length ca1] 41)).alloc (.cells #[.slice b0 bv.length cb0, .slice b1 bw.length cb1] 41) = W2 at *
  obtain ⟨ba, hba⟩ : ∃ b, w2.heap.size = b := ⟨_, rfl⟩
  rw [hba] at FA FB NX ⊢
  obtain ⟨bb, hbb⟩ : ∃ b, ba + 1 = b := ⟨_, rfl⟩
  rw [hbb] at FB ⊢
  have hb1 : Hid (ba < bb) := Lib.hid (by omega)
  clear hba hbb
  refine (l04Head_any _ p D.out.cur).mono ?_
  rintro e w3 ⟨v, hs, rfl, ho, hw, -, h8, hC, hU⟩
  obtain ⟨a, ch, rfl⟩ := own_shape ho
  obtain ⟨gh, rfl⟩ := own_some ho (by have := h8 rfl; omega)
  rw [h8 rfl] at ho ⊢
  have WH := Lib.hid hw
  have S : Hid (T3 w1 (w3.alloc (.cells #[.slice (some ⟨gh, 0, none⟩) 8 ch] 27)) p w.heap.size (w.heap.size + 1) (w.heap.size + 1 + 1) ba bb w3.heap.size gh ch (.slice a0 av.length ca0) (.slice a1 am.length ca1) (.slice b0 bv.length cb0) (.slice b1 bw.length cb1) av am bv bw hs) := Lib.hid (by
    have g := Grow.alloc w3 (.cells #[.slice (some ⟨gh, 0, none⟩) 8 ch] 27)
    have n := NP.out
    have nh := own_new_ ho gh (by simp [fpOf, Value.ownBlock])
    have z1 := FA.out.1.1; have z2 := FB.out.1.1; have z3 := hb1.out
    have D1 := D.out.call hC hU
    refine ⟨D1.grow g, (R1B.out.upd hU (by simp; omega)).grow g, (R2B.out.upd hU (by simp; omega)).grow g, (R3B.out.upd hU (by simp; omega)).grow g, (FA.out.call D.out hU).grow g, (FB.out.call D.out hU).grow g, Bx.new D1 [.slice (some ⟨gh, 0, none⟩) 8 ch] 27, (OA0.out.call D.out hU).grow g, (OA1.out.call D.out hU).grow g, (OB0.out.call D.out hU).grow g, (OB1.out.call D.out hU).grow g, ON.grow (own_mono ho D.out.size) g, ?_, ?_, fun x hx => ?_⟩
    · refine ⟨?_, ?_, ?_, ?_, ?_, ?_, ?_, ?_, ?_⟩ <;> omega
    · refine ⟨?_, ?_, ?_⟩ <;> omega
    · have := NX.out x hx; omega)
  have NR : Hid (w.heap.size ≤ p ∧ w.heap.size ≤ w.heap.size ∧ w.heap.size ≤ w.heap.size + 1 ∧ w.heap.size ≤ w.heap.size + 1 + 1) := Lib.hid (by have := NP.out; omega)
  clear ho hw h8 hC hU FA FB NX OA0 OA1 OB0 OB1 R1B R2B R3B D NP hb1
  have ⟨q0, q1⟩ := (S.out.fb.1.two)
  have ql := S.out.fb.1.1
  go_wp2_with fail
  clear q0 q1 ql
  generalize w3.alloc (.cells #[.slice (some ⟨gh, 0, none⟩) 8 ch] 27) = W3 at *
  generalize w3.heap.size = bh at *
  have NR' : ∃ R1 R2 R3, R1 = w.heap.size ∧ R2 = w.heap.size + 1 ∧ R3 = w.heap.size + 1 + 1 := ⟨_, _, _, rfl, rfl, rfl⟩
  obtain ⟨R1, R2, R3, h1, h2, h3⟩ := NR'
  rw [← h3, ← h2, ← h1] at S ⊢
  replace NR : Hid (w.heap.size ≤ p ∧ w.heap.size ≤ R1 ∧ w.heap.size ≤ R2 ∧ w.heap.size ≤ R3) := Lib.hid (by have := NR.out; omega)
  clear h1 h2 h3
  refine (matchOkS_any _ _ ⟨bv, bw⟩ ⟨_, _, rfl, S.out.ob0.rd, S.out.ob1.rd⟩ ⟨WBV.out, WBM.out⟩).mono ?_
  rintro e w4 ⟨rfl, hg⟩
  replace S := Lib.hid (S.out.grow hg)
  clear hg
  cases hok : mtOk ⟨bv, bw⟩
  · go_wp2_with fail
    replace S := Lib.hid (S.out.grow (Grow.drewN w4 1))
    obtain ⟨C, hC⟩ : ∃ C : World → Prop, C = fun W => Box W ba [.slice a0 av.length ca0, .slice a1 am.length ca1] ∧ Box W bb [.slice b0 bv.length cb0, .slice b1 bw.length cb1] ∧ Box W bh [.slice (some ⟨gh, 0, none⟩) 8 ch] := ⟨_, rfl⟩
    have CC : Hid (∀ W, C W → Box W ba [.slice a0 av.length ca0, .slice a1 am.length ca1] ∧ Box W bb [.slice b0 bv.length cb0, .slice b1 bw.length cb1] ∧ Box W bh [.slice (some ⟨gh, 0, none⟩) 8 ch]) := Lib.hid (fun W h => by rw [hC] at h; exact h)
    have MK : Hid (∀ W, Box W ba [.slice a0 av.length ca0, .slice a1 am.length ca1] ∧ Box W bb [.slice b0 bv.length cb0, .slice b1 bw.length cb1] ∧ Box W bh [.slice (some ⟨gh, 0, none⟩) 8 ch] → C W) := Lib.hid (fun W h => by rw [hC]; exact h)
    clear hC
    have c0 : Hid (C (w4.drewN 1)) := Lib.hid (MK.out _ ⟨S.out.fa.1, S.out.fb.1, S.out.fh.1⟩)
    have hne : Nonempty (Cl C) := ⟨⟨_, c0.out⟩⟩
    have p0 : ∀ x : Cl C, x.w.cell? ⟨ba, 0, none⟩ = some (.slice a0 av.length ca0) := fun x => (CC.out x.w x.ok).1.two.1
    have p1 : ∀ x : Cl C, x.w.cell? ⟨ba, 1, none⟩ = some (.slice a1 am.length ca1) := fun x => (CC.out x.w x.ok).1.two.2
    have p2 : ∀ x : Cl C, x.w.cell? ⟨bb, 0, none⟩ = some (.slice b0 bv.length cb0) := fun x => (CC.out x.w x.ok).2.1.two.1
    have p3 : ∀ x : Cl C, x.w.cell? ⟨bb, 1, none⟩ = some (.slice b1 bw.length cb1) := fun x => (CC.out x.w x.ok).2.1.two.2
    have p4 : ∀ x : Cl C, x.w.cell? ⟨bh, 0, none⟩ = some (.slice (some ⟨gh, 0, none⟩) 8 ch) := fun x => (CC.out x.w x.ok).2.2.one
    refine wp_region_last (Cls C) 5 6 #[false, false, false, false, false, false] (by kernel_rfl) (by kernel_rfl) ?_
    refine anyL_seg [0, 1, 2] #[true, true, true, false, false, false] (fuel := 3) rfl (by kernel_rfl) ⟨⟨_, c0.out⟩, rfl⟩ ?_
    simp only [pickOps, List.getD_cons_succ, List.getD_cons_zero]
    repeat (go_big_quiet_step (fail))
    refine wpQuiet_nil ?_
    refine anyL_sole 3 #[true, true, true, true, false, false] (fuel := 2) (by kernel_rfl) ?_
    simp only [List.getD_cons_succ, List.getD_cons_zero]
    have ⟨r0, r1⟩ := S.out.r1.two; have rz := S.out.r1.2.2; have rl := S.out.r1.1
    have ⟨s0, s1⟩ := S.out.r2.two; have sz := S.out.r2.2.2; have sl := S.out.r2.1
    have t0 := S.out.r3.one; have tz := S.out.r3.2.2; have tl := S.out.r3.1
    have nr := S.out.nr
    have n1 : ¬ R1 = R2 := nr.2.2.2.2.2.2.1
    have n2 : ¬ R1 = R3 := nr.2.2.2.2.2.2.2.1
    have n3 : ¬ R2 = R3 := nr.2.2.2.2.2.2.2.2
    have n4 : ¬ R2 = R1 := fun h => n1 h.symm
    have n5 : ¬ R3 = R1 := fun h => n2 h.symm
    have n6 : ¬ R3 = R2 := fun h => n3 h.symm
    clear nr
    have NB : Hid (∀ q ∈ [R1, R2], ba ≠ q ∧ bb ≠ q ∧ bh ≠ q) := Lib.hid (fun q hq => by
      have h1 := S.out.nr; have h2 := S.out.fa.2; have h3 := S.out.fb.2; have h4 := S.out.fh.2
      simp only [List.mem_cons, List.not_mem_nil, or_false] at hq; omega)
    have U1 : Hid (Upd [R1] (w4.drewN 1) (World.setCell (World.setCell (w4.drewN 1) ⟨R1, 0, none⟩ (.slice a0 av.length ca0)) ⟨R1, 1, none⟩ (.slice a1 am.length ca1))) := Lib.hid (Upd.setCell (p := ⟨R1, 1, none⟩) (Upd.setCell (p := ⟨R1, 0, none⟩) (Upd.refl [R1] (w4.drewN 1)) (by simp) _) (by simp) _)
    have U2 : Hid (Upd [R2] (World.setCell (World.setCell (w4.drewN 1) ⟨R1, 0, none⟩ (.slice a0 av.length ca0)) ⟨R1, 1, none⟩ (.slice a1 am.length ca1)) (World.setCell (World.setCell (World.setCell (World.setCell (w4.drewN 1) ⟨R1, 0, none⟩ (.slice a0 av.length ca0)) ⟨R1, 1, none⟩ (.slice a1 am.length ca1)) ⟨R2, 0, none⟩ (.slice b0 bv.length cb0)) ⟨R2, 1, none⟩ (.slice b1 bw.length cb1))) := Lib.hid (Upd.setCell (p := ⟨R2, 1, none⟩) (Upd.setCell (p := ⟨R2, 0, none⟩) (Upd.refl [R2] (World.setCell (World.setCell (w4.drewN 1) ⟨R1, 0, none⟩ (.slice a0 av.length ca0)) ⟨R1, 1, none⟩ (.slice a1 am.length ca1))) (by simp) _) (by simp) _)
    have c1 : Hid (C (World.setCell (World.setCell (w4.drewN 1) ⟨R1, 0, none⟩ (.slice a0 av.length ca0)) ⟨R1, 1, none⟩ (.slice a1 am.length ca1))) := Lib.hid (MK.out _ (by
      have k := CC.out _ c0.out
      have n := NB.out R1 (by simp)
      exact ⟨k.1.upd U1.out (by simp; omega), k.2.1.upd U1.out (by simp; omega), k.2.2.upd U1.out (by simp; omega)⟩))
    have c2 : Hid (C (World.setCell (World.setCell (World.setCell (World.setCell (w4.drewN 1) ⟨R1, 0, none⟩ (.slice a0 av.length ca0)) ⟨R1, 1, none⟩ (.slice a1 am.length ca1)) ⟨R2, 0, none⟩ (.slice b0 bv.length cb0)) ⟨R2, 1, none⟩ (.slice b1 bw.length cb1))) := Lib.hid (MK.out _ (by
      have k := CC.out _ c1.out
      have n := NB.out R2 (by simp)
      exact ⟨k.1.upd U2.out (by simp; omega), k.2.1.upd U2.out (by simp; omega), k.2.2.upd U2.out (by simp; omega)⟩))
    go_wp2
    refine ⟨⟨⟨_, c1.out⟩, rfl⟩, ?_⟩
    refine anyL_sole 4 #[true, true, true, true, true, false] (fuel := 1) (by kernel_rfl) ?_
    simp only [List.getD_cons_succ, List.getD_cons_zero]
    go_wp2
    refine ⟨⟨⟨_, c2.out⟩, rfl⟩, ?_⟩
    refine anyL_last (by kernel_rfl) ?_
    simp only [List.getD_cons_succ, List.getD_cons_zero]
    go_wp2
    refine ⟨trivial, ?_⟩
    clear p0 p1 p2 p3 p4 c0 c1 c2 hne
    have HR : Hid (∀ W, Upd [R1, R2, R3] (w4.drewN 1) W → RetThree w (.returned (.tuple #[.agg #[.slice a0 av.length ca0, .slice a1 am.length ca1], .agg #[.slice b0 bv.length cb0, .slice b1 bw.length cb1], .agg #[.slice (some ⟨gh, 0, none⟩) 8 ch]])) W) := Lib.hid (fun W hu => by
      have k := S.out.keep G1.out NR.out hu
      exact ⟨_, _, _, _, _, _, _, _, _, _, rfl, k.1, ⟨WAV.out, WAM.out, WBV.out, WBM.out, WH.out⟩, k.2⟩)
    go_wp2
    refine bodyPost_ret (v := .tuple #[.agg #[.slice a0 av.length ca0, .slice a1 am.length ca1], .agg #[.slice b0 bv.length cb0, .slice b1 bw.length cb1], .agg #[.slice (some ⟨gh, 0, none⟩) 8 ch]]) ?_ rfl (HR.out _ ?_)
    · simp [results, Try.results55, go_sem, r0, r1, rz, rl, s0, s1, sz, sl, t0, tz, tl, n1, n2, n3, n4, n5, n6] <;> omega
    · ((repeat (first | with_reducible exact Upd.refl _ _ | (with_reducible refine Upd.setCell ?_ (by simp) _))))
  have LB : Hid (bv.length = 8 ∧ bw.length = 8) := Lib.hid ⟨(mtOk_iff.1 hok).1, (hdOk_at (mtOk_iff.1 hok).2.1).1⟩
  clear hok
  obtain ⟨e0, e1⟩ := LB.out
  obtain ⟨g0, rfl⟩ := own_some S.out.ob0 (by omega)
  obtain ⟨g1, rfl⟩ := own_some S.out.ob1 (by omega)
  rw [e0, e1] at S ⊢
  clear e0 e1
  generalize cb0 = dc0 at *
  generalize cb1 = dc1 at *
  go_wp2_with fail
  refine (l01Below_any _ p 2 (by decide) S.out.d.cur).mono ?_
  rintro e w5 ⟨x5, rfl, h5a, h5b, -, hC, hU⟩
  have h5b := h5b (by decide)
  replace S := Lib.hid (S.out.call hC hU)
  clear hC hU
  by_cases k5 : x5 = 0
  rotate_left
  · have hk5 : (x5 == 0) = false := by simpa using k5
    go_wp2_with fail
    replace S := Lib.hid (S.out.grow (Grow.drewN w5 1))
    obtain ⟨C, hC⟩ : ∃ C : World → Prop, C = fun W => Box W ba [.slice a0 av.length ca0, .slice a1 am.length ca1] ∧ Box W bb [.slice (some ⟨g0, 0, none⟩) 8 dc0, .slice (some ⟨g1, 0, none⟩) 8 dc1] ∧ Box W bh [.slice (some ⟨gh, 0, none⟩) 8 ch] := ⟨_, rfl⟩
    have CC : Hid (∀ W, C W → Box W ba [.slice a0 av.length ca0, .slice a1 am.length ca1] ∧ Box W bb [.slice (some ⟨g0, 0, none⟩) 8 dc0, .slice (some ⟨g1, 0, none⟩) 8 dc1] ∧ Box W bh [.slice (some ⟨gh, 0, none⟩) 8 ch]) := Lib.hid (fun W h => by rw [hC] at h; exact h)
    have MK : Hid (∀ W, Box W ba [.slice a0 av.length ca0, .slice a1 am.length ca1] ∧ Box W bb [.slice (some ⟨g0, 0, none⟩) 8 dc0, .slice (some ⟨g1, 0, none⟩) 8 dc1] ∧ Box W bh [.slice (some ⟨gh, 0, none⟩) 8 ch] → C W) := Lib.hid (fun W h => by rw [hC]; exact h)
    clear hC
    have c0 : Hid (C (w5.drewN 1)) := Lib.hid (MK.out _ ⟨S.out.fa.1, S.out.fb.1, S.out.fh.1⟩)
    have hne : Nonempty (Cl C) := ⟨⟨_, c0.out⟩⟩
    have p0 : ∀ x : Cl C, x.w.cell? ⟨ba, 0, none⟩ = some (.slice a0 av.length ca0) := fun x => (CC.out x.w x.ok).1.two.1
    have p1 : ∀ x : Cl C, x.w.cell? ⟨ba, 1, none⟩ = some (.slice a1 am.length ca1) := fun x => (CC.out x.w x.ok).1.two.2
    have p2 : ∀ x : Cl C, x.w.cell? ⟨bb, 0, none⟩ = some (.slice (some ⟨g0, 0, none⟩) 8 dc0) := fun x => (CC.out x.w x.ok).2.1.two.1
    have p3 : ∀ x : Cl C, x.w.cell? ⟨bb, 1, none⟩ = some (.slice (some ⟨g1, 0, none⟩) 8 dc1) := fun x => (CC.out x.w x.ok).2.1.two.2
    have p4 : ∀ x : Cl C, x.w.cell? ⟨bh, 0, none⟩ = some (.slice (some ⟨gh, 0, none⟩) 8 ch) := fun x => (CC.out x.w x.ok).2.2.one
    refine wp_region_last (Cls C) 5 6 #[false, false, false, false, false, false] (by kernel_rfl) (by kernel_rfl) ?_
    refine anyL_seg [0, 1, 2] #[true, true, true, false, false, false] (fuel := 3) rfl (by kernel_rfl) ⟨⟨_, c0.out⟩, rfl⟩ ?_
    simp only [pickOps, List.getD_cons_succ, List.getD_cons_zero]
    repeat (go_big_quiet_step (fail))
    refine wpQuiet_nil ?_
    refine anyL_sole 3 #[true, true, true, true, false, false] (fuel := 2) (by kernel_rfl) ?_
    simp only [List.getD_cons_succ, List.getD_cons_zero]
    have ⟨r0, r1⟩ := S.out.r1.two; have rz := S.out.r1.2.2; have rl := S.out.r1.1
    have ⟨s0, s1⟩ := S.out.r2.two; have sz := S.out.r2.2.2; have sl := S.out.r2.1
    have t0 := S.out.r3.one; have tz := S.out.r3.2.2; have tl := S.out.r3.1
    have nr := S.out.nr
    have n1 : ¬ R1 = R2 := nr.2.2.2.2.2.2.1
    have n2 : ¬ R1 = R3 := nr.2.2.2.2.2.2.2.1
    have n3 : ¬ R2 = R3 := nr.2.2.2.2.2.2.2.2
    have n4 : ¬ R2 = R1 := fun h => n1 h.symm
    have n5 : ¬ R3 = R1 := fun h => n2 h.symm
    have n6 : ¬ R3 = R2 := fun h => n3 h.symm
    clear nr
    have NB : Hid (∀ q ∈ [R1, R2], ba ≠ q ∧ bb ≠ q ∧ bh ≠ q) := Lib.hid (fun q hq => by
      have h1 := S.out.nr; have h2 := S.out.fa.2; have h3 := S.out.fb.2; have h4 := S.out.fh.2
      simp only [List.mem_cons, List.not_mem_nil, or_false] at hq; omega)
    have U1 : Hid (Upd [R1] (w5.drewN 1) (World.setCell (World.setCell (w5.drewN 1) ⟨R1, 0, none⟩ (.slice a0 av.length ca0)) ⟨R1, 1, none⟩ (.slice a1 am.length ca1))) := Lib.hid (Upd.setCell (p := ⟨R1, 1, none⟩) (Upd.setCell (p := ⟨R1, 0, none⟩) (Upd.refl [R1] (w5.drewN 1)) (by simp) _) (by simp) _)
    have U2 : Hid (Upd [R2] (World.setCell (World.setCell (w5.drewN 1) ⟨R1, 0, none⟩ (.slice a0 av.length ca0)) ⟨R1, 1, none⟩ (.slice a1 am.length ca1)) (World.setCell (World.setCell (World.setCell (World.setCell (w5.drewN 1) ⟨R1, 0, none⟩ (.slice a0 av.length ca0)) ⟨R1, 1, none⟩ (.slice a1 am.length ca1)) ⟨R2, 0, none⟩ (.slice (some ⟨g0, 0, none⟩) 8 dc0)) ⟨R2, 1, none⟩ (.slice (some ⟨g1, 0, none⟩) 8 dc1))) := Lib.hid (Upd.setCell (p := ⟨R2, 1, none⟩) (Upd.setCell (p := ⟨R2, 0, none⟩) (Upd.refl [R2] (World.setCell (World.setCell (w5.drewN 1) ⟨R1, 0, none⟩ (.slice a0 av.length ca0)) ⟨R1, 1, none⟩ (.slice a1 am.length ca1))) (by simp) _) (by simp) _)
    have c1 : Hid (C (World.setCell (World.setCell (w5.drewN 1) ⟨R1, 0, none⟩ (.slice a0 av.length ca0)) ⟨R1, 1, none⟩ (.slice a1 am.length ca1))) := Lib.hid (MK.out _ (by
      have k := CC.out _ c0.out
      have n := NB.out R1 (by simp)
      exact ⟨k.1.upd U1.out (by simp; omega), k.2.1.upd U1.out (by simp; omega), k.2.2.upd U1.out (by simp; omega)⟩))
    have c2 : Hid (C (World.setCell (World.setCell (World.setCell (World.setCell (w5.drewN 1) ⟨R1, 0, none⟩ (.slice a0 av.length ca0)) ⟨R1, 1, none⟩ (.slice a1 am.length ca1)) ⟨R2, 0, none⟩ (.slice (some ⟨g0, 0, none⟩) 8 dc0)) ⟨R2, 1, none⟩ (.slice (some ⟨g1, 0, none⟩) 8 dc1))) := Lib.hid (MK.out _ (by
      have k := CC.out _ c1.out
      have n := NB.out R2 (by simp)
      exact ⟨k.1.upd U2.out (by simp; omega), k.2.1.upd U2.out (by simp; omega), k.2.2.upd U2.out (by simp; omega)⟩))
    go_wp2
    refine ⟨⟨⟨_, c1.out⟩, rfl⟩, ?_⟩
    refine anyL_sole 4 #[true, true, true, true, true, false] (fuel := 1) (by kernel_rfl) ?_
    simp only [List.getD_cons_succ, List.getD_cons_zero]
    go_wp2
    refine ⟨⟨⟨_, c2.out⟩, rfl⟩, ?_⟩
    refine anyL_last (by kernel_rfl) ?_
    simp only [List.getD_cons_succ, List.getD_cons_zero]
    go_wp2
    refine ⟨trivial, ?_⟩
    clear p0 p1 p2 p3 p4 c0 c1 c2 hne
    have HR : Hid (∀ W, Upd [R1, R2, R3] (w5.drewN 1) W → RetThree w (.returned (.tuple #[.agg #[.slice a0 av.length ca0, .slice a1 am.length ca1], .agg #[.slice (some ⟨g0, 0, none⟩) 8 dc0, .slice (some ⟨g1, 0, none⟩) 8 dc1], .agg #[.slice (some ⟨gh, 0, none⟩) 8 ch]])) W) := Lib.hid (fun W hu => by
      have k := S.out.keep G1.out NR.out hu
      exact ⟨_, _, _, _, _, _, _, _, _, _, rfl, k.1, ⟨WAV.out, WAM.out, WBV.out, WBM.out, WH.out⟩, k.2⟩)
    go_wp2
    refine bodyPost_ret (v := .tuple #[.agg #[.slice a0 av.length ca0, .slice a1 am.length ca1], .agg #[.slice (some ⟨g0, 0, none⟩) 8 dc0, .slice (some ⟨g1, 0, none⟩) 8 dc1], .agg #[.slice (some ⟨gh, 0, none⟩) 8 ch]]) ?_ rfl (HR.out _ ?_)
    · simp [results, Try.results55, go_sem, r0, r1, rz, rl, s0, s1, sz, sl, t0, tz, tl, n1, n2, n3, n4, n5, n6] <;> omega
    · ((repeat (first | with_reducible exact Upd.refl _ _ | (with_reducible refine Upd.setCell ?_ (by simp) _))))

  subst k5
  have q0 := S.out.fh.1.one; have ql := S.out.fh.1.1
  go_wp2
  clear q0 ql
  go_loopw [29] (fun i wr => ∃ (k : Nat) (hs : List Int), k ≤ 8 ∧ i = .int .i64 k ∧ WfN hs ∧ T3 w1 wr p R1 R2 R3 ba bb bh gh ch (.slice a0 av.length ca0) (.slice a1 am.length ca1) (.slice (some ⟨g0, 0, none⟩) 8 dc0) (.slice (some ⟨g1, 0, none⟩) 8 dc1) av am bv bw hs) (fun i _ => 8 - (intOf i).toNat)
  case atStart => exact ⟨0, hs, Nat.zero_le _, rfl, WH.out, S.out⟩
  case round =>
    clear S WH
    obtain ⟨k, hs, hk, rfl, hwf, hst⟩ := hrel
    rename World => wr
    have S := Lib.hid hst; have WH := Lib.hid hwf
    clear hst hwf
    by_cases hk8 : k < 8
    · go_wp2_with fail
      replace S := Lib.hid (S.out.grow (Grow.drewN wr 1))
      obtain ⟨C, hC⟩ : ∃ C : World → Prop, C = fun W => T3 w1 W p R1 R2 R3 ba bb bh gh ch (.slice a0 av.length ca0) (.slice a1 am.length ca1) (.slice (some ⟨g0, 0, none⟩) 8 dc0) (.slice (some ⟨g1, 0, none⟩) 8 dc1) av am bv bw hs := ⟨_, rfl⟩
      have CC : Hid (∀ W, C W → T3 w1 W p R1 R2 R3 ba bb bh gh ch (.slice a0 av.length ca0) (.slice a1 am.length ca1) (.slice (some ⟨g0, 0, none⟩) 8 dc0) (.slice (some ⟨g1, 0, none⟩) 8 dc1) av am bv bw hs) := Lib.hid (fun W h => by rw [hC] at h; exact h)
      have MK : Hid (∀ W, T3 w1 W p R1 R2 R3 ba bb bh gh ch (.slice a0 av.length ca0) (.slice a1 am.length ca1) (.slice (some ⟨g0, 0, none⟩) 8 dc0) (.slice (some ⟨g1, 0, none⟩) 8 dc1) av am bv bw hs → C W) := Lib.hid (fun W h => by rw [hC]; exact h)
      clear hC
      have c0 : Hid (C (wr.drewN 1)) := Lib.hid (MK.out _ S.out)
      have hne : Nonempty (Cl C) := ⟨⟨_, c0.out⟩⟩
      have p0 : ∀ x : Cl C, x.w.cell? ⟨bh, 0, none⟩ = some (.slice (some ⟨gh, 0, none⟩) 8 ch) := fun x => (CC.out x.w x.ok).fh.1.one
      have p1 : ∀ x : Cl C, x.w.cell? ⟨bb, 0, none⟩ = some (.slice (some ⟨g0, 0, none⟩) 8 dc0) := fun x => (CC.out x.w x.ok).fb.1.two.1
      have p2 : ∀ x : Cl C, x.w.cell? ⟨bb, 1, none⟩ = some (.slice (some ⟨g1, 0, none⟩) 8 dc1) := fun x => (CC.out x.w x.ok).fb.1.two.2
      have p3 : ∀ x : Cl C, x.w.cell? ⟨gh, k, none⟩ = some (.int .i64 (hs.getD k 0)) := fun x => (CC.out x.w x.ok).oh.at8 k hk8
      have p4 : ∀ x : Cl C, x.w.cell? ⟨g0, k, none⟩ = some (.int .i64 (bv.getD k 0)) := fun x => (CC.out x.w x.ok).ob0.at8 k hk8
      have p5 : ∀ x : Cl C, x.w.cell? ⟨g1, k, none⟩ = some (.int .i64 (bw.getD k 0)) := fun x => (CC.out x.w x.ok).ob1.at8 k hk8
      refine wp_region_last (Cls C) 21 22 #[false, false, false, false, false, false, false, false, false, false, false, false, false, false, false, false, false, false, false, false, false, false] (by kernel_rfl) (by kernel_rfl) ?_
      refine anyL_seg [0, 1, 2, 3, 4, 5, 6, 7, 8, 9, 10, 11, 12, 13, 14, 15, 16, 17, 18, 19, 20] #[true, true, true, true, true, true, true, true, true, true, true, true, true, true, true, true, true, true, true, true, true, false] (fuel := 1) rfl (by kernel_rfl) ⟨⟨_, c0.out⟩, rfl⟩ ?_
      simp only [pickOps, List.getD_cons_succ, List.getD_cons_zero]
      repeat (go_big_quiet_step (fail))
      refine wpQuiet_nil ?_
      refine anyL_last (by kernel_rfl) ?_
      simp only [List.getD_cons_succ, List.getD_cons_zero]
      have og := S.out.oh.at8 k hk8; have ⟨of, ol⟩ := S.out.oh.fz8
      clear p0 p1 p2 p3 p4 p5
      go_wp2
      replace S := Lib.hid (S.out.put k hk8 (bits .or .i64 (bits .andNot .i64 (hs.getD k 0) (bw.getD k 0)) (bv.getD k 0)))
      clear og of ol
      refine ⟨trivial, ?_⟩
      clear CC MK c0 hne C
      replace WH := Lib.hid (WfN.set (k := k) (x := bits .or .i64 (bits .andNot .i64 (hs.getD k 0) (bw.getD k 0)) (bv.getD k 0)) WH.out (bits_I64 _ _ _))
      generalize hs.set k (bits .or .i64 (bits .andNot .i64 (hs.getD k 0) (bw.getD k 0)) (bv.getD k 0)) = hs at *
      go_wp2
      go_roundw
      case rel => exact ⟨k + 1, _, by omega, by go_num, WH.out, S.out⟩
      case measure => simp [intOf] <;> omega
    · obtain rfl : k = 8 := by omega
      go_wp2_with fail
      replace S := Lib.hid (S.out.grow (Grow.drewN wr 1))
      obtain ⟨C, hC⟩ : ∃ C : World → Prop, C = fun W => Box W ba [.slice a0 av.length ca0, .slice a1 am.length ca1] ∧ Box W bb [.slice (some ⟨g0, 0, none⟩) 8 dc0, .slice (some ⟨g1, 0, none⟩) 8 dc1] ∧ Box W bh [.slice (some ⟨gh, 0, none⟩) 8 ch] := ⟨_, rfl⟩
      have CC : Hid (∀ W, C W → Box W ba [.slice a0 av.length ca0, .slice a1 am.length ca1] ∧ Box W bb [.slice (some ⟨g0, 0, none⟩) 8 dc0, .slice (some ⟨g1, 0, none⟩) 8 dc1] ∧ Box W bh [.slice (some ⟨gh, 0, none⟩) 8 ch]) := Lib.hid (fun W h => by rw [hC] at h; exact h)
      have MK : Hid (∀ W, Box W ba [.slice a0 av.length ca0, .slice a1 am.length ca1] ∧ Box W bb [.slice (some ⟨g0, 0, none⟩) 8 dc0, .slice (some ⟨g1, 0, none⟩) 8 dc1] ∧ Box W bh [.slice (some ⟨gh, 0, none⟩) 8 ch] → C W) := Lib.hid (fun W h => by rw [hC]; exact h)
      clear hC
      have c0 : Hid (C (wr.drewN 1)) := Lib.hid (MK.out _ ⟨S.out.fa.1, S.out.fb.1, S.out.fh.1⟩)
      have hne : Nonempty (Cl C) := ⟨⟨_, c0.out⟩⟩
      have p0 : ∀ x : Cl C, x.w.cell? ⟨ba, 0, none⟩ = some (.slice a0 av.length ca0) := fun x => (CC.out x.w x.ok).1.two.1
      have p1 : ∀ x : Cl C, x.w.cell? ⟨ba, 1, none⟩ = some (.slice a1 am.length ca1) := fun x => (CC.out x.w x.ok).1.two.2
      have p2 : ∀ x : Cl C, x.w.cell? ⟨bb, 0, none⟩ = some (.slice (some ⟨g0, 0, none⟩) 8 dc0) := fun x => (CC.out x.w x.ok).2.1.two.1
      have p3 : ∀ x : Cl C, x.w.cell? ⟨bb, 1, none⟩ = some (.slice (some ⟨g1, 0, none⟩) 8 dc1) := fun x => (CC.out x.w x.ok).2.1.two.2
      have p4 : ∀ x : Cl C, x.w.cell? ⟨bh, 0, none⟩ = some (.slice (some ⟨gh, 0, none⟩) 8 ch) := fun x => (CC.out x.w x.ok).2.2.one
      refine wp_region_last (Cls C) 5 6 #[false, false, false, false, false, false] (by kernel_rfl) (by kernel_rfl) ?_
      refine anyL_seg [0, 1, 2] #[true, true, true, false, false, false] (fuel := 3) rfl (by kernel_rfl) ⟨⟨_, c0.out⟩, rfl⟩ ?_
      simp only [pickOps, List.getD_cons_succ, List.getD_cons_zero]
      repeat (go_big_quiet_step (fail))
      refine wpQuiet_nil ?_
      refine anyL_sole 3 #[true, true, true, true, false, false] (fuel := 2) (by kernel_rfl) ?_
      simp only [List.getD_cons_succ, List.getD_cons_zero]
      have ⟨r0, r1⟩ := S.out.r1.two; have rz := S.out.r1.2.2; have rl := S.out.r1.1
      have ⟨s0, s1⟩ := S.out.r2.two; have sz := S.out.r2.2.2; have sl := S.out.r2.1
      have t0 := S.out.r3.one; have tz := S.out.r3.2.2; have tl := S.out.r3.1
      have nr := S.out.nr
      have n1 : ¬ R1 = R2 := nr.2.2.2.2.2.2.1
      have n2 : ¬ R1 = R3 := nr.2.2.2.2.2.2.2.1
      have n3 : ¬ R2 = R3 := nr.2.2.2.2.2.2.2.2
      have n4 : ¬ R2 = R1 := fun h => n1 h.symm
      have n5 : ¬ R3 = R1 := fun h => n2 h.symm
      have n6 : ¬ R3 = R2 := fun h => n3 h.symm
      clear nr
      have NB : Hid (∀ q ∈ [R1, R2], ba ≠ q ∧ bb ≠ q ∧ bh ≠ q) := Lib.hid (fun q hq => by
        have h1 := S.out.nr; have h2 := S.out.fa.2; have h3 := S.out.fb.2; have h4 := S.out.fh.2
        simp only [List.mem_cons, List.not_mem_nil, or_false] at hq; omega)
      have U1 : Hid (Upd [R1] (wr.drewN 1) (World.setCell (World.setCell (wr.drewN 1) ⟨R1, 0, none⟩ (.slice a0 av.length ca0)) ⟨R1, 1, none⟩ (.slice a1 am.length ca1))) := Lib.hid (Upd.setCell (p := ⟨R1, 1, none⟩) (Upd.setCell (p := ⟨R1, 0, none⟩) (Upd.refl [R1] (wr.drewN 1)) (by simp) _) (by simp) _)
      have U2 : Hid (Upd [R2] (World.setCell (World.setCell (wr.drewN 1) ⟨R1, 0, none⟩ (.slice a0 av.length ca0)) ⟨R1, 1, none⟩ (.slice a1 am.length ca1)) (World.setCell (World.setCell (World.setCell (World.setCell (wr.drewN 1) ⟨R1, 0, none⟩ (.slice a0 av.length ca0)) ⟨R1, 1, none⟩ (.slice a1 am.length ca1)) ⟨R2, 0, none⟩ (.slice (some ⟨g0, 0, none⟩) 8 dc0)) ⟨R2, 1, none⟩ (.slice (some ⟨g1, 0, none⟩) 8 dc1))) := Lib.hid (Upd.setCell (p := ⟨R2, 1, none⟩) (Upd.setCell (p := ⟨R2, 0, none⟩) (Upd.refl [R2] (World.setCell (World.setCell (wr.drewN 1) ⟨R1, 0, none⟩ (.slice a0 av.length ca0)) ⟨R1, 1, none⟩ (.slice a1 am.length ca1))) (by simp) _) (by simp) _)
      have c1 : Hid (C (World.setCell (World.setCell (wr.drewN 1) ⟨R1, 0, none⟩ (.slice a0 av.length ca0)) ⟨R1, 1, none⟩ (.slice a1 am.length ca1))) := Lib.hid (MK.out _ (by
        have k := CC.out _ c0.out
        have n := NB.out R1 (by simp)
        exact ⟨k.1.upd U1.out (by simp; omega), k.2.1.upd U1.out (by simp; omega), k.2.2.upd U1.out (by simp; omega)⟩))
      have c2 : Hid (C (World.setCell (World.setCell (World.setCell (World.setCell (wr.drewN 1) ⟨R1, 0, none⟩ (.slice a0 av.length ca0)) ⟨R1, 1, none⟩ (.slice a1 am.length ca1)) ⟨R2, 0, none⟩ (.slice (some ⟨g0, 0, none⟩) 8 dc0)) ⟨R2, 1, none⟩ (.slice (some ⟨g1, 0, none⟩) 8 dc1))) := Lib.hid (MK.out _ (by
        have k := CC.out _ c1.out
        have n := NB.out R2 (by simp)
        exact ⟨k.1.upd U2.out (by simp; omega), k.2.1.upd U2.out (by simp; omega), k.2.2.upd U2.out (by simp; omega)⟩))
      go_wp2
      refine ⟨⟨⟨_, c1.out⟩, rfl⟩, ?_⟩
      refine anyL_sole 4 #[true, true, true, true, true, false] (fuel := 1) (by kernel_rfl) ?_
      simp only [List.getD_cons_succ, List.getD_cons_zero]
      go_wp2
      refine ⟨⟨⟨_, c2.out⟩, rfl⟩, ?_⟩
      refine anyL_last (by kernel_rfl) ?_
      simp only [List.getD_cons_succ, List.getD_cons_zero]
      go_wp2
      refine ⟨trivial, ?_⟩
      clear p0 p1 p2 p3 p4 c0 c1 c2 hne
      have HR : Hid (∀ W, Upd [R1, R2, R3] (wr.drewN 1) W → RetThree w (.returned (.tuple #[.agg #[.slice a0 av.length ca0, .slice a1 am.length ca1], .agg #[.slice (some ⟨g0, 0, none⟩) 8 dc0, .slice (some ⟨g1, 0, none⟩) 8 dc1], .agg #[.slice (some ⟨gh, 0, none⟩) 8 ch]])) W) := Lib.hid (fun W hu => by
        have k := S.out.keep G1.out NR.out hu
        exact ⟨_, _, _, _, _, _, _, _, _, _, rfl, k.1, ⟨WAV.out, WAM.out, WBV.out, WBM.out, WH.out⟩, k.2⟩)
      go_wp2
      refine bodyPost_ret (v := .tuple #[.agg #[.slice a0 av.length ca0, .slice a1 am.length ca1], .agg #[.slice (some ⟨g0, 0, none⟩) 8 dc0, .slice (some ⟨g1, 0, none⟩) 8 dc1], .agg #[.slice (some ⟨gh, 0, none⟩) 8 ch]]) ?_ rfl (HR.out _ ?_)
      · simp [results, Try.results55, go_sem, r0, r1, rz, rl, s0, s1, sz, sl, t0, tz, tl, n1, n2, n3, n4, n5, n6] <;> omega
      · ((repeat (first | with_reducible exact Upd.refl _ _ | (with_reducible refine Upd.setCell ?_ (by simp) _))))
--%
end Go.Proofs.Ytkkhkojojnebjaa
