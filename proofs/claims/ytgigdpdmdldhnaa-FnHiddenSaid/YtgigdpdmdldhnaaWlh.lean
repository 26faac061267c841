/- FnHidden: the walk of the law. -/
import Derived.Test.YtgigdpdmdldhnaaDte
import Derived.Test.YtgigdpdmdldhnaaPlh
import Derived.Test.YtgigdpdmdldhnaaOpn
import Derived.WalkKit
import Derived.ProofKit
import Derived.OpenShut
import Derived.ShutString
import Derived.ChangeOld
import Derived.Below
import Derived.SizedLaws
import Derived.WalkSpells
import Derived.Deep.QuietTactic
import Derived.BigQuiet
import Derived.Outline
namespace Go.Proofs.Ytgigdpdmdldhnaa
open Go.ChangeShapes Go.WideShapes Go.ChangeAt Go.RowKit
open Go.ChangeMaps (open_string shut_string)
set_option linter.unusedVariables false
set_option linter.unusedSimpArgs false
--%
/-- A drawn table and head in hand: the slots of the results (older), the boxes, the rows; in the blocks N none of the table's rows lies. -/
structure TL (w W : World) (p R1 R3 bt bh : Nat) (cap : Int) (q vh : Value) (es : List EntryD) (cs : List Value) (hs : List Int) (N : List Nat) : Prop where
  d : DS w W p
  r1 : Box W R1 [.int .i64 0, .slice none 0 0]
  r3 : Box W R3 [.slice none 0 0]
  ft : Bx w W bt [.int .i64 cap, q]
  et : ET w W N q es cs
  fh : Bx w W bh [vh]
  oh : ON w W vh hs
  nr : R1 < w.heap.size ∧ R3 < w.heap.size ∧ R1 ≠ p ∧ R3 ≠ p ∧ R1 ≠ R3
  nb : bt ≠ bh
  nf : ∀ x ∈ fpOf vh, x ≠ bt ∧ x ≠ bh
  nn : ∀ x, x = bt ∨ x = bh ∨ x ∈ fpOf vh → x ∈ N
section
variable {w W W' : World} {p R1 R3 bt bh : Nat} {cap : Int} {q vh : Value} {es : List EntryD} {cs : List Value} {hs : List Int} {N : List Nat}
theorem TL.call (h : TL w W p R1 R3 bt bh cap q vh es cs hs N) (hC : Cur W' p) (hU : Upd [p] W W') : TL w W' p R1 R3 bt bh cap q vh es cs hs N :=
  ⟨h.d.call hC hU, h.r1.upd hU (by have := h.nr; simp; omega), h.r3.upd hU (by have := h.nr; simp; omega), h.ft.call h.d hU, h.et.call h.d hU, h.fh.call h.d hU, h.oh.call h.d hU, h.nr, h.nb, h.nf, h.nn⟩
theorem TL.grow (h : TL w W p R1 R3 bt bh cap q vh es cs hs N) (g : Grow W W') : TL w W' p R1 R3 bt bh cap q vh es cs hs N :=
  ⟨h.d.grow g, h.r1.grow g, h.r3.grow g, h.ft.grow g, h.et.grow g, h.fh.grow g, h.oh.grow g, h.nr, h.nb, h.nf, h.nn⟩
theorem TL.more (h : TL w W p R1 R3 bt bh cap q vh es cs hs N) (b : Nat) (hb : W.heap.size ≤ b) : TL w W p R1 R3 bt bh cap q vh es cs hs (b :: N) :=
  ⟨h.d, h.r1, h.r3, h.ft, h.et.more (fun x hx => by
    rcases List.mem_cons.1 hx with k | k
    · exact .inr (.inl (k ▸ hb))
    · exact .inl k), h.fh, h.oh, h.nr, h.nb, h.nf, fun x hx => List.mem_cons_of_mem _ (h.nn x hx)⟩
theorem TL.less {b : Nat} (h : TL w W p R1 R3 bt bh cap q vh es cs hs (b :: N)) (hn : ∀ x, x = bt ∨ x = bh ∨ x ∈ fpOf vh → x ∈ N) : TL w W p R1 R3 bt bh cap q vh es cs hs N :=
  ⟨h.d, h.r1, h.r3, h.ft, h.et.more (fun x hx => .inl (List.mem_cons_of_mem _ hx)), h.fh, h.oh, h.nr, h.nb, h.nf, hn⟩
theorem TL.box {b : Nat} (h : TL w W p R1 R3 bt bh cap q vh es cs hs (b :: N)) (u : Upd [b] W W') (hb : w.heap.size ≤ b) (n : b ≠ bt ∧ b ≠ bh ∧ b ∉ fpOf vh) : TL w W' p R1 R3 bt bh cap q vh es cs hs (b :: N) :=
  ⟨h.d.own u (fun x hx => by simp only [List.mem_cons, List.not_mem_nil, or_false] at hx; subst hx; exact hb), h.r1.upd u (by have := h.nr; simp; omega), h.r3.upd u (by have := h.nr; simp; omega), h.ft.own u (by simp; exact fun e => n.1 e.symm),
    h.et.upd u (fun x hx => .inl (by simp only [List.mem_cons, List.not_mem_nil, or_false] at hx; subst hx; exact List.mem_cons_self)), h.fh.own u (by simp; exact fun e => n.2.1 e.symm),
    own_apart h.oh u (fun x hx hm => by simp only [List.mem_cons, List.not_mem_nil, or_false] at hm; subst hm; exact n.2.2 hx), h.nr, h.nb, h.nf, h.nn⟩
theorem TL.put {gh ch : Nat} (h : TL w W p R1 R3 bt bh cap q (.slice (some ⟨gh, 0, none⟩) 8 ch) es cs hs N) (k : Nat) (hk : k < 8) (x : Int) : TL w (W.setCell ⟨gh, k, none⟩ (.int .i64 x)) p R1 R3 bt bh cap q (.slice (some ⟨gh, 0, none⟩) 8 ch) es cs (hs.set k x) N := by
  have u : Upd [gh] W (W.setCell ⟨gh, k, none⟩ (.int .i64 x)) := Upd.setCell (p := ⟨gh, k, none⟩) (Upd.refl [gh] W) (by simp) _
  have hm : gh ∈ fpOf (.slice (some ⟨gh, 0, none⟩) 8 ch) := by simp [fpOf, Value.ownBlock]
  have hg := (own_new_ h.oh gh hm).1
  have nr := h.nr; have nf := h.nf gh hm
  exact ⟨ON.set_ h.d h.oh k _, h.r1.upd u (by simp; omega), h.r3.upd u (by simp; omega), h.ft.own u (by simp; omega), h.et.upd u (fun x hx => .inl (by simp only [List.mem_cons, List.not_mem_nil, or_false] at hx; subst hx; exact h.nn x (.inr (.inr hm)))), h.fh.own u (by simp; omega), h.oh.put k (by have := h.oh.len; omega) x, h.nr, h.nb, h.nf, h.nn⟩
/-- A drawn table, an epoch and a head. -/
def RetDL (w : World) (e : Ending) (w' : World) : Prop := ∃ cap q es ep vh hs, e = .returned (.tuple #[.agg #[.int .i64 cap, q], .int .i64 ep, .agg #[vh]]) ∧ (RdES w' q es ∧ RdN w' vh hs ∧ Grow w w') ∧ GoodS es ∧ es.length ≤ 600 ∧ I64 cap ∧ WfN hs
theorem TL.keep {w0 : World} (h : TL w W p R1 R3 bt bh cap q vh es cs hs N) (g : Grow w0 w) (h0 : w0.heap.size ≤ p ∧ w0.heap.size ≤ R1 ∧ w0.heap.size ≤ R3) (u : Upd [R1, R3] W W') : RdES W' q es ∧ RdN W' vh hs ∧ Grow w0 W' := by
  have nr := h.nr
  refine ⟨(h.et.upd u (fun x hx => .inr ?_)).rd, ON.rd (own_apart h.oh u (fun x hx hm => ?_)), (g.then_upd h.d.upd (fun x hx => ?_)).then_upd u (fun x hx => ?_)⟩
  · simp only [List.mem_cons, List.not_mem_nil, or_false] at hx; omega
  · have := (own_new_ h.oh x hx).1
    simp only [List.mem_cons, List.not_mem_nil, or_false] at hm; omega
  · simp only [List.mem_cons, List.not_mem_nil, or_false] at hx; omega
  · simp only [List.mem_cons, List.not_mem_nil, or_false] at hx; omega
end
theorem viaE {G : Prop} {F : Nat → EntryD → Value → Value → Value → Nat → World → Prop} (Facts : Nat → EntryD → Value → Value → Value → Nat → World → Prop)
    (h1 : (∀ i e x0 x1 x2 b W, Facts i e x0 x1 x2 b W → F i e x0 x1 x2 b W) → G) (h2 : ∀ i e x0 x1 x2 b W, Facts i e x0 x1 x2 b W → F i e x0 x1 x2 b W) : G := h1 h2
--% spec.DrawLookup 67
set_option maxRecDepth 20000 in
set_option maxHeartbeats 8000000 in
theorem drawLookup_any (w : World) (v : Value) (cs0 : List Int) (h : RdB w v cs0) (hb : Bytes cs0) (hm : cs0.length ≤ 1048576) : Calls Try.prog 67 #[v] w (RetDL w) := by
  have HV := Lib.hid h; have HB : Hid (Bytes cs0) := Lib.hid hb
  clear h hb
  go_enter Try.func67, Try.ntmps67
  go_wp2_with fail
  have g1 := Grow.alloc w (.cells #[.int .i64 0, .slice none 0 0] 79)
  have g2 := Grow.alloc (w.alloc (.cells #[.int .i64 0, .slice none 0 0] 79)) (.cells #[.slice none 0 0] 42)
  have R1B : Hid (Box ((w.alloc (.cells #[.int .i64 0, .slice none 0 0] 79)).alloc (.cells #[.slice none 0 0] 42)) w.heap.size [.int .i64 0, .slice none 0 0]) := Lib.hid ((Box.alloc w [.int .i64 0, .slice none 0 0] 79).grow g2)
  have R3B : Hid (Box ((w.alloc (.cells #[.int .i64 0, .slice none 0 0] 79)).alloc (.cells #[.slice none 0 0] 42)) (w.heap.size + 1) [.slice none 0 0]) := Lib.hid ((Box.alloc (w.alloc (.cells #[.int .i64 0, .slice none 0 0] 79)) [.slice none 0 0] 42).at_ (by simp only [World.alloc, Array.size_push]))
  have G0 := Lib.hid (g1.trans g2)
  clear g1 g2
  generalize ((w.alloc (.cells #[.int .i64 0, .slice none 0 0] 79)).alloc (.cells #[.slice none 0 0] 42)) = W0 at *
  refine (l01New_any _ _ cs0 (HV.out.grow G0.out) HB.out hm).mono ?_
  rintro e w1 ⟨p, rfl, hC, hp, hg⟩
  have D := Lib.hid (DS.start hC)
  have G1 := Lib.hid (G0.out.trans hg)
  have NP : Hid (w.heap.size + 1 < p ∧ w.heap.size + 1 < w1.heap.size) := Lib.hid ⟨Nat.lt_of_lt_of_le R3B.out.1 hp, (R3B.out.grow hg).1⟩
  replace R1B := Lib.hid (R1B.out.grow hg); replace R3B := Lib.hid (R3B.out.grow hg)
  clear hC hp hg G0
  go_wp2_with fail
  refine (l07Any_any _ p D.out.cur).mono ?_
  rintro e w2 ⟨cap, q, es, cs, rfl, het, hgs, hl, hcp, hC, hU⟩
  obtain ⟨qa, qc, rfl⟩ := own_shape het.1
  obtain ⟨n, hn⟩ : ∃ n, es.length = n := ⟨_, rfl⟩
  rw [hn] at het ⊢
  have NL := Lib.hid hn; have GS := Lib.hid hgs; have LB := Lib.hid hl; have HC := Lib.hid hcp
  have hn6 : n ≤ 600 := by omega
  have ET0 : Hid (ET w1 w2 [] (.slice qa n qc) es cs) := Lib.hid (het.older D.out.size)
  replace R1B := Lib.hid (R1B.out.upd hU (by have := NP.out; simp; omega)); replace R3B := Lib.hid (R3B.out.upd hU (by have := NP.out; simp; omega))
  replace D := Lib.hid (D.out.call hC hU)
  have ga := Lib.hid (Grow.alloc w2 (.cells #[.int .i64 cap, .slice qa n qc] 79))
  have FT : Hid (Bx w1 (w2.alloc (.cells #[.int .i64 cap, .slice qa n qc] 79)) w2.heap.size [.int .i64 cap, .slice qa n qc]) := Lib.hid (Bx.new D.out [.int .i64 cap, .slice qa n qc] 79)
  replace ET0 : Hid (ET w1 (w2.alloc (.cells #[.int .i64 cap, .slice qa n qc] 79)) [w2.heap.size] (.slice qa n qc) es cs) := Lib.hid ((ET0.out.more (fun x hx => by simp only [List.mem_cons, List.not_mem_nil, or_false] at hx; omega)).grow ga.out)
  replace R1B := Lib.hid (R1B.out.grow ga.out); replace R3B := Lib.hid (R3B.out.grow ga.out); replace D := Lib.hid (D.out.grow ga.out)
  clear het hgs hl hcp hC hU hn ga
  go_wp2_with fail
  generalize w2.alloc (.cells #[.int .i64 cap, .slice qa n qc] 79) = W2 at *
  generalize w2.heap.size = bt at *
  refine (l04Any_any _ p D.out.cur).mono ?_
  rintro e w3 ⟨vh, hs, rfl, ho, hw, -, -, hC, hU⟩
  obtain ⟨ah, ch, rfl⟩ := own_shape ho
  have WH := Lib.hid hw
  obtain ⟨N, hN⟩ : ∃ N, N = w3.heap.size :: bt :: fpOf (.slice ah hs.length ch) := ⟨_, rfl⟩
  have S : Hid (TL w1 (w3.alloc (.cells #[.slice ah hs.length ch] 42)) p w.heap.size (w.heap.size + 1) bt w3.heap.size cap (.slice qa n qc) (.slice ah hs.length ch) es cs hs N) := Lib.hid (by
    have g := Grow.alloc w3 (.cells #[.slice ah hs.length ch] 42)
    have n := NP.out
    have D1 := D.out.call hC hU
    have z1 := FT.out.1.1
    have z3 : W2.heap.size ≤ w3.heap.size := hU.size
    have nf : ∀ x ∈ fpOf (.slice ah hs.length ch), W2.heap.size ≤ x ∧ x < w3.heap.size := fun x hx => own_new_ ho x hx
    refine ⟨D1.grow g, (R1B.out.upd hU (by simp; omega)).grow g, (R3B.out.upd hU (by simp; omega)).grow g, (FT.out.call D.out hU).grow g, ET.grow (ET.more (N' := N) (ET0.out.more (N' := bt :: fpOf (.slice ah hs.length ch)) (fun x hx => ?_) |>.call D.out hU) (fun x hx => ?_)) g, Bx.new D1 [.slice ah hs.length ch] 42, ON.grow (own_mono ho D.out.size) g, ?_, ?_, fun x hx => ?_, fun x hx => ?_⟩
    · rcases List.mem_cons.1 hx with k | k
      · subst k; exact .inl List.mem_cons_self
      · exact .inr (.inl (nf x k).1)
    · subst hN
      rcases List.mem_cons.1 hx with k | k
      · subst k; exact .inr (.inl (Nat.le_refl _))
      · exact .inl k
    · refine ⟨?_, ?_, ?_, ?_, ?_⟩ <;> omega
    · omega
    · have := nf x hx; omega
    · subst hN
      rcases hx with k | k | k
      · subst k; simp
      · subst k; simp
      · exact List.mem_cons_of_mem _ (List.mem_cons_of_mem _ k))
  have NR0 : Hid (w.heap.size ≤ p ∧ w.heap.size ≤ w.heap.size ∧ w.heap.size ≤ w.heap.size + 1) := Lib.hid (by have := NP.out; omega)
  clear ho hw hC hU FT ET0 R1B R3B D NP hN
  go_wp2_with fail
  generalize w3.alloc (.cells #[.slice ah hs.length ch] 42) = W3 at *
  generalize w3.heap.size = bh at *
  obtain ⟨R1, R3, h1, h3⟩ : ∃ R1 R3, R1 = w.heap.size ∧ R3 = w.heap.size + 1 := ⟨_, _, rfl, rfl⟩
  rw [← h3, ← h1] at S ⊢
  have NR : Hid (w.heap.size ≤ p ∧ w.heap.size ≤ R1 ∧ w.heap.size ≤ R3) := Lib.hid (by have := NR0.out; omega)
  clear h1 h3 NR0
  refine (l01Below_any _ p 4 (by omega) S.out.d.cur).mono ?_
  rintro e w4 ⟨x4, rfl, h4a, h4b, -, hC, hU⟩
  have h4b := h4b (by omega)
  replace S := Lib.hid (S.out.call hC hU)
  clear hC hU
  by_cases hz : 0 < n
  rotate_left
  · have ⟨q0, q1⟩ := S.out.ft.1.two; have ql := S.out.ft.1.1
    go_wp2_with fail
    replace S := Lib.hid (S.out.grow (Grow.drewN w4 1))
    obtain ⟨C, hC⟩ : ∃ C : World → Prop, C = fun W => Box W bt [.int .i64 cap, .slice qa n qc] ∧ Box W bh [.slice ah hs.length ch] := ⟨_, rfl⟩
    have CC : Hid (∀ W, C W → Box W bt [.int .i64 cap, .slice qa n qc] ∧ Box W bh [.slice ah hs.length ch]) := Lib.hid (fun W h => by rw [hC] at h; exact h)
    have MK : Hid (∀ W, Box W bt [.int .i64 cap, .slice qa n qc] ∧ Box W bh [.slice ah hs.length ch] → C W) := Lib.hid (fun W h => by rw [hC]; exact h)
    clear hC
    have k0 : Hid (C (w4.drewN 1)) := Lib.hid (MK.out _ ⟨S.out.ft.1, S.out.fh.1⟩)
    have hne : Nonempty (Cl C) := ⟨⟨_, k0.out⟩⟩
    have p0 : ∀ x : Cl C, x.w.cell? ⟨bt, 0, none⟩ = some (.int .i64 cap) := fun x => (CC.out x.w x.ok).1.two.1
    have p1 : ∀ x : Cl C, x.w.cell? ⟨bt, 1, none⟩ = some (.slice qa n qc) := fun x => (CC.out x.w x.ok).1.two.2
    have p2 : ∀ x : Cl C, x.w.cell? ⟨bh, 0, none⟩ = some (.slice ah hs.length ch) := fun x => (CC.out x.w x.ok).2.one
    refine wp_region_last (Cls C) 5 6 #[false, false, false, false, false, false] (by kernel_rfl) (by kernel_rfl) ?_
    refine anyL_seg [0, 1, 2] #[true, true, true, false, false, false] (fuel := 3) rfl (by kernel_rfl) ⟨⟨_, k0.out⟩, rfl⟩ ?_
    simp only [pickOps, List.getD_cons_succ, List.getD_cons_zero]
    repeat (go_big_quiet_step (fail))
    refine wpQuiet_nil ?_
    refine anyL_sole 3 #[true, true, true, true, false, false] (fuel := 2) (by kernel_rfl) ?_
    simp only [List.getD_cons_succ, List.getD_cons_zero]
    have ⟨r0, r1⟩ := S.out.r1.two; have rz := S.out.r1.2.2; have rl := S.out.r1.1
    have t0 := S.out.r3.one; have tz := S.out.r3.2.2; have tl := S.out.r3.1
    have nr := S.out.nr
    have n1 : ¬ R1 = R3 := nr.2.2.2.2
    have n2 : ¬ R3 = R1 := fun h => n1 h.symm
    clear nr
    have NB : Hid (bt ≠ R1 ∧ bh ≠ R1) := Lib.hid (by have h1 := S.out.nr; have h2 := S.out.ft.2; have h3 := S.out.fh.2; omega)
    have U1 : Hid (Upd [R1] (w4.drewN 1) (World.setCell (World.setCell (w4.drewN 1) ⟨R1, 0, none⟩ (.int .i64 cap)) ⟨R1, 1, none⟩ (.slice qa n qc))) := Lib.hid (Upd.setCell (p := ⟨R1, 1, none⟩) (Upd.setCell (p := ⟨R1, 0, none⟩) (Upd.refl [R1] (w4.drewN 1)) (by simp) _) (by simp) _)
    have k1 : Hid (C (World.setCell (World.setCell (w4.drewN 1) ⟨R1, 0, none⟩ (.int .i64 cap)) ⟨R1, 1, none⟩ (.slice qa n qc))) := Lib.hid (MK.out _ (by
      have k := CC.out _ k0.out
      have n := NB.out
      exact ⟨k.1.upd U1.out (by simp; omega), k.2.upd U1.out (by simp; omega)⟩))
    go_wp2
    refine ⟨⟨⟨_, k1.out⟩, rfl⟩, ?_⟩
    refine anyL_seg [4] #[true, true, true, true, true, false] (fuel := 1) rfl (by kernel_rfl) ⟨⟨_, k1.out⟩, rfl⟩ ?_
    simp only [pickOps, List.getD_cons_succ, List.getD_cons_zero]
    repeat (go_big_quiet_step (fail))
    refine wpQuiet_nil ?_
    refine anyL_last (by kernel_rfl) ?_
    simp only [List.getD_cons_succ, List.getD_cons_zero]
    go_wp2
    refine ⟨trivial, ?_⟩
    clear p0 p1 p2 k0 k1 hne
    have HR : Hid (∀ W, Upd [R1, R3] (w4.drewN 1) W → RetDL w (.returned (.tuple #[.agg #[.int .i64 cap, .slice qa n qc], .int .i64 x4, .agg #[.slice ah hs.length ch]])) W) := Lib.hid (fun W hu => by
      have k := S.out.keep G1.out NR.out hu
      exact ⟨_, _, es, _, _, hs, rfl, k, GS.out, LB.out, HC.out, WH.out⟩)
    go_wp2
    refine bodyPost_ret (v := .tuple #[.agg #[.int .i64 cap, .slice qa n qc], .int .i64 x4, .agg #[.slice ah hs.length ch]]) ?_ rfl (HR.out _ ?_)
    · simp [results, Try.results67, go_sem, r0, r1, rz, rl, t0, tz, tl, n1, n2] <;> omega
    · ((repeat (first | with_reducible exact Upd.refl _ _ | (with_reducible refine Upd.setCell ?_ (by simp) _))))
  have ⟨q0, q1⟩ := S.out.ft.1.two; have ql := S.out.ft.1.1
  go_wp2_with fail
  clear q0 q1 ql
  refine (l01Below_any _ p 2 (by omega) S.out.d.cur).mono ?_
  rintro e w5 ⟨x5, rfl, h5a, h5b, -, hC, hU⟩
  have h5b := h5b (by omega)
  replace S := Lib.hid (S.out.call hC hU)
  clear hC hU
  by_cases k5 : x5 = 0
  rotate_left
  · have hk5 : (x5 == 0) = false := by simpa using k5
    go_wp2_with fail
    replace S := Lib.hid (S.out.grow (Grow.drewN w5 1))
    obtain ⟨C, hC⟩ : ∃ C : World → Prop, C = fun W => Box W bt [.int .i64 cap, .slice qa n qc] ∧ Box W bh [.slice ah hs.length ch] := ⟨_, rfl⟩
    have CC : Hid (∀ W, C W → Box W bt [.int .i64 cap, .slice qa n qc] ∧ Box W bh [.slice ah hs.length ch]) := Lib.hid (fun W h => by rw [hC] at h; exact h)
    have MK : Hid (∀ W, Box W bt [.int .i64 cap, .slice qa n qc] ∧ Box W bh [.slice ah hs.length ch] → C W) := Lib.hid (fun W h => by rw [hC]; exact h)
    clear hC
    have k0 : Hid (C (w5.drewN 1)) := Lib.hid (MK.out _ ⟨S.out.ft.1, S.out.fh.1⟩)
    have hne : Nonempty (Cl C) := ⟨⟨_, k0.out⟩⟩
    have p0 : ∀ x : Cl C, x.w.cell? ⟨bt, 0, none⟩ = some (.int .i64 cap) := fun x => (CC.out x.w x.ok).1.two.1
    have p1 : ∀ x : Cl C, x.w.cell? ⟨bt, 1, none⟩ = some (.slice qa n qc) := fun x => (CC.out x.w x.ok).1.two.2
    have p2 : ∀ x : Cl C, x.w.cell? ⟨bh, 0, none⟩ = some (.slice ah hs.length ch) := fun x => (CC.out x.w x.ok).2.one
    refine wp_region_last (Cls C) 5 6 #[false, false, false, false, false, false] (by kernel_rfl) (by kernel_rfl) ?_
    refine anyL_seg [0, 1, 2] #[true, true, true, false, false, false] (fuel := 3) rfl (by kernel_rfl) ⟨⟨_, k0.out⟩, rfl⟩ ?_
    simp only [pickOps, List.getD_cons_succ, List.getD_cons_zero]
    repeat (go_big_quiet_step (fail))
    refine wpQuiet_nil ?_
    refine anyL_sole 3 #[true, true, true, true, false, false] (fuel := 2) (by kernel_rfl) ?_
    simp only [List.getD_cons_succ, List.getD_cons_zero]
    have ⟨r0, r1⟩ := S.out.r1.two; have rz := S.out.r1.2.2; have rl := S.out.r1.1
    have t0 := S.out.r3.one; have tz := S.out.r3.2.2; have tl := S.out.r3.1
    have nr := S.out.nr
    have n1 : ¬ R1 = R3 := nr.2.2.2.2
    have n2 : ¬ R3 = R1 := fun h => n1 h.symm
    clear nr
    have NB : Hid (bt ≠ R1 ∧ bh ≠ R1) := Lib.hid (by have h1 := S.out.nr; have h2 := S.out.ft.2; have h3 := S.out.fh.2; omega)
    have U1 : Hid (Upd [R1] (w5.drewN 1) (World.setCell (World.setCell (w5.drewN 1) ⟨R1, 0, none⟩ (.int .i64 cap)) ⟨R1, 1, none⟩ (.slice qa n qc))) := Lib.hid (Upd.setCell (p := ⟨R1, 1, none⟩) (Upd.setCell (p := ⟨R1, 0, none⟩) (Upd.refl [R1] (w5.drewN 1)) (by simp) _) (by simp) _)
    have k1 : Hid (C (World.setCell (World.setCell (w5.drewN 1) ⟨R1, 0, none⟩ (.int .i64 cap)) ⟨R1, 1, none⟩ (.slice qa n qc))) := Lib.hid (MK.out _ (by
      have k := CC.out _ k0.out
      have n := NB.out
      exact ⟨k.1.upd U1.out (by simp; omega), k.2.upd U1.out (by simp; omega)⟩))
    go_wp2
    refine ⟨⟨⟨_, k1.out⟩, rfl⟩, ?_⟩
    refine anyL_seg [4] #[true, true, true, true, true, false] (fuel := 1) rfl (by kernel_rfl) ⟨⟨_, k1.out⟩, rfl⟩ ?_
    simp only [pickOps, List.getD_cons_succ, List.getD_cons_zero]
    repeat (go_big_quiet_step (fail))
    refine wpQuiet_nil ?_
    refine anyL_last (by kernel_rfl) ?_
    simp only [List.getD_cons_succ, List.getD_cons_zero]
    go_wp2
    refine ⟨trivial, ?_⟩
    clear p0 p1 p2 k0 k1 hne
    have HR : Hid (∀ W, Upd [R1, R3] (w5.drewN 1) W → RetDL w (.returned (.tuple #[.agg #[.int .i64 cap, .slice qa n qc], .int .i64 x4, .agg #[.slice ah hs.length ch]])) W) := Lib.hid (fun W hu => by
      have k := S.out.keep G1.out NR.out hu
      exact ⟨_, _, es, _, _, hs, rfl, k, GS.out, LB.out, HC.out, WH.out⟩)
    go_wp2
    refine bodyPost_ret (v := .tuple #[.agg #[.int .i64 cap, .slice qa n qc], .int .i64 x4, .agg #[.slice ah hs.length ch]]) ?_ rfl (HR.out _ ?_)
    · simp [results, Try.results67, go_sem, r0, r1, rz, rl, t0, tz, tl, n1, n2] <;> omega
    · ((repeat (first | with_reducible exact Upd.refl _ _ | (with_reducible refine Upd.setCell ?_ (by simp) _))))
  subst k5
  obtain ⟨g, rfl⟩ := S.out.et.some_ (by omega)
  go_wp2_with fail
  replace S := Lib.hid (S.out.grow (Grow.drewN w5 1))
  obtain ⟨C, hC⟩ : ∃ C : World → Prop, C = fun W => TL w1 W p R1 R3 bt bh cap (.slice (some ⟨g, 0, none⟩) n qc) (.slice ah hs.length ch) es cs hs N := ⟨_, rfl⟩
  have CC : Hid (∀ W, C W → TL w1 W p R1 R3 bt bh cap (.slice (some ⟨g, 0, none⟩) n qc) (.slice ah hs.length ch) es cs hs N) := Lib.hid (fun W h => by rw [hC] at h; exact h)
  have MK : Hid (∀ W, TL w1 W p R1 R3 bt bh cap (.slice (some ⟨g, 0, none⟩) n qc) (.slice ah hs.length ch) es cs hs N → C W) := Lib.hid (fun W h => by rw [hC]; exact h)
  clear hC
  have k0 : Hid (C (w5.drewN 1)) := Lib.hid (MK.out _ S.out)
  have hne : Nonempty (Cl C) := ⟨⟨_, k0.out⟩⟩
  have p0 : ∀ x : Cl C, x.w.cell? ⟨bt, 0, none⟩ = some (.int .i64 cap) := fun x => (CC.out x.w x.ok).ft.1.two.1
  have p1 : ∀ x : Cl C, x.w.cell? ⟨bt, 1, none⟩ = some (.slice (some ⟨g, 0, none⟩) n qc) := fun x => (CC.out x.w x.ok).ft.1.two.2
  have NN := Lib.hid S.out.nn
  refine wp_region_last (Cls C) 10 11 #[false, false, false, false, false, false, false, false, false, false, false] (by kernel_rfl) (by kernel_rfl) ?_
  refine anyL_seg [0, 1, 2, 3, 4, 5] #[true, true, true, true, true, true, false, false, false, false, false] (fuel := 5) rfl (by kernel_rfl) ⟨⟨_, k0.out⟩, rfl⟩ ?_
  simp only [pickOps, List.getD_cons_succ, List.getD_cons_zero]
  repeat (go_big_quiet_step (fail))
  refine wpQuiet_nil ?_
  clear p0 p1
  apply viaE (fun i e1 x0 x1 x2 b W => TL w1 W p R1 R3 bt bh cap (.slice (some ⟨g, 0, none⟩) n qc) (.slice ah hs.length ch) es cs hs (b :: N) ∧ Bx w1 W b [.int .i64 0, .int .i64 0, .slice none 0 0, .slice none 0 0, .slice none 0 0, .int .i64 0] ∧ (b ≠ bt ∧ b ≠ bh ∧ b ∉ fpOf (.slice ah hs.length ch)) ∧ SubOK w1 W (b :: N) x0 x1 x2 e1 ∧ GoodE e1)
  · intro J
    refine anyL_two 6 9 #[true, true, true, true, true, true, true, false, false, false, false] #[true, true, true, true, true, true, false, false, false, true, false] (fuel := 4) (by kernel_rfl) ?_ ?_
    rotate_left
    · simp only [List.getD_cons_succ, List.getD_cons_zero]
      go_wp2
      have ga := Lib.hid (Grow.alloc (w5.drewN 1) (.cells #[.int .i64 0, .int .i64 0, .slice none 0 0, .slice none 0 0, .slice none 0 0, .int .i64 0] 68))
      have BE : Hid (Bx w1 ((w5.drewN 1).alloc (.cells #[.int .i64 0, .int .i64 0, .slice none 0 0, .slice none 0 0, .slice none 0 0, .int .i64 0] 68)) w5.heap.size [.int .i64 0, .int .i64 0, .slice none 0 0, .slice none 0 0, .slice none 0 0, .int .i64 0]) := Lib.hid (Bx.new S.out.d [.int .i64 0, .int .i64 0, .slice none 0 0, .slice none 0 0, .slice none 0 0, .int .i64 0] 68)
      have NB : Hid (w5.heap.size ≠ bt ∧ w5.heap.size ≠ bh ∧ w5.heap.size ∉ fpOf (.slice ah hs.length ch)) := Lib.hid ⟨by have : bt < w5.heap.size := S.out.ft.1.1; omega, by have : bh < w5.heap.size := S.out.fh.1.1; omega, fun hx => by have : w5.heap.size < w5.heap.size := (own_new_ S.out.oh _ hx).2; omega⟩
      replace S := Lib.hid ((S.out.more w5.heap.size (Nat.le_refl _)).grow ga.out)
      clear ga
      have cN := MK.out _ (S.out.less NN.out)
      refine ⟨⟨⟨_, cN⟩, rfl⟩, ?_⟩
      clear cN
      generalize (w5.drewN 1).alloc (.cells #[.int .i64 0, .int .i64 0, .slice none 0 0, .slice none 0 0, .slice none 0 0, .int .i64 0] 68) = vA at *
      generalize w5.heap.size = be at *
      refine anyL_sole 6 #[true, true, true, true, true, true, true, false, false, true, false] (fuel := 3) (by kernel_rfl) ?_
      simp only [List.getD_cons_succ, List.getD_cons_zero]
      go_wp2_with fail
      refine (l01Below_any _ p n (by omega) S.out.d.cur).mono ?_
      rintro e v6 ⟨x6, rfl, h6a, h6b, -, hC, hU⟩
      have h6b := h6b (by omega)
      replace BE := Lib.hid (BE.out.call S.out.d hU)
      replace S := Lib.hid (S.out.call hC hU)
      clear hC hU
      obtain ⟨i, rfl⟩ := Int.eq_ofNat_of_zero_le h6a
      have hi : i < es.length := by have := NL.out; omega
      obtain ⟨x0, x1, x2, Ic, Is⟩ := S.out.et.2.2 i hi
      have IS : Hid (SubOK w1 v6 (be :: N) x0 x1 x2 es[i]) := Lib.hid (Is.more (fun x hx => .inl (List.mem_append_right _ hx)))
      have IG := Lib.hid (GS.out.at hi)
      clear Is
      generalize hd_I : es[i] = e1 at *
      clear hd_I
      go_wp2
      refine ⟨⟨⟨_, MK.out _ (S.out.less NN.out)⟩, rfl⟩, ?_⟩
      have pd0 : ∀ x : Cl C, x.w.cell? ⟨g, i * 6, none⟩ = some (.int .i64 e1.epoch) := fun x => ((CC.out x.w x.ok).et.cells hi Ic).1
      have pd1 : ∀ x : Cl C, x.w.cell? ⟨g, i * 6 + 1, none⟩ = some (.int .i64 e1.prio) := fun x => ((CC.out x.w x.ok).et.cells hi Ic).2.1
      have pd2 : ∀ x : Cl C, x.w.cell? ⟨g, i * 6 + 2, none⟩ = some (x0) := fun x => ((CC.out x.w x.ok).et.cells hi Ic).2.2.1
      have pd3 : ∀ x : Cl C, x.w.cell? ⟨g, i * 6 + 3, none⟩ = some (x1) := fun x => ((CC.out x.w x.ok).et.cells hi Ic).2.2.2.1
      have pd4 : ∀ x : Cl C, x.w.cell? ⟨g, i * 6 + 4, none⟩ = some (x2) := fun x => ((CC.out x.w x.ok).et.cells hi Ic).2.2.2.2.1
      have pd5 : ∀ x : Cl C, x.w.cell? ⟨g, i * 6 + 5, none⟩ = some (.int .i64 e1.hits) := fun x => ((CC.out x.w x.ok).et.cells hi Ic).2.2.2.2.2
      refine anyL_seg [7, 8] #[true, true, true, true, true, true, true, true, true, true, false] (fuel := 1) rfl (by kernel_rfl) ⟨⟨_, MK.out _ (S.out.less NN.out)⟩, rfl⟩ ?_
      simp only [pickOps, List.getD_cons_succ, List.getD_cons_zero]
      repeat (go_big_quiet_step (fail))
      refine wpQuiet_nil ?_
      clear pd0 pd1 pd2 pd3 pd4 pd5
      clear Ic hi
      exact J i e1 x0 x1 x2 be v6 ⟨S.out, BE.out, NB.out, IS.out, IG.out⟩
    · simp only [List.getD_cons_succ, List.getD_cons_zero]
      go_wp2_with fail
      refine (l01Below_any _ p n (by omega) S.out.d.cur).mono ?_
      rintro e v6 ⟨x6, rfl, h6a, h6b, -, hC, hU⟩
      have h6b := h6b (by omega)
      replace S := Lib.hid (S.out.call hC hU)
      clear hC hU
      obtain ⟨i, rfl⟩ := Int.eq_ofNat_of_zero_le h6a
      have hi : i < es.length := by have := NL.out; omega
      obtain ⟨x0, x1, x2, Ic, Is⟩ := S.out.et.2.2 i hi
      have IS : Hid (SubOK w1 v6 N x0 x1 x2 es[i]) := Lib.hid (Is.more (fun x hx => .inl (List.mem_append_right _ hx)))
      have IG := Lib.hid (GS.out.at hi)
      clear Is
      generalize hd_I : es[i] = e1 at *
      clear hd_I
      go_wp2
      refine ⟨⟨⟨_, MK.out _ S.out⟩, rfl⟩, ?_⟩
      have pd0 : ∀ x : Cl C, x.w.cell? ⟨g, i * 6, none⟩ = some (.int .i64 e1.epoch) := fun x => ((CC.out x.w x.ok).et.cells hi Ic).1
      have pd1 : ∀ x : Cl C, x.w.cell? ⟨g, i * 6 + 1, none⟩ = some (.int .i64 e1.prio) := fun x => ((CC.out x.w x.ok).et.cells hi Ic).2.1
      have pd2 : ∀ x : Cl C, x.w.cell? ⟨g, i * 6 + 2, none⟩ = some (x0) := fun x => ((CC.out x.w x.ok).et.cells hi Ic).2.2.1
      have pd3 : ∀ x : Cl C, x.w.cell? ⟨g, i * 6 + 3, none⟩ = some (x1) := fun x => ((CC.out x.w x.ok).et.cells hi Ic).2.2.2.1
      have pd4 : ∀ x : Cl C, x.w.cell? ⟨g, i * 6 + 4, none⟩ = some (x2) := fun x => ((CC.out x.w x.ok).et.cells hi Ic).2.2.2.2.1
      have pd5 : ∀ x : Cl C, x.w.cell? ⟨g, i * 6 + 5, none⟩ = some (.int .i64 e1.hits) := fun x => ((CC.out x.w x.ok).et.cells hi Ic).2.2.2.2.2
      refine anyL_seg [7, 8] #[true, true, true, true, true, true, true, true, true, false, false] (fuel := 2) rfl (by kernel_rfl) ⟨⟨_, MK.out _ S.out⟩, rfl⟩ ?_
      simp only [pickOps, List.getD_cons_succ, List.getD_cons_zero]
      repeat (go_big_quiet_step (fail))
      refine wpQuiet_nil ?_
      clear pd0 pd1 pd2 pd3 pd4 pd5
      refine anyL_sole 9 #[true, true, true, true, true, true, true, true, true, true, false] (fuel := 1) (by kernel_rfl) ?_
      simp only [List.getD_cons_succ, List.getD_cons_zero]
      go_wp2
      have ga := Lib.hid (Grow.alloc v6 (.cells #[.int .i64 0, .int .i64 0, .slice none 0 0, .slice none 0 0, .slice none 0 0, .int .i64 0] 68))
      have BE : Hid (Bx w1 (v6.alloc (.cells #[.int .i64 0, .int .i64 0, .slice none 0 0, .slice none 0 0, .slice none 0 0, .int .i64 0] 68)) v6.heap.size [.int .i64 0, .int .i64 0, .slice none 0 0, .slice none 0 0, .slice none 0 0, .int .i64 0]) := Lib.hid (Bx.new S.out.d [.int .i64 0, .int .i64 0, .slice none 0 0, .slice none 0 0, .slice none 0 0, .int .i64 0] 68)
      have NB : Hid (v6.heap.size ≠ bt ∧ v6.heap.size ≠ bh ∧ v6.heap.size ∉ fpOf (.slice ah hs.length ch)) := Lib.hid ⟨by have := S.out.ft.1.1; omega, by have := S.out.fh.1.1; omega, fun hx => by have := (own_new_ S.out.oh _ hx).2; omega⟩
      replace IS : Hid (SubOK w1 (v6.alloc (.cells #[.int .i64 0, .int .i64 0, .slice none 0 0, .slice none 0 0, .slice none 0 0, .int .i64 0] 68)) (v6.heap.size :: N) x0 x1 x2 e1) := Lib.hid ((IS.out.more (fun x hx => by
        rcases List.mem_cons.1 hx with k | k
        · exact .inr (.inl (Nat.le_of_eq k.symm))
        · exact .inl k)).grow ga.out)
      replace S := Lib.hid ((S.out.more v6.heap.size (Nat.le_refl _)).grow ga.out)
      clear ga
      have cN := MK.out _ (S.out.less NN.out)
      refine ⟨⟨⟨_, cN⟩, rfl⟩, ?_⟩
      clear cN Ic hi
      generalize v6.alloc (.cells #[.int .i64 0, .int .i64 0, .slice none 0 0, .slice none 0 0, .slice none 0 0, .int .i64 0] 68) = vA at *
      generalize v6.heap.size = be at *
      exact J i e1 x0 x1 x2 be vA ⟨S.out, BE.out, NB.out, IS.out, IG.out⟩
  clear S
  intro i e1 x0 x1 x2 be W ⟨hS, hB, hNB, hI, hG⟩
  obtain ⟨y0, y3, rfl⟩ := own_shape hI.1
  obtain ⟨y1, y4, rfl⟩ := own_shape hI.2.1
  obtain ⟨y2, y5, rfl⟩ := own_shape hI.2.2.1
  have S := Lib.hid hS; have BE := Lib.hid hB; have NB := Lib.hid hNB; have IS := Lib.hid hI; have IG := Lib.hid hG
  clear hS hB hNB hI hG
  refine anyL_last (by kernel_rfl) ?_
  simp only [List.getD_cons_succ, List.getD_cons_zero]
  have ⟨b0, b1, b2, b3, b4, b5⟩ := BE.out.1.six; have bz := BE.out.1.2.2; have bl := BE.out.1.1
  go_wp2
  have U6 : Hid (Upd [be] W (World.setCell (World.setCell (World.setCell (World.setCell (World.setCell (World.setCell W ⟨be, 0, none⟩ (.int .i64 e1.epoch)) ⟨be, 1, none⟩ (.int .i64 e1.prio)) ⟨be, 2, none⟩ (.slice y0 e1.m.vs.length y3)) ⟨be, 3, none⟩ (.slice y1 e1.m.ms.length y4)) ⟨be, 4, none⟩ (.slice y2 e1.acts.length y5)) ⟨be, 5, none⟩ (.int .i64 e1.hits))) := Lib.hid (Upd.setCell (p := ⟨be, 5, none⟩) (Upd.setCell (p := ⟨be, 4, none⟩) (Upd.setCell (p := ⟨be, 3, none⟩) (Upd.setCell (p := ⟨be, 2, none⟩) (Upd.setCell (p := ⟨be, 1, none⟩) (Upd.setCell (p := ⟨be, 0, none⟩) (Upd.refl [be] W) (by simp) _) (by simp) _) (by simp) _) (by simp) _) (by simp) _) (by simp) _)
  replace S := Lib.hid (S.out.box U6.out BE.out.2 NB.out)
  replace IS := Lib.hid (IS.out.upd U6.out (fun x hx => .inl (by simp only [List.mem_cons, List.not_mem_nil, or_false] at hx; subst hx; exact List.mem_cons_self)))
  replace BE : Hid (Bx w1 (World.setCell (World.setCell (World.setCell (World.setCell (World.setCell (World.setCell W ⟨be, 0, none⟩ (.int .i64 e1.epoch)) ⟨be, 1, none⟩ (.int .i64 e1.prio)) ⟨be, 2, none⟩ (.slice y0 e1.m.vs.length y3)) ⟨be, 3, none⟩ (.slice y1 e1.m.ms.length y4)) ⟨be, 4, none⟩ (.slice y2 e1.acts.length y5)) ⟨be, 5, none⟩ (.int .i64 e1.hits)) be [.int .i64 e1.epoch, .int .i64 e1.prio, .slice y0 e1.m.vs.length y3, .slice y1 e1.m.ms.length y4, .slice y2 e1.acts.length y5, .int .i64 e1.hits]) := Lib.hid (Bx.set (Bx.set (Bx.set (Bx.set (Bx.set (Bx.set BE.out 0 (.int .i64 e1.epoch) (by simp)) 1 (.int .i64 e1.prio) (by simp)) 2 (.slice y0 e1.m.vs.length y3) (by simp)) 3 (.slice y1 e1.m.ms.length y4) (by simp)) 4 (.slice y2 e1.acts.length y5) (by simp)) 5 (.int .i64 e1.hits) (by simp))
  clear b0 b1 b2 b3 b4 b5 bz bl U6
  generalize (World.setCell (World.setCell (World.setCell (World.setCell (World.setCell (World.setCell W ⟨be, 0, none⟩ (.int .i64 e1.epoch)) ⟨be, 1, none⟩ (.int .i64 e1.prio)) ⟨be, 2, none⟩ (.slice y0 e1.m.vs.length y3)) ⟨be, 3, none⟩ (.slice y1 e1.m.ms.length y4)) ⟨be, 4, none⟩ (.slice y2 e1.acts.length y5)) ⟨be, 5, none⟩ (.int .i64 e1.hits)) = W6 at *
  refine ⟨trivial, ?_⟩
  clear CC MK k0 hne C NN
  have ⟨b0, b1, b2, b3, b4, b5⟩ := BE.out.1.six; have bl := BE.out.1.1
  go_wp2_with fail
  clear b0 b1 b2 b3 b4 b5 bl
  refine (matchOkS_any _ _ e1.m ⟨_, _, rfl, IS.out.1.rd, IS.out.2.1.rd⟩ IG.out.1.2.2.1).mono ?_
  rintro e w6 ⟨rfl, hg⟩
  replace S := Lib.hid (S.out.grow hg); replace BE := Lib.hid (BE.out.grow hg); replace IS := Lib.hid (IS.out.grow hg)
  clear hg
  cases hok : mtOk e1.m
  · go_wp2_with fail
    replace S := Lib.hid (S.out.grow (Grow.drewN w6 1))
    obtain ⟨C, hC⟩ : ∃ C : World → Prop, C = fun W => Box W bt [.int .i64 cap, .slice (some ⟨g, 0, none⟩) n qc] ∧ Box W bh [.slice ah hs.length ch] := ⟨_, rfl⟩
    have CC : Hid (∀ W, C W → Box W bt [.int .i64 cap, .slice (some ⟨g, 0, none⟩) n qc] ∧ Box W bh [.slice ah hs.length ch]) := Lib.hid (fun W h => by rw [hC] at h; exact h)
    have MK : Hid (∀ W, Box W bt [.int .i64 cap, .slice (some ⟨g, 0, none⟩) n qc] ∧ Box W bh [.slice ah hs.length ch] → C W) := Lib.hid (fun W h => by rw [hC]; exact h)
    clear hC
    have k0 : Hid (C (w6.drewN 1)) := Lib.hid (MK.out _ ⟨S.out.ft.1, S.out.fh.1⟩)
    have hne : Nonempty (Cl C) := ⟨⟨_, k0.out⟩⟩
    have p0 : ∀ x : Cl C, x.w.cell? ⟨bt, 0, none⟩ = some (.int .i64 cap) := fun x => (CC.out x.w x.ok).1.two.1
    have p1 : ∀ x : Cl C, x.w.cell? ⟨bt, 1, none⟩ = some (.slice (some ⟨g, 0, none⟩) n qc) := fun x => (CC.out x.w x.ok).1.two.2
    have p2 : ∀ x : Cl C, x.w.cell? ⟨bh, 0, none⟩ = some (.slice ah hs.length ch) := fun x => (CC.out x.w x.ok).2.one
    refine wp_region_last (Cls C) 5 6 #[false, false, false, false, false, false] (by kernel_rfl) (by kernel_rfl) ?_
    refine anyL_seg [0, 1, 2] #[true, true, true, false, false, false] (fuel := 3) rfl (by kernel_rfl) ⟨⟨_, k0.out⟩, rfl⟩ ?_
    simp only [pickOps, List.getD_cons_succ, List.getD_cons_zero]
    repeat (go_big_quiet_step (fail))
    refine wpQuiet_nil ?_
    refine anyL_sole 3 #[true, true, true, true, false, false] (fuel := 2) (by kernel_rfl) ?_
    simp only [List.getD_cons_succ, List.getD_cons_zero]
    have ⟨r0, r1⟩ := S.out.r1.two; have rz := S.out.r1.2.2; have rl := S.out.r1.1
    have t0 := S.out.r3.one; have tz := S.out.r3.2.2; have tl := S.out.r3.1
    have nr := S.out.nr
    have n1 : ¬ R1 = R3 := nr.2.2.2.2
    have n2 : ¬ R3 = R1 := fun h => n1 h.symm
    clear nr
    have NB : Hid (bt ≠ R1 ∧ bh ≠ R1) := Lib.hid (by have h1 := S.out.nr; have h2 := S.out.ft.2; have h3 := S.out.fh.2; omega)
    have U1 : Hid (Upd [R1] (w6.drewN 1) (World.setCell (World.setCell (w6.drewN 1) ⟨R1, 0, none⟩ (.int .i64 cap)) ⟨R1, 1, none⟩ (.slice (some ⟨g, 0, none⟩) n qc))) := Lib.hid (Upd.setCell (p := ⟨R1, 1, none⟩) (Upd.setCell (p := ⟨R1, 0, none⟩) (Upd.refl [R1] (w6.drewN 1)) (by simp) _) (by simp) _)
    have k1 : Hid (C (World.setCell (World.setCell (w6.drewN 1) ⟨R1, 0, none⟩ (.int .i64 cap)) ⟨R1, 1, none⟩ (.slice (some ⟨g, 0, none⟩) n qc))) := Lib.hid (MK.out _ (by
      have k := CC.out _ k0.out
      have n := NB.out
      exact ⟨k.1.upd U1.out (by simp; omega), k.2.upd U1.out (by simp; omega)⟩))
    go_wp2
    refine ⟨⟨⟨_, k1.out⟩, rfl⟩, ?_⟩
    refine anyL_seg [4] #[true, true, true, true, true, false] (fuel := 1) rfl (by kernel_rfl) ⟨⟨_, k1.out⟩, rfl⟩ ?_
    simp only [pickOps, List.getD_cons_succ, List.getD_cons_zero]
    repeat (go_big_quiet_step (fail))
    refine wpQuiet_nil ?_
    refine anyL_last (by kernel_rfl) ?_
    simp only [List.getD_cons_succ, List.getD_cons_zero]
    go_wp2
    refine ⟨trivial, ?_⟩
    clear p0 p1 p2 k0 k1 hne
    have HR : Hid (∀ W, Upd [R1, R3] (w6.drewN 1) W → RetDL w (.returned (.tuple #[.agg #[.int .i64 cap, .slice (some ⟨g, 0, none⟩) n qc], .int .i64 e1.epoch, .agg #[.slice ah hs.length ch]])) W) := Lib.hid (fun W hu => by
      have k := S.out.keep G1.out NR.out hu
      exact ⟨_, _, es, _, _, hs, rfl, k, GS.out, LB.out, HC.out, WH.out⟩)
    go_wp2
    refine bodyPost_ret (v := .tuple #[.agg #[.int .i64 cap, .slice (some ⟨g, 0, none⟩) n qc], .int .i64 e1.epoch, .agg #[.slice ah hs.length ch]]) ?_ rfl (HR.out _ ?_)
    · simp [results, Try.results67, go_sem, r0, r1, rz, rl, t0, tz, tl, n1, n2] <;> omega
    · ((repeat (first | with_reducible exact Upd.refl _ _ | (with_reducible refine Upd.setCell ?_ (by simp) _))))
  have L8 : Hid (e1.m.vs.length = 8 ∧ e1.m.ms.length = 8) := Lib.hid ⟨(mtOk_iff.1 hok).1, (hdOk_at (mtOk_iff.1 hok).2.1).1⟩
  clear hok
  have q0 := S.out.fh.1.one; have ql := S.out.fh.1.1
  go_wp2_with fail
  clear q0 ql
  refine (headOkS_any _ _ ⟨hs⟩ ⟨_, rfl, S.out.oh.rd⟩).mono ?_
  rintro e w7 ⟨rfl, hg⟩
  simp only
  replace S := Lib.hid (S.out.grow hg); replace BE := Lib.hid (BE.out.grow hg); replace IS := Lib.hid (IS.out.grow hg)
  clear hg
  cases hh : hdOk hs
  · go_wp2_with fail
    replace S := Lib.hid (S.out.grow (Grow.drewN w7 1))
    obtain ⟨C, hC⟩ : ∃ C : World → Prop, C = fun W => Box W bt [.int .i64 cap, .slice (some ⟨g, 0, none⟩) n qc] ∧ Box W bh [.slice ah hs.length ch] := ⟨_, rfl⟩
    have CC : Hid (∀ W, C W → Box W bt [.int .i64 cap, .slice (some ⟨g, 0, none⟩) n qc] ∧ Box W bh [.slice ah hs.length ch]) := Lib.hid (fun W h => by rw [hC] at h; exact h)
    have MK : Hid (∀ W, Box W bt [.int .i64 cap, .slice (some ⟨g, 0, none⟩) n qc] ∧ Box W bh [.slice ah hs.length ch] → C W) := Lib.hid (fun W h => by rw [hC]; exact h)
    clear hC
    have k0 : Hid (C (w7.drewN 1)) := Lib.hid (MK.out _ ⟨S.out.ft.1, S.out.fh.1⟩)
    have hne : Nonempty (Cl C) := ⟨⟨_, k0.out⟩⟩
    have p0 : ∀ x : Cl C, x.w.cell? ⟨bt, 0, none⟩ = some (.int .i64 cap) := fun x => (CC.out x.w x.ok).1.two.1
    have p1 : ∀ x : Cl C, x.w.cell? ⟨bt, 1, none⟩ = some (.slice (some ⟨g, 0, none⟩) n qc) := fun x => (CC.out x.w x.ok).1.two.2
    have p2 : ∀ x : Cl C, x.w.cell? ⟨bh, 0, none⟩ = some (.slice ah hs.length ch) := fun x => (CC.out x.w x.ok).2.one
    refine wp_region_last (Cls C) 5 6 #[false, false, false, false, false, false] (by kernel_rfl) (by kernel_rfl) ?_
    refine anyL_seg [0, 1, 2] #[true, true, true, false, false, false] (fuel := 3) rfl (by kernel_rfl) ⟨⟨_, k0.out⟩, rfl⟩ ?_
    simp only [pickOps, List.getD_cons_succ, List.getD_cons_zero]
    repeat (go_big_quiet_step (fail))
    refine wpQuiet_nil ?_
    refine anyL_sole 3 #[true, true, true, true, false, false] (fuel := 2) (by kernel_rfl) ?_
    simp only [List.getD_cons_succ, List.getD_cons_zero]
    have ⟨r0, r1⟩ := S.out.r1.two; have rz := S.out.r1.2.2; have rl := S.out.r1.1
    have t0 := S.out.r3.one; have tz := S.out.r3.2.2; have tl := S.out.r3.1
    have nr := S.out.nr
    have n1 : ¬ R1 = R3 := nr.2.2.2.2
    have n2 : ¬ R3 = R1 := fun h => n1 h.symm
    clear nr
    have NB : Hid (bt ≠ R1 ∧ bh ≠ R1) := Lib.hid (by have h1 := S.out.nr; have h2 := S.out.ft.2; have h3 := S.out.fh.2; omega)
    have U1 : Hid (Upd [R1] (w7.drewN 1) (World.setCell (World.setCell (w7.drewN 1) ⟨R1, 0, none⟩ (.int .i64 cap)) ⟨R1, 1, none⟩ (.slice (some ⟨g, 0, none⟩) n qc))) := Lib.hid (Upd.setCell (p := ⟨R1, 1, none⟩) (Upd.setCell (p := ⟨R1, 0, none⟩) (Upd.refl [R1] (w7.drewN 1)) (by simp) _) (by simp) _)
    have k1 : Hid (C (World.setCell (World.setCell (w7.drewN 1) ⟨R1, 0, none⟩ (.int .i64 cap)) ⟨R1, 1, none⟩ (.slice (some ⟨g, 0, none⟩) n qc))) := Lib.hid (MK.out _ (by
      have k := CC.out _ k0.out
      have n := NB.out
      exact ⟨k.1.upd U1.out (by simp; omega), k.2.upd U1.out (by simp; omega)⟩))
    go_wp2
    refine ⟨⟨⟨_, k1.out⟩, rfl⟩, ?_⟩
    refine anyL_seg [4] #[true, true, true, true, true, false] (fuel := 1) rfl (by kernel_rfl) ⟨⟨_, k1.out⟩, rfl⟩ ?_
    simp only [pickOps, List.getD_cons_succ, List.getD_cons_zero]
    repeat (go_big_quiet_step (fail))
    refine wpQuiet_nil ?_
    refine anyL_last (by kernel_rfl) ?_
    simp only [List.getD_cons_succ, List.getD_cons_zero]
    go_wp2
    refine ⟨trivial, ?_⟩
    clear p0 p1 p2 k0 k1 hne
    have HR : Hid (∀ W, Upd [R1, R3] (w7.drewN 1) W → RetDL w (.returned (.tuple #[.agg #[.int .i64 cap, .slice (some ⟨g, 0, none⟩) n qc], .int .i64 e1.epoch, .agg #[.slice ah hs.length ch]])) W) := Lib.hid (fun W hu => by
      have k := S.out.keep G1.out NR.out hu
      exact ⟨_, _, es, _, _, hs, rfl, k, GS.out, LB.out, HC.out, WH.out⟩)
    go_wp2
    refine bodyPost_ret (v := .tuple #[.agg #[.int .i64 cap, .slice (some ⟨g, 0, none⟩) n qc], .int .i64 e1.epoch, .agg #[.slice ah hs.length ch]]) ?_ rfl (HR.out _ ?_)
    · simp [results, Try.results67, go_sem, r0, r1, rz, rl, t0, tz, tl, n1, n2] <;> omega
    · ((repeat (first | with_reducible exact Upd.refl _ _ | (with_reducible refine Upd.setCell ?_ (by simp) _))))
  have LH : Hid (hs.length = 8) := Lib.hid (hdOk_at hh).1
  clear hh
  obtain ⟨e0, e2⟩ := L8.out; have e3 := LH.out
  obtain ⟨gh, rfl⟩ := own_some S.out.oh (by omega)
  obtain ⟨g0, rfl⟩ := own_some IS.out.1 (by omega)
  obtain ⟨g1, rfl⟩ := own_some IS.out.2.1 (by omega)
  rw [e3] at S NB ⊢
  rw [e0, e2] at IS BE ⊢
  clear e0 e2 e3
  have q0 := S.out.fh.1.one; have ql := S.out.fh.1.1
  go_wp2
  clear q0 ql
  go_loopw [49] (fun i wr => ∃ (k : Nat) (hs : List Int), k ≤ 8 ∧ i = .int .i64 k ∧ WfN hs ∧ (TL w1 wr p R1 R3 bt bh cap (.slice (some ⟨g, 0, none⟩) n qc) (.slice (some ⟨gh, 0, none⟩) 8 ch) es cs hs (be :: N)) ∧ Bx w1 wr be [.int .i64 e1.epoch, .int .i64 e1.prio, .slice (some ⟨g0, 0, none⟩) 8 y3, .slice (some ⟨g1, 0, none⟩) 8 y4, .slice y2 e1.acts.length y5, .int .i64 e1.hits] ∧ SubOK w1 wr (be :: N) (.slice (some ⟨g0, 0, none⟩) 8 y3) (.slice (some ⟨g1, 0, none⟩) 8 y4) (.slice y2 e1.acts.length y5) e1) (fun i _ => 8 - (intOf i).toNat)
  case atStart => exact ⟨0, hs, Nat.zero_le _, rfl, WH.out, S.out, BE.out, IS.out⟩
  case round =>
    clear S WH BE IS
    obtain ⟨k, hs, hk, rfl, hwf, hst, hbe, his⟩ := hrel
    rename World => wr
    have S := Lib.hid hst; have WH := Lib.hid hwf; have BE := Lib.hid hbe; have IS := Lib.hid his
    clear hst hwf hbe his
    by_cases hk8 : k < 8
    · go_wp2_with fail
      replace S := Lib.hid (S.out.grow (Grow.drewN wr 1)); replace BE := Lib.hid (BE.out.grow (Grow.drewN wr 1)); replace IS := Lib.hid (IS.out.grow (Grow.drewN wr 1))
      obtain ⟨C, hC⟩ : ∃ C : World → Prop, C = fun W => (TL w1 W p R1 R3 bt bh cap (.slice (some ⟨g, 0, none⟩) n qc) (.slice (some ⟨gh, 0, none⟩) 8 ch) es cs hs (be :: N)) ∧ Bx w1 W be [.int .i64 e1.epoch, .int .i64 e1.prio, .slice (some ⟨g0, 0, none⟩) 8 y3, .slice (some ⟨g1, 0, none⟩) 8 y4, .slice y2 e1.acts.length y5, .int .i64 e1.hits] ∧ SubOK w1 W (be :: N) (.slice (some ⟨g0, 0, none⟩) 8 y3) (.slice (some ⟨g1, 0, none⟩) 8 y4) (.slice y2 e1.acts.length y5) e1 := ⟨_, rfl⟩
      have CC : Hid (∀ W, C W → (TL w1 W p R1 R3 bt bh cap (.slice (some ⟨g, 0, none⟩) n qc) (.slice (some ⟨gh, 0, none⟩) 8 ch) es cs hs (be :: N)) ∧ Bx w1 W be [.int .i64 e1.epoch, .int .i64 e1.prio, .slice (some ⟨g0, 0, none⟩) 8 y3, .slice (some ⟨g1, 0, none⟩) 8 y4, .slice y2 e1.acts.length y5, .int .i64 e1.hits] ∧ SubOK w1 W (be :: N) (.slice (some ⟨g0, 0, none⟩) 8 y3) (.slice (some ⟨g1, 0, none⟩) 8 y4) (.slice y2 e1.acts.length y5) e1) := Lib.hid (fun W h => by rw [hC] at h; exact h)
      have MK : Hid (∀ W, (TL w1 W p R1 R3 bt bh cap (.slice (some ⟨g, 0, none⟩) n qc) (.slice (some ⟨gh, 0, none⟩) 8 ch) es cs hs (be :: N)) ∧ Bx w1 W be [.int .i64 e1.epoch, .int .i64 e1.prio, .slice (some ⟨g0, 0, none⟩) 8 y3, .slice (some ⟨g1, 0, none⟩) 8 y4, .slice y2 e1.acts.length y5, .int .i64 e1.hits] ∧ SubOK w1 W (be :: N) (.slice (some ⟨g0, 0, none⟩) 8 y3) (.slice (some ⟨g1, 0, none⟩) 8 y4) (.slice y2 e1.acts.length y5) e1 → C W) := Lib.hid (fun W h => by rw [hC]; exact h)
      clear hC
      have k0 : Hid (C (wr.drewN 1)) := Lib.hid (MK.out _ ⟨S.out, BE.out, IS.out⟩)
      have hne : Nonempty (Cl C) := ⟨⟨_, k0.out⟩⟩
      have p0 : ∀ x : Cl C, x.w.cell? ⟨bh, 0, none⟩ = some (.slice (some ⟨gh, 0, none⟩) 8 ch) := fun x => (CC.out x.w x.ok).1.fh.1.one
      have p1 : ∀ x : Cl C, x.w.cell? ⟨be, 2, none⟩ = some (.slice (some ⟨g0, 0, none⟩) 8 y3) := fun x => (CC.out x.w x.ok).2.1.1.six.2.2.1
      have p2 : ∀ x : Cl C, x.w.cell? ⟨be, 3, none⟩ = some (.slice (some ⟨g1, 0, none⟩) 8 y4) := fun x => (CC.out x.w x.ok).2.1.1.six.2.2.2.1
      have p3 : ∀ x : Cl C, x.w.cell? ⟨gh, k, none⟩ = some (.int .i64 (hs.getD k 0)) := fun x => (CC.out x.w x.ok).1.oh.at8 k hk8
      have p4 : ∀ x : Cl C, x.w.cell? ⟨g0, k, none⟩ = some (.int .i64 (e1.m.vs.getD k 0)) := fun x => (CC.out x.w x.ok).2.2.1.at8 k hk8
      have p5 : ∀ x : Cl C, x.w.cell? ⟨g1, k, none⟩ = some (.int .i64 (e1.m.ms.getD k 0)) := fun x => (CC.out x.w x.ok).2.2.2.1.at8 k hk8
      refine wp_region_last (Cls C) 23 24 #[false, false, false, false, false, false, false, false, false, false, false, false, false, false, false, false, false, false, false, false, false, false, false, false] (by kernel_rfl) (by kernel_rfl) ?_
      refine anyL_seg [0, 1, 2, 3, 4, 5, 6, 7, 8, 9, 10, 11, 12, 13, 14, 15, 16, 17, 18, 19, 20, 21, 22] #[true, true, true, true, true, true, true, true, true, true, true, true, true, true, true, true, true, true, true, true, true, true, true, false] (fuel := 1) rfl (by kernel_rfl) ⟨⟨_, k0.out⟩, rfl⟩ ?_
      simp only [pickOps, List.getD_cons_succ, List.getD_cons_zero]
      repeat (go_big_quiet_step (fail))
      refine wpQuiet_nil ?_
      refine anyL_last (by kernel_rfl) ?_
      simp only [List.getD_cons_succ, List.getD_cons_zero]
      have og := S.out.oh.at8 k hk8; have ⟨of, ol⟩ := S.out.oh.fz8
      clear p0 p1 p2 p3 p4 p5
      go_wp2
      have UG : Hid (Upd [gh] (wr.drewN 1) ((wr.drewN 1).setCell ⟨gh, k, none⟩ (.int .i64 (bits .or .i64 (bits .andNot .i64 (hs.getD k 0) (e1.m.ms.getD k 0)) (e1.m.vs.getD k 0))))) := Lib.hid (Upd.setCell (p := ⟨gh, k, none⟩) (Upd.refl [gh] (wr.drewN 1)) (by simp) _)
      have hgm : gh ∈ fpOf (.slice (some ⟨gh, 0, none⟩) 8 ch) := by simp [fpOf, Value.ownBlock]
      replace BE := Lib.hid (BE.out.own UG.out (by simp only [List.mem_cons, List.not_mem_nil, or_false]; intro e; exact NB.out.2.2 (e ▸ hgm)))
      replace IS := Lib.hid (IS.out.upd UG.out (fun x hx => .inl (by simp only [List.mem_cons, List.not_mem_nil, or_false] at hx; subst hx; exact S.out.nn _ (.inr (.inr hgm)))))
      replace S := Lib.hid (S.out.put k hk8 (bits .or .i64 (bits .andNot .i64 (hs.getD k 0) (e1.m.ms.getD k 0)) (e1.m.vs.getD k 0)))
      clear og of ol UG hgm
      refine ⟨trivial, ?_⟩
      clear CC MK k0 hne C
      replace WH := Lib.hid (WfN.set (k := k) (x := bits .or .i64 (bits .andNot .i64 (hs.getD k 0) (e1.m.ms.getD k 0)) (e1.m.vs.getD k 0)) WH.out (bits_I64 _ _ _))
      generalize hs.set k (bits .or .i64 (bits .andNot .i64 (hs.getD k 0) (e1.m.ms.getD k 0)) (e1.m.vs.getD k 0)) = hs at *
      go_wp2
      go_roundw
      case rel => exact ⟨k + 1, _, by omega, by go_num, WH.out, S.out, BE.out, IS.out⟩
      case measure => simp [intOf] <;> omega
    · obtain rfl : k = 8 := by omega
      go_wp2_with fail
      replace S := Lib.hid (S.out.grow (Grow.drewN wr 1))
      obtain ⟨C, hC⟩ : ∃ C : World → Prop, C = fun W => Box W bt [.int .i64 cap, .slice (some ⟨g, 0, none⟩) n qc] ∧ Box W bh [.slice (some ⟨gh, 0, none⟩) 8 ch] := ⟨_, rfl⟩
      have CC : Hid (∀ W, C W → Box W bt [.int .i64 cap, .slice (some ⟨g, 0, none⟩) n qc] ∧ Box W bh [.slice (some ⟨gh, 0, none⟩) 8 ch]) := Lib.hid (fun W h => by rw [hC] at h; exact h)
      have MK : Hid (∀ W, Box W bt [.int .i64 cap, .slice (some ⟨g, 0, none⟩) n qc] ∧ Box W bh [.slice (some ⟨gh, 0, none⟩) 8 ch] → C W) := Lib.hid (fun W h => by rw [hC]; exact h)
      clear hC
      have k0 : Hid (C (wr.drewN 1)) := Lib.hid (MK.out _ ⟨S.out.ft.1, S.out.fh.1⟩)
      have hne : Nonempty (Cl C) := ⟨⟨_, k0.out⟩⟩
      have p0 : ∀ x : Cl C, x.w.cell? ⟨bt, 0, none⟩ = some (.int .i64 cap) := fun x => (CC.out x.w x.ok).1.two.1
      have p1 : ∀ x : Cl C, x.w.cell? ⟨bt, 1, none⟩ = some (.slice (some ⟨g, 0, none⟩) n qc) := fun x => (CC.out x.w x.ok).1.two.2
      have p2 : ∀ x : Cl C, x.w.cell? ⟨bh, 0, none⟩ = some (.slice (some ⟨gh, 0, none⟩) 8 ch) := fun x => (CC.out x.w x.ok).2.one
      refine wp_region_last (Cls C) 5 6 #[false, false, false, false, false, false] (by kernel_rfl) (by kernel_rfl) ?_
      refine anyL_seg [0, 1, 2] #[true, true, true, false, false, false] (fuel := 3) rfl (by kernel_rfl) ⟨⟨_, k0.out⟩, rfl⟩ ?_
      simp only [pickOps, List.getD_cons_succ, List.getD_cons_zero]
      repeat (go_big_quiet_step (fail))
      refine wpQuiet_nil ?_
      refine anyL_sole 3 #[true, true, true, true, false, false] (fuel := 2) (by kernel_rfl) ?_
      simp only [List.getD_cons_succ, List.getD_cons_zero]
      have ⟨r0, r1⟩ := S.out.r1.two; have rz := S.out.r1.2.2; have rl := S.out.r1.1
      have t0 := S.out.r3.one; have tz := S.out.r3.2.2; have tl := S.out.r3.1
      have nr := S.out.nr
      have n1 : ¬ R1 = R3 := nr.2.2.2.2
      have n2 : ¬ R3 = R1 := fun h => n1 h.symm
      clear nr
      have NB : Hid (bt ≠ R1 ∧ bh ≠ R1) := Lib.hid (by have h1 := S.out.nr; have h2 := S.out.ft.2; have h3 := S.out.fh.2; omega)
      have U1 : Hid (Upd [R1] (wr.drewN 1) (World.setCell (World.setCell (wr.drewN 1) ⟨R1, 0, none⟩ (.int .i64 cap)) ⟨R1, 1, none⟩ (.slice (some ⟨g, 0, none⟩) n qc))) := Lib.hid (Upd.setCell (p := ⟨R1, 1, none⟩) (Upd.setCell (p := ⟨R1, 0, none⟩) (Upd.refl [R1] (wr.drewN 1)) (by simp) _) (by simp) _)
      have k1 : Hid (C (World.setCell (World.setCell (wr.drewN 1) ⟨R1, 0, none⟩ (.int .i64 cap)) ⟨R1, 1, none⟩ (.slice (some ⟨g, 0, none⟩) n qc))) := Lib.hid (MK.out _ (by
        have k := CC.out _ k0.out
        have n := NB.out
        exact ⟨k.1.upd U1.out (by simp; omega), k.2.upd U1.out (by simp; omega)⟩))
      go_wp2
      refine ⟨⟨⟨_, k1.out⟩, rfl⟩, ?_⟩
      refine anyL_seg [4] #[true, true, true, true, true, false] (fuel := 1) rfl (by kernel_rfl) ⟨⟨_, k1.out⟩, rfl⟩ ?_
      simp only [pickOps, List.getD_cons_succ, List.getD_cons_zero]
      repeat (go_big_quiet_step (fail))
      refine wpQuiet_nil ?_
      refine anyL_last (by kernel_rfl) ?_
      simp only [List.getD_cons_succ, List.getD_cons_zero]
      go_wp2
      refine ⟨trivial, ?_⟩
      clear p0 p1 p2 k0 k1 hne
      have HR : Hid (∀ W, Upd [R1, R3] (wr.drewN 1) W → RetDL w (.returned (.tuple #[.agg #[.int .i64 cap, .slice (some ⟨g, 0, none⟩) n qc], .int .i64 e1.epoch, .agg #[.slice (some ⟨gh, 0, none⟩) 8 ch]])) W) := Lib.hid (fun W hu => by
        have k := S.out.keep G1.out NR.out hu
        exact ⟨_, _, es, _, _, hs, rfl, k, GS.out, LB.out, HC.out, WH.out⟩)
      go_wp2
      refine bodyPost_ret (v := .tuple #[.agg #[.int .i64 cap, .slice (some ⟨g, 0, none⟩) n qc], .int .i64 e1.epoch, .agg #[.slice (some ⟨gh, 0, none⟩) 8 ch]]) ?_ rfl (HR.out _ ?_)
      · simp [results, Try.results67, go_sem, r0, r1, rz, rl, t0, tz, tl, n1, n2] <;> omega
      · ((repeat (first | with_reducible exact Upd.refl _ _ | (with_reducible refine Upd.setCell ?_ (by simp) _))))
--%
theorem mem_at {zs : List Int} {p : Int} {k : Nat} (h : k < zs.length) (e : zs[k] = p) : p ∈ zs := e ▸ List.getElem_mem h
theorem mem_none {zs : List Int} {p : Int} (h : ∀ j (hj : j < zs.length), ¬ zs[j] = p) : ¬ p ∈ zs := fun hm => by
  obtain ⟨j, hj, e⟩ := List.getElem_of_mem hm; exact h j hj e
--% hasInt 45
theorem hasInt_any (w : World) (v : Value) (zs : List Int) (p : Int) (h : RdN w v zs) : Calls Try.prog 45 #[v, .int .i64 p] w (RetV (.bool (decide (p ∈ zs))) w) := by
  obtain ⟨a, c, rfl, hlc, hm, hn, hc⟩ := Rd.ints h
  have H := Lib.hid hc; clear h hn hc
  unfold maxLen at hm
  go_enter Try.func45, Try.ntmps45
  go_wp2
  go_loopw [9] (fun i wr => ∃ k : Nat, k ≤ zs.length ∧ i = .int .i64 k ∧ (∀ j (hj : j < zs.length), j < k → ¬ zs[j] = p) ∧ Grow w wr) (fun i _ => zs.length - (intOf i).toNat)
  case atStart => exact ⟨0, Nat.zero_le _, rfl, fun j _ hj => absurd hj (Nat.not_lt_zero _), Grow.refl _⟩
  case round =>
    obtain ⟨k, hk, rfl, hal, hgr⟩ := hrel
    have HA := Lib.hid hal; have HG := Lib.hid hgr; clear hal hgr
    by_cases hlt : k < zs.length
    · obtain ⟨b, o, rfl, hc⟩ := H.out k hlt
      have hc := HG.out.cell hc
      have HE : Hid (∀ x, zs[k] = x → (p ∈ zs ↔ True) ∨ ¬ x = p) := Lib.hid (fun x hx => by
        by_cases e : x = p
        · exact .inl ⟨fun _ => trivial, fun _ => mem_at hlt (hx.trans e)⟩
        · exact .inr e)
      by_cases hkd : zs[k] = p
      · have hd : (zs[k] == p) = true := by simpa using hkd
        have HK : Hid (decide (p ∈ zs) = true) := Lib.hid (decide_eq_true (mem_at hlt hkd))
        clear hkd HE
        go_wp2
        go_ret
        exact ⟨ret_bool HK.out.symm, HG.out⟩
      · have hd : (zs[k] == p) = false := by simpa using hkd
        have HK := Lib.hid hkd; clear hkd HE
        go_wp2
        go_roundw
        case rel =>
          refine ⟨k + 1, by omega, by go_num, fun j hj hjk => ?_, HG.out⟩
          by_cases e : j = k
          · subst e; exact HK.out
          · exact HA.out j hj (by omega)
        case measure => simp [intOf]; omega
    · obtain rfl : k = zs.length := by omega
      have HK : Hid (decide (p ∈ zs) = false) := Lib.hid (decide_eq_false (mem_none (fun j hj => HA.out j hj hj)))
      go_wp2
      go_ret
      exact ⟨ret_bool HK.out.symm, HG.out⟩
--% walk FnHidden 16
set_option maxRecDepth 20000 in
set_option maxHeartbeats 4000000 in
theorem walk_FnHidden (w : World) (v0 : Value) (d0 : DatB) (h0 : RdB w v0 d0) (b0 : WfB d0) : Calls Try.prog 16 #[v0] w (RetV (.bool true) w) := by
  have H0 := Lib.hid h0; have B0 : Hid (Bytes d0) := Lib.hid b0
  obtain ⟨a0, c0, rfl, hlc0, hm0, hn0', hc0'⟩ := Rd.ints h0
  clear hn0' hc0' h0 b0
  unfold maxLen at hm0
  by_cases hl0 : 1048576 < d0.length
  · go_enter Try.func16, Try.ntmps16
    go_wp2
    go_ret
    exact ⟨rfl, Grow.refl _⟩
  go_enter Try.func16, Try.ntmps16
  go_wp2_with fail
  refine (drawLookup_any _ _ d0 H0.out B0.out (by omega)).mono ?_
  rintro e w1 ⟨cap, q, es, ep, vh, hs, rfl, ⟨oq, oh, hg⟩, gs, hle, hcp, hwf⟩
  have LE := Lib.hid hle
  obtain ⟨qa, qc, rfl, -, -, -, -⟩ := id oq
  obtain ⟨ah, ch, rfl, -, -, -, -⟩ := Rd.ints oh
  have ga := Lib.hid ((Grow.alloc w1 (.cells #[.int .i64 cap, .slice qa es.length qc] 79)).trans (Grow.alloc (w1.alloc (.cells #[.int .i64 cap, .slice qa es.length qc] 79)) (.cells #[.slice ah hs.length ch] 42)))
  have RT : Hid (RdT ((w1.alloc (.cells #[.int .i64 cap, .slice qa es.length qc] 79)).alloc (.cells #[.slice ah hs.length ch] 42)) (.agg #[.int .i64 cap, .slice qa es.length qc]) ⟨cap, es⟩) := Lib.hid ⟨_, rfl, oq.grow ga.out⟩
  have RH : Hid (RdH ((w1.alloc (.cells #[.int .i64 cap, .slice qa es.length qc] 79)).alloc (.cells #[.slice ah hs.length ch] 42)) (.agg #[.slice ah hs.length ch]) ⟨hs⟩) := Lib.hid ⟨_, rfl, oh.grow ga.out⟩
  have G1 := Lib.hid (hg.trans ga.out)
  have BT : Hid (Box ((w1.alloc (.cells #[.int .i64 cap, .slice qa es.length qc] 79)).alloc (.cells #[.slice ah hs.length ch] 42)) w1.heap.size [.int .i64 cap, .slice qa es.length qc]) := Lib.hid ((Box.alloc w1 [.int .i64 cap, .slice qa es.length qc] 79).grow (Grow.alloc _ _))
  have BH : Hid (Box ((w1.alloc (.cells #[.int .i64 cap, .slice qa es.length qc] 79)).alloc (.cells #[.slice ah hs.length ch] 42)) (w1.heap.size + 1) [.slice ah hs.length ch]) := Lib.hid ((Box.alloc (w1.alloc (.cells #[.int .i64 cap, .slice qa es.length qc] 79)) [.slice ah hs.length ch] 42).at_ (by simp only [World.alloc, Array.size_push]))
  have WT : Hid (WfT ⟨cap, es⟩) := Lib.hid ⟨hcp, gs.wf⟩
  have WH : Hid (WfH ⟨hs⟩) := Lib.hid hwf
  have NH := Lib.hid (hid_not ⟨cap, es⟩ ep ⟨hs⟩)
  clear oq oh hg ga gs hle hcp hwf
  have ⟨q0, q1⟩ := BT.out.two; have ql := BT.out.1; have s0 := BH.out.one; have sl := BH.out.1
  go_wp2_with fail
  clear q0 q1 ql s0 sl
  generalize ((w1.alloc (.cells #[.int .i64 cap, .slice qa es.length qc] 79)).alloc (.cells #[.slice ah hs.length ch] 42)) = w2 at *
  generalize w1.heap.size = bt at *
  refine (lookupI_any _ _ _ ⟨cap, es⟩ ep ⟨hs⟩ RT.out RH.out WT.out WH.out).mono ?_
  rintro e w3 ⟨rfl, hg⟩
  replace RT := Lib.hid (RT.out.grow hg); replace RH := Lib.hid (RH.out.grow hg); replace BT := Lib.hid (BT.out.grow hg); replace BH := Lib.hid (BH.out.grow hg); replace G1 := Lib.hid (G1.out.trans hg)
  clear hg
  have ⟨q0, q1⟩ := BT.out.two; have ql := BT.out.1; have s0 := BH.out.one; have sl := BH.out.1
  go_wp2_with fail
  clear q0 q1 ql s0 sl
  refine (hiddenI_any _ _ ⟨cap, es⟩ RT.out WT.out).mono ?_
  rintro e w4 ⟨vo, fo, rfl, ho, -, hg⟩
  have RO := Lib.hid ho.rd
  obtain ⟨oa, oc, rfl, -, -, -, -⟩ := Rd.ints ho.rd
  replace RT := Lib.hid (RT.out.grow hg); replace RH := Lib.hid (RH.out.grow hg); replace BT := Lib.hid (BT.out.grow hg); replace BH := Lib.hid (BH.out.grow hg); replace G1 := Lib.hid (G1.out.trans hg)
  clear hg ho
  have ⟨q0, q1⟩ := BT.out.two; have ql := BT.out.1; have s0 := BH.out.one; have sl := BH.out.1
  go_wp2_with fail
  clear q0 q1 ql s0 sl
  refine (lookupS_any _ _ _ ⟨cap, es⟩ ep ⟨hs⟩ RT.out RH.out WT.out WH.out).mono ?_
  rintro e w5 ⟨rfl, hg⟩
  replace RT := Lib.hid (RT.out.grow hg); replace RH := Lib.hid (RH.out.grow hg); replace BT := Lib.hid (BT.out.grow hg); replace BH := Lib.hid (BH.out.grow hg); replace RO := Lib.hid (RO.out.grow hg); replace G1 := Lib.hid (G1.out.trans hg)
  clear hg
  generalize lkF ⟨cap, es⟩ ep ⟨hs⟩ = li at *
  have ⟨q0, q1⟩ := BT.out.two; have ql := BT.out.1; have s0 := BH.out.one; have sl := BH.out.1
  go_wp2_with fail
  refine (hasInt_any _ _ (hdF ⟨cap, es⟩) li RO.out).mono ?_
  rintro e w6 ⟨rfl, hg⟩
  have hno : decide (li ∈ hdF ⟨cap, es⟩) = false := decide_eq_false NH.out
  rw [hno]
  clear hno
  clear q0 q1 ql s0 sl
  replace RT := Lib.hid (RT.out.grow hg); replace RH := Lib.hid (RH.out.grow hg); replace BT := Lib.hid (BT.out.grow hg); replace BH := Lib.hid (BH.out.grow hg); replace G1 := Lib.hid (G1.out.trans hg)
  clear hg
  have ⟨q0, q1⟩ := BT.out.two; have ql := BT.out.1; have s0 := BH.out.one; have sl := BH.out.1
  go_wp2_with fail
  clear q0 q1 ql s0 sl
  refine (hiddenS_any _ _ ⟨cap, es⟩ RT.out WT.out).mono ?_
  rintro e w7 ⟨vp, fp, rfl, ho, -, hg⟩
  obtain ⟨pa, pc, rfl, -, -, -, -⟩ := Rd.ints ho.rd
  replace G1 := Lib.hid (G1.out.trans hg)
  clear hg ho
  go_wp2
  go_ret
  exact ⟨rfl, G1.out⟩
--%
end Go.Proofs.Ytgigdpdmdldhnaa
