/- MatchAll: contracts of the code. -/
import Derived.Test.YtgigdpdmdldhnaaMt
import Derived.Test.YtgigdpdmdldhnaaCln
import Derived.Test.YtgigdpdmdldhnaaReg2
import Derived.WalkKit
import Derived.ProofKit
import Derived.Deep.QuietTactic
import Derived.BigQuiet
import Derived.Outline
import Derived.WalkSpells
namespace Go.Proofs.Ytgigdpdmdldhnaa
open Go.ChangeShapes Go.WideShapes Go.ChangeAt Go.RowKit
set_option linter.unusedVariables false
set_option linter.unusedSimpArgs false
--%
theorem ownN_made {w : World} {base g : Nat} (h : w.ownsRow base 3 1 (.slice (some ⟨g, 0, none⟩) 8 8) 8 (madeCells (Value.int .i64 0).cells (8 * 1)).toList) : OwnN w (.slice (some ⟨g, 0, none⟩) 8 8) (List.replicate 8 0) [g] := by
  refine ⟨?_, rfl⟩
  have e : (madeCells (Value.int .i64 0).cells (8 * 1)).toList = (List.replicate 8 (0 : Int)).map (Value.int .i64) := by
    show (madeCells #[Value.int .i64 0] 8).toList = _
    rw [toList_madeCells_one]; rfl
  rw [e] at h
  exact own_mono h (Nat.zero_le _)
/-- Two rows that stand apart make a match. -/
theorem ownM_mk {w : World} {g1 g2 n1 c1 n2 c2 : Nat} {d : MatchD} (h1 : OwnN w (.slice (some ⟨g1, 0, none⟩) n1 c1) d.vs [g1]) (h2 : OwnN w (.slice (some ⟨g2, 0, none⟩) n2 c2) d.ms [g2]) (hne : g1 ≠ g2) :
    OwnM w (.agg #[.slice (some ⟨g1, 0, none⟩) n1 c1, .slice (some ⟨g2, 0, none⟩) n2 c2]) d [g1, g2] :=
  ⟨_, _, [g1], [g2], rfl, rfl, by simp [hne], h1, h2⟩
--% each spec.MatchAll;S
theorem matchAllS_any (w : World) : Calls Try.prog 169 #[] w (RetNew OwnM allM w) := by
  obtain ⟨i0, hi, hz0, hz1, hz2⟩ := info_parts Try.infoInt
  go_enter Try.func169, Try.ntmps169
  go_wp2_with fail
  have hs0 : Hid (w.heap.size ≤ (w.alloc (.cells #[Value.slice none 0 0, .slice none 0 0] 66)).heap.size) := Lib.hid (Grow.alloc w _).size
  have B0 := Lib.hid (Box.alloc w [Value.slice none 0 0, .slice none 0 0] 66)
  have GD := Lib.hid (Grow.alloc w (.cells #[Value.slice none 0 0, .slice none 0 0] 66))
  have B0 : Hid (Box (w.alloc (.cells #[Value.slice none 0 0, .slice none 0 0] 66)) w.heap.size [Value.slice none 0 0, .slice none 0 0]) := B0
  generalize w.alloc (Obj.cells #[Value.slice none 0 0, .slice none 0 0] 66) = W0 at *
  have hne : Nonempty (Cl (Grow w)) := ⟨⟨w, Grow.refl _⟩⟩
  have GD := Lib.hid (GD.out.trans (Grow.drewN W0 1))
  have B0 := Lib.hid (B0.out.grow (Grow.drewN W0 1))
  refine wp_region_last (Cls (Grow w)) 3 4 #[false, false, false, false] (by kernel_rfl) (by kernel_rfl) ?_
  refine anyL_two 0 1 #[true, false, false, false] #[false, true, false, false] (fuel := 3) (by kernel_rfl) ?_ ?_
  · simp only [List.getD_cons_succ, List.getD_cons_zero]
    go_wp2_with (refine wpList_make_full _ rfl _ _ 22 rfl 0 3 i0 (.int .i64 0) 1 Try.underlying22 hi hz0 hz1 .i64 .i64 _ _ 8 rfl rfl rfl rfl (by rw [hz2]; decide) (by decide) (Nat.zero_le _) ?_; intro w1 hown hgr)
    have O1 := Lib.hid (ownN_made hown)
    have B1 := Lib.hid (B0.out.grow (Grow.of_grown hgr))
    have G1 := Lib.hid (GD.out.trans (Grow.of_grown hgr))
    clear hown hgr
    refine ⟨⟨⟨_, G1.out⟩, rfl⟩, ?_⟩
    refine anyL_sole 1 #[true, true, false, false] (fuel := 2) (by kernel_rfl) ?_
    simp only [List.getD_cons_succ, List.getD_cons_zero]
    go_wp2_with (refine wpList_make_full _ rfl _ _ 22 rfl 0 3 i0 (.int .i64 0) 1 Try.underlying22 hi hz0 hz1 .i64 .i64 _ _ 8 rfl rfl rfl rfl (by rw [hz2]; decide) (by decide) (Nat.zero_le _) ?_; intro w2 hown hgr)
    have O2 := Lib.hid (ownN_made hown)
    have P1 := Lib.hid (O1.out.grow (Grow.of_grown hgr))
    have hlt := O1.out.here _ (List.mem_singleton.2 rfl)
    have B2 := Lib.hid (B1.out.grow (Grow.of_grown hgr))
    have G2 := Lib.hid (G1.out.trans (Grow.of_grown hgr))
    have S0 : Hid (w.heap.size < W0.heap.size) := Lib.hid B0.out.1
    have HE : Hid (∀ W, Upd [w.heap.size] w2 W → RetNew OwnM allM w (.returned (.agg #[.slice (some ⟨W0.heap.size, 0, none⟩) 8 8, .slice (some ⟨w1.heap.size, 0, none⟩) 8 8])) W) := Lib.hid (fun W hu => by
      have hs := S0.out
      have hz : W0.heap.size < w1.heap.size := hlt
      refine ⟨_, _, rfl, ownM_mk (d := allM) (P1.out.upd hu (by simp; omega)) (O2.out.upd hu (by simp; omega)) (by omega), ?_, G2.out.box_end hu (by simp)⟩
      have h0 := hs0.out
      intro x hx
      simp only [List.mem_cons, List.not_mem_nil, or_false] at hx
      omega)
    clear hown hgr
    refine ⟨⟨⟨_, G2.out⟩, rfl⟩, ?_⟩
    refine anyL_seg [2] #[true, true, true, false] (fuel := 1) rfl (by kernel_rfl) ⟨⟨_, G2.out⟩, rfl⟩ ?_
    simp only [pickOps, List.getD_cons_succ, List.getD_cons_zero]
    repeat (go_big_quiet_step (fail))
    refine wpQuiet_nil ?_
    refine anyL_last (by kernel_rfl) ?_
    simp only [List.getD_cons_succ, List.getD_cons_zero]
    have ⟨q0, q1⟩ := B2.out.two
    have z0 := B2.out.2.2
    have l0 := B2.out.1
    go_wp2
    refine ⟨trivial, ?_⟩
    go_wp2
    refine bodyPost_ret (v := .agg #[.slice (some ⟨W0.heap.size, 0, none⟩) 8 8, .slice (some ⟨w1.heap.size, 0, none⟩) 8 8]) ?_ rfl (HE.out _ ?_)
    · simp [results, Try.results169, go_sem, q0, q1, z0, l0]
    · ((repeat (first | with_reducible exact Upd.refl _ _ | (with_reducible refine Upd.setCell ?_ (by simp) _))))
  · simp only [List.getD_cons_succ, List.getD_cons_zero]
    go_wp2_with (refine wpList_make_full _ rfl _ _ 22 rfl 0 3 i0 (.int .i64 0) 1 Try.underlying22 hi hz0 hz1 .i64 .i64 _ _ 8 rfl rfl rfl rfl (by rw [hz2]; decide) (by decide) (Nat.zero_le _) ?_; intro w1 hown hgr)
    have O1 := Lib.hid (ownN_made hown)
    have B1 := Lib.hid (B0.out.grow (Grow.of_grown hgr))
    have G1 := Lib.hid (GD.out.trans (Grow.of_grown hgr))
    clear hown hgr
    refine ⟨⟨⟨_, G1.out⟩, rfl⟩, ?_⟩
    refine anyL_sole 0 #[true, true, false, false] (fuel := 2) (by kernel_rfl) ?_
    simp only [List.getD_cons_succ, List.getD_cons_zero]
    go_wp2_with (refine wpList_make_full _ rfl _ _ 22 rfl 0 3 i0 (.int .i64 0) 1 Try.underlying22 hi hz0 hz1 .i64 .i64 _ _ 8 rfl rfl rfl rfl (by rw [hz2]; decide) (by decide) (Nat.zero_le _) ?_; intro w2 hown hgr)
    have O2 := Lib.hid (ownN_made hown)
    have P1 := Lib.hid (O1.out.grow (Grow.of_grown hgr))
    have hlt := O1.out.here _ (List.mem_singleton.2 rfl)
    have B2 := Lib.hid (B1.out.grow (Grow.of_grown hgr))
    have G2 := Lib.hid (G1.out.trans (Grow.of_grown hgr))
    have S0 : Hid (w.heap.size < W0.heap.size) := Lib.hid B0.out.1
    have HE : Hid (∀ W, Upd [w.heap.size] w2 W → RetNew OwnM allM w (.returned (.agg #[.slice (some ⟨w1.heap.size, 0, none⟩) 8 8, .slice (some ⟨W0.heap.size, 0, none⟩) 8 8])) W) := Lib.hid (fun W hu => by
      have hs := S0.out
      have hz : W0.heap.size < w1.heap.size := hlt
      refine ⟨_, _, rfl, ownM_mk (d := allM) (O2.out.upd hu (by simp; omega)) (P1.out.upd hu (by simp; omega)) (by omega), ?_, G2.out.box_end hu (by simp)⟩
      have h0 := hs0.out
      intro x hx
      simp only [List.mem_cons, List.not_mem_nil, or_false] at hx
      omega)
    clear hown hgr
    refine ⟨⟨⟨_, G2.out⟩, rfl⟩, ?_⟩
    refine anyL_seg [2] #[true, true, true, false] (fuel := 1) rfl (by kernel_rfl) ⟨⟨_, G2.out⟩, rfl⟩ ?_
    simp only [pickOps, List.getD_cons_succ, List.getD_cons_zero]
    repeat (go_big_quiet_step (fail))
    refine wpQuiet_nil ?_
    refine anyL_last (by kernel_rfl) ?_
    simp only [List.getD_cons_succ, List.getD_cons_zero]
    have ⟨q0, q1⟩ := B2.out.two
    have z0 := B2.out.2.2
    have l0 := B2.out.1
    go_wp2
    refine ⟨trivial, ?_⟩
    go_wp2
    refine bodyPost_ret (v := .agg #[.slice (some ⟨w1.heap.size, 0, none⟩) 8 8, .slice (some ⟨W0.heap.size, 0, none⟩) 8 8]) ?_ rfl (HE.out _ ?_)
    · simp [results, Try.results169, go_sem, q0, q1, z0, l0]
    · ((repeat (first | with_reducible exact Upd.refl _ _ | (with_reducible refine Upd.setCell ?_ (by simp) _))))
--%
end Go.Proofs.Ytgigdpdmdldhnaa
