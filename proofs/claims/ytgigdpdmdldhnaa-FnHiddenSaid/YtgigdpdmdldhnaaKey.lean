/- The order of entries and their keys: contracts of the code (printed by gkey.py). -/
import Derived.Test.YtgigdpdmdldhnaaEok
import Derived.Test.YtgigdpdmdldhnaaSm
import Derived.WalkKit
import Derived.ProofKit
import Derived.Deep.QuietTactic
import Derived.BigQuiet
import Derived.Outline
import Derived.WalkSpells
namespace Go.Proofs.Ytgigdpdmdldhnaa
open Go.ChangeShapes Go.WideShapes Go.ChangeAt Go.RowKit
set_option linter.unusedVariables false
set_option linter.unusedSimpArgs false
--%
def Bef (a b : EntryD) : Prop := a.epoch < b.epoch ∨ (a.epoch = b.epoch ∧ b.prio < a.prio)
instance (a b : EntryD) : Decidable (Bef a b) := by unfold Bef; exact inferInstance
def keyB (a b : EntryD) : Bool := decide (a.epoch = b.epoch) && (decide (a.prio = b.prio) && sameM a.m b.m)
theorem RdE.m {w : World} {e p h : Int} {v0 v1 v2 : Value} {d : EntryD} (hd : RdE w (.agg #[.int .i64 e, .int .i64 p, v0, v1, v2, .int .i64 h]) d) : RdM w (.agg #[v0, v1]) d.m := by
  obtain ⟨u0, u1, u2, e', h0, h1, h2⟩ := hd
  simp only [Value.agg.injEq, Array.mk.injEq, List.cons.injEq, and_true] at e'
  obtain ⟨-, -, rfl, rfl, -, -⟩ := e'
  exact ⟨_, _, rfl, h0, h1⟩
--% befI 100
theorem befI_any (w : World) (V U : Value) (a b : EntryD) (h1 : RdE w V a) (h2 : RdE w U b) : Calls Try.prog 100 #[V, U] w (RetV (.bool (decide (Bef a b))) w) := by
  obtain ⟨a0, c0, a1, c1, a2, c2, rfl⟩ := h1.shape
  obtain ⟨b0, e0, b1, e1, b2, e2, rfl⟩ := h2.shape
  clear h1 h2
  by_cases q1 : a.epoch < b.epoch
  · have HE := Lib.hid (decide_eq_true (p := Bef a b) (.inl q1))
    go_enter Try.func100, Try.ntmps100
    go_wp2
    go_ret
    refine ⟨ret_bool HE.out.symm, ?_⟩
    ((repeat (first | with_reducible exact Grow.refl _ | (with_reducible refine Grow.alloc_ ?_ _) | (with_reducible refine Grow.setCell_ ?_ (by first | exact Nat.le_refl _ | (simp only [World.alloc, Array.size_push]; omega) | omega) _))))
  by_cases q2 : a.epoch = b.epoch
  rotate_left
  · have hb : (a.epoch == b.epoch) = false := by simpa using q2
    have HE := Lib.hid (decide_eq_false (p := Bef a b) (by unfold Bef; omega))
    clear q2
    go_enter Try.func100, Try.ntmps100
    go_wp2
    go_ret
    refine ⟨ret_bool HE.out.symm, ?_⟩
    ((repeat (first | with_reducible exact Grow.refl _ | (with_reducible refine Grow.alloc_ ?_ _) | (with_reducible refine Grow.setCell_ ?_ (by first | exact Nat.le_refl _ | (simp only [World.alloc, Array.size_push]; omega) | omega) _))))
  have hb : (a.epoch == b.epoch) = true := by simpa using q2
  by_cases q3 : b.prio < a.prio
  · have HE := Lib.hid (decide_eq_true (p := Bef a b) (.inr ⟨q2, q3⟩))
    clear q2
    go_enter Try.func100, Try.ntmps100
    go_wp2
    go_ret
    refine ⟨ret_bool HE.out.symm, ?_⟩
    ((repeat (first | with_reducible exact Grow.refl _ | (with_reducible refine Grow.alloc_ ?_ _) | (with_reducible refine Grow.setCell_ ?_ (by first | exact Nat.le_refl _ | (simp only [World.alloc, Array.size_push]; omega) | omega) _))))
  · have HE := Lib.hid (decide_eq_false (p := Bef a b) (by unfold Bef; omega))
    clear q2
    go_enter Try.func100, Try.ntmps100
    go_wp2
    go_ret
    refine ⟨ret_bool HE.out.symm, ?_⟩
    ((repeat (first | with_reducible exact Grow.refl _ | (with_reducible refine Grow.alloc_ ?_ _) | (with_reducible refine Grow.setCell_ ?_ (by first | exact Nat.le_refl _ | (simp only [World.alloc, Array.size_push]; omega) | omega) _))))
--% befS 97
theorem befS_any (w : World) (V U : Value) (a b : EntryD) (h1 : RdE w V a) (h2 : RdE w U b) : Calls Try.prog 97 #[V, U] w (RetV (.bool (decide (Bef a b))) w) := by
  obtain ⟨a0, c0, a1, c1, a2, c2, rfl⟩ := h1.shape
  obtain ⟨b0, e0, b1, e1, b2, e2, rfl⟩ := h2.shape
  clear h1 h2
  by_cases q1 : a.epoch < b.epoch
  · have HE := Lib.hid (decide_eq_true (p := Bef a b) (.inl q1))
    go_enter Try.func97, Try.ntmps97
    go_wp2
    go_ret
    refine ⟨ret_bool HE.out.symm, ?_⟩
    ((repeat (first | with_reducible exact Grow.refl _ | (with_reducible refine Grow.alloc_ ?_ _) | (with_reducible refine Grow.setCell_ ?_ (by first | exact Nat.le_refl _ | (simp only [World.alloc, Array.size_push]; omega) | omega) _))))
  by_cases q2 : a.epoch = b.epoch
  rotate_left
  · have hb : (a.epoch == b.epoch) = false := by simpa using q2
    have HE := Lib.hid (decide_eq_false (p := Bef a b) (by unfold Bef; omega))
    clear q2
    go_enter Try.func97, Try.ntmps97
    go_wp2
    go_ret
    refine ⟨ret_bool HE.out.symm, ?_⟩
    ((repeat (first | with_reducible exact Grow.refl _ | (with_reducible refine Grow.alloc_ ?_ _) | (with_reducible refine Grow.setCell_ ?_ (by first | exact Nat.le_refl _ | (simp only [World.alloc, Array.size_push]; omega) | omega) _))))
  have hb : (a.epoch == b.epoch) = true := by simpa using q2
  by_cases q3 : b.prio < a.prio
  · have HE := Lib.hid (decide_eq_true (p := Bef a b) (.inr ⟨q2, q3⟩))
    clear q2
    go_enter Try.func97, Try.ntmps97
    go_wp2
    go_ret
    refine ⟨ret_bool HE.out.symm, ?_⟩
    ((repeat (first | with_reducible exact Grow.refl _ | (with_reducible refine Grow.alloc_ ?_ _) | (with_reducible refine Grow.setCell_ ?_ (by first | exact Nat.le_refl _ | (simp only [World.alloc, Array.size_push]; omega) | omega) _))))
  · have HE := Lib.hid (decide_eq_false (p := Bef a b) (by unfold Bef; omega))
    clear q2
    go_enter Try.func97, Try.ntmps97
    go_wp2
    go_ret
    refine ⟨ret_bool HE.out.symm, ?_⟩
    ((repeat (first | with_reducible exact Grow.refl _ | (with_reducible refine Grow.alloc_ ?_ _) | (with_reducible refine Grow.setCell_ ?_ (by first | exact Nat.le_refl _ | (simp only [World.alloc, Array.size_push]; omega) | omega) _))))
--% keyI 101
theorem keyI_any (w : World) (V U : Value) (a b : EntryD) (h1 : RdE w V a) (h2 : RdE w U b) (wa : WfE a) (wb : WfE b) : Calls Try.prog 101 #[V, U] w (RetV (.bool (keyB a b)) w) := by
  obtain ⟨a0, c0, a1, c1, a2, c2, rfl⟩ := h1.shape
  obtain ⟨b0, e0, b1, e1, b2, e2, rfl⟩ := h2.shape
  have HA := Lib.hid h1.m; have HB := Lib.hid h2.m
  clear h1 h2
  by_cases q1 : a.epoch = b.epoch
  rotate_left
  · have hb : (a.epoch == b.epoch) = false := by simpa using q1
    have HE : Hid (keyB a b = false) := Lib.hid (by simp [keyB, q1])
    clear q1
    go_enter Try.func101, Try.ntmps101
    go_wp2
    go_ret
    refine ⟨ret_bool HE.out.symm, ?_⟩
    ((repeat (first | with_reducible exact Grow.refl _ | (with_reducible refine Grow.alloc_ ?_ _) | (with_reducible refine Grow.setCell_ ?_ (by first | exact Nat.le_refl _ | (simp only [World.alloc, Array.size_push]; omega) | omega) _))))
  have hb1 : (a.epoch == b.epoch) = true := by simpa using q1
  by_cases q2 : a.prio = b.prio
  rotate_left
  · have hb : (a.prio == b.prio) = false := by simpa using q2
    have HE : Hid (keyB a b = false) := Lib.hid (by simp [keyB, q2])
    clear q1 q2
    go_enter Try.func101, Try.ntmps101
    go_wp2
    go_ret
    refine ⟨ret_bool HE.out.symm, ?_⟩
    ((repeat (first | with_reducible exact Grow.refl _ | (with_reducible refine Grow.alloc_ ?_ _) | (with_reducible refine Grow.setCell_ ?_ (by first | exact Nat.le_refl _ | (simp only [World.alloc, Array.size_push]; omega) | omega) _))))
  have hb2 : (a.prio == b.prio) = true := by simpa using q2
  have HE : Hid (keyB a b = sameM a.m b.m) := Lib.hid (by simp [keyB, q1, q2])
  clear q1 q2
  go_enter Try.func101, Try.ntmps101
  go_wp2_with fail
  refine at_world (w := w) ?G (fun hG => (sameMatchI_any _ _ _ a.m b.m (HA.out.grow hG) (HB.out.grow hG) wa.2.2.1 wb.2.2.1).mono ?_)
  case G => ((repeat (first | with_reducible exact Grow.refl _ | (with_reducible refine Grow.alloc_ ?_ _) | (with_reducible refine Grow.setCell_ ?_ (by first | exact Nat.le_refl _ | (simp only [World.alloc, Array.size_push]; omega) | omega) _))))
  rintro e w1 ⟨rfl, hg⟩
  have HG := Lib.hid (hG.trans hg); clear hG hg
  cases hs : sameM a.m b.m
  · rw [hs] at HE
    go_wp2
    go_ret
    exact ⟨ret_bool HE.out.symm, HG.out⟩
  · rw [hs] at HE
    go_wp2
    go_ret
    exact ⟨ret_bool HE.out.symm, HG.out⟩
--% keyS 98
theorem keyS_any (w : World) (V U : Value) (a b : EntryD) (h1 : RdE w V a) (h2 : RdE w U b) (wa : WfE a) (wb : WfE b) : Calls Try.prog 98 #[V, U] w (RetV (.bool (keyB a b)) w) := by
  obtain ⟨a0, c0, a1, c1, a2, c2, rfl⟩ := h1.shape
  obtain ⟨b0, e0, b1, e1, b2, e2, rfl⟩ := h2.shape
  have HA := Lib.hid h1.m; have HB := Lib.hid h2.m
  clear h1 h2
  by_cases q1 : a.epoch = b.epoch
  rotate_left
  · have hb : (a.epoch == b.epoch) = false := by simpa using q1
    have HE : Hid (keyB a b = false) := Lib.hid (by simp [keyB, q1])
    clear q1
    go_enter Try.func98, Try.ntmps98
    go_wp2
    go_ret
    refine ⟨ret_bool HE.out.symm, ?_⟩
    ((repeat (first | with_reducible exact Grow.refl _ | (with_reducible refine Grow.alloc_ ?_ _) | (with_reducible refine Grow.setCell_ ?_ (by first | exact Nat.le_refl _ | (simp only [World.alloc, Array.size_push]; omega) | omega) _))))
  have hb1 : (a.epoch == b.epoch) = true := by simpa using q1
  by_cases q2 : a.prio = b.prio
  rotate_left
  · have hb : (a.prio == b.prio) = false := by simpa using q2
    have HE : Hid (keyB a b = false) := Lib.hid (by simp [keyB, q2])
    clear q1 q2
    go_enter Try.func98, Try.ntmps98
    go_wp2
    go_ret
    refine ⟨ret_bool HE.out.symm, ?_⟩
    ((repeat (first | with_reducible exact Grow.refl _ | (with_reducible refine Grow.alloc_ ?_ _) | (with_reducible refine Grow.setCell_ ?_ (by first | exact Nat.le_refl _ | (simp only [World.alloc, Array.size_push]; omega) | omega) _))))
  have hb2 : (a.prio == b.prio) = true := by simpa using q2
  have HE : Hid (keyB a b = sameM a.m b.m) := Lib.hid (by simp [keyB, q1, q2])
  clear q1 q2
  go_enter Try.func98, Try.ntmps98
  go_wp2_with fail
  refine at_world (w := w) ?G (fun hG => (sameMatchS_any _ _ _ a.m b.m (HA.out.grow hG) (HB.out.grow hG) wa.2.2.1 wb.2.2.1).mono ?_)
  case G => ((repeat (first | with_reducible exact Grow.refl _ | (with_reducible refine Grow.alloc_ ?_ _) | (with_reducible refine Grow.setCell_ ?_ (by first | exact Nat.le_refl _ | (simp only [World.alloc, Array.size_push]; omega) | omega) _))))
  rintro e w1 ⟨rfl, hg⟩
  have HG := Lib.hid (hG.trans hg); clear hG hg
  cases hs : sameM a.m b.m
  · rw [hs] at HE
    go_wp2
    go_ret
    exact ⟨ret_bool HE.out.symm, HG.out⟩
  · rw [hs] at HE
    go_wp2
    go_ret
    exact ⟨ret_bool HE.out.symm, HG.out⟩
--%
end Go.Proofs.Ytgigdpdmdldhnaa
