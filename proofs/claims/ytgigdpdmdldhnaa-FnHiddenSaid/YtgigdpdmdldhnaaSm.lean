/- SameMatch: contracts of the code (printed by gsm.py). -/
import Derived.Test.YtgigdpdmdldhnaaMok
import Derived.Test.YtgigdpdmdldhnaaCln
import Derived.WalkKit
import Derived.ProofKit
import Derived.Deep.QuietTactic
import Derived.BigQuiet
import Derived.Outline
import Derived.WalkSpells
namespace Go.Proofs.Ytgigdpdmdldhnaa
open Go.ChangeShapes Go.WideShapes Go.ChangeAt Go.RowKit
set_option linter.unusedVariables false
set_option linter.unusedSimpArgs false
--% l04Same 155
theorem l04Same_any (v1 v2 : Value) (xs ys : List Int) (w : World) (h1 : RdN w v1 xs) (h2 : RdN w v2 ys) :
    Calls Try.prog 155 #[v1, v2] w (QuietBool (decide (xs = ys)) w) := by
  obtain ⟨a1, c1, rfl, hlc1, hm1, hn1, hc1⟩ := Rd.ints h1
  obtain ⟨a2, c2, rfl, hlc2, hm2, hn2, hc2⟩ := Rd.ints h2
  clear h1 h2 hn1 hn2
  have H1 := Lib.hid hc1; clear hc1
  have H2 := Lib.hid hc2; clear hc2
  unfold maxLen at hm1 hm2
  by_cases hl : xs.length = ys.length
  · have hb : ((xs.length : Int) != (ys.length : Int)) = false := by simp [hl]
    have HL := Lib.hid hl; clear hl
    go_enter Try.func155, Try.ntmps155
    go_wp2
    go_loopw [13] (fun i wr => ∃ k : Nat, k ≤ xs.length ∧ i = .int .i64 k ∧ xs.take k = ys.take k ∧ ∃ n, wr = w.drewN n) (fun i _ => xs.length - (intOf i).toNat)
    case atStart => exact ⟨0, Nat.zero_le _, rfl, by simp, 0, rfl⟩
    case round =>
      obtain ⟨k, hk, rfl, htk, n, rfl⟩ := hrel
      have HT := Lib.hid htk; clear htk
      by_cases hlt : k < xs.length
      · have hlt2 : k < ys.length := by rw [← HL.out]; exact hlt
        obtain ⟨b1, o1, rfl, hc1⟩ := H1.out k hlt
        obtain ⟨b2, o2, rfl, hc2⟩ := H2.out k hlt2
        by_cases he : xs[k] = ys[k]
        · have heb : (xs[k] != ys[k]) = false := by rw [he]; simp
          have HE := Lib.hid he; clear he
          go_wp2
          go_quiet (fail)
          go_wp2
          go_roundw
          case rel => exact ⟨k + 1, by omega, by go_num, take_succ_eq hlt hlt2 HT.out HE.out, _, rfl⟩
          case measure => simp [intOf]; omega
        · have heb : (xs[k] != ys[k]) = true := by simpa using he
          have HE := Lib.hid he; clear he
          go_wp2
          go_quiet (fail)
          go_wp2
          go_ret
          exact ⟨ret_bool (decide_eq_false (ne_of_at hlt hlt2 HE.out)).symm, ex_drewN w _ _⟩
      · go_wp2
        go_ret
        exact ⟨ret_bool (decide_eq_true (by have := HT.out; rwa [List.take_of_length_le (by omega), List.take_of_length_le (by rw [← HL.out]; omega)] at this)).symm, _, rfl⟩
  · have hb : ((xs.length : Int) != (ys.length : Int)) = true := by simp; omega
    have hne : xs ≠ ys := fun h => hl (by rw [h])
    have HN := Lib.hid hne; clear hne
    go_enter Try.func155, Try.ntmps155
    go_wp2
    go_ret
    exact ⟨ret_bool (decide_eq_false HN.out).symm, 0, rfl⟩
theorem l04Same_N (w : World) (v1 v2 : Value) (x y : List Int) (h1 : RdN w v1 x) (h2 : RdN w v2 y) : Calls Try.prog 155 #[v1, v2] w (RetV (.bool (decide (x = y))) w) :=
  (l04Same_any v1 v2 x y w h1 h2).mono fun _ _ h => RetV.of_quietBool h
--% SameMatchI 132
theorem sameMatchI_any (w : World) (V U : Value) (a b : DatM) (h : RdM w V a) (h2 : RdM w U b) (wa : WfM a) (wb : WfM b) : Calls Try.prog 132 #[V, U] w (RetV (.bool (sameM a b)) w) := by
  obtain ⟨v0, v1, rfl, hv0, hv1⟩ := h
  obtain ⟨v2, v3, rfl, hv2, hv3⟩ := h2
  have R0 := Lib.hid hv0
  clear hv0
  have R1 := Lib.hid hv1
  clear hv1
  have R2 := Lib.hid hv2
  clear hv2
  have R3 := Lib.hid hv3
  clear hv3
  cases hoka : mtOk a
  · have HE : Hid (sameM a b = false) := Lib.hid (by simp [sameM, hoka])
    go_enter Try.func132, Try.ntmps132
    go_wp2_with fail
    refine at_world (w := w) ?G (fun hG => (matchOkI_any _ _ a ⟨_, _, rfl, R0.out.grow hG, R1.out.grow hG⟩ wa).mono ?_)
    case G => ((repeat (first | with_reducible exact Grow.refl _ | (with_reducible refine Grow.alloc_ ?_ _) | (with_reducible refine Grow.setCell_ ?_ (by first | exact Nat.le_refl _ | (simp only [World.alloc, Array.size_push]; omega) | omega) _))))
    rintro e w1 ⟨rfl, hg⟩
    rw [hoka]
    have G1 := Lib.hid (hG.trans hg)
    have BA := Lib.hid ((Box.alloc w _ _).grow ((Grow.alloc _ _).trans hg))
    have BB := Lib.hid (((Box.alloc (w.alloc _) _ _).grow hg).at_ (b' := w.heap.size + 1) (by simp only [World.alloc, Array.size_push]))
    clear hG hg
    have ⟨q0, q1⟩ := BA.out.two
    have ⟨r0, r1⟩ := BB.out.two
    go_wp2
    go_ret
    exact ⟨ret_bool HE.out.symm, G1.out⟩
  cases hokb : mtOk b
  · have HE : Hid (sameM a b = false) := Lib.hid (by simp [sameM, hokb])
    go_enter Try.func132, Try.ntmps132
    go_wp2_with fail
    refine at_world (w := w) ?G (fun hG => (matchOkI_any _ _ a ⟨_, _, rfl, R0.out.grow hG, R1.out.grow hG⟩ wa).mono ?_)
    case G => ((repeat (first | with_reducible exact Grow.refl _ | (with_reducible refine Grow.alloc_ ?_ _) | (with_reducible refine Grow.setCell_ ?_ (by first | exact Nat.le_refl _ | (simp only [World.alloc, Array.size_push]; omega) | omega) _))))
    rintro e w1 ⟨rfl, hg⟩
    rw [hoka]
    have G1 := Lib.hid (hG.trans hg)
    have BA := Lib.hid ((Box.alloc w _ _).grow ((Grow.alloc _ _).trans hg))
    have BB := Lib.hid (((Box.alloc (w.alloc _) _ _).grow hg).at_ (b' := w.heap.size + 1) (by simp only [World.alloc, Array.size_push]))
    clear hG hg
    have ⟨q0, q1⟩ := BA.out.two
    have ⟨r0, r1⟩ := BB.out.two
    go_wp2_with fail
    refine (matchOkI_any _ _ b ⟨_, _, rfl, R2.out.grow G1.out, R3.out.grow G1.out⟩ wb).mono ?_
    rintro e w2 ⟨rfl, hg⟩
    rw [hokb]
    have G2 := Lib.hid (G1.out.trans hg)
    have BA := Lib.hid (BA.out.grow hg)
    have BB := Lib.hid (BB.out.grow hg)
    clear hg q0 q1 r0 r1
    have ⟨q0, q1⟩ := BA.out.two
    have ⟨r0, r1⟩ := BB.out.two
    go_wp2
    go_ret
    exact ⟨ret_bool HE.out.symm, G2.out⟩
  cases he1 : decide (a.vs = b.vs)
  · have HE : Hid (sameM a b = false) := Lib.hid (by simp [sameM, he1])
    go_enter Try.func132, Try.ntmps132
    go_wp2_with fail
    refine at_world (w := w) ?G (fun hG => (matchOkI_any _ _ a ⟨_, _, rfl, R0.out.grow hG, R1.out.grow hG⟩ wa).mono ?_)
    case G => ((repeat (first | with_reducible exact Grow.refl _ | (with_reducible refine Grow.alloc_ ?_ _) | (with_reducible refine Grow.setCell_ ?_ (by first | exact Nat.le_refl _ | (simp only [World.alloc, Array.size_push]; omega) | omega) _))))
    rintro e w1 ⟨rfl, hg⟩
    rw [hoka]
    have G1 := Lib.hid (hG.trans hg)
    have BA := Lib.hid ((Box.alloc w _ _).grow ((Grow.alloc _ _).trans hg))
    have BB := Lib.hid (((Box.alloc (w.alloc _) _ _).grow hg).at_ (b' := w.heap.size + 1) (by simp only [World.alloc, Array.size_push]))
    clear hG hg
    have ⟨q0, q1⟩ := BA.out.two
    have ⟨r0, r1⟩ := BB.out.two
    go_wp2_with fail
    refine (matchOkI_any _ _ b ⟨_, _, rfl, R2.out.grow G1.out, R3.out.grow G1.out⟩ wb).mono ?_
    rintro e w2 ⟨rfl, hg⟩
    rw [hokb]
    have G2 := Lib.hid (G1.out.trans hg)
    have BA := Lib.hid (BA.out.grow hg)
    have BB := Lib.hid (BB.out.grow hg)
    clear hg q0 q1 r0 r1
    have ⟨q0, q1⟩ := BA.out.two
    have ⟨r0, r1⟩ := BB.out.two
    go_wp2_with fail
    refine (equal_N _ _ _ _ _ (R0.out.grow G2.out) (R2.out.grow G2.out)).mono ?_
    rintro e w3 ⟨rfl, hg⟩
    rw [he1]
    have G3 := Lib.hid (G2.out.trans hg)
    have BA := Lib.hid (BA.out.grow hg)
    have BB := Lib.hid (BB.out.grow hg)
    clear hg q0 q1 r0 r1
    have ⟨q0, q1⟩ := BA.out.two
    have ⟨r0, r1⟩ := BB.out.two
    go_wp2
    go_ret
    exact ⟨ret_bool HE.out.symm, G3.out⟩
  cases he2 : decide (a.ms = b.ms)
  · have HE : Hid (sameM a b = false) := Lib.hid (by simp [sameM, he2])
    go_enter Try.func132, Try.ntmps132
    go_wp2_with fail
    refine at_world (w := w) ?G (fun hG => (matchOkI_any _ _ a ⟨_, _, rfl, R0.out.grow hG, R1.out.grow hG⟩ wa).mono ?_)
    case G => ((repeat (first | with_reducible exact Grow.refl _ | (with_reducible refine Grow.alloc_ ?_ _) | (with_reducible refine Grow.setCell_ ?_ (by first | exact Nat.le_refl _ | (simp only [World.alloc, Array.size_push]; omega) | omega) _))))
    rintro e w1 ⟨rfl, hg⟩
    rw [hoka]
    have G1 := Lib.hid (hG.trans hg)
    have BA := Lib.hid ((Box.alloc w _ _).grow ((Grow.alloc _ _).trans hg))
    have BB := Lib.hid (((Box.alloc (w.alloc _) _ _).grow hg).at_ (b' := w.heap.size + 1) (by simp only [World.alloc, Array.size_push]))
    clear hG hg
    have ⟨q0, q1⟩ := BA.out.two
    have ⟨r0, r1⟩ := BB.out.two
    go_wp2_with fail
    refine (matchOkI_any _ _ b ⟨_, _, rfl, R2.out.grow G1.out, R3.out.grow G1.out⟩ wb).mono ?_
    rintro e w2 ⟨rfl, hg⟩
    rw [hokb]
    have G2 := Lib.hid (G1.out.trans hg)
    have BA := Lib.hid (BA.out.grow hg)
    have BB := Lib.hid (BB.out.grow hg)
    clear hg q0 q1 r0 r1
    have ⟨q0, q1⟩ := BA.out.two
    have ⟨r0, r1⟩ := BB.out.two
    go_wp2_with fail
    refine (equal_N _ _ _ _ _ (R0.out.grow G2.out) (R2.out.grow G2.out)).mono ?_
    rintro e w3 ⟨rfl, hg⟩
    rw [he1]
    have G3 := Lib.hid (G2.out.trans hg)
    have BA := Lib.hid (BA.out.grow hg)
    have BB := Lib.hid (BB.out.grow hg)
    clear hg q0 q1 r0 r1
    have ⟨q0, q1⟩ := BA.out.two
    have ⟨r0, r1⟩ := BB.out.two
    go_wp2_with fail
    refine (equal_N _ _ _ _ _ (R1.out.grow G3.out) (R3.out.grow G3.out)).mono ?_
    rintro e w4 ⟨rfl, hg⟩
    rw [he2]
    have G4 := Lib.hid (G3.out.trans hg)
    have BA := Lib.hid (BA.out.grow hg)
    have BB := Lib.hid (BB.out.grow hg)
    clear hg q0 q1 r0 r1
    have ⟨q0, q1⟩ := BA.out.two
    have ⟨r0, r1⟩ := BB.out.two
    go_wp2
    go_ret
    exact ⟨ret_bool HE.out.symm, G4.out⟩
  have HE : Hid (sameM a b = true) := Lib.hid (by unfold sameM; rw [hoka, hokb, he1, he2]; rfl)
  go_enter Try.func132, Try.ntmps132
  go_wp2_with fail
  refine at_world (w := w) ?G (fun hG => (matchOkI_any _ _ a ⟨_, _, rfl, R0.out.grow hG, R1.out.grow hG⟩ wa).mono ?_)
  case G => ((repeat (first | with_reducible exact Grow.refl _ | (with_reducible refine Grow.alloc_ ?_ _) | (with_reducible refine Grow.setCell_ ?_ (by first | exact Nat.le_refl _ | (simp only [World.alloc, Array.size_push]; omega) | omega) _))))
  rintro e w1 ⟨rfl, hg⟩
  rw [hoka]
  have G1 := Lib.hid (hG.trans hg)
  have BA := Lib.hid ((Box.alloc w _ _).grow ((Grow.alloc _ _).trans hg))
  have BB := Lib.hid (((Box.alloc (w.alloc _) _ _).grow hg).at_ (b' := w.heap.size + 1) (by simp only [World.alloc, Array.size_push]))
  clear hG hg
  have ⟨q0, q1⟩ := BA.out.two
  have ⟨r0, r1⟩ := BB.out.two
  go_wp2_with fail
  refine (matchOkI_any _ _ b ⟨_, _, rfl, R2.out.grow G1.out, R3.out.grow G1.out⟩ wb).mono ?_
  rintro e w2 ⟨rfl, hg⟩
  rw [hokb]
  have G2 := Lib.hid (G1.out.trans hg)
  have BA := Lib.hid (BA.out.grow hg)
  have BB := Lib.hid (BB.out.grow hg)
  clear hg q0 q1 r0 r1
  have ⟨q0, q1⟩ := BA.out.two
  have ⟨r0, r1⟩ := BB.out.two
  go_wp2_with fail
  refine (equal_N _ _ _ _ _ (R0.out.grow G2.out) (R2.out.grow G2.out)).mono ?_
  rintro e w3 ⟨rfl, hg⟩
  rw [he1]
  have G3 := Lib.hid (G2.out.trans hg)
  have BA := Lib.hid (BA.out.grow hg)
  have BB := Lib.hid (BB.out.grow hg)
  clear hg q0 q1 r0 r1
  have ⟨q0, q1⟩ := BA.out.two
  have ⟨r0, r1⟩ := BB.out.two
  go_wp2_with fail
  refine (equal_N _ _ _ _ _ (R1.out.grow G3.out) (R3.out.grow G3.out)).mono ?_
  rintro e w4 ⟨rfl, hg⟩
  rw [he2]
  have G4 := Lib.hid (G3.out.trans hg)
  have BA := Lib.hid (BA.out.grow hg)
  have BB := Lib.hid (BB.out.grow hg)
  clear hg q0 q1 r0 r1
  have ⟨q0, q1⟩ := BA.out.two
  have ⟨r0, r1⟩ := BB.out.two
  go_wp2
  go_ret
  exact ⟨ret_bool HE.out.symm, G4.out⟩
--% SameMatchS 131
theorem sameMatchS_any (w : World) (V U : Value) (a b : DatM) (h : RdM w V a) (h2 : RdM w U b) (wa : WfM a) (wb : WfM b) : Calls Try.prog 131 #[V, U] w (RetV (.bool (sameM a b)) w) := by
  obtain ⟨v0, v1, rfl, hv0, hv1⟩ := h
  obtain ⟨v2, v3, rfl, hv2, hv3⟩ := h2
  have R0 := Lib.hid hv0
  clear hv0
  have R1 := Lib.hid hv1
  clear hv1
  have R2 := Lib.hid hv2
  clear hv2
  have R3 := Lib.hid hv3
  clear hv3
  cases hoka : mtOk a
  · have HE : Hid (sameM a b = false) := Lib.hid (by simp [sameM, hoka])
    go_enter Try.func131, Try.ntmps131
    go_wp2_with fail
    refine at_world (w := w) ?G (fun hG => (matchOkS_any _ _ a ⟨_, _, rfl, R0.out.grow hG, R1.out.grow hG⟩ wa).mono ?_)
    case G => ((repeat (first | with_reducible exact Grow.refl _ | (with_reducible refine Grow.alloc_ ?_ _) | (with_reducible refine Grow.setCell_ ?_ (by first | exact Nat.le_refl _ | (simp only [World.alloc, Array.size_push]; omega) | omega) _))))
    rintro e w1 ⟨rfl, hg⟩
    rw [hoka]
    have G1 := Lib.hid (hG.trans hg)
    have BA := Lib.hid ((Box.alloc w _ _).grow ((Grow.alloc _ _).trans hg))
    have BB := Lib.hid (((Box.alloc (w.alloc _) _ _).grow hg).at_ (b' := w.heap.size + 1) (by simp only [World.alloc, Array.size_push]))
    clear hG hg
    have ⟨q0, q1⟩ := BA.out.two
    have ⟨r0, r1⟩ := BB.out.two
    go_wp2
    go_ret
    exact ⟨ret_bool HE.out.symm, G1.out⟩
  cases hokb : mtOk b
  · have HE : Hid (sameM a b = false) := Lib.hid (by simp [sameM, hokb])
    go_enter Try.func131, Try.ntmps131
    go_wp2_with fail
    refine at_world (w := w) ?G (fun hG => (matchOkS_any _ _ a ⟨_, _, rfl, R0.out.grow hG, R1.out.grow hG⟩ wa).mono ?_)
    case G => ((repeat (first | with_reducible exact Grow.refl _ | (with_reducible refine Grow.alloc_ ?_ _) | (with_reducible refine Grow.setCell_ ?_ (by first | exact Nat.le_refl _ | (simp only [World.alloc, Array.size_push]; omega) | omega) _))))
    rintro e w1 ⟨rfl, hg⟩
    rw [hoka]
    have G1 := Lib.hid (hG.trans hg)
    have BA := Lib.hid ((Box.alloc w _ _).grow ((Grow.alloc _ _).trans hg))
    have BB := Lib.hid (((Box.alloc (w.alloc _) _ _).grow hg).at_ (b' := w.heap.size + 1) (by simp only [World.alloc, Array.size_push]))
    clear hG hg
    have ⟨q0, q1⟩ := BA.out.two
    have ⟨r0, r1⟩ := BB.out.two
    go_wp2_with fail
    refine (matchOkS_any _ _ b ⟨_, _, rfl, R2.out.grow G1.out, R3.out.grow G1.out⟩ wb).mono ?_
    rintro e w2 ⟨rfl, hg⟩
    rw [hokb]
    have G2 := Lib.hid (G1.out.trans hg)
    have BA := Lib.hid (BA.out.grow hg)
    have BB := Lib.hid (BB.out.grow hg)
    clear hg q0 q1 r0 r1
    have ⟨q0, q1⟩ := BA.out.two
    have ⟨r0, r1⟩ := BB.out.two
    go_wp2
    go_ret
    exact ⟨ret_bool HE.out.symm, G2.out⟩
  cases he1 : decide (a.vs = b.vs)
  · have HE : Hid (sameM a b = false) := Lib.hid (by simp [sameM, he1])
    go_enter Try.func131, Try.ntmps131
    go_wp2_with fail
    refine at_world (w := w) ?G (fun hG => (matchOkS_any _ _ a ⟨_, _, rfl, R0.out.grow hG, R1.out.grow hG⟩ wa).mono ?_)
    case G => ((repeat (first | with_reducible exact Grow.refl _ | (with_reducible refine Grow.alloc_ ?_ _) | (with_reducible refine Grow.setCell_ ?_ (by first | exact Nat.le_refl _ | (simp only [World.alloc, Array.size_push]; omega) | omega) _))))
    rintro e w1 ⟨rfl, hg⟩
    rw [hoka]
    have G1 := Lib.hid (hG.trans hg)
    have BA := Lib.hid ((Box.alloc w _ _).grow ((Grow.alloc _ _).trans hg))
    have BB := Lib.hid (((Box.alloc (w.alloc _) _ _).grow hg).at_ (b' := w.heap.size + 1) (by simp only [World.alloc, Array.size_push]))
    clear hG hg
    have ⟨q0, q1⟩ := BA.out.two
    have ⟨r0, r1⟩ := BB.out.two
    go_wp2_with fail
    refine (matchOkS_any _ _ b ⟨_, _, rfl, R2.out.grow G1.out, R3.out.grow G1.out⟩ wb).mono ?_
    rintro e w2 ⟨rfl, hg⟩
    rw [hokb]
    have G2 := Lib.hid (G1.out.trans hg)
    have BA := Lib.hid (BA.out.grow hg)
    have BB := Lib.hid (BB.out.grow hg)
    clear hg q0 q1 r0 r1
    have ⟨q0, q1⟩ := BA.out.two
    have ⟨r0, r1⟩ := BB.out.two
    go_wp2_with fail
    refine (l04Same_N _ _ _ _ _ (R0.out.grow G2.out) (R2.out.grow G2.out)).mono ?_
    rintro e w3 ⟨rfl, hg⟩
    rw [he1]
    have G3 := Lib.hid (G2.out.trans hg)
    have BA := Lib.hid (BA.out.grow hg)
    have BB := Lib.hid (BB.out.grow hg)
    clear hg q0 q1 r0 r1
    have ⟨q0, q1⟩ := BA.out.two
    have ⟨r0, r1⟩ := BB.out.two
    go_wp2
    go_ret
    exact ⟨ret_bool HE.out.symm, G3.out⟩
  cases he2 : decide (a.ms = b.ms)
  · have HE : Hid (sameM a b = false) := Lib.hid (by simp [sameM, he2])
    go_enter Try.func131, Try.ntmps131
    go_wp2_with fail
    refine at_world (w := w) ?G (fun hG => (matchOkS_any _ _ a ⟨_, _, rfl, R0.out.grow hG, R1.out.grow hG⟩ wa).mono ?_)
    case G => ((repeat (first | with_reducible exact Grow.refl _ | (with_reducible refine Grow.alloc_ ?_ _) | (with_reducible refine Grow.setCell_ ?_ (by first | exact Nat.le_refl _ | (simp only [World.alloc, Array.size_push]; omega) | omega) _))))
    rintro e w1 ⟨rfl, hg⟩
    rw [hoka]
    have G1 := Lib.hid (hG.trans hg)
    have BA := Lib.hid ((Box.alloc w _ _).grow ((Grow.alloc _ _).trans hg))
    have BB := Lib.hid (((Box.alloc (w.alloc _) _ _).grow hg).at_ (b' := w.heap.size + 1) (by simp only [World.alloc, Array.size_push]))
    clear hG hg
    have ⟨q0, q1⟩ := BA.out.two
    have ⟨r0, r1⟩ := BB.out.two
    go_wp2_with fail
    refine (matchOkS_any _ _ b ⟨_, _, rfl, R2.out.grow G1.out, R3.out.grow G1.out⟩ wb).mono ?_
    rintro e w2 ⟨rfl, hg⟩
    rw [hokb]
    have G2 := Lib.hid (G1.out.trans hg)
    have BA := Lib.hid (BA.out.grow hg)
    have BB := Lib.hid (BB.out.grow hg)
    clear hg q0 q1 r0 r1
    have ⟨q0, q1⟩ := BA.out.two
    have ⟨r0, r1⟩ := BB.out.two
    go_wp2_with fail
    refine (l04Same_N _ _ _ _ _ (R0.out.grow G2.out) (R2.out.grow G2.out)).mono ?_
    rintro e w3 ⟨rfl, hg⟩
    rw [he1]
    have G3 := Lib.hid (G2.out.trans hg)
    have BA := Lib.hid (BA.out.grow hg)
    have BB := Lib.hid (BB.out.grow hg)
    clear hg q0 q1 r0 r1
    have ⟨q0, q1⟩ := BA.out.two
    have ⟨r0, r1⟩ := BB.out.two
    go_wp2_with fail
    refine (l04Same_N _ _ _ _ _ (R1.out.grow G3.out) (R3.out.grow G3.out)).mono ?_
    rintro e w4 ⟨rfl, hg⟩
    rw [he2]
    have G4 := Lib.hid (G3.out.trans hg)
    have BA := Lib.hid (BA.out.grow hg)
    have BB := Lib.hid (BB.out.grow hg)
    clear hg q0 q1 r0 r1
    have ⟨q0, q1⟩ := BA.out.two
    have ⟨r0, r1⟩ := BB.out.two
    go_wp2
    go_ret
    exact ⟨ret_bool HE.out.symm, G4.out⟩
  have HE : Hid (sameM a b = true) := Lib.hid (by unfold sameM; rw [hoka, hokb, he1, he2]; rfl)
  go_enter Try.func131, Try.ntmps131
  go_wp2_with fail
  refine at_world (w := w) ?G (fun hG => (matchOkS_any _ _ a ⟨_, _, rfl, R0.out.grow hG, R1.out.grow hG⟩ wa).mono ?_)
  case G => ((repeat (first | with_reducible exact Grow.refl _ | (with_reducible refine Grow.alloc_ ?_ _) | (with_reducible refine Grow.setCell_ ?_ (by first | exact Nat.le_refl _ | (simp only [World.alloc, Array.size_push]; omega) | omega) _))))
  rintro e w1 ⟨rfl, hg⟩
  rw [hoka]
  have G1 := Lib.hid (hG.trans hg)
  have BA := Lib.hid ((Box.alloc w _ _).grow ((Grow.alloc _ _).trans hg))
  have BB := Lib.hid (((Box.alloc (w.alloc _) _ _).grow hg).at_ (b' := w.heap.size + 1) (by simp only [World.alloc, Array.size_push]))
  clear hG hg
  have ⟨q0, q1⟩ := BA.out.two
  have ⟨r0, r1⟩ := BB.out.two
  go_wp2_with fail
  refine (matchOkS_any _ _ b ⟨_, _, rfl, R2.out.grow G1.out, R3.out.grow G1.out⟩ wb).mono ?_
  rintro e w2 ⟨rfl, hg⟩
  rw [hokb]
  have G2 := Lib.hid (G1.out.trans hg)
  have BA := Lib.hid (BA.out.grow hg)
  have BB := Lib.hid (BB.out.grow hg)
  clear hg q0 q1 r0 r1
  have ⟨q0, q1⟩ := BA.out.two
  have ⟨r0, r1⟩ := BB.out.two
  go_wp2_with fail
  refine (l04Same_N _ _ _ _ _ (R0.out.grow G2.out) (R2.out.grow G2.out)).mono ?_
  rintro e w3 ⟨rfl, hg⟩
  rw [he1]
  have G3 := Lib.hid (G2.out.trans hg)
  have BA := Lib.hid (BA.out.grow hg)
  have BB := Lib.hid (BB.out.grow hg)
  clear hg q0 q1 r0 r1
  have ⟨q0, q1⟩ := BA.out.two
  have ⟨r0, r1⟩ := BB.out.two
  go_wp2_with fail
  refine (l04Same_N _ _ _ _ _ (R1.out.grow G3.out) (R3.out.grow G3.out)).mono ?_
  rintro e w4 ⟨rfl, hg⟩
  rw [he2]
  have G4 := Lib.hid (G3.out.trans hg)
  have BA := Lib.hid (BA.out.grow hg)
  have BB := Lib.hid (BB.out.grow hg)
  clear hg q0 q1 r0 r1
  have ⟨q0, q1⟩ := BA.out.two
  have ⟨r0, r1⟩ := BB.out.two
  go_wp2
  go_ret
  exact ⟨ret_bool HE.out.symm, G4.out⟩
--%
end Go.Proofs.Ytgigdpdmdldhnaa
