/- walk of the law on the match of a field's first bits -/
import Derived.Test.YtkkhkojojnebjaaOpn
import Derived.Test.YtkkhkojojnebjaaMbs
import Derived.WalkKit
import Derived.ProofKit
import Derived.OpenShut
import Derived.ShutString
import Derived.ChangeOld
import Derived.Below
import Derived.SizedLaws
import Derived.WalkSpells
import Derived.Deep.QuietTactic
import Derived.BigQuiet
import Derived.Outline
namespace Go.Proofs.Ytkkhkojojnebjaa
open Go.ChangeShapes Go.WideShapes Go.ChangeAt Go.RowKit
open Go.ChangeMaps (open_string shut_string)
set_option linter.unusedVariables false
set_option linter.unusedSimpArgs false
--% matchBitsS
theorem matchBitsS_C (w : World) (n0 : Int) (hn0 : -9223372036854775808 ≤ n0 ∧ n0 ≤ 9223372036854775807) (n1 : Int) (hn1 : -9223372036854775808 ≤ n1 ∧ n1 ≤ 9223372036854775807) (n2 : Int) (hn2 : -9223372036854775808 ≤ n2 ∧ n2 ≤ 9223372036854775807) : Calls Try.prog 40 #[.int .i64 n0, .int .i64 n1, .int .i64 n2] w (RetNew2 OwnM (mbF n0 n1 n2).1 (.bool (mbF n0 n1 n2).2) w) := matchBitsS_any w n0 n1 n2
--% matchBitsI
theorem matchBitsI_C (w : World) (n0 : Int) (hn0 : -9223372036854775808 ≤ n0 ∧ n0 ≤ 9223372036854775807) (n1 : Int) (hn1 : -9223372036854775808 ≤ n1 ∧ n1 ≤ 9223372036854775807) (n2 : Int) (hn2 : -9223372036854775808 ≤ n2 ∧ n2 ≤ 9223372036854775807) : Calls Try.prog 41 #[.int .i64 n0, .int .i64 n1, .int .i64 n2] w (RetNew2 OwnM (mbF n0 n1 n2).1 (.bool (mbF n0 n1 n2).2) w) := matchBitsI_any w n0 n1 n2
--% walk MatchBits
theorem walk_FnExactMatchBits (w : World) (n0 : Int) (hn0 : -9223372036854775808 ≤ n0 ∧ n0 ≤ 9223372036854775807) (n1 : Int) (hn1 : -9223372036854775808 ≤ n1 ∧ n1 ≤ 9223372036854775807) (n2 : Int) (hn2 : -9223372036854775808 ≤ n2 ∧ n2 ≤ 9223372036854775807) :
    Calls Try.prog 9 #[.int .i64 n0, .int .i64 n1, .int .i64 n2] w (RetV (.bool true) w) := by
  have KS := Lib.hid (fun (w : World) => matchBitsS_C w n0 hn0 n1 hn1 n2 hn2)
  have KI := Lib.hid (fun (w : World) => matchBitsI_C w n0 hn0 n1 hn1 n2 hn2)
  have SG := Lib.hid (mbF_sm n0 n1 n2)
  generalize (mbF n0 n1 n2).1 = D at *
  generalize (mbF n0 n1 n2).2 = R at *
  go_enter Try.func9, Try.ntmps9
  go_wp2_with fail
  refine at_call (w := w) ?G (fun hG => (KS.out _ ).mono ?_)
  case G => ((repeat (first | with_reducible exact Grow.refl _ | (with_reducible refine Grow.alloc_ ?_ _) | (with_reducible refine Grow.setCell_ ?_ (by first | exact Nat.le_refl _ | (simp only [World.alloc, Array.size_push]; omega) | omega) _))))
  rintro e w1 ⟨z, fpz, rfl, ho, hf, hg⟩
  obtain ⟨sa0z, sc0z, sa1z, sc1z, rfl⟩ := ho.rd.shape
  have Oz := Lib.hid ho; have Rz := Lib.hid ho.rd; have Fz := Lib.hid (hf.older hG); have Yz := Lib.hid ho.here
  have G1_w := Lib.hid (hG.trans hg)
  clear hG hg ho hf
  go_wp2_with fail
  refine at_call (w := w1) ?G (fun hG => (KI.out _ ).mono ?_)
  case G => ((repeat (first | with_reducible exact Grow.refl _ | (with_reducible refine Grow.alloc_ ?_ _) | (with_reducible refine Grow.setCell_ ?_ (by first | exact Nat.le_refl _ | (simp only [World.alloc, Array.size_push]; omega) | omega) _))))
  rintro e w2 ⟨g, fpg, rfl, ho, hf, hg⟩
  obtain ⟨sa0g, sc0g, sa1g, sc1g, rfl⟩ := ho.rd.shape
  have Og := Lib.hid ho; have Rg := Lib.hid ho.rd; have Fg := Lib.hid (hf.older hG); have Yg := Lib.hid ho.here
  have Nz_g : Hid (w1.heap.size ∉ fpg) := Lib.hid (fun hm => by have h1 := hf _ hm; have h2 := hG.size; simp only [World.alloc, Array.size_push] at h1; omega)
  have G2_w := Lib.hid (G1_w.out.trans (hG.trans hg))
  have G2_w1 := Lib.hid (hG.trans hg)
  have Bz := Lib.hid (((Box.alloc _ _ _).grow hg))
  clear hG hg ho hf
  have ⟨q0z, q1z⟩ := Bz.out.two
  have lz := Bz.out.1
  go_wp2_with fail
  refine at_call (w := w2) ?G (fun hG => (eq_M _ _ _ _ _ (Rg.out.grow hG) (Rz.out.grow (G2_w1.out.trans hG))).mono ?_)
  case G => ((repeat (first | with_reducible exact Grow.refl _ | (with_reducible refine Grow.alloc_ ?_ _) | (with_reducible refine Grow.setCell_ ?_ (by first | exact Nat.le_refl _ | (simp only [World.alloc, Array.size_push]; omega) | omega) _))))
  rintro e w3 ⟨rfl, hg⟩
  clear q0z q1z lz
  have G3_w := Lib.hid (G2_w.out.trans (hG.trans hg))
  have G3_w1 := Lib.hid (G2_w1.out.trans (hG.trans hg))
  have G3_w2 := Lib.hid (hG.trans hg)
  have Bz := Lib.hid (Bz.out.grow (hG.trans hg))
  have Bg := Lib.hid (((Box.alloc _ _ _).grow hg))
  have Ng_g : Hid (w2.heap.size ∉ fpg) := Lib.hid (fun hm => by have h1 := Yg.out _ hm; have h2 := Nat.le_refl 0; omega)
  clear hG hg 
  have PG := Lib.hid (Og.out.grow G3_w2.out)
  have kbg := cntM_bd _ SG.out
  have ⟨q0g, q1g⟩ := Bg.out.two
  have lg := Bg.out.1
  go_wp2_with fail
  refine at_call (w := w3) ?G (fun hG => (mark_M _ _ _ _ _ (PG.out.grow hG) SG.out (by omega)).mono ?_)
  case G => ((repeat (first | with_reducible exact Grow.refl _ | (with_reducible refine Grow.alloc_ ?_ _) | (with_reducible refine Grow.setCell_ ?_ (by first | exact Nat.le_refl _ | (simp only [World.alloc, Array.size_push]; omega) | omega) _))))
  rintro e w4 ⟨rfl, ho, hu⟩
  clear q0g q1g lg
  have HU := Lib.hid (hG.upd_then hu); clear hG hu
  have QG := Lib.hid ho.rd; clear ho
  have G4_w := Lib.hid (G3_w.out.then_upd HU.out (Fg.out.older G1_w.out))
  have G4_w1 := Lib.hid (G3_w1.out.then_upd HU.out (Fg.out.older (Grow.refl _)))
  have Bz := Lib.hid (Bz.out.upd HU.out Nz_g.out)
  have Bg := Lib.hid (Bg.out.upd HU.out Ng_g.out)
  have ⟨q0g, q1g⟩ := Bg.out.two
  have lg := Bg.out.1
  go_wp2_with fail
  refine at_call (w := w4) ?G (fun hG => (held_M _ _ _ _ (QG.out.grow hG) SG.out (by omega)).mono ?_)
  case G => ((repeat (first | with_reducible exact Grow.refl _ | (with_reducible refine Grow.alloc_ ?_ _) | (with_reducible refine Grow.setCell_ ?_ (by first | exact Nat.le_refl _ | (simp only [World.alloc, Array.size_push]; omega) | omega) _))))
  rintro e w5 ⟨rfl, hg⟩
  clear q0g q1g lg
  have G5_w := Lib.hid (G4_w.out.trans (hG.trans hg))
  have G5_w1 := Lib.hid (G4_w1.out.trans (hG.trans hg))
  have G5_w4 := Lib.hid (hG.trans hg)
  have Bz := Lib.hid (Bz.out.grow (hG.trans hg))
  have Bg := Lib.hid (Bg.out.grow (hG.trans hg))
  clear hG hg 
  go_wp2_with fail
  refine at_call (w := w5) ?G (fun hG => (KI.out _ ).mono ?_)
  case G => ((repeat (first | with_reducible exact Grow.refl _ | (with_reducible refine Grow.alloc_ ?_ _) | (with_reducible refine Grow.setCell_ ?_ (by first | exact Nat.le_refl _ | (simp only [World.alloc, Array.size_push]; omega) | omega) _))))
  rintro e w6 ⟨k, fpk, rfl, ho, hf, hg⟩
  obtain ⟨sa0k, sc0k, sa1k, sc1k, rfl⟩ := ho.rd.shape
  have Ok := Lib.hid ho; have Rk := Lib.hid ho.rd; have Fk := Lib.hid (hf.older hG); have Yk := Lib.hid ho.here
  have G6_w := Lib.hid (G5_w.out.trans (hG.trans hg))
  have G6_w1 := Lib.hid (G5_w1.out.trans (hG.trans hg))
  have G6_w4 := Lib.hid (G5_w4.out.trans (hG.trans hg))
  have Bz := Lib.hid (Bz.out.grow (hG.trans hg))
  have Bg := Lib.hid (Bg.out.grow (hG.trans hg))
  clear hG hg ho hf
  have ⟨q0z, q1z⟩ := Bz.out.two
  have lz := Bz.out.1
  go_wp2_with fail
  refine at_call (w := w6) ?G (fun hG => (eq_M _ _ _ _ _ (Rk.out.grow hG) (Rz.out.grow (G6_w1.out.trans hG))).mono ?_)
  case G => ((repeat (first | with_reducible exact Grow.refl _ | (with_reducible refine Grow.alloc_ ?_ _) | (with_reducible refine Grow.setCell_ ?_ (by first | exact Nat.le_refl _ | (simp only [World.alloc, Array.size_push]; omega) | omega) _))))
  rintro e w7 ⟨rfl, hg⟩
  clear q0z q1z lz
  have G7_w := Lib.hid (G6_w.out.trans (hG.trans hg))
  have G7_w1 := Lib.hid (G6_w1.out.trans (hG.trans hg))
  have G7_w4 := Lib.hid (G6_w4.out.trans (hG.trans hg))
  have G7_w6 := Lib.hid (hG.trans hg)
  have Bz := Lib.hid (Bz.out.grow (hG.trans hg))
  have Bg := Lib.hid (Bg.out.grow (hG.trans hg))
  have Bk := Lib.hid (((Box.alloc _ _ _).grow hg))
  clear hG hg 
  have ⟨q0g, q1g⟩ := Bg.out.two
  have lg := Bg.out.1
  go_wp2_with fail
  refine at_call (w := w7) ?G (fun hG => (held_M _ _ _ _ (QG.out.grow (G7_w4.out.trans hG)) SG.out (by omega)).mono ?_)
  case G => ((repeat (first | with_reducible exact Grow.refl _ | (with_reducible refine Grow.alloc_ ?_ _) | (with_reducible refine Grow.setCell_ ?_ (by first | exact Nat.le_refl _ | (simp only [World.alloc, Array.size_push]; omega) | omega) _))))
  rintro e w8 ⟨rfl, hg⟩
  clear q0g q1g lg
  have G8_w := Lib.hid (G7_w.out.trans (hG.trans hg))
  have G8_w1 := Lib.hid (G7_w1.out.trans (hG.trans hg))
  have G8_w4 := Lib.hid (G7_w4.out.trans (hG.trans hg))
  have G8_w6 := Lib.hid (G7_w6.out.trans (hG.trans hg))
  have Bz := Lib.hid (Bz.out.grow (hG.trans hg))
  have Bg := Lib.hid (Bg.out.grow (hG.trans hg))
  have Bk := Lib.hid (Bk.out.grow (hG.trans hg))
  clear hG hg 
  go_wp2
  go_ret
  exact ⟨rfl, G8_w.out⟩
--%
end Go.Proofs.Ytkkhkojojnebjaa
