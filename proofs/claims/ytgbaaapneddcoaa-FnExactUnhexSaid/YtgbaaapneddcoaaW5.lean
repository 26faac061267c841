/- The walks of FnExactCrc32, FnExactUnhex. No condition. -/
import Derived.Test.YtgbaaapneddcoaaCrc
import Derived.Test.YtgbaaapneddcoaaUnhex
import Derived.WalkKit
import Derived.ProofKit
import Derived.OpenShut
import Derived.ShutString
import Derived.ChangeOld
import Derived.Below
import Derived.SizedLaws
import Derived.WalkSpells
import Derived.Deep.QuietTactic
import Derived.BigQuiet
import Derived.Outline
namespace Go.Proofs.Ytgbaaapneddcoaa
open Go.ChangeShapes Go.WideShapes Go.ChangeAt Go.RowKit
open Go.ChangeMaps (open_string shut_string)
set_option linter.unusedVariables false
set_option linter.unusedSimpArgs false
--% each impl.Crc32;I
theorem crcI_C (w : World) (v : Value) (d : DatB) (h : RdB w v d) (b : WfB d) (sm : SmB d) : Calls Try.prog 30 #[v] w (RetV (.int .i64 (crcOf d)) w) := (crcI_any v d w h b sm).mono fun _ _ ⟨he, hw⟩ => ⟨he, hw ▸ Grow.refl _⟩
--% each spec.Crc32;S
theorem crcS_C (w : World) (v : Value) (d : DatB) (h : RdB w v d) (b : WfB d) (sm : SmB d) : Calls Try.prog 29 #[v] w (RetV (.int .i64 (crcOf d)) w) := (crcS_any v d w h b sm).mono fun _ _ ⟨he, hw⟩ => ⟨he, hw ▸ Grow.refl _⟩
--% each impl.Unhex;I
theorem unhexI_C (w : World) (s : ByteArray) (hs : s.size ≤ 9223372036854775807) (hl : ¬ 1048576 < s.size) : Calls Try.prog 36 #[.string s] w (RetNew2 OwnB (unhexF s).1 (.bool (unhexF s).2) w) := unhexI_any w s hs
--% each spec.Unhex;S
theorem unhexS_C (w : World) (s : ByteArray) (hs : s.size ≤ 9223372036854775807) (hl : ¬ 1048576 < s.size) : Calls Try.prog 35 #[.string s] w (RetNew2 OwnB (unhexF s).1 (.bool (unhexF s).2) w) := unhexS_any w s hs
--% walk Crc32
theorem walk_FnExactCrc32 (w : World) (v0 : Value) (d0 : DatB) (h0 : RdB w v0 d0) (b0 : WfB d0) :
    Calls Try.prog 10 #[v0] w (RetV (.bool true) w) := by
  have H0 := Lib.hid h0
  have B0 := Lib.hid b0
  obtain ⟨a0, c0, rfl, hlc0, hm0, hn0', hc0'⟩ := Rd.ints h0
  clear hn0' hc0'
  unfold maxLen at hm0
  clear h0 b0
  by_cases hl0 : 1048576 < d0.length
  · skip
    go_enter Try.func10, Try.ntmps10
    go_wp2
    go_ret
    exact ⟨rfl, Grow.refl _⟩
  have sm0 : Hid (SmB d0) := Lib.hid (by unfold SmB; omega)
  have KS := Lib.hid (fun (w : World) (v0 : Value) (h0 : RdB w v0 d0) => crcS_C w v0 d0 h0 B0.out sm0.out)
  have KI := Lib.hid (fun (w : World) (v0 : Value) (h0 : RdB w v0 d0) => crcI_C w v0 d0 h0 B0.out sm0.out)
  go_enter Try.func10, Try.ntmps10
  go_wp2_with fail
  refine (to_B _ _ _ (H0.out.grow (Grow.refl _)) sm0.out).mono ?_
  rintro e w1 ⟨y0, fpy0, rfl, ho1, hf1, hg1⟩
  have Oy0 := Lib.hid ho1; have Ry0 := Lib.hid ho1.rd; have Fy0 := Lib.hid hf1; have Yy0 := Lib.hid ho1.here; clear ho1 hf1
  have G1_w := Lib.hid hg1
  clear hg1
  go_wp2_with fail
  refine (KS.out _ _ (Ry0.out.grow (Grow.refl _))).mono ?_
  rintro e w2 ⟨rfl, hg2⟩
  have G2_w := Lib.hid (G1_w.out.trans hg2)
  have G2_w1 := Lib.hid hg2
  clear hg2
  go_wp2_with fail
  refine (to_B _ _ _ (H0.out.grow G2_w.out) sm0.out).mono ?_
  rintro e w3 ⟨x0, fpx0, rfl, ho3, hf3, hg3⟩
  have Ox0 := Lib.hid ho3; have Rx0 := Lib.hid ho3.rd; have Fx0 := Lib.hid hf3; have Yx0 := Lib.hid ho3.here; clear ho3 hf3
  have G3_w := Lib.hid (G2_w.out.trans hg3)
  clear hg3
  go_wp2_with fail
  refine (KI.out _ _ (Rx0.out.grow (Grow.refl _))).mono ?_
  rintro e w4 ⟨rfl, hg4⟩
  have G4_w := Lib.hid (G3_w.out.trans hg4)
  have G4_w3 := Lib.hid hg4
  clear hg4
  go_wp2_with fail
  refine (to_B _ _ _ (H0.out.grow G4_w.out) sm0.out).mono ?_
  rintro e w5 ⟨t0, fpt0, rfl, ho5, hf5, hg5⟩
  have Ot0 := Lib.hid ho5; have Rt0 := Lib.hid ho5.rd; have Ft0 := Lib.hid hf5; have Yt0 := Lib.hid ho5.here; clear ho5 hf5
  have G5_w := Lib.hid (G4_w.out.trans hg5)
  have G5_w3 := Lib.hid (G4_w3.out.trans hg5)
  clear hg5
  go_wp2_with fail
  refine (eq_B _ _ _ _ _ (Rx0.out.grow G5_w3.out) (Rt0.out.grow (Grow.refl _))).mono ?_
  rintro e w6 ⟨rfl, hg6⟩
  have G6_w := Lib.hid (G5_w.out.trans hg6)
  have G6_w3 := Lib.hid (G5_w3.out.trans hg6)
  have G6_w5 := Lib.hid hg6
  clear hg6
  go_wp2
  go_ret
  exact ⟨rfl, G6_w.out⟩
--% walk Unhex
theorem walk_FnExactUnhex (w : World) (s0 : ByteArray) (hs0 : s0.size ≤ maxLen) :
    Calls Try.prog 13 #[.string s0] w (RetV (.bool true) w) := by
  unfold maxLen at hs0
  by_cases hl0 : 1048576 < s0.size
  · skip
    go_enter Try.func13, Try.ntmps13
    go_wp2
    go_ret
    exact ⟨rfl, Grow.refl _⟩
  have KS := Lib.hid (fun (w : World) => unhexS_C w s0 hs0 hl0)
  have KI := Lib.hid (fun (w : World) => unhexI_C w s0 hs0 hl0)
  have SG := Lib.hid ((by have := unhexF_len s0; unfold SmB; omega : SmB (unhexF s0).1))
  generalize (unhexF s0).1 = D at *
  generalize (unhexF s0).2 = R at *
  go_enter Try.func13, Try.ntmps13
  go_wp2_with fail
  refine (KS.out _ ).mono ?_
  rintro e w1 ⟨z, fpz, rfl, ho1, hf1, hg1⟩
  have Oz := Lib.hid ho1; have Rz := Lib.hid ho1.rd; have Fz := Lib.hid hf1; have Yz := Lib.hid ho1.here; clear ho1 hf1
  have G1_w := Lib.hid hg1
  clear hg1
  go_wp2_with fail
  refine (KI.out _ ).mono ?_
  rintro e w2 ⟨g, fpg, rfl, ho2, hf2, hg2⟩
  have Og := Lib.hid ho2; have Rg := Lib.hid ho2.rd; have Fg := Lib.hid hf2; have Yg := Lib.hid ho2.here; clear ho2 hf2
  have G2_w := Lib.hid (G1_w.out.trans hg2)
  have G2_w1 := Lib.hid hg2
  clear hg2
  go_wp2_with fail
  refine (eq_B _ _ _ _ _ (Rg.out.grow (Grow.refl _)) (Rz.out.grow G2_w1.out)).mono ?_
  rintro e w3 ⟨rfl, hg3⟩
  have G3_w := Lib.hid (G2_w.out.trans hg3)
  have G3_w1 := Lib.hid (G2_w1.out.trans hg3)
  have G3_w2 := Lib.hid hg3
  clear hg3
  have PG := Lib.hid (Og.out.grow G3_w2.out)
  have kbg := cntB_bd _ SG.out
  go_wp2_with fail
  refine (mark_B _ _ _ _ _ PG.out SG.out (by omega)).mono ?_
  rintro e w4 ⟨rfl, ho4, hu4⟩
  have QG := Lib.hid ho4.rd
  have G4_w := Lib.hid (G3_w.out.then_upd hu4 (Fg.out.older G1_w.out))
  have G4_w1 := Lib.hid (G3_w1.out.then_upd hu4 (Fg.out.older (Grow.refl _)))
  clear ho4 hu4
  go_wp2_with fail
  refine (held_B _ _ _ _ (QG.out.grow (Grow.refl _)) SG.out (by omega)).mono ?_
  rintro e w5 ⟨rfl, hg5⟩
  have G5_w := Lib.hid (G4_w.out.trans hg5)
  have G5_w1 := Lib.hid (G4_w1.out.trans hg5)
  have G5_w4 := Lib.hid hg5
  clear hg5
  go_wp2_with fail
  refine (KI.out _ ).mono ?_
  rintro e w6 ⟨k, fpk, rfl, ho6, hf6, hg6⟩
  have Rk := Lib.hid ho6.rd; clear ho6 hf6
  have G6_w := Lib.hid (G5_w.out.trans hg6)
  have G6_w1 := Lib.hid (G5_w1.out.trans hg6)
  have G6_w4 := Lib.hid (G5_w4.out.trans hg6)
  clear hg6
  go_wp2_with fail
  refine (eq_B _ _ _ _ _ (Rk.out.grow (Grow.refl _)) (Rz.out.grow G6_w1.out)).mono ?_
  rintro e w7 ⟨rfl, hg7⟩
  have G7_w := Lib.hid (G6_w.out.trans hg7)
  have G7_w1 := Lib.hid (G6_w1.out.trans hg7)
  have G7_w4 := Lib.hid (G6_w4.out.trans hg7)
  have G7_w6 := Lib.hid hg7
  clear hg7
  go_wp2_with fail
  refine (held_B _ _ _ _ (QG.out.grow G7_w4.out) SG.out (by omega)).mono ?_
  rintro e w8 ⟨rfl, hg8⟩
  have G8_w := Lib.hid (G7_w.out.trans hg8)
  have G8_w1 := Lib.hid (G7_w1.out.trans hg8)
  have G8_w4 := Lib.hid (G7_w4.out.trans hg8)
  have G8_w6 := Lib.hid (G7_w6.out.trans hg8)
  clear hg8
  go_wp2
  go_ret
  exact ⟨rfl, G8_w.out⟩
--%
end Go.Proofs.Ytgbaaapneddcoaa
