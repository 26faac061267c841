/- The walks of FnExactNumText, FnExactTextNum, FnExactHexOf. No condition. -/
import Derived.Test.YtgbaaapneddcoaaTnum
import Derived.Test.YtgbaaapneddcoaaHex
import Derived.WalkKit
import Derived.ProofKit
import Derived.OpenShut
import Derived.ShutString
import Derived.ChangeOld
import Derived.Below
import Derived.SizedLaws
import Derived.WalkSpells
import Derived.Deep.QuietTactic
import Derived.BigQuiet
import Derived.Outline
namespace Go.Proofs.Ytgbaaapneddcoaa
open Go.ChangeShapes Go.WideShapes Go.ChangeAt Go.RowKit
open Go.ChangeMaps (open_string shut_string)
set_option linter.unusedVariables false
set_option linter.unusedSimpArgs false
--% each impl.NumText;I
theorem numTextI_C (w : World) (n : Int) (hn : -9223372036854775808 ≤ n ∧ n ≤ 9223372036854775807) : Calls Try.prog 20 #[.int .i64 n] w (RetV (.string (txt (numText n))) w) := numTextI_any w n hn
--% each spec.NumText;S
theorem numTextS_C (w : World) (n : Int) (hn : -9223372036854775808 ≤ n ∧ n ≤ 9223372036854775807) : Calls Try.prog 19 #[.int .i64 n] w (RetV (.string (txt (numText n))) w) := numTextS_any w n hn
--% each impl.TextNum;I
theorem textNumI_C (w : World) (s : ByteArray) (hs : s.size ≤ 9223372036854775807) (hl : ¬ 1048576 < s.size) : Calls Try.prog 34 #[.string s] w (RetV (.tuple #[.int .i64 (textF s).1, .bool (textF s).2]) w) := textNumI_any w s hs
--% each spec.TextNum;S
theorem textNumS_C (w : World) (s : ByteArray) (hs : s.size ≤ 9223372036854775807) (hl : ¬ 1048576 < s.size) : Calls Try.prog 33 #[.string s] w (RetV (.tuple #[.int .i64 (textF s).1, .bool (textF s).2]) w) := textNumS_any w s hs
--% each impl.HexOf;I
theorem hexOfI_C (w : World) (v : Value) (d : DatB) (h : RdB w v d) (b : WfB d) (sm : SmB d) : Calls Try.prog 25 #[v] w (RetV (.string (txt (hexs d))) w) := hexOfI_any v d w h b sm
--% each spec.HexOf;S
theorem hexOfS_C (w : World) (v : Value) (d : DatB) (h : RdB w v d) (b : WfB d) (sm : SmB d) : Calls Try.prog 23 #[v] w (RetV (.string (txt (hexs d))) w) := hexOfS_any v d w h b sm
--% walk NumText
theorem walk_FnExactNumText (w : World) (n0 : Int) (hn0 : -9223372036854775808 ≤ n0 ∧ n0 ≤ 9223372036854775807) :
    Calls Try.prog 6 #[.int .i64 n0] w (RetV (.bool true) w) := by
  have KS := Lib.hid (fun (w : World) => numTextS_C w n0 hn0)
  have KI := Lib.hid (fun (w : World) => numTextI_C w n0 hn0)
  go_enter Try.func6, Try.ntmps6
  go_wp2_with fail
  refine (KS.out _ ).mono ?_
  rintro e w1 ⟨rfl, hg1⟩
  have G1_w := Lib.hid hg1
  clear hg1
  go_wp2_with fail
  refine (KI.out _ ).mono ?_
  rintro e w2 ⟨rfl, hg2⟩
  have G2_w := Lib.hid (G1_w.out.trans hg2)
  clear hg2
  go_wp2
  go_ret
  exact ⟨rfl, G2_w.out⟩
--% walk TextNum
theorem walk_FnExactTextNum (w : World) (s0 : ByteArray) (hs0 : s0.size ≤ maxLen) :
    Calls Try.prog 12 #[.string s0] w (RetV (.bool true) w) := by
  unfold maxLen at hs0
  by_cases hl0 : 1048576 < s0.size
  · skip
    go_enter Try.func12, Try.ntmps12
    go_wp2
    go_ret
    exact ⟨rfl, Grow.refl _⟩
  have KS := Lib.hid (fun (w : World) => textNumS_C w s0 hs0 hl0)
  have KI := Lib.hid (fun (w : World) => textNumI_C w s0 hs0 hl0)
  go_enter Try.func12, Try.ntmps12
  go_wp2_with fail
  refine (KS.out _ ).mono ?_
  rintro e w1 ⟨rfl, hg1⟩
  have G1_w := Lib.hid hg1
  clear hg1
  go_wp2_with fail
  refine (KI.out _ ).mono ?_
  rintro e w2 ⟨rfl, hg2⟩
  have G2_w := Lib.hid (G1_w.out.trans hg2)
  clear hg2
  go_wp2
  go_ret
  exact ⟨rfl, G2_w.out⟩
--% walk HexOf
theorem walk_FnExactHexOf (w : World) (v0 : Value) (d0 : DatB) (h0 : RdB w v0 d0) (b0 : WfB d0) :
    Calls Try.prog 8 #[v0] w (RetV (.bool true) w) := by
  have H0 := Lib.hid h0
  have B0 := Lib.hid b0
  obtain ⟨a0, c0, rfl, hlc0, hm0, hn0', hc0'⟩ := Rd.ints h0
  clear hn0' hc0'
  unfold maxLen at hm0
  clear h0 b0
  by_cases hl0 : 1048576 < d0.length
  · skip
    go_enter Try.func8, Try.ntmps8
    go_wp2
    go_ret
    exact ⟨rfl, Grow.refl _⟩
  have sm0 : Hid (SmB d0) := Lib.hid (by unfold SmB; omega)
  have KS := Lib.hid (fun (w : World) (v0 : Value) (h0 : RdB w v0 d0) => hexOfS_C w v0 d0 h0 B0.out sm0.out)
  have KI := Lib.hid (fun (w : World) (v0 : Value) (h0 : RdB w v0 d0) => hexOfI_C w v0 d0 h0 B0.out sm0.out)
  go_enter Try.func8, Try.ntmps8
  go_wp2_with fail
  refine (to_B _ _ _ (H0.out.grow (Grow.refl _)) sm0.out).mono ?_
  rintro e w1 ⟨y0, fpy0, rfl, ho1, hf1, hg1⟩
  have Oy0 := Lib.hid ho1; have Ry0 := Lib.hid ho1.rd; have Fy0 := Lib.hid hf1; have Yy0 := Lib.hid ho1.here; clear ho1 hf1
  have G1_w := Lib.hid hg1
  clear hg1
  go_wp2_with fail
  refine (KS.out _ _ (Ry0.out.grow (Grow.refl _))).mono ?_
  rintro e w2 ⟨rfl, hg2⟩
  have G2_w := Lib.hid (G1_w.out.trans hg2)
  have G2_w1 := Lib.hid hg2
  clear hg2
  go_wp2_with fail
  refine (to_B _ _ _ (H0.out.grow G2_w.out) sm0.out).mono ?_
  rintro e w3 ⟨x0, fpx0, rfl, ho3, hf3, hg3⟩
  have Ox0 := Lib.hid ho3; have Rx0 := Lib.hid ho3.rd; have Fx0 := Lib.hid hf3; have Yx0 := Lib.hid ho3.here; clear ho3 hf3
  have G3_w := Lib.hid (G2_w.out.trans hg3)
  clear hg3
  go_wp2_with fail
  refine (KI.out _ _ (Rx0.out.grow (Grow.refl _))).mono ?_
  rintro e w4 ⟨rfl, hg4⟩
  have G4_w := Lib.hid (G3_w.out.trans hg4)
  have G4_w3 := Lib.hid hg4
  clear hg4
  go_wp2_with fail
  refine (to_B _ _ _ (H0.out.grow G4_w.out) sm0.out).mono ?_
  rintro e w5 ⟨t0, fpt0, rfl, ho5, hf5, hg5⟩
  have Ot0 := Lib.hid ho5; have Rt0 := Lib.hid ho5.rd; have Ft0 := Lib.hid hf5; have Yt0 := Lib.hid ho5.here; clear ho5 hf5
  have G5_w := Lib.hid (G4_w.out.trans hg5)
  have G5_w3 := Lib.hid (G4_w3.out.trans hg5)
  clear hg5
  go_wp2_with fail
  refine (eq_B _ _ _ _ _ (Rx0.out.grow G5_w3.out) (Rt0.out.grow (Grow.refl _))).mono ?_
  rintro e w6 ⟨rfl, hg6⟩
  have G6_w := Lib.hid (G5_w.out.trans hg6)
  have G6_w3 := Lib.hid (G5_w3.out.trans hg6)
  have G6_w5 := Lib.hid hg6
  clear hg6
  go_wp2
  go_ret
  exact ⟨rfl, G6_w.out⟩
--%
end Go.Proofs.Ytgbaaapneddcoaa
