/- The walks of FnExactWordOk, FnExactConstants. No condition. -/
import Derived.Test.YtgbaaapneddcoaaStr
import Derived.WalkKit
import Derived.ProofKit
import Derived.OpenShut
import Derived.ShutString
import Derived.ChangeOld
import Derived.Below
import Derived.SizedLaws
import Derived.WalkSpells
import Derived.Deep.QuietTactic
import Derived.BigQuiet
import Derived.Outline
namespace Go.Proofs.Ytgbaaapneddcoaa
open Go.ChangeShapes Go.WideShapes Go.ChangeAt Go.RowKit
open Go.ChangeMaps (open_string shut_string)
set_option linter.unusedVariables false
set_option linter.unusedSimpArgs false
--% each impl.WordOk;I
theorem wordOkI_C (w : World) (s : ByteArray) (hs : s.size ≤ 9223372036854775807) (hl : ¬ 1048576 < s.size) : Calls Try.prog 22 #[.string s] w (RetV (.bool (wordB s)) w) := wordOkI_any s w hs
--% each spec.WordOk;S
theorem wordOkS_C (w : World) (s : ByteArray) (hs : s.size ≤ 9223372036854775807) (hl : ¬ 1048576 < s.size) : Calls Try.prog 21 #[.string s] w (RetV (.bool (wordB s)) w) := wordOkS_any s w hs
--% walk WordOk
theorem walk_FnExactWordOk (w : World) (s0 : ByteArray) (hs0 : s0.size ≤ maxLen) :
    Calls Try.prog 7 #[.string s0] w (RetV (.bool true) w) := by
  unfold maxLen at hs0
  by_cases hl0 : 1048576 < s0.size
  · skip
    go_enter Try.func7, Try.ntmps7
    go_wp2
    go_ret
    exact ⟨rfl, Grow.refl _⟩
  have KS := Lib.hid (fun (w : World) => wordOkS_C w s0 hs0 hl0)
  have KI := Lib.hid (fun (w : World) => wordOkI_C w s0 hs0 hl0)
  go_enter Try.func7, Try.ntmps7
  go_wp2_with fail
  refine (KS.out _ ).mono ?_
  rintro e w1 ⟨rfl, hg1⟩
  have G1_w := Lib.hid hg1
  clear hg1
  go_wp2_with fail
  refine (KI.out _ ).mono ?_
  rintro e w2 ⟨rfl, hg2⟩
  have G2_w := Lib.hid (G1_w.out.trans hg2)
  clear hg2
  go_wp2
  go_ret
  exact ⟨rfl, G2_w.out⟩
--% consts
set_option maxHeartbeats 1000000 in
theorem walk_FnExactConstants (w : World) : Calls Try.prog 3 #[] w (RetV (.bool true) w) := by
  go_enter Try.func3, Try.ntmps3
  go_wp2
  go_ret
  exact ⟨rfl, Grow.refl _⟩
--%
end Go.Proofs.Ytgbaaapneddcoaa
