/-
  No cell of these rows narrows 'for every input' (looked for: loops, veiled, ifaces, maps, wideKeys, modest, calm, conditions, laid).
  DERIVED. THE GIVEN ROWS OF THIS SEAT. 14 by the template 'for every input the law returns true; each argument reads behind the call as it read before'; 0 by the template 'total and deterministic' (their statements: YtgigdpdmdldhnaaTotals.lean).
  GIVEN WITH THE SEED: the statements are not yours to turn. If you find one false, say at which input.
  Laid BY PROGRAM, IN A SANDBOX (cutbox-rows.mjs): the forced cells as the released guide's own fill.sh prints them over the translation bbfcfd3912ebc7fd… (all of the seat's roots in one cut). By AI agents, Wed Nov 11 2026. No macro, syntax, notation, axiom, sorry.
-/
import Derived.Test.YtgigdpdmdldhnaaChecked
import GoSem.Claim
import GoSem.ClaimJoined
import GoSem.ClaimMapViews
import Derived.JoinedTies
import Derived.KernelRfl
namespace Go.Proofs.Ytgigdpdmdldhnaa
/- THE CELL 'sum', in the pinned program and in every row, IS THE sha256 OF THE DUMP (.gsa) THAT YtgigdpdmdldhnaaProg.lean LOADS. Nothing in Lean hashes anything: it is a label: what it is worth is what the hold of that sum in a sandbox is worth. -/
noncomputable def Try.pinned : Pinned := { name := "ytgigdpdmdldhnaa", sum := "bbfcfd3912ebc7fd8ce194242f7a1b7d65b3caa04015475d261f654494315a8f", checked := Try.checked }
namespace Rows
def none {H : Type} : Left H := { results := [], args := [] }

/-- 'laws.FnExactPortsOk': WHATEVER THE INPUT: true; the input reads as it did. -/
def fnExactPortsOkSpec : ChangeSpec := { name := "fnExactPortsOk", fn := fun _ => fun
  | [d] => { results := [.lit (.bool true)], args := [d] }
  | _ => none }
def fnExactPortsOkRow : OpenClaim := { program := "ytgigdpdmdldhnaa", sum := "bbfcfd3912ebc7fd8ce194242f7a1b7d65b3caa04015475d261f654494315a8f", func := "loop.example/g00391/laws.FnExactPortsOk", spec := "fnExactPortsOk", apart := false }
def FnExactPortsOkSaid : Prop := fnExactPortsOkRow.holds Try.pinned (OpenSpec.ofChange fnExactPortsOkSpec)

/-- ITS FALSE NEIGHBOUR: 'it returns false'. Refute it at one input. -/
def fnExactPortsOkWrong : ChangeSpec := { name := "fnExactPortsOk", fn := fun _ => fun
  | [d] => { results := [.lit (.bool false)], args := [d] }
  | _ => none }
def FnExactPortsOkWrongFalsely : Prop := fnExactPortsOkRow.holds Try.pinned (OpenSpec.ofChange fnExactPortsOkWrong)

/-- 'laws.FnExactActsOk': WHATEVER THE INPUT: true; the input reads as it did. -/
def fnExactActsOkSpec : ChangeSpec := { name := "fnExactActsOk", fn := fun _ => fun
  | [d] => { results := [.lit (.bool true)], args := [d] }
  | _ => none }
def fnExactActsOkRow : OpenClaim := { program := "ytgigdpdmdldhnaa", sum := "bbfcfd3912ebc7fd8ce194242f7a1b7d65b3caa04015475d261f654494315a8f", func := "loop.example/g00391/laws.FnExactActsOk", spec := "fnExactActsOk", apart := false }
def FnExactActsOkSaid : Prop := fnExactActsOkRow.holds Try.pinned (OpenSpec.ofChange fnExactActsOkSpec)

/-- ITS FALSE NEIGHBOUR: 'it returns false'. Refute it at one input. -/
def fnExactActsOkWrong : ChangeSpec := { name := "fnExactActsOk", fn := fun _ => fun
  | [d] => { results := [.lit (.bool false)], args := [d] }
  | _ => none }
def FnExactActsOkWrongFalsely : Prop := fnExactActsOkRow.holds Try.pinned (OpenSpec.ofChange fnExactActsOkWrong)

/-- 'laws.FnExactHasAct': WHATEVER THE INPUT: true; the input reads as it did. -/
def fnExactHasActSpec : ChangeSpec := { name := "fnExactHasAct", fn := fun _ => fun
  | [d1, d2] => { results := [.lit (.bool true)], args := [d1, d2] }
  | _ => none }
def fnExactHasActRow : OpenClaim := { program := "ytgigdpdmdldhnaa", sum := "bbfcfd3912ebc7fd8ce194242f7a1b7d65b3caa04015475d261f654494315a8f", func := "loop.example/g00391/laws.FnExactHasAct", spec := "fnExactHasAct", unfollowed := true, recurses := true, apart := false }
def FnExactHasActSaid : Prop := fnExactHasActRow.holds Try.pinned (OpenSpec.ofChange fnExactHasActSpec)

/-- ITS FALSE NEIGHBOUR: 'it returns false'. Refute it at one input. -/
def fnExactHasActWrong : ChangeSpec := { name := "fnExactHasAct", fn := fun _ => fun
  | [d1, d2] => { results := [.lit (.bool false)], args := [d1, d2] }
  | _ => none }
def FnExactHasActWrongFalsely : Prop := fnExactHasActRow.holds Try.pinned (OpenSpec.ofChange fnExactHasActWrong)

/-- 'laws.FnExactSameActs': WHATEVER THE INPUT: true; the input reads as it did. -/
def fnExactSameActsSpec : ChangeSpec := { name := "fnExactSameActs", fn := fun _ => fun
  | [d1, d2] => { results := [.lit (.bool true)], args := [d1, d2] }
  | _ => none }
def fnExactSameActsRow : OpenClaim := { program := "ytgigdpdmdldhnaa", sum := "bbfcfd3912ebc7fd8ce194242f7a1b7d65b3caa04015475d261f654494315a8f", func := "loop.example/g00391/laws.FnExactSameActs", spec := "fnExactSameActs", apart := false }
def FnExactSameActsSaid : Prop := fnExactSameActsRow.holds Try.pinned (OpenSpec.ofChange fnExactSameActsSpec)

/-- ITS FALSE NEIGHBOUR: 'it returns false'. Refute it at one input. -/
def fnExactSameActsWrong : ChangeSpec := { name := "fnExactSameActs", fn := fun _ => fun
  | [d1, d2] => { results := [.lit (.bool false)], args := [d1, d2] }
  | _ => none }
def FnExactSameActsWrongFalsely : Prop := fnExactSameActsRow.holds Try.pinned (OpenSpec.ofChange fnExactSameActsWrong)

/-- 'laws.FnExactPerform': WHATEVER THE INPUT: true; the input reads as it did. -/
def fnExactPerformSpec : ChangeSpec := { name := "fnExactPerform", fn := fun _ => fun
  | [d1, d2, d3] => { results := [.lit (.bool true)], args := [d1, d2, d3] }
  | _ => none }
def fnExactPerformRow : OpenClaim := { program := "ytgigdpdmdldhnaa", sum := "bbfcfd3912ebc7fd8ce194242f7a1b7d65b3caa04015475d261f654494315a8f", func := "loop.example/g00391/laws.FnExactPerform", spec := "fnExactPerform", apart := false }
def FnExactPerformSaid : Prop := fnExactPerformRow.holds Try.pinned (OpenSpec.ofChange fnExactPerformSpec)

/-- ITS FALSE NEIGHBOUR: 'it returns false'. Refute it at one input. -/
def fnExactPerformWrong : ChangeSpec := { name := "fnExactPerform", fn := fun _ => fun
  | [d1, d2, d3] => { results := [.lit (.bool false)], args := [d1, d2, d3] }
  | _ => none }
def FnExactPerformWrongFalsely : Prop := fnExactPerformRow.holds Try.pinned (OpenSpec.ofChange fnExactPerformWrong)

/-- 'laws.FnExactOutPorts': WHATEVER THE INPUT: true; the input reads as it did. -/
def fnExactOutPortsSpec : ChangeSpec := { name := "fnExactOutPorts", fn := fun _ => fun
  | [d1, d2, d3] => { results := [.lit (.bool true)], args := [d1, d2, d3] }
  | _ => none }
def fnExactOutPortsRow : OpenClaim := { program := "ytgigdpdmdldhnaa", sum := "bbfcfd3912ebc7fd8ce194242f7a1b7d65b3caa04015475d261f654494315a8f", func := "loop.example/g00391/laws.FnExactOutPorts", spec := "fnExactOutPorts", recurses := true, apart := false }
def FnExactOutPortsSaid : Prop := fnExactOutPortsRow.holds Try.pinned (OpenSpec.ofChange fnExactOutPortsSpec)

/-- ITS FALSE NEIGHBOUR: 'it returns false'. Refute it at one input. -/
def fnExactOutPortsWrong : ChangeSpec := { name := "fnExactOutPorts", fn := fun _ => fun
  | [d1, d2, d3] => { results := [.lit (.bool false)], args := [d1, d2, d3] }
  | _ => none }
def FnExactOutPortsWrongFalsely : Prop := fnExactOutPortsRow.holds Try.pinned (OpenSpec.ofChange fnExactOutPortsWrong)

/-- 'laws.FnActs': WHATEVER THE INPUT: true; the input reads as it did. -/
def fnActsSpec : ChangeSpec := { name := "fnActs", fn := fun _ => fun
  | [d] => { results := [.lit (.bool true)], args := [d] }
  | _ => none }
def fnActsRow : OpenClaim := { program := "ytgigdpdmdldhnaa", sum := "bbfcfd3912ebc7fd8ce194242f7a1b7d65b3caa04015475d261f654494315a8f", func := "loop.example/g00391/laws.FnActs", spec := "fnActs", recurses := true, apart := false }
def FnActsSaid : Prop := fnActsRow.holds Try.pinned (OpenSpec.ofChange fnActsSpec)

/-- ITS FALSE NEIGHBOUR: 'it returns false'. Refute it at one input. -/
def fnActsWrong : ChangeSpec := { name := "fnActs", fn := fun _ => fun
  | [d] => { results := [.lit (.bool false)], args := [d] }
  | _ => none }
def FnActsWrongFalsely : Prop := fnActsRow.holds Try.pinned (OpenSpec.ofChange fnActsWrong)

/-- 'laws.FnExactEntryOk': WHATEVER THE INPUT: true; the input reads as it did. -/
def fnExactEntryOkSpec : ChangeSpec := { name := "fnExactEntryOk", fn := fun _ => fun
  | [d] => { results := [.lit (.bool true)], args := [d] }
  | _ => none }
def fnExactEntryOkRow : OpenClaim := { program := "ytgigdpdmdldhnaa", sum := "bbfcfd3912ebc7fd8ce194242f7a1b7d65b3caa04015475d261f654494315a8f", func := "loop.example/g00391/laws.FnExactEntryOk", spec := "fnExactEntryOk", apart := false }
def FnExactEntryOkSaid : Prop := fnExactEntryOkRow.holds Try.pinned (OpenSpec.ofChange fnExactEntryOkSpec)

/-- ITS FALSE NEIGHBOUR: 'it returns false'. Refute it at one input. -/
def fnExactEntryOkWrong : ChangeSpec := { name := "fnExactEntryOk", fn := fun _ => fun
  | [d] => { results := [.lit (.bool false)], args := [d] }
  | _ => none }
def FnExactEntryOkWrongFalsely : Prop := fnExactEntryOkRow.holds Try.pinned (OpenSpec.ofChange fnExactEntryOkWrong)

/-- 'laws.FnExactTableOk': WHATEVER THE INPUT: true; the input reads as it did. -/
def fnExactTableOkSpec : ChangeSpec := { name := "fnExactTableOk", fn := fun _ => fun
  | [d] => { results := [.lit (.bool true)], args := [d] }
  | _ => none }
def fnExactTableOkRow : OpenClaim := { program := "ytgigdpdmdldhnaa", sum := "bbfcfd3912ebc7fd8ce194242f7a1b7d65b3caa04015475d261f654494315a8f", func := "loop.example/g00391/laws.FnExactTableOk", spec := "fnExactTableOk", apart := false }
def FnExactTableOkSaid : Prop := fnExactTableOkRow.holds Try.pinned (OpenSpec.ofChange fnExactTableOkSpec)

/-- ITS FALSE NEIGHBOUR: 'it returns false'. Refute it at one input. -/
def fnExactTableOkWrong : ChangeSpec := { name := "fnExactTableOk", fn := fun _ => fun
  | [d] => { results := [.lit (.bool false)], args := [d] }
  | _ => none }
def FnExactTableOkWrongFalsely : Prop := fnExactTableOkRow.holds Try.pinned (OpenSpec.ofChange fnExactTableOkWrong)

/-- 'laws.FnExactLookup': WHATEVER THE INPUT: true; the input reads as it did. -/
def fnExactLookupSpec : ChangeSpec := { name := "fnExactLookup", fn := fun _ => fun
  | [d1, d2, d3] => { results := [.lit (.bool true)], args := [d1, d2, d3] }
  | _ => none }
def fnExactLookupRow : OpenClaim := { program := "ytgigdpdmdldhnaa", sum := "bbfcfd3912ebc7fd8ce194242f7a1b7d65b3caa04015475d261f654494315a8f", func := "loop.example/g00391/laws.FnExactLookup", spec := "fnExactLookup", unfollowed := true, recurses := true, apart := false }
def FnExactLookupSaid : Prop := fnExactLookupRow.holds Try.pinned (OpenSpec.ofChange fnExactLookupSpec)

/-- ITS FALSE NEIGHBOUR: 'it returns false'. Refute it at one input. -/
def fnExactLookupWrong : ChangeSpec := { name := "fnExactLookup", fn := fun _ => fun
  | [d1, d2, d3] => { results := [.lit (.bool false)], args := [d1, d2, d3] }
  | _ => none }
def FnExactLookupWrongFalsely : Prop := fnExactLookupRow.holds Try.pinned (OpenSpec.ofChange fnExactLookupWrong)

/-- 'laws.FnExactHidden': WHATEVER THE INPUT: true; the input reads as it did. -/
def fnExactHiddenSpec : ChangeSpec := { name := "fnExactHidden", fn := fun _ => fun
  | [d] => { results := [.lit (.bool true)], args := [d] }
  | _ => none }
def fnExactHiddenRow : OpenClaim := { program := "ytgigdpdmdldhnaa", sum := "bbfcfd3912ebc7fd8ce194242f7a1b7d65b3caa04015475d261f654494315a8f", func := "loop.example/g00391/laws.FnExactHidden", spec := "fnExactHidden", unfollowed := true, recurses := true, apart := false }
def FnExactHiddenSaid : Prop := fnExactHiddenRow.holds Try.pinned (OpenSpec.ofChange fnExactHiddenSpec)

/-- ITS FALSE NEIGHBOUR: 'it returns false'. Refute it at one input. -/
def fnExactHiddenWrong : ChangeSpec := { name := "fnExactHidden", fn := fun _ => fun
  | [d] => { results := [.lit (.bool false)], args := [d] }
  | _ => none }
def FnExactHiddenWrongFalsely : Prop := fnExactHiddenRow.holds Try.pinned (OpenSpec.ofChange fnExactHiddenWrong)

/-- 'laws.FnExactTouch': WHATEVER THE INPUT: true; the input reads as it did. -/
def fnExactTouchSpec : ChangeSpec := { name := "fnExactTouch", fn := fun _ => fun
  | [d1, d2] => { results := [.lit (.bool true)], args := [d1, d2] }
  | _ => none }
def fnExactTouchRow : OpenClaim := { program := "ytgigdpdmdldhnaa", sum := "bbfcfd3912ebc7fd8ce194242f7a1b7d65b3caa04015475d261f654494315a8f", func := "loop.example/g00391/laws.FnExactTouch", spec := "fnExactTouch", apart := false }
def FnExactTouchSaid : Prop := fnExactTouchRow.holds Try.pinned (OpenSpec.ofChange fnExactTouchSpec)

/-- ITS FALSE NEIGHBOUR: 'it returns false'. Refute it at one input. -/
def fnExactTouchWrong : ChangeSpec := { name := "fnExactTouch", fn := fun _ => fun
  | [d1, d2] => { results := [.lit (.bool false)], args := [d1, d2] }
  | _ => none }
def FnExactTouchWrongFalsely : Prop := fnExactTouchRow.holds Try.pinned (OpenSpec.ofChange fnExactTouchWrong)

/-- 'laws.FnExactTableKeep': WHATEVER THE INPUT: true; the input reads as it did. -/
def fnExactTableKeepSpec : ChangeSpec := { name := "fnExactTableKeep", fn := fun _ => fun
  | [d1, d2] => { results := [.lit (.bool true)], args := [d1, d2] }
  | _ => none }
def fnExactTableKeepRow : OpenClaim := { program := "ytgigdpdmdldhnaa", sum := "bbfcfd3912ebc7fd8ce194242f7a1b7d65b3caa04015475d261f654494315a8f", func := "loop.example/g00391/laws.FnExactTableKeep", spec := "fnExactTableKeep", unfollowed := true, recurses := true, apart := false }
def FnExactTableKeepSaid : Prop := fnExactTableKeepRow.holds Try.pinned (OpenSpec.ofChange fnExactTableKeepSpec)

/-- ITS FALSE NEIGHBOUR: 'it returns false'. Refute it at one input. -/
def fnExactTableKeepWrong : ChangeSpec := { name := "fnExactTableKeep", fn := fun _ => fun
  | [d1, d2] => { results := [.lit (.bool false)], args := [d1, d2] }
  | _ => none }
def FnExactTableKeepWrongFalsely : Prop := fnExactTableKeepRow.holds Try.pinned (OpenSpec.ofChange fnExactTableKeepWrong)

/-- 'laws.FnHidden': WHATEVER THE INPUT: true; the input reads as it did. -/
def fnHiddenSpec : ChangeSpec := { name := "fnHidden", fn := fun _ => fun
  | [d] => { results := [.lit (.bool true)], args := [d] }
  | _ => none }
def fnHiddenRow : OpenClaim := { program := "ytgigdpdmdldhnaa", sum := "bbfcfd3912ebc7fd8ce194242f7a1b7d65b3caa04015475d261f654494315a8f", func := "loop.example/g00391/laws.FnHidden", spec := "fnHidden", unfollowed := true, recurses := true, apart := false }
def FnHiddenSaid : Prop := fnHiddenRow.holds Try.pinned (OpenSpec.ofChange fnHiddenSpec)

/-- ITS FALSE NEIGHBOUR: 'it returns false'. Refute it at one input. -/
def fnHiddenWrong : ChangeSpec := { name := "fnHidden", fn := fun _ => fun
  | [d] => { results := [.lit (.bool false)], args := [d] }
  | _ => none }
def FnHiddenWrongFalsely : Prop := fnHiddenRow.holds Try.pinned (OpenSpec.ofChange fnHiddenWrong)

/- THE SECOND FORM. 'bulk': how many values and letters a reading holds, each counted each time it is reached (what is shared counts as often as it is met; a slice's spare places count too). A statement '..UptoSaid' is the law's where the arguments, and the package variables that the reading takes, are together of bulk at most 1048576: NARROWER than '..Said'. Prove '..Said' where nothing that the law and all that it calls make is longer than what came in: it says more and counts as full. Else prove '..UptoSaid'. A law counts once. -/
mutual
def uptoBulk {H : Type} : DataW H → Nat
  | .lit (.string bytes) => bytes.length + 1
  | .lit _ => 1
  | .nil => 1
  | .ptr d => uptoBulk d + 1
  | .slice elems spare => uptoBulkAll elems + uptoBulkAll spare + 1
  | .agg parts => uptoBulkAll parts + 1
  | .iface _ d => uptoBulk d + 1
  | .map entries => uptoBulkEntries entries + 1
  | .held _ => 1
def uptoBulkAll {H : Type} : List (DataW H) → Nat
  | [] => 0
  | d :: r => uptoBulk d + uptoBulkAll r
def uptoBulkEntries {H : Type} : List (Lit × DataW H) → Nat
  | [] => 0
  | x :: r => uptoBulkEntry x + uptoBulkEntries r
def uptoBulkEntry {H : Type} : Lit × DataW H → Nat
  | (.string bytes, d) => bytes.length + uptoBulk d + 1
  | (_, d) => uptoBulk d + 1
 end
def uptoSmall : (H : Type) → List (DataW H) → Bool := fun _ ds => decide (uptoBulkAll ds ≤ 1048576)
def OpenSpec.upto (s : _root_.Go.ChangeSpec) : _root_.Go.OpenSpec := { _root_.Go.OpenSpec.ofChange s with cond := some uptoSmall }

/-- 'laws.FnExactPortsOk', WHERE WHAT IT READS IS OF BULK AT MOST 1048576: true; the input reads as it did. -/
def fnExactPortsOkUptoRow : OpenClaim := { program := "ytgigdpdmdldhnaa", sum := "bbfcfd3912ebc7fd8ce194242f7a1b7d65b3caa04015475d261f654494315a8f", func := "loop.example/g00391/laws.FnExactPortsOk", spec := "fnExactPortsOk", apart := false, narrowed := true }
def FnExactPortsOkUptoSaid : Prop := fnExactPortsOkUptoRow.holds Try.pinned (OpenSpec.upto fnExactPortsOkSpec)

/-- 'laws.FnExactActsOk', WHERE WHAT IT READS IS OF BULK AT MOST 1048576: true; the input reads as it did. -/
def fnExactActsOkUptoRow : OpenClaim := { program := "ytgigdpdmdldhnaa", sum := "bbfcfd3912ebc7fd8ce194242f7a1b7d65b3caa04015475d261f654494315a8f", func := "loop.example/g00391/laws.FnExactActsOk", spec := "fnExactActsOk", apart := false, narrowed := true }
def FnExactActsOkUptoSaid : Prop := fnExactActsOkUptoRow.holds Try.pinned (OpenSpec.upto fnExactActsOkSpec)

/-- 'laws.FnExactHasAct', WHERE WHAT IT READS IS OF BULK AT MOST 1048576: true; the input reads as it did. -/
def fnExactHasActUptoRow : OpenClaim := { program := "ytgigdpdmdldhnaa", sum := "bbfcfd3912ebc7fd8ce194242f7a1b7d65b3caa04015475d261f654494315a8f", func := "loop.example/g00391/laws.FnExactHasAct", spec := "fnExactHasAct", unfollowed := true, recurses := true, apart := false, narrowed := true }
def FnExactHasActUptoSaid : Prop := fnExactHasActUptoRow.holds Try.pinned (OpenSpec.upto fnExactHasActSpec)

/-- 'laws.FnExactSameActs', WHERE WHAT IT READS IS OF BULK AT MOST 1048576: true; the input reads as it did. -/
def fnExactSameActsUptoRow : OpenClaim := { program := "ytgigdpdmdldhnaa", sum := "bbfcfd3912ebc7fd8ce194242f7a1b7d65b3caa04015475d261f654494315a8f", func := "loop.example/g00391/laws.FnExactSameActs", spec := "fnExactSameActs", apart := false, narrowed := true }
def FnExactSameActsUptoSaid : Prop := fnExactSameActsUptoRow.holds Try.pinned (OpenSpec.upto fnExactSameActsSpec)

/-- 'laws.FnExactPerform', WHERE WHAT IT READS IS OF BULK AT MOST 1048576: true; the input reads as it did. -/
def fnExactPerformUptoRow : OpenClaim := { program := "ytgigdpdmdldhnaa", sum := "bbfcfd3912ebc7fd8ce194242f7a1b7d65b3caa04015475d261f654494315a8f", func := "loop.example/g00391/laws.FnExactPerform", spec := "fnExactPerform", apart := false, narrowed := true }
def FnExactPerformUptoSaid : Prop := fnExactPerformUptoRow.holds Try.pinned (OpenSpec.upto fnExactPerformSpec)

/-- 'laws.FnExactOutPorts', WHERE WHAT IT READS IS OF BULK AT MOST 1048576: true; the input reads as it did. -/
def fnExactOutPortsUptoRow : OpenClaim := { program := "ytgigdpdmdldhnaa", sum := "bbfcfd3912ebc7fd8ce194242f7a1b7d65b3caa04015475d261f654494315a8f", func := "loop.example/g00391/laws.FnExactOutPorts", spec := "fnExactOutPorts", recurses := true, apart := false, narrowed := true }
def FnExactOutPortsUptoSaid : Prop := fnExactOutPortsUptoRow.holds Try.pinned (OpenSpec.upto fnExactOutPortsSpec)

/-- 'laws.FnActs', WHERE WHAT IT READS IS OF BULK AT MOST 1048576: true; the input reads as it did. -/
def fnActsUptoRow : OpenClaim := { program := "ytgigdpdmdldhnaa", sum := "bbfcfd3912ebc7fd8ce194242f7a1b7d65b3caa04015475d261f654494315a8f", func := "loop.example/g00391/laws.FnActs", spec := "fnActs", recurses := true, apart := false, narrowed := true }
def FnActsUptoSaid : Prop := fnActsUptoRow.holds Try.pinned (OpenSpec.upto fnActsSpec)

/-- 'laws.FnExactEntryOk', WHERE WHAT IT READS IS OF BULK AT MOST 1048576: true; the input reads as it did. -/
def fnExactEntryOkUptoRow : OpenClaim := { program := "ytgigdpdmdldhnaa", sum := "bbfcfd3912ebc7fd8ce194242f7a1b7d65b3caa04015475d261f654494315a8f", func := "loop.example/g00391/laws.FnExactEntryOk", spec := "fnExactEntryOk", apart := false, narrowed := true }
def FnExactEntryOkUptoSaid : Prop := fnExactEntryOkUptoRow.holds Try.pinned (OpenSpec.upto fnExactEntryOkSpec)

/-- 'laws.FnExactTableOk', WHERE WHAT IT READS IS OF BULK AT MOST 1048576: true; the input reads as it did. -/
def fnExactTableOkUptoRow : OpenClaim := { program := "ytgigdpdmdldhnaa", sum := "bbfcfd3912ebc7fd8ce194242f7a1b7d65b3caa04015475d261f654494315a8f", func := "loop.example/g00391/laws.FnExactTableOk", spec := "fnExactTableOk", apart := false, narrowed := true }
def FnExactTableOkUptoSaid : Prop := fnExactTableOkUptoRow.holds Try.pinned (OpenSpec.upto fnExactTableOkSpec)

/-- 'laws.FnExactLookup', WHERE WHAT IT READS IS OF BULK AT MOST 1048576: true; the input reads as it did. -/
def fnExactLookupUptoRow : OpenClaim := { program := "ytgigdpdmdldhnaa", sum := "bbfcfd3912ebc7fd8ce194242f7a1b7d65b3caa04015475d261f654494315a8f", func := "loop.example/g00391/laws.FnExactLookup", spec := "fnExactLookup", unfollowed := true, recurses := true, apart := false, narrowed := true }
def FnExactLookupUptoSaid : Prop := fnExactLookupUptoRow.holds Try.pinned (OpenSpec.upto fnExactLookupSpec)

/-- 'laws.FnExactHidden', WHERE WHAT IT READS IS OF BULK AT MOST 1048576: true; the input reads as it did. -/
def fnExactHiddenUptoRow : OpenClaim := { program := "ytgigdpdmdldhnaa", sum := "bbfcfd3912ebc7fd8ce194242f7a1b7d65b3caa04015475d261f654494315a8f", func := "loop.example/g00391/laws.FnExactHidden", spec := "fnExactHidden", unfollowed := true, recurses := true, apart := false, narrowed := true }
def FnExactHiddenUptoSaid : Prop := fnExactHiddenUptoRow.holds Try.pinned (OpenSpec.upto fnExactHiddenSpec)

/-- 'laws.FnExactTouch', WHERE WHAT IT READS IS OF BULK AT MOST 1048576: true; the input reads as it did. -/
def fnExactTouchUptoRow : OpenClaim := { program := "ytgigdpdmdldhnaa", sum := "bbfcfd3912ebc7fd8ce194242f7a1b7d65b3caa04015475d261f654494315a8f", func := "loop.example/g00391/laws.FnExactTouch", spec := "fnExactTouch", apart := false, narrowed := true }
def FnExactTouchUptoSaid : Prop := fnExactTouchUptoRow.holds Try.pinned (OpenSpec.upto fnExactTouchSpec)

/-- 'laws.FnExactTableKeep', WHERE WHAT IT READS IS OF BULK AT MOST 1048576: true; the input reads as it did. -/
def fnExactTableKeepUptoRow : OpenClaim := { program := "ytgigdpdmdldhnaa", sum := "bbfcfd3912ebc7fd8ce194242f7a1b7d65b3caa04015475d261f654494315a8f", func := "loop.example/g00391/laws.FnExactTableKeep", spec := "fnExactTableKeep", unfollowed := true, recurses := true, apart := false, narrowed := true }
def FnExactTableKeepUptoSaid : Prop := fnExactTableKeepUptoRow.holds Try.pinned (OpenSpec.upto fnExactTableKeepSpec)

/-- 'laws.FnHidden', WHERE WHAT IT READS IS OF BULK AT MOST 1048576: true; the input reads as it did. -/
def fnHiddenUptoRow : OpenClaim := { program := "ytgigdpdmdldhnaa", sum := "bbfcfd3912ebc7fd8ce194242f7a1b7d65b3caa04015475d261f654494315a8f", func := "loop.example/g00391/laws.FnHidden", spec := "fnHidden", unfollowed := true, recurses := true, apart := false, narrowed := true }
def FnHiddenUptoSaid : Prop := fnHiddenUptoRow.holds Try.pinned (OpenSpec.upto fnHiddenSpec)

end Rows
end Go.Proofs.Ytgigdpdmdldhnaa
