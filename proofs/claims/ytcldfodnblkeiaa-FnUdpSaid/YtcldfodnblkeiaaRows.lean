/-
  No cell of these rows narrows 'for every input' (looked for: loops, veiled, ifaces, maps, wideKeys, modest, calm, conditions, laid).
  DERIVED. THE GIVEN ROWS OF THIS SEAT. 17 by the template 'for every input the law returns true; each argument reads behind the call as it read before'; 0 by the template 'total and deterministic' (their statements: YtcldfodnblkeiaaTotals.lean).
  GIVEN WITH THE SEED: the statements are not yours to turn. If you find one false, say at which input.
  Laid BY PROGRAM, IN A SANDBOX (cutbox-rows.mjs): the forced cells as the released guide's own fill.sh prints them over the translation 01aec0261ef3aca7… (all of the seat's roots in one cut). By AI agents, Wed Nov 11 2026. No macro, syntax, notation, axiom, sorry.
-/
import Derived.Test.YtcldfodnblkeiaaChecked
import GoSem.Claim
import GoSem.ClaimJoined
import GoSem.ClaimMapViews
import Derived.JoinedTies
import Derived.KernelRfl
namespace Go.Proofs.Ytcldfodnblkeiaa
/- THE CELL 'sum', in the pinned program and in every row, IS THE sha256 OF THE DUMP (.gsa) THAT YtcldfodnblkeiaaProg.lean LOADS. Nothing in Lean hashes anything: it is a label: what it is worth is what the hold of that sum in a sandbox is worth. -/
noncomputable def Try.pinned : Pinned := { name := "ytcldfodnblkeiaa", sum := "01aec0261ef3aca72c851bb32978febbada7a220406e490e79046aeb793d95cd", checked := Try.checked }
namespace Rows
def none {H : Type} : Left H := { results := [], args := [] }

/-- 'laws.FnExactPacketOk': WHATEVER THE INPUT: true; the input reads as it did. -/
def fnExactPacketOkSpec : ChangeSpec := { name := "fnExactPacketOk", fn := fun _ => fun
  | [d] => { results := [.lit (.bool true)], args := [d] }
  | _ => none }
def fnExactPacketOkRow : OpenClaim := { program := "ytcldfodnblkeiaa", sum := "01aec0261ef3aca72c851bb32978febbada7a220406e490e79046aeb793d95cd", func := "loop.example/g00391/laws.FnExactPacketOk", spec := "fnExactPacketOk", apart := false }
def FnExactPacketOkSaid : Prop := fnExactPacketOkRow.holds Try.pinned (OpenSpec.ofChange fnExactPacketOkSpec)

/-- ITS FALSE NEIGHBOUR: 'it returns false'. Refute it at one input. -/
def fnExactPacketOkWrong : ChangeSpec := { name := "fnExactPacketOk", fn := fun _ => fun
  | [d] => { results := [.lit (.bool false)], args := [d] }
  | _ => none }
def FnExactPacketOkWrongFalsely : Prop := fnExactPacketOkRow.holds Try.pinned (OpenSpec.ofChange fnExactPacketOkWrong)

/-- 'laws.FnExactPacketBytes': WHATEVER THE INPUT: true; the input reads as it did. -/
def fnExactPacketBytesSpec : ChangeSpec := { name := "fnExactPacketBytes", fn := fun _ => fun
  | [d] => { results := [.lit (.bool true)], args := [d] }
  | _ => none }
def fnExactPacketBytesRow : OpenClaim := { program := "ytcldfodnblkeiaa", sum := "01aec0261ef3aca72c851bb32978febbada7a220406e490e79046aeb793d95cd", func := "loop.example/g00391/laws.FnExactPacketBytes", spec := "fnExactPacketBytes", apart := false }
def FnExactPacketBytesSaid : Prop := fnExactPacketBytesRow.holds Try.pinned (OpenSpec.ofChange fnExactPacketBytesSpec)

/-- ITS FALSE NEIGHBOUR: 'it returns false'. Refute it at one input. -/
def fnExactPacketBytesWrong : ChangeSpec := { name := "fnExactPacketBytes", fn := fun _ => fun
  | [d] => { results := [.lit (.bool false)], args := [d] }
  | _ => none }
def FnExactPacketBytesWrongFalsely : Prop := fnExactPacketBytesRow.holds Try.pinned (OpenSpec.ofChange fnExactPacketBytesWrong)

/-- 'laws.FnExactPacketRead': WHATEVER THE INPUT: true; the input reads as it did. -/
def fnExactPacketReadSpec : ChangeSpec := { name := "fnExactPacketRead", fn := fun _ => fun
  | [d] => { results := [.lit (.bool true)], args := [d] }
  | _ => none }
def fnExactPacketReadRow : OpenClaim := { program := "ytcldfodnblkeiaa", sum := "01aec0261ef3aca72c851bb32978febbada7a220406e490e79046aeb793d95cd", func := "loop.example/g00391/laws.FnExactPacketRead", spec := "fnExactPacketRead", apart := false }
def FnExactPacketReadSaid : Prop := fnExactPacketReadRow.holds Try.pinned (OpenSpec.ofChange fnExactPacketReadSpec)

/-- ITS FALSE NEIGHBOUR: 'it returns false'. Refute it at one input. -/
def fnExactPacketReadWrong : ChangeSpec := { name := "fnExactPacketRead", fn := fun _ => fun
  | [d] => { results := [.lit (.bool false)], args := [d] }
  | _ => none }
def FnExactPacketReadWrongFalsely : Prop := fnExactPacketReadRow.holds Try.pinned (OpenSpec.ofChange fnExactPacketReadWrong)

/-- 'laws.FnExactTagged': WHATEVER THE INPUT: true; the input reads as it did. -/
def fnExactTaggedSpec : ChangeSpec := { name := "fnExactTagged", fn := fun _ => fun
  | [d1, d2] => { results := [.lit (.bool true)], args := [d1, d2] }
  | _ => none }
def fnExactTaggedRow : OpenClaim := { program := "ytcldfodnblkeiaa", sum := "01aec0261ef3aca72c851bb32978febbada7a220406e490e79046aeb793d95cd", func := "loop.example/g00391/laws.FnExactTagged", spec := "fnExactTagged", apart := false }
def FnExactTaggedSaid : Prop := fnExactTaggedRow.holds Try.pinned (OpenSpec.ofChange fnExactTaggedSpec)

/-- ITS FALSE NEIGHBOUR: 'it returns false'. Refute it at one input. -/
def fnExactTaggedWrong : ChangeSpec := { name := "fnExactTagged", fn := fun _ => fun
  | [d1, d2] => { results := [.lit (.bool false)], args := [d1, d2] }
  | _ => none }
def FnExactTaggedWrongFalsely : Prop := fnExactTaggedRow.holds Try.pinned (OpenSpec.ofChange fnExactTaggedWrong)

/-- 'laws.FnExactIpOk': WHATEVER THE INPUT: true; the input reads as it did. -/
def fnExactIpOkSpec : ChangeSpec := { name := "fnExactIpOk", fn := fun _ => fun
  | [d] => { results := [.lit (.bool true)], args := [d] }
  | _ => none }
def fnExactIpOkRow : OpenClaim := { program := "ytcldfodnblkeiaa", sum := "01aec0261ef3aca72c851bb32978febbada7a220406e490e79046aeb793d95cd", func := "loop.example/g00391/laws.FnExactIpOk", spec := "fnExactIpOk", apart := false }
def FnExactIpOkSaid : Prop := fnExactIpOkRow.holds Try.pinned (OpenSpec.ofChange fnExactIpOkSpec)

/-- ITS FALSE NEIGHBOUR: 'it returns false'. Refute it at one input. -/
def fnExactIpOkWrong : ChangeSpec := { name := "fnExactIpOk", fn := fun _ => fun
  | [d] => { results := [.lit (.bool false)], args := [d] }
  | _ => none }
def FnExactIpOkWrongFalsely : Prop := fnExactIpOkRow.holds Try.pinned (OpenSpec.ofChange fnExactIpOkWrong)

/-- 'laws.FnExactIpBytes': WHATEVER THE INPUT: true; the input reads as it did. -/
def fnExactIpBytesSpec : ChangeSpec := { name := "fnExactIpBytes", fn := fun _ => fun
  | [d] => { results := [.lit (.bool true)], args := [d] }
  | _ => none }
def fnExactIpBytesRow : OpenClaim := { program := "ytcldfodnblkeiaa", sum := "01aec0261ef3aca72c851bb32978febbada7a220406e490e79046aeb793d95cd", func := "loop.example/g00391/laws.FnExactIpBytes", spec := "fnExactIpBytes", apart := false }
def FnExactIpBytesSaid : Prop := fnExactIpBytesRow.holds Try.pinned (OpenSpec.ofChange fnExactIpBytesSpec)

/-- ITS FALSE NEIGHBOUR: 'it returns false'. Refute it at one input. -/
def fnExactIpBytesWrong : ChangeSpec := { name := "fnExactIpBytes", fn := fun _ => fun
  | [d] => { results := [.lit (.bool false)], args := [d] }
  | _ => none }
def FnExactIpBytesWrongFalsely : Prop := fnExactIpBytesRow.holds Try.pinned (OpenSpec.ofChange fnExactIpBytesWrong)

/-- 'laws.FnExactIpRead': WHATEVER THE INPUT: true; the input reads as it did. -/
def fnExactIpReadSpec : ChangeSpec := { name := "fnExactIpRead", fn := fun _ => fun
  | [d] => { results := [.lit (.bool true)], args := [d] }
  | _ => none }
def fnExactIpReadRow : OpenClaim := { program := "ytcldfodnblkeiaa", sum := "01aec0261ef3aca72c851bb32978febbada7a220406e490e79046aeb793d95cd", func := "loop.example/g00391/laws.FnExactIpRead", spec := "fnExactIpRead", apart := false }
def FnExactIpReadSaid : Prop := fnExactIpReadRow.holds Try.pinned (OpenSpec.ofChange fnExactIpReadSpec)

/-- ITS FALSE NEIGHBOUR: 'it returns false'. Refute it at one input. -/
def fnExactIpReadWrong : ChangeSpec := { name := "fnExactIpRead", fn := fun _ => fun
  | [d] => { results := [.lit (.bool false)], args := [d] }
  | _ => none }
def FnExactIpReadWrongFalsely : Prop := fnExactIpReadRow.holds Try.pinned (OpenSpec.ofChange fnExactIpReadWrong)

/-- 'laws.FnExactHop': WHATEVER THE INPUT: true; the input reads as it did. -/
def fnExactHopSpec : ChangeSpec := { name := "fnExactHop", fn := fun _ => fun
  | [d] => { results := [.lit (.bool true)], args := [d] }
  | _ => none }
def fnExactHopRow : OpenClaim := { program := "ytcldfodnblkeiaa", sum := "01aec0261ef3aca72c851bb32978febbada7a220406e490e79046aeb793d95cd", func := "loop.example/g00391/laws.FnExactHop", spec := "fnExactHop", apart := false }
def FnExactHopSaid : Prop := fnExactHopRow.holds Try.pinned (OpenSpec.ofChange fnExactHopSpec)

/-- ITS FALSE NEIGHBOUR: 'it returns false'. Refute it at one input. -/
def fnExactHopWrong : ChangeSpec := { name := "fnExactHop", fn := fun _ => fun
  | [d] => { results := [.lit (.bool false)], args := [d] }
  | _ => none }
def FnExactHopWrongFalsely : Prop := fnExactHopRow.holds Try.pinned (OpenSpec.ofChange fnExactHopWrong)

/-- 'laws.FnExactUdpOk': WHATEVER THE INPUT: true; the input reads as it did. -/
def fnExactUdpOkSpec : ChangeSpec := { name := "fnExactUdpOk", fn := fun _ => fun
  | [d] => { results := [.lit (.bool true)], args := [d] }
  | _ => none }
def fnExactUdpOkRow : OpenClaim := { program := "ytcldfodnblkeiaa", sum := "01aec0261ef3aca72c851bb32978febbada7a220406e490e79046aeb793d95cd", func := "loop.example/g00391/laws.FnExactUdpOk", spec := "fnExactUdpOk", apart := false }
def FnExactUdpOkSaid : Prop := fnExactUdpOkRow.holds Try.pinned (OpenSpec.ofChange fnExactUdpOkSpec)

/-- ITS FALSE NEIGHBOUR: 'it returns false'. Refute it at one input. -/
def fnExactUdpOkWrong : ChangeSpec := { name := "fnExactUdpOk", fn := fun _ => fun
  | [d] => { results := [.lit (.bool false)], args := [d] }
  | _ => none }
def FnExactUdpOkWrongFalsely : Prop := fnExactUdpOkRow.holds Try.pinned (OpenSpec.ofChange fnExactUdpOkWrong)

/-- 'laws.FnExactUdpBytes': WHATEVER THE INPUT: true; the input reads as it did. -/
def fnExactUdpBytesSpec : ChangeSpec := { name := "fnExactUdpBytes", fn := fun _ => fun
  | [d] => { results := [.lit (.bool true)], args := [d] }
  | _ => none }
def fnExactUdpBytesRow : OpenClaim := { program := "ytcldfodnblkeiaa", sum := "01aec0261ef3aca72c851bb32978febbada7a220406e490e79046aeb793d95cd", func := "loop.example/g00391/laws.FnExactUdpBytes", spec := "fnExactUdpBytes", apart := false }
def FnExactUdpBytesSaid : Prop := fnExactUdpBytesRow.holds Try.pinned (OpenSpec.ofChange fnExactUdpBytesSpec)

/-- ITS FALSE NEIGHBOUR: 'it returns false'. Refute it at one input. -/
def fnExactUdpBytesWrong : ChangeSpec := { name := "fnExactUdpBytes", fn := fun _ => fun
  | [d] => { results := [.lit (.bool false)], args := [d] }
  | _ => none }
def FnExactUdpBytesWrongFalsely : Prop := fnExactUdpBytesRow.holds Try.pinned (OpenSpec.ofChange fnExactUdpBytesWrong)

/-- 'laws.FnExactUdpRead': WHATEVER THE INPUT: true; the input reads as it did. -/
def fnExactUdpReadSpec : ChangeSpec := { name := "fnExactUdpRead", fn := fun _ => fun
  | [d] => { results := [.lit (.bool true)], args := [d] }
  | _ => none }
def fnExactUdpReadRow : OpenClaim := { program := "ytcldfodnblkeiaa", sum := "01aec0261ef3aca72c851bb32978febbada7a220406e490e79046aeb793d95cd", func := "loop.example/g00391/laws.FnExactUdpRead", spec := "fnExactUdpRead", apart := false }
def FnExactUdpReadSaid : Prop := fnExactUdpReadRow.holds Try.pinned (OpenSpec.ofChange fnExactUdpReadSpec)

/-- ITS FALSE NEIGHBOUR: 'it returns false'. Refute it at one input. -/
def fnExactUdpReadWrong : ChangeSpec := { name := "fnExactUdpRead", fn := fun _ => fun
  | [d] => { results := [.lit (.bool false)], args := [d] }
  | _ => none }
def FnExactUdpReadWrongFalsely : Prop := fnExactUdpReadRow.holds Try.pinned (OpenSpec.ofChange fnExactUdpReadWrong)

/-- 'laws.FnExactHeadOf': WHATEVER THE INPUT: true; the input reads as it did. -/
def fnExactHeadOfSpec : ChangeSpec := { name := "fnExactHeadOf", fn := fun _ => fun
  | [d1, d2] => { results := [.lit (.bool true)], args := [d1, d2] }
  | _ => none }
def fnExactHeadOfRow : OpenClaim := { program := "ytcldfodnblkeiaa", sum := "01aec0261ef3aca72c851bb32978febbada7a220406e490e79046aeb793d95cd", func := "loop.example/g00391/laws.FnExactHeadOf", spec := "fnExactHeadOf", apart := false }
def FnExactHeadOfSaid : Prop := fnExactHeadOfRow.holds Try.pinned (OpenSpec.ofChange fnExactHeadOfSpec)

/-- ITS FALSE NEIGHBOUR: 'it returns false'. Refute it at one input. -/
def fnExactHeadOfWrong : ChangeSpec := { name := "fnExactHeadOf", fn := fun _ => fun
  | [d1, d2] => { results := [.lit (.bool false)], args := [d1, d2] }
  | _ => none }
def FnExactHeadOfWrongFalsely : Prop := fnExactHeadOfRow.holds Try.pinned (OpenSpec.ofChange fnExactHeadOfWrong)

/-- 'laws.FnSum': WHATEVER THE INPUT: true; the input reads as it did. -/
def fnSumSpec : ChangeSpec := { name := "fnSum", fn := fun _ => fun
  | [d] => { results := [.lit (.bool true)], args := [d] }
  | _ => none }
def fnSumRow : OpenClaim := { program := "ytcldfodnblkeiaa", sum := "01aec0261ef3aca72c851bb32978febbada7a220406e490e79046aeb793d95cd", func := "loop.example/g00391/laws.FnSum", spec := "fnSum", apart := false }
def FnSumSaid : Prop := fnSumRow.holds Try.pinned (OpenSpec.ofChange fnSumSpec)

/-- ITS FALSE NEIGHBOUR: 'it returns false'. Refute it at one input. -/
def fnSumWrong : ChangeSpec := { name := "fnSum", fn := fun _ => fun
  | [d] => { results := [.lit (.bool false)], args := [d] }
  | _ => none }
def FnSumWrongFalsely : Prop := fnSumRow.holds Try.pinned (OpenSpec.ofChange fnSumWrong)

/-- 'laws.FnIp': WHATEVER THE INPUT: true; the input reads as it did. -/
def fnIpSpec : ChangeSpec := { name := "fnIp", fn := fun _ => fun
  | [d] => { results := [.lit (.bool true)], args := [d] }
  | _ => none }
def fnIpRow : OpenClaim := { program := "ytcldfodnblkeiaa", sum := "01aec0261ef3aca72c851bb32978febbada7a220406e490e79046aeb793d95cd", func := "loop.example/g00391/laws.FnIp", spec := "fnIp", apart := false }
def FnIpSaid : Prop := fnIpRow.holds Try.pinned (OpenSpec.ofChange fnIpSpec)

/-- ITS FALSE NEIGHBOUR: 'it returns false'. Refute it at one input. -/
def fnIpWrong : ChangeSpec := { name := "fnIp", fn := fun _ => fun
  | [d] => { results := [.lit (.bool false)], args := [d] }
  | _ => none }
def FnIpWrongFalsely : Prop := fnIpRow.holds Try.pinned (OpenSpec.ofChange fnIpWrong)

/-- 'laws.FnPacket': WHATEVER THE INPUT: true; the input reads as it did. -/
def fnPacketSpec : ChangeSpec := { name := "fnPacket", fn := fun _ => fun
  | [d] => { results := [.lit (.bool true)], args := [d] }
  | _ => none }
def fnPacketRow : OpenClaim := { program := "ytcldfodnblkeiaa", sum := "01aec0261ef3aca72c851bb32978febbada7a220406e490e79046aeb793d95cd", func := "loop.example/g00391/laws.FnPacket", spec := "fnPacket", apart := false }
def FnPacketSaid : Prop := fnPacketRow.holds Try.pinned (OpenSpec.ofChange fnPacketSpec)

/-- ITS FALSE NEIGHBOUR: 'it returns false'. Refute it at one input. -/
def fnPacketWrong : ChangeSpec := { name := "fnPacket", fn := fun _ => fun
  | [d] => { results := [.lit (.bool false)], args := [d] }
  | _ => none }
def FnPacketWrongFalsely : Prop := fnPacketRow.holds Try.pinned (OpenSpec.ofChange fnPacketWrong)

/-- 'laws.FnUdp': WHATEVER THE INPUT: true; the input reads as it did. -/
def fnUdpSpec : ChangeSpec := { name := "fnUdp", fn := fun _ => fun
  | [d] => { results := [.lit (.bool true)], args := [d] }
  | _ => none }
def fnUdpRow : OpenClaim := { program := "ytcldfodnblkeiaa", sum := "01aec0261ef3aca72c851bb32978febbada7a220406e490e79046aeb793d95cd", func := "loop.example/g00391/laws.FnUdp", spec := "fnUdp", apart := false }
def FnUdpSaid : Prop := fnUdpRow.holds Try.pinned (OpenSpec.ofChange fnUdpSpec)

/-- ITS FALSE NEIGHBOUR: 'it returns false'. Refute it at one input. -/
def fnUdpWrong : ChangeSpec := { name := "fnUdp", fn := fun _ => fun
  | [d] => { results := [.lit (.bool false)], args := [d] }
  | _ => none }
def FnUdpWrongFalsely : Prop := fnUdpRow.holds Try.pinned (OpenSpec.ofChange fnUdpWrong)

/-- 'laws.FnHex': WHATEVER THE INPUT: true; the input reads as it did. -/
def fnHexSpec : ChangeSpec := { name := "fnHex", fn := fun _ => fun
  | [d] => { results := [.lit (.bool true)], args := [d] }
  | _ => none }
def fnHexRow : OpenClaim := { program := "ytcldfodnblkeiaa", sum := "01aec0261ef3aca72c851bb32978febbada7a220406e490e79046aeb793d95cd", func := "loop.example/g00391/laws.FnHex", spec := "fnHex", apart := false }
def FnHexSaid : Prop := fnHexRow.holds Try.pinned (OpenSpec.ofChange fnHexSpec)

/-- ITS FALSE NEIGHBOUR: 'it returns false'. Refute it at one input. -/
def fnHexWrong : ChangeSpec := { name := "fnHex", fn := fun _ => fun
  | [d] => { results := [.lit (.bool false)], args := [d] }
  | _ => none }
def FnHexWrongFalsely : Prop := fnHexRow.holds Try.pinned (OpenSpec.ofChange fnHexWrong)

/- THE SECOND FORM. 'bulk': how many values and letters a reading holds, each counted each time it is reached (what is shared counts as often as it is met; a slice's spare places count too). A statement '..UptoSaid' is the law's where the arguments, and the package variables that the reading takes, are together of bulk at most 1048576: NARROWER than '..Said'. Prove '..Said' where nothing that the law and all that it calls make is longer than what came in: it says more and counts as full. Else prove '..UptoSaid'. A law counts once. -/
mutual
def uptoBulk {H : Type} : DataW H → Nat
  | .lit (.string bytes) => bytes.length + 1
  | .lit _ => 1
  | .nil => 1
  | .ptr d => uptoBulk d + 1
  | .slice elems spare => uptoBulkAll elems + uptoBulkAll spare + 1
  | .agg parts => uptoBulkAll parts + 1
  | .iface _ d => uptoBulk d + 1
  | .map entries => uptoBulkEntries entries + 1
  | .held _ => 1
def uptoBulkAll {H : Type} : List (DataW H) → Nat
  | [] => 0
  | d :: r => uptoBulk d + uptoBulkAll r
def uptoBulkEntries {H : Type} : List (Lit × DataW H) → Nat
  | [] => 0
  | x :: r => uptoBulkEntry x + uptoBulkEntries r
def uptoBulkEntry {H : Type} : Lit × DataW H → Nat
  | (.string bytes, d) => bytes.length + uptoBulk d + 1
  | (_, d) => uptoBulk d + 1
 end
def uptoSmall : (H : Type) → List (DataW H) → Bool := fun _ ds => decide (uptoBulkAll ds ≤ 1048576)
def OpenSpec.upto (s : _root_.Go.ChangeSpec) : _root_.Go.OpenSpec := { _root_.Go.OpenSpec.ofChange s with cond := some uptoSmall }

/-- 'laws.FnExactPacketOk', WHERE WHAT IT READS IS OF BULK AT MOST 1048576: true; the input reads as it did. -/
def fnExactPacketOkUptoRow : OpenClaim := { program := "ytcldfodnblkeiaa", sum := "01aec0261ef3aca72c851bb32978febbada7a220406e490e79046aeb793d95cd", func := "loop.example/g00391/laws.FnExactPacketOk", spec := "fnExactPacketOk", apart := false, narrowed := true }
def FnExactPacketOkUptoSaid : Prop := fnExactPacketOkUptoRow.holds Try.pinned (OpenSpec.upto fnExactPacketOkSpec)

/-- 'laws.FnExactPacketBytes', WHERE WHAT IT READS IS OF BULK AT MOST 1048576: true; the input reads as it did. -/
def fnExactPacketBytesUptoRow : OpenClaim := { program := "ytcldfodnblkeiaa", sum := "01aec0261ef3aca72c851bb32978febbada7a220406e490e79046aeb793d95cd", func := "loop.example/g00391/laws.FnExactPacketBytes", spec := "fnExactPacketBytes", apart := false, narrowed := true }
def FnExactPacketBytesUptoSaid : Prop := fnExactPacketBytesUptoRow.holds Try.pinned (OpenSpec.upto fnExactPacketBytesSpec)

/-- 'laws.FnExactPacketRead', WHERE WHAT IT READS IS OF BULK AT MOST 1048576: true; the input reads as it did. -/
def fnExactPacketReadUptoRow : OpenClaim := { program := "ytcldfodnblkeiaa", sum := "01aec0261ef3aca72c851bb32978febbada7a220406e490e79046aeb793d95cd", func := "loop.example/g00391/laws.FnExactPacketRead", spec := "fnExactPacketRead", apart := false, narrowed := true }
def FnExactPacketReadUptoSaid : Prop := fnExactPacketReadUptoRow.holds Try.pinned (OpenSpec.upto fnExactPacketReadSpec)

/-- 'laws.FnExactTagged', WHERE WHAT IT READS IS OF BULK AT MOST 1048576: true; the input reads as it did. -/
def fnExactTaggedUptoRow : OpenClaim := { program := "ytcldfodnblkeiaa", sum := "01aec0261ef3aca72c851bb32978febbada7a220406e490e79046aeb793d95cd", func := "loop.example/g00391/laws.FnExactTagged", spec := "fnExactTagged", apart := false, narrowed := true }
def FnExactTaggedUptoSaid : Prop := fnExactTaggedUptoRow.holds Try.pinned (OpenSpec.upto fnExactTaggedSpec)

/-- 'laws.FnExactIpOk', WHERE WHAT IT READS IS OF BULK AT MOST 1048576: true; the input reads as it did. -/
def fnExactIpOkUptoRow : OpenClaim := { program := "ytcldfodnblkeiaa", sum := "01aec0261ef3aca72c851bb32978febbada7a220406e490e79046aeb793d95cd", func := "loop.example/g00391/laws.FnExactIpOk", spec := "fnExactIpOk", apart := false, narrowed := true }
def FnExactIpOkUptoSaid : Prop := fnExactIpOkUptoRow.holds Try.pinned (OpenSpec.upto fnExactIpOkSpec)

/-- 'laws.FnExactIpBytes', WHERE WHAT IT READS IS OF BULK AT MOST 1048576: true; the input reads as it did. -/
def fnExactIpBytesUptoRow : OpenClaim := { program := "ytcldfodnblkeiaa", sum := "01aec0261ef3aca72c851bb32978febbada7a220406e490e79046aeb793d95cd", func := "loop.example/g00391/laws.FnExactIpBytes", spec := "fnExactIpBytes", apart := false, narrowed := true }
def FnExactIpBytesUptoSaid : Prop := fnExactIpBytesUptoRow.holds Try.pinned (OpenSpec.upto fnExactIpBytesSpec)

/-- 'laws.FnExactIpRead', WHERE WHAT IT READS IS OF BULK AT MOST 1048576: true; the input reads as it did. -/
def fnExactIpReadUptoRow : OpenClaim := { program := "ytcldfodnblkeiaa", sum := "01aec0261ef3aca72c851bb32978febbada7a220406e490e79046aeb793d95cd", func := "loop.example/g00391/laws.FnExactIpRead", spec := "fnExactIpRead", apart := false, narrowed := true }
def FnExactIpReadUptoSaid : Prop := fnExactIpReadUptoRow.holds Try.pinned (OpenSpec.upto fnExactIpReadSpec)

/-- 'laws.FnExactHop', WHERE WHAT IT READS IS OF BULK AT MOST 1048576: true; the input reads as it did. -/
def fnExactHopUptoRow : OpenClaim := { program := "ytcldfodnblkeiaa", sum := "01aec0261ef3aca72c851bb32978febbada7a220406e490e79046aeb793d95cd", func := "loop.example/g00391/laws.FnExactHop", spec := "fnExactHop", apart := false, narrowed := true }
def FnExactHopUptoSaid : Prop := fnExactHopUptoRow.holds Try.pinned (OpenSpec.upto fnExactHopSpec)

/-- 'laws.FnExactUdpOk', WHERE WHAT IT READS IS OF BULK AT MOST 1048576: true; the input reads as it did. -/
def fnExactUdpOkUptoRow : OpenClaim := { program := "ytcldfodnblkeiaa", sum := "01aec0261ef3aca72c851bb32978febbada7a220406e490e79046aeb793d95cd", func := "loop.example/g00391/laws.FnExactUdpOk", spec := "fnExactUdpOk", apart := false, narrowed := true }
def FnExactUdpOkUptoSaid : Prop := fnExactUdpOkUptoRow.holds Try.pinned (OpenSpec.upto fnExactUdpOkSpec)

/-- 'laws.FnExactUdpBytes', WHERE WHAT IT READS IS OF BULK AT MOST 1048576: true; the input reads as it did. -/
def fnExactUdpBytesUptoRow : OpenClaim := { program := "ytcldfodnblkeiaa", sum := "01aec0261ef3aca72c851bb32978febbada7a220406e490e79046aeb793d95cd", func := "loop.example/g00391/laws.FnExactUdpBytes", spec := "fnExactUdpBytes", apart := false, narrowed := true }
def FnExactUdpBytesUptoSaid : Prop := fnExactUdpBytesUptoRow.holds Try.pinned (OpenSpec.upto fnExactUdpBytesSpec)

/-- 'laws.FnExactUdpRead', WHERE WHAT IT READS IS OF BULK AT MOST 1048576: true; the input reads as it did. -/
def fnExactUdpReadUptoRow : OpenClaim := { program := "ytcldfodnblkeiaa", sum := "01aec0261ef3aca72c851bb32978febbada7a220406e490e79046aeb793d95cd", func := "loop.example/g00391/laws.FnExactUdpRead", spec := "fnExactUdpRead", apart := false, narrowed := true }
def FnExactUdpReadUptoSaid : Prop := fnExactUdpReadUptoRow.holds Try.pinned (OpenSpec.upto fnExactUdpReadSpec)

/-- 'laws.FnExactHeadOf', WHERE WHAT IT READS IS OF BULK AT MOST 1048576: true; the input reads as it did. -/
def fnExactHeadOfUptoRow : OpenClaim := { program := "ytcldfodnblkeiaa", sum := "01aec0261ef3aca72c851bb32978febbada7a220406e490e79046aeb793d95cd", func := "loop.example/g00391/laws.FnExactHeadOf", spec := "fnExactHeadOf", apart := false, narrowed := true }
def FnExactHeadOfUptoSaid : Prop := fnExactHeadOfUptoRow.holds Try.pinned (OpenSpec.upto fnExactHeadOfSpec)

/-- 'laws.FnSum', WHERE WHAT IT READS IS OF BULK AT MOST 1048576: true; the input reads as it did. -/
def fnSumUptoRow : OpenClaim := { program := "ytcldfodnblkeiaa", sum := "01aec0261ef3aca72c851bb32978febbada7a220406e490e79046aeb793d95cd", func := "loop.example/g00391/laws.FnSum", spec := "fnSum", apart := false, narrowed := true }
def FnSumUptoSaid : Prop := fnSumUptoRow.holds Try.pinned (OpenSpec.upto fnSumSpec)

/-- 'laws.FnIp', WHERE WHAT IT READS IS OF BULK AT MOST 1048576: true; the input reads as it did. -/
def fnIpUptoRow : OpenClaim := { program := "ytcldfodnblkeiaa", sum := "01aec0261ef3aca72c851bb32978febbada7a220406e490e79046aeb793d95cd", func := "loop.example/g00391/laws.FnIp", spec := "fnIp", apart := false, narrowed := true }
def FnIpUptoSaid : Prop := fnIpUptoRow.holds Try.pinned (OpenSpec.upto fnIpSpec)

/-- 'laws.FnPacket', WHERE WHAT IT READS IS OF BULK AT MOST 1048576: true; the input reads as it did. -/
def fnPacketUptoRow : OpenClaim := { program := "ytcldfodnblkeiaa", sum := "01aec0261ef3aca72c851bb32978febbada7a220406e490e79046aeb793d95cd", func := "loop.example/g00391/laws.FnPacket", spec := "fnPacket", apart := false, narrowed := true }
def FnPacketUptoSaid : Prop := fnPacketUptoRow.holds Try.pinned (OpenSpec.upto fnPacketSpec)

/-- 'laws.FnUdp', WHERE WHAT IT READS IS OF BULK AT MOST 1048576: true; the input reads as it did. -/
def fnUdpUptoRow : OpenClaim := { program := "ytcldfodnblkeiaa", sum := "01aec0261ef3aca72c851bb32978febbada7a220406e490e79046aeb793d95cd", func := "loop.example/g00391/laws.FnUdp", spec := "fnUdp", apart := false, narrowed := true }
def FnUdpUptoSaid : Prop := fnUdpUptoRow.holds Try.pinned (OpenSpec.upto fnUdpSpec)

/-- 'laws.FnHex', WHERE WHAT IT READS IS OF BULK AT MOST 1048576: true; the input reads as it did. -/
def fnHexUptoRow : OpenClaim := { program := "ytcldfodnblkeiaa", sum := "01aec0261ef3aca72c851bb32978febbada7a220406e490e79046aeb793d95cd", func := "loop.example/g00391/laws.FnHex", spec := "fnHex", apart := false, narrowed := true }
def FnHexUptoSaid : Prop := fnHexUptoRow.holds Try.pinned (OpenSpec.upto fnHexSpec)

end Rows
end Go.Proofs.Ytcldfodnblkeiaa
