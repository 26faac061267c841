/-
  No cell of these rows narrows 'for every input' (looked for: loops, veiled, ifaces, maps, wideKeys, modest, calm, conditions, laid).
  DERIVED. THE GIVEN ROWS OF THIS SEAT. 15 by the template 'for every input the law returns true; each argument reads behind the call as it read before'; 0 by the template 'total and deterministic' (their statements: YtkkhkojojnebjaaTotals.lean).
  GIVEN WITH THE SEED: the statements are not yours to turn. If you find one false, say at which input.
  Laid BY PROGRAM, IN A SANDBOX (cutbox-rows.mjs): the forced cells as the released guide's own fill.sh prints them over the translation 02e47b0950aa4a99… (all of the seat's roots in one cut). By AI agents, Wed Nov 11 2026. No macro, syntax, notation, axiom, sorry.
-/
import Derived.Test.YtkkhkojojnebjaaChecked
import GoSem.Claim
import GoSem.ClaimJoined
import GoSem.ClaimMapViews
import Derived.JoinedTies
import Derived.KernelRfl
namespace Go.Proofs.Ytkkhkojojnebjaa
/- THE CELL 'sum', in the pinned program and in every row, IS THE sha256 OF THE DUMP (.gsa) THAT YtkkhkojojnebjaaProg.lean LOADS. Nothing in Lean hashes anything: it is a label: what it is worth is what the hold of that sum in a sandbox is worth. -/
noncomputable def Try.pinned : Pinned := { name := "ytkkhkojojnebjaa", sum := "02e47b0950aa4a997224af7a3648b0dc0dac6f38d86e0ffad5d52ad22d5cd371", checked := Try.checked }
namespace Rows
def none {H : Type} : Left H := { results := [], args := [] }

/-- 'laws.FnExactHeadOk': WHATEVER THE INPUT: true; the input reads as it did. -/
def fnExactHeadOkSpec : ChangeSpec := { name := "fnExactHeadOk", fn := fun _ => fun
  | [d] => { results := [.lit (.bool true)], args := [d] }
  | _ => none }
def fnExactHeadOkRow : OpenClaim := { program := "ytkkhkojojnebjaa", sum := "02e47b0950aa4a997224af7a3648b0dc0dac6f38d86e0ffad5d52ad22d5cd371", func := "loop.example/g00391/laws.FnExactHeadOk", spec := "fnExactHeadOk", apart := false }
def FnExactHeadOkSaid : Prop := fnExactHeadOkRow.holds Try.pinned (OpenSpec.ofChange fnExactHeadOkSpec)

/-- ITS FALSE NEIGHBOUR: 'it returns false'. Refute it at one input. -/
def fnExactHeadOkWrong : ChangeSpec := { name := "fnExactHeadOk", fn := fun _ => fun
  | [d] => { results := [.lit (.bool false)], args := [d] }
  | _ => none }
def FnExactHeadOkWrongFalsely : Prop := fnExactHeadOkRow.holds Try.pinned (OpenSpec.ofChange fnExactHeadOkWrong)

/-- 'laws.FnExactHeadSet': WHATEVER THE INPUT: true; the input reads as it did. -/
def fnExactHeadSetSpec : ChangeSpec := { name := "fnExactHeadSet", fn := fun _ => fun
  | [d1, d2, d3] => { results := [.lit (.bool true)], args := [d1, d2, d3] }
  | _ => none }
def fnExactHeadSetRow : OpenClaim := { program := "ytkkhkojojnebjaa", sum := "02e47b0950aa4a997224af7a3648b0dc0dac6f38d86e0ffad5d52ad22d5cd371", func := "loop.example/g00391/laws.FnExactHeadSet", spec := "fnExactHeadSet", apart := false }
def FnExactHeadSetSaid : Prop := fnExactHeadSetRow.holds Try.pinned (OpenSpec.ofChange fnExactHeadSetSpec)

/-- ITS FALSE NEIGHBOUR: 'it returns false'. Refute it at one input. -/
def fnExactHeadSetWrong : ChangeSpec := { name := "fnExactHeadSet", fn := fun _ => fun
  | [d1, d2, d3] => { results := [.lit (.bool false)], args := [d1, d2, d3] }
  | _ => none }
def FnExactHeadSetWrongFalsely : Prop := fnExactHeadSetRow.holds Try.pinned (OpenSpec.ofChange fnExactHeadSetWrong)

/-- 'laws.FnExactSmallHead': WHATEVER THE INPUT: true; the input reads as it did. -/
def fnExactSmallHeadSpec : ChangeSpec := { name := "fnExactSmallHead", fn := fun _ => fun
  | [d1, d2, d3] => { results := [.lit (.bool true)], args := [d1, d2, d3] }
  | _ => none }
def fnExactSmallHeadRow : OpenClaim := { program := "ytkkhkojojnebjaa", sum := "02e47b0950aa4a997224af7a3648b0dc0dac6f38d86e0ffad5d52ad22d5cd371", func := "loop.example/g00391/laws.FnExactSmallHead", spec := "fnExactSmallHead", apart := false }
def FnExactSmallHeadSaid : Prop := fnExactSmallHeadRow.holds Try.pinned (OpenSpec.ofChange fnExactSmallHeadSpec)

/-- ITS FALSE NEIGHBOUR: 'it returns false'. Refute it at one input. -/
def fnExactSmallHeadWrong : ChangeSpec := { name := "fnExactSmallHead", fn := fun _ => fun
  | [d1, d2, d3] => { results := [.lit (.bool false)], args := [d1, d2, d3] }
  | _ => none }
def FnExactSmallHeadWrongFalsely : Prop := fnExactSmallHeadRow.holds Try.pinned (OpenSpec.ofChange fnExactSmallHeadWrong)

/-- 'laws.FnExactMatchOk': WHATEVER THE INPUT: true; the input reads as it did. -/
def fnExactMatchOkSpec : ChangeSpec := { name := "fnExactMatchOk", fn := fun _ => fun
  | [d] => { results := [.lit (.bool true)], args := [d] }
  | _ => none }
def fnExactMatchOkRow : OpenClaim := { program := "ytkkhkojojnebjaa", sum := "02e47b0950aa4a997224af7a3648b0dc0dac6f38d86e0ffad5d52ad22d5cd371", func := "loop.example/g00391/laws.FnExactMatchOk", spec := "fnExactMatchOk", apart := false }
def FnExactMatchOkSaid : Prop := fnExactMatchOkRow.holds Try.pinned (OpenSpec.ofChange fnExactMatchOkSpec)

/-- ITS FALSE NEIGHBOUR: 'it returns false'. Refute it at one input. -/
def fnExactMatchOkWrong : ChangeSpec := { name := "fnExactMatchOk", fn := fun _ => fun
  | [d] => { results := [.lit (.bool false)], args := [d] }
  | _ => none }
def FnExactMatchOkWrongFalsely : Prop := fnExactMatchOkRow.holds Try.pinned (OpenSpec.ofChange fnExactMatchOkWrong)

/-- 'laws.FnExactMatchAll': WHATEVER THE INPUT: true; the input reads as it did. -/
def fnExactMatchAllSpec : ChangeSpec := { name := "fnExactMatchAll", fn := fun _ => fun
  | [] => { results := [.lit (.bool true)], args := [] }
  | _ => none }
def fnExactMatchAllRow : OpenClaim := { program := "ytkkhkojojnebjaa", sum := "02e47b0950aa4a997224af7a3648b0dc0dac6f38d86e0ffad5d52ad22d5cd371", func := "loop.example/g00391/laws.FnExactMatchAll", spec := "fnExactMatchAll", apart := false }
def FnExactMatchAllSaid : Prop := fnExactMatchAllRow.holds Try.pinned (OpenSpec.ofChange fnExactMatchAllSpec)

/-- ITS FALSE NEIGHBOUR: 'it returns false'. Refute it at one input. -/
def fnExactMatchAllWrong : ChangeSpec := { name := "fnExactMatchAll", fn := fun _ => fun
  | [] => { results := [.lit (.bool false)], args := [] }
  | _ => none }
def FnExactMatchAllWrongFalsely : Prop := fnExactMatchAllRow.holds Try.pinned (OpenSpec.ofChange fnExactMatchAllWrong)

/-- 'laws.FnExactMatchOf': WHATEVER THE INPUT: true; the input reads as it did. -/
def fnExactMatchOfSpec : ChangeSpec := { name := "fnExactMatchOf", fn := fun _ => fun
  | [d] => { results := [.lit (.bool true)], args := [d] }
  | _ => none }
def fnExactMatchOfRow : OpenClaim := { program := "ytkkhkojojnebjaa", sum := "02e47b0950aa4a997224af7a3648b0dc0dac6f38d86e0ffad5d52ad22d5cd371", func := "loop.example/g00391/laws.FnExactMatchOf", spec := "fnExactMatchOf", apart := false }
def FnExactMatchOfSaid : Prop := fnExactMatchOfRow.holds Try.pinned (OpenSpec.ofChange fnExactMatchOfSpec)

/-- ITS FALSE NEIGHBOUR: 'it returns false'. Refute it at one input. -/
def fnExactMatchOfWrong : ChangeSpec := { name := "fnExactMatchOf", fn := fun _ => fun
  | [d] => { results := [.lit (.bool false)], args := [d] }
  | _ => none }
def FnExactMatchOfWrongFalsely : Prop := fnExactMatchOfRow.holds Try.pinned (OpenSpec.ofChange fnExactMatchOfWrong)

/-- 'laws.FnExactMatchBits': WHATEVER THE INPUT: true; the input reads as it did. -/
def fnExactMatchBitsSpec : ChangeSpec := { name := "fnExactMatchBits", fn := fun _ => fun
  | [d1, d2, d3] => { results := [.lit (.bool true)], args := [d1, d2, d3] }
  | _ => none }
def fnExactMatchBitsRow : OpenClaim := { program := "ytkkhkojojnebjaa", sum := "02e47b0950aa4a997224af7a3648b0dc0dac6f38d86e0ffad5d52ad22d5cd371", func := "loop.example/g00391/laws.FnExactMatchBits", spec := "fnExactMatchBits", apart := false }
def FnExactMatchBitsSaid : Prop := fnExactMatchBitsRow.holds Try.pinned (OpenSpec.ofChange fnExactMatchBitsSpec)

/-- ITS FALSE NEIGHBOUR: 'it returns false'. Refute it at one input. -/
def fnExactMatchBitsWrong : ChangeSpec := { name := "fnExactMatchBits", fn := fun _ => fun
  | [d1, d2, d3] => { results := [.lit (.bool false)], args := [d1, d2, d3] }
  | _ => none }
def FnExactMatchBitsWrongFalsely : Prop := fnExactMatchBitsRow.holds Try.pinned (OpenSpec.ofChange fnExactMatchBitsWrong)

/-- 'laws.FnExactHits': WHATEVER THE INPUT: true; the input reads as it did. -/
def fnExactHitsSpec : ChangeSpec := { name := "fnExactHits", fn := fun _ => fun
  | [d1, d2] => { results := [.lit (.bool true)], args := [d1, d2] }
  | _ => none }
def fnExactHitsRow : OpenClaim := { program := "ytkkhkojojnebjaa", sum := "02e47b0950aa4a997224af7a3648b0dc0dac6f38d86e0ffad5d52ad22d5cd371", func := "loop.example/g00391/laws.FnExactHits", spec := "fnExactHits", apart := false }
def FnExactHitsSaid : Prop := fnExactHitsRow.holds Try.pinned (OpenSpec.ofChange fnExactHitsSpec)

/-- ITS FALSE NEIGHBOUR: 'it returns false'. Refute it at one input. -/
def fnExactHitsWrong : ChangeSpec := { name := "fnExactHits", fn := fun _ => fun
  | [d1, d2] => { results := [.lit (.bool false)], args := [d1, d2] }
  | _ => none }
def FnExactHitsWrongFalsely : Prop := fnExactHitsRow.holds Try.pinned (OpenSpec.ofChange fnExactHitsWrong)

/-- 'laws.FnExactCovers': WHATEVER THE INPUT: true; the input reads as it did. -/
def fnExactCoversSpec : ChangeSpec := { name := "fnExactCovers", fn := fun _ => fun
  | [d1, d2] => { results := [.lit (.bool true)], args := [d1, d2] }
  | _ => none }
def fnExactCoversRow : OpenClaim := { program := "ytkkhkojojnebjaa", sum := "02e47b0950aa4a997224af7a3648b0dc0dac6f38d86e0ffad5d52ad22d5cd371", func := "loop.example/g00391/laws.FnExactCovers", spec := "fnExactCovers", apart := false }
def FnExactCoversSaid : Prop := fnExactCoversRow.holds Try.pinned (OpenSpec.ofChange fnExactCoversSpec)

/-- ITS FALSE NEIGHBOUR: 'it returns false'. Refute it at one input. -/
def fnExactCoversWrong : ChangeSpec := { name := "fnExactCovers", fn := fun _ => fun
  | [d1, d2] => { results := [.lit (.bool false)], args := [d1, d2] }
  | _ => none }
def FnExactCoversWrongFalsely : Prop := fnExactCoversRow.holds Try.pinned (OpenSpec.ofChange fnExactCoversWrong)

/-- 'laws.FnExactMeets': WHATEVER THE INPUT: true; the input reads as it did. -/
def fnExactMeetsSpec : ChangeSpec := { name := "fnExactMeets", fn := fun _ => fun
  | [d1, d2] => { results := [.lit (.bool true)], args := [d1, d2] }
  | _ => none }
def fnExactMeetsRow : OpenClaim := { program := "ytkkhkojojnebjaa", sum := "02e47b0950aa4a997224af7a3648b0dc0dac6f38d86e0ffad5d52ad22d5cd371", func := "loop.example/g00391/laws.FnExactMeets", spec := "fnExactMeets", apart := false }
def FnExactMeetsSaid : Prop := fnExactMeetsRow.holds Try.pinned (OpenSpec.ofChange fnExactMeetsSpec)

/-- ITS FALSE NEIGHBOUR: 'it returns false'. Refute it at one input. -/
def fnExactMeetsWrong : ChangeSpec := { name := "fnExactMeets", fn := fun _ => fun
  | [d1, d2] => { results := [.lit (.bool false)], args := [d1, d2] }
  | _ => none }
def FnExactMeetsWrongFalsely : Prop := fnExactMeetsRow.holds Try.pinned (OpenSpec.ofChange fnExactMeetsWrong)

/-- 'laws.FnExactMeetOf': WHATEVER THE INPUT: true; the input reads as it did. -/
def fnExactMeetOfSpec : ChangeSpec := { name := "fnExactMeetOf", fn := fun _ => fun
  | [d1, d2] => { results := [.lit (.bool true)], args := [d1, d2] }
  | _ => none }
def fnExactMeetOfRow : OpenClaim := { program := "ytkkhkojojnebjaa", sum := "02e47b0950aa4a997224af7a3648b0dc0dac6f38d86e0ffad5d52ad22d5cd371", func := "loop.example/g00391/laws.FnExactMeetOf", spec := "fnExactMeetOf", apart := false }
def FnExactMeetOfSaid : Prop := fnExactMeetOfRow.holds Try.pinned (OpenSpec.ofChange fnExactMeetOfSpec)

/-- ITS FALSE NEIGHBOUR: 'it returns false'. Refute it at one input. -/
def fnExactMeetOfWrong : ChangeSpec := { name := "fnExactMeetOf", fn := fun _ => fun
  | [d1, d2] => { results := [.lit (.bool false)], args := [d1, d2] }
  | _ => none }
def FnExactMeetOfWrongFalsely : Prop := fnExactMeetOfRow.holds Try.pinned (OpenSpec.ofChange fnExactMeetOfWrong)

/-- 'laws.FnExactAsked': WHATEVER THE INPUT: true; the input reads as it did. -/
def fnExactAskedSpec : ChangeSpec := { name := "fnExactAsked", fn := fun _ => fun
  | [d] => { results := [.lit (.bool true)], args := [d] }
  | _ => none }
def fnExactAskedRow : OpenClaim := { program := "ytkkhkojojnebjaa", sum := "02e47b0950aa4a997224af7a3648b0dc0dac6f38d86e0ffad5d52ad22d5cd371", func := "loop.example/g00391/laws.FnExactAsked", spec := "fnExactAsked", apart := false }
def FnExactAskedSaid : Prop := fnExactAskedRow.holds Try.pinned (OpenSpec.ofChange fnExactAskedSpec)

/-- ITS FALSE NEIGHBOUR: 'it returns false'. Refute it at one input. -/
def fnExactAskedWrong : ChangeSpec := { name := "fnExactAsked", fn := fun _ => fun
  | [d] => { results := [.lit (.bool false)], args := [d] }
  | _ => none }
def FnExactAskedWrongFalsely : Prop := fnExactAskedRow.holds Try.pinned (OpenSpec.ofChange fnExactAskedWrong)

/-- 'laws.FnExactSameMatch': WHATEVER THE INPUT: true; the input reads as it did. -/
def fnExactSameMatchSpec : ChangeSpec := { name := "fnExactSameMatch", fn := fun _ => fun
  | [d1, d2] => { results := [.lit (.bool true)], args := [d1, d2] }
  | _ => none }
def fnExactSameMatchRow : OpenClaim := { program := "ytkkhkojojnebjaa", sum := "02e47b0950aa4a997224af7a3648b0dc0dac6f38d86e0ffad5d52ad22d5cd371", func := "loop.example/g00391/laws.FnExactSameMatch", spec := "fnExactSameMatch", apart := false }
def FnExactSameMatchSaid : Prop := fnExactSameMatchRow.holds Try.pinned (OpenSpec.ofChange fnExactSameMatchSpec)

/-- ITS FALSE NEIGHBOUR: 'it returns false'. Refute it at one input. -/
def fnExactSameMatchWrong : ChangeSpec := { name := "fnExactSameMatch", fn := fun _ => fun
  | [d1, d2] => { results := [.lit (.bool false)], args := [d1, d2] }
  | _ => none }
def FnExactSameMatchWrongFalsely : Prop := fnExactSameMatchRow.holds Try.pinned (OpenSpec.ofChange fnExactSameMatchWrong)

/-- 'laws.FnBits': WHATEVER THE INPUT: true; the input reads as it did. -/
def fnBitsSpec : ChangeSpec := { name := "fnBits", fn := fun _ => fun
  | [d] => { results := [.lit (.bool true)], args := [d] }
  | _ => none }
def fnBitsRow : OpenClaim := { program := "ytkkhkojojnebjaa", sum := "02e47b0950aa4a997224af7a3648b0dc0dac6f38d86e0ffad5d52ad22d5cd371", func := "loop.example/g00391/laws.FnBits", spec := "fnBits", apart := false }
def FnBitsSaid : Prop := fnBitsRow.holds Try.pinned (OpenSpec.ofChange fnBitsSpec)

/-- ITS FALSE NEIGHBOUR: 'it returns false'. Refute it at one input. -/
def fnBitsWrong : ChangeSpec := { name := "fnBits", fn := fun _ => fun
  | [d] => { results := [.lit (.bool false)], args := [d] }
  | _ => none }
def FnBitsWrongFalsely : Prop := fnBitsRow.holds Try.pinned (OpenSpec.ofChange fnBitsWrong)

/-- 'laws.FnCovers': WHATEVER THE INPUT: true; the input reads as it did. -/
def fnCoversSpec : ChangeSpec := { name := "fnCovers", fn := fun _ => fun
  | [d] => { results := [.lit (.bool true)], args := [d] }
  | _ => none }
def fnCoversRow : OpenClaim := { program := "ytkkhkojojnebjaa", sum := "02e47b0950aa4a997224af7a3648b0dc0dac6f38d86e0ffad5d52ad22d5cd371", func := "loop.example/g00391/laws.FnCovers", spec := "fnCovers", apart := false }
def FnCoversSaid : Prop := fnCoversRow.holds Try.pinned (OpenSpec.ofChange fnCoversSpec)

/-- ITS FALSE NEIGHBOUR: 'it returns false'. Refute it at one input. -/
def fnCoversWrong : ChangeSpec := { name := "fnCovers", fn := fun _ => fun
  | [d] => { results := [.lit (.bool false)], args := [d] }
  | _ => none }
def FnCoversWrongFalsely : Prop := fnCoversRow.holds Try.pinned (OpenSpec.ofChange fnCoversWrong)

/- THE SECOND FORM. 'bulk': how many values and letters a reading holds, each counted each time it is reached (what is shared counts as often as it is met; a slice's spare places count too). A statement '..UptoSaid' is the law's where the arguments, and the package variables that the reading takes, are together of bulk at most 1048576: NARROWER than '..Said'. Prove '..Said' where nothing that the law and all that it calls make is longer than what came in: it says more and counts as full. Else prove '..UptoSaid'. A law counts once. -/
mutual
def uptoBulk {H : Type} : DataW H → Nat
  | .lit (.string bytes) => bytes.length + 1
  | .lit _ => 1
  | .nil => 1
  | .ptr d => uptoBulk d + 1
  | .slice elems spare => uptoBulkAll elems + uptoBulkAll spare + 1
  | .agg parts => uptoBulkAll parts + 1
  | .iface _ d => uptoBulk d + 1
  | .map entries => uptoBulkEntries entries + 1
  | .held _ => 1
def uptoBulkAll {H : Type} : List (DataW H) → Nat
  | [] => 0
  | d :: r => uptoBulk d + uptoBulkAll r
def uptoBulkEntries {H : Type} : List (Lit × DataW H) → Nat
  | [] => 0
  | x :: r => uptoBulkEntry x + uptoBulkEntries r
def uptoBulkEntry {H : Type} : Lit × DataW H → Nat
  | (.string bytes, d) => bytes.length + uptoBulk d + 1
  | (_, d) => uptoBulk d + 1
 end
def uptoSmall : (H : Type) → List (DataW H) → Bool := fun _ ds => decide (uptoBulkAll ds ≤ 1048576)
def OpenSpec.upto (s : _root_.Go.ChangeSpec) : _root_.Go.OpenSpec := { _root_.Go.OpenSpec.ofChange s with cond := some uptoSmall }

/-- 'laws.FnExactHeadOk', WHERE WHAT IT READS IS OF BULK AT MOST 1048576: true; the input reads as it did. -/
def fnExactHeadOkUptoRow : OpenClaim := { program := "ytkkhkojojnebjaa", sum := "02e47b0950aa4a997224af7a3648b0dc0dac6f38d86e0ffad5d52ad22d5cd371", func := "loop.example/g00391/laws.FnExactHeadOk", spec := "fnExactHeadOk", apart := false, narrowed := true }
def FnExactHeadOkUptoSaid : Prop := fnExactHeadOkUptoRow.holds Try.pinned (OpenSpec.upto fnExactHeadOkSpec)

/-- 'laws.FnExactHeadSet', WHERE WHAT IT READS IS OF BULK AT MOST 1048576: true; the input reads as it did. -/
def fnExactHeadSetUptoRow : OpenClaim := { program := "ytkkhkojojnebjaa", sum := "02e47b0950aa4a997224af7a3648b0dc0dac6f38d86e0ffad5d52ad22d5cd371", func := "loop.example/g00391/laws.FnExactHeadSet", spec := "fnExactHeadSet", apart := false, narrowed := true }
def FnExactHeadSetUptoSaid : Prop := fnExactHeadSetUptoRow.holds Try.pinned (OpenSpec.upto fnExactHeadSetSpec)

/-- 'laws.FnExactSmallHead', WHERE WHAT IT READS IS OF BULK AT MOST 1048576: true; the input reads as it did. -/
def fnExactSmallHeadUptoRow : OpenClaim := { program := "ytkkhkojojnebjaa", sum := "02e47b0950aa4a997224af7a3648b0dc0dac6f38d86e0ffad5d52ad22d5cd371", func := "loop.example/g00391/laws.FnExactSmallHead", spec := "fnExactSmallHead", apart := false, narrowed := true }
def FnExactSmallHeadUptoSaid : Prop := fnExactSmallHeadUptoRow.holds Try.pinned (OpenSpec.upto fnExactSmallHeadSpec)

/-- 'laws.FnExactMatchOk', WHERE WHAT IT READS IS OF BULK AT MOST 1048576: true; the input reads as it did. -/
def fnExactMatchOkUptoRow : OpenClaim := { program := "ytkkhkojojnebjaa", sum := "02e47b0950aa4a997224af7a3648b0dc0dac6f38d86e0ffad5d52ad22d5cd371", func := "loop.example/g00391/laws.FnExactMatchOk", spec := "fnExactMatchOk", apart := false, narrowed := true }
def FnExactMatchOkUptoSaid : Prop := fnExactMatchOkUptoRow.holds Try.pinned (OpenSpec.upto fnExactMatchOkSpec)

/-- 'laws.FnExactMatchAll', WHERE WHAT IT READS IS OF BULK AT MOST 1048576: true; the input reads as it did. -/
def fnExactMatchAllUptoRow : OpenClaim := { program := "ytkkhkojojnebjaa", sum := "02e47b0950aa4a997224af7a3648b0dc0dac6f38d86e0ffad5d52ad22d5cd371", func := "loop.example/g00391/laws.FnExactMatchAll", spec := "fnExactMatchAll", apart := false, narrowed := true }
def FnExactMatchAllUptoSaid : Prop := fnExactMatchAllUptoRow.holds Try.pinned (OpenSpec.upto fnExactMatchAllSpec)

/-- 'laws.FnExactMatchOf', WHERE WHAT IT READS IS OF BULK AT MOST 1048576: true; the input reads as it did. -/
def fnExactMatchOfUptoRow : OpenClaim := { program := "ytkkhkojojnebjaa", sum := "02e47b0950aa4a997224af7a3648b0dc0dac6f38d86e0ffad5d52ad22d5cd371", func := "loop.example/g00391/laws.FnExactMatchOf", spec := "fnExactMatchOf", apart := false, narrowed := true }
def FnExactMatchOfUptoSaid : Prop := fnExactMatchOfUptoRow.holds Try.pinned (OpenSpec.upto fnExactMatchOfSpec)

/-- 'laws.FnExactMatchBits', WHERE WHAT IT READS IS OF BULK AT MOST 1048576: true; the input reads as it did. -/
def fnExactMatchBitsUptoRow : OpenClaim := { program := "ytkkhkojojnebjaa", sum := "02e47b0950aa4a997224af7a3648b0dc0dac6f38d86e0ffad5d52ad22d5cd371", func := "loop.example/g00391/laws.FnExactMatchBits", spec := "fnExactMatchBits", apart := false, narrowed := true }
def FnExactMatchBitsUptoSaid : Prop := fnExactMatchBitsUptoRow.holds Try.pinned (OpenSpec.upto fnExactMatchBitsSpec)

/-- 'laws.FnExactHits', WHERE WHAT IT READS IS OF BULK AT MOST 1048576: true; the input reads as it did. -/
def fnExactHitsUptoRow : OpenClaim := { program := "ytkkhkojojnebjaa", sum := "02e47b0950aa4a997224af7a3648b0dc0dac6f38d86e0ffad5d52ad22d5cd371", func := "loop.example/g00391/laws.FnExactHits", spec := "fnExactHits", apart := false, narrowed := true }
def FnExactHitsUptoSaid : Prop := fnExactHitsUptoRow.holds Try.pinned (OpenSpec.upto fnExactHitsSpec)

/-- 'laws.FnExactCovers', WHERE WHAT IT READS IS OF BULK AT MOST 1048576: true; the input reads as it did. -/
def fnExactCoversUptoRow : OpenClaim := { program := "ytkkhkojojnebjaa", sum := "02e47b0950aa4a997224af7a3648b0dc0dac6f38d86e0ffad5d52ad22d5cd371", func := "loop.example/g00391/laws.FnExactCovers", spec := "fnExactCovers", apart := false, narrowed := true }
def FnExactCoversUptoSaid : Prop := fnExactCoversUptoRow.holds Try.pinned (OpenSpec.upto fnExactCoversSpec)

/-- 'laws.FnExactMeets', WHERE WHAT IT READS IS OF BULK AT MOST 1048576: true; the input reads as it did. -/
def fnExactMeetsUptoRow : OpenClaim := { program := "ytkkhkojojnebjaa", sum := "02e47b0950aa4a997224af7a3648b0dc0dac6f38d86e0ffad5d52ad22d5cd371", func := "loop.example/g00391/laws.FnExactMeets", spec := "fnExactMeets", apart := false, narrowed := true }
def FnExactMeetsUptoSaid : Prop := fnExactMeetsUptoRow.holds Try.pinned (OpenSpec.upto fnExactMeetsSpec)

/-- 'laws.FnExactMeetOf', WHERE WHAT IT READS IS OF BULK AT MOST 1048576: true; the input reads as it did. -/
def fnExactMeetOfUptoRow : OpenClaim := { program := "ytkkhkojojnebjaa", sum := "02e47b0950aa4a997224af7a3648b0dc0dac6f38d86e0ffad5d52ad22d5cd371", func := "loop.example/g00391/laws.FnExactMeetOf", spec := "fnExactMeetOf", apart := false, narrowed := true }
def FnExactMeetOfUptoSaid : Prop := fnExactMeetOfUptoRow.holds Try.pinned (OpenSpec.upto fnExactMeetOfSpec)

/-- 'laws.FnExactAsked', WHERE WHAT IT READS IS OF BULK AT MOST 1048576: true; the input reads as it did. -/
def fnExactAskedUptoRow : OpenClaim := { program := "ytkkhkojojnebjaa", sum := "02e47b0950aa4a997224af7a3648b0dc0dac6f38d86e0ffad5d52ad22d5cd371", func := "loop.example/g00391/laws.FnExactAsked", spec := "fnExactAsked", apart := false, narrowed := true }
def FnExactAskedUptoSaid : Prop := fnExactAskedUptoRow.holds Try.pinned (OpenSpec.upto fnExactAskedSpec)

/-- 'laws.FnExactSameMatch', WHERE WHAT IT READS IS OF BULK AT MOST 1048576: true; the input reads as it did. -/
def fnExactSameMatchUptoRow : OpenClaim := { program := "ytkkhkojojnebjaa", sum := "02e47b0950aa4a997224af7a3648b0dc0dac6f38d86e0ffad5d52ad22d5cd371", func := "loop.example/g00391/laws.FnExactSameMatch", spec := "fnExactSameMatch", apart := false, narrowed := true }
def FnExactSameMatchUptoSaid : Prop := fnExactSameMatchUptoRow.holds Try.pinned (OpenSpec.upto fnExactSameMatchSpec)

/-- 'laws.FnBits', WHERE WHAT IT READS IS OF BULK AT MOST 1048576: true; the input reads as it did. -/
def fnBitsUptoRow : OpenClaim := { program := "ytkkhkojojnebjaa", sum := "02e47b0950aa4a997224af7a3648b0dc0dac6f38d86e0ffad5d52ad22d5cd371", func := "loop.example/g00391/laws.FnBits", spec := "fnBits", apart := false, narrowed := true }
def FnBitsUptoSaid : Prop := fnBitsUptoRow.holds Try.pinned (OpenSpec.upto fnBitsSpec)

/-- 'laws.FnCovers', WHERE WHAT IT READS IS OF BULK AT MOST 1048576: true; the input reads as it did. -/
def fnCoversUptoRow : OpenClaim := { program := "ytkkhkojojnebjaa", sum := "02e47b0950aa4a997224af7a3648b0dc0dac6f38d86e0ffad5d52ad22d5cd371", func := "loop.example/g00391/laws.FnCovers", spec := "fnCovers", apart := false, narrowed := true }
def FnCoversUptoSaid : Prop := fnCoversUptoRow.holds Try.pinned (OpenSpec.upto fnCoversSpec)

end Rows
end Go.Proofs.Ytkkhkojojnebjaa
