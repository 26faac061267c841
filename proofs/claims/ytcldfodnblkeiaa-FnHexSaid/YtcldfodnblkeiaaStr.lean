/- Contracts: words and numbers in text. -/
import Derived.Test.YtcldfodnblkeiaaNum
import Derived.Test.YtcldfodnblkeiaaTy
import Derived.WalkKit
import Derived.ProofKit
import Derived.Deep.QuietTactic
import Derived.BigQuiet
import Derived.Outline
import Derived.WalkSpells
namespace Go.Proofs.Ytcldfodnblkeiaa
open Go.ChangeShapes Go.WideShapes Go.ChangeAt Go.RowKit
set_option linter.unusedVariables false
set_option linter.unusedSimpArgs false

def chr (s : ByteArray) (i : Nat) : Int := if h : i < s.size then (s[i].toNat : Int) else 0
theorem chr_at (s : ByteArray) (i : Nat) (h : i < s.size) : chr s i = (s[i].toNat : Int) := by simp [chr, h]
def WordP (s : ByteArray) : Prop := 1 ≤ s.size ∧ s.size ≤ 12 ∧ ∀ i, i < s.size → (97 ≤ chr s i ∧ chr s i ≤ 122) ∨ ((48 ≤ chr s i ∧ chr s i ≤ 57) ∧ i ≠ 0)
open Classical in
noncomputable def wordB (s : ByteArray) : Bool := decide (WordP s)
theorem wordB_true {s : ByteArray} (h : WordP s) : wordB s = true := by simp [wordB, h]
theorem wordB_false {s : ByteArray} (h : ¬ WordP s) : wordB s = false := by simp [wordB, h]
--%
end Go.Proofs.Ytcldfodnblkeiaa
