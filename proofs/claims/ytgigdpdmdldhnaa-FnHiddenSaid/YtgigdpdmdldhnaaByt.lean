/- Contracts of the laws' helpers on byte slices, and of the byte functions. -/
import Derived.Test.YtgigdpdmdldhnaaNum
import Derived.Test.YtgigdpdmdldhnaaReg
import Derived.WalkKit
import Derived.ProofKit
import Derived.Deep.QuietTactic
import Derived.BigQuiet
import Derived.Outline
import Derived.WalkSpells
namespace Go.Proofs.Ytgigdpdmdldhnaa
open Go.ChangeShapes Go.WideShapes Go.ChangeAt Go.RowKit
set_option linter.unusedVariables false
set_option linter.unusedSimpArgs false

theorem take_succ_eq {α : Type} {xs ys : List α} {k : Nat} (h1 : k < xs.length) (h2 : k < ys.length) (ht : xs.take k = ys.take k) (he : xs[k] = ys[k]) : xs.take (k + 1) = ys.take (k + 1) := by
  rw [List.take_succ_eq_append_getElem h1, List.take_succ_eq_append_getElem h2, ht, he]
theorem ne_of_at {α : Type} {xs ys : List α} {k : Nat} (h1 : k < xs.length) (h2 : k < ys.length) (he : xs[k] ≠ ys[k]) : xs ≠ ys := fun h => he (by subst h; rfl)
theorem ex_drewN (w : World) (n m : Nat) : ∃ k, (w.drewN n).drewN m = w.drewN k := ⟨_, World.drewN_drewN ..⟩
def QuietBool (b : Bool) (w : World) (e : Ending) (w' : World) : Prop := e = .returned (.bool b) ∧ ∃ n, w' = w.drewN n
def QuietInt (b : Int) (w : World) (e : Ending) (w' : World) : Prop := e = .returned (.int .i64 b) ∧ ∃ n, w' = w.drewN n

--% halfway
/-- k elements copied, the rest still zero. -/
def halfway (k : IntKind) (zs : List Int) (j : Nat) : List Value := (zs.take j).map (Value.int k) ++ List.replicate (zs.length - j) (.int k 0)
theorem halfway_length (k : IntKind) (zs : List Int) (j : Nat) (h : j ≤ zs.length) : (halfway k zs j).length = zs.length := by simp [halfway]; omega
theorem halfway_zero (k : IntKind) (zs : List Int) : halfway k zs 0 = List.replicate zs.length (.int k 0) := by simp [halfway]
theorem halfway_end (k : IntKind) (zs : List Int) : halfway k zs zs.length = zs.map (Value.int k) := by simp [halfway]
theorem halfway_set (k : IntKind) (zs : List Int) (j : Nat) (h : j < zs.length) : (halfway k zs j).set j (.int k zs[j]) = halfway k zs (j + 1) := by
  unfold halfway
  have e : ((zs.take j).map (Value.int k)).length = j := by simp; omega
  have e2 : zs.length - j = (zs.length - (j + 1)) + 1 := by omega
  have e3 : (zs.take (j + 1)).map (Value.int k) = (zs.take j).map (Value.int k) ++ [Value.int k zs[j]] := by rw [List.take_succ_eq_append_getElem h, List.map_append]; rfl
  rw [List.set_append_right _ _ (by omega), e, Nat.sub_self, e2, List.replicate_succ, List.set_cons_zero, e3, List.append_assoc]
  rfl
theorem halfway_at (k : IntKind) (zs : List Int) (j : Nat) (h : j < zs.length) : (halfway k zs j)[j]? = some (.int k 0) := by
  unfold halfway
  have e : ((zs.take j).map (Value.int k)).length = j := by simp; omega
  rw [List.getElem?_append_right (by omega), e, Nat.sub_self, show zs.length - j = (zs.length - (j + 1)) + 1 from by omega, List.replicate_succ]
  rfl
--% infoU8
theorem Try.infoU8 : (Try.prog.info? 5).map (fun i => (i.zero, i.size, i.bytes)) = some (some (.int .u8 0), 1, 1) := by kernel_rfl
--% Marks
/-- What a mark leaves. -/
def Marks (n : Int) (P : World → Prop) (e : Ending) (w' : World) : Prop := e = .returned (.int .i64 n) ∧ P w'
--%
end Go.Proofs.Ytgigdpdmdldhnaa
