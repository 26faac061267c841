/- Struct arguments opened. -/
import Derived.Test.YtgigdpdmdldhnaaFrame
import Derived.Test.YtgigdpdmdldhnaaPkt
import Derived.WalkKit
import Derived.ProofKit
import Derived.OpenShut
import Derived.ChangeOld
import Derived.Below
import Derived.SizedLaws
import Derived.Deep.Fields
namespace Go.Proofs.Ytgigdpdmdldhnaa
open Go.ChangeShapes Go.WideShapes Go.ChangeAt Go.RowKit
set_option linter.unusedVariables false
/-- The world of a call, named by the call itself. -/
theorem at_call {w W : World} {P : Program} {f : Nat} {vs : Array Value} {Q : Ending → World → Prop} (hG : Grow w W) (k : Grow w W → Calls P f vs W Q) : Calls P f vs W Q := k hG
--% open Head 37
set_option maxRecDepth 100000 in
theorem open_Head {H : Type} {enc : TypeId × Value → H} {w : World} {r : Reach} {base b0 : Nat} {v : Value} {d : DataW H} {ps : List MemPlace}
    (hv : Value.okWide Try.prog w r b0 37 v) (h : DataW.Trod enc Try.prog w base (fun _ => true) true 37 v d ps) : ∃ x : DatH, RdH w v x ∧ WfH x := by
  obtain ⟨cs, rfl, hl, hf⟩ := open_fields Try.underlying37 (by kernel_rfl) (by kernel_rfl) hv h
  match cs, hl with
  | [c0], _ =>
    obtain ⟨_, y0, m0, e0, t0⟩ := hf 0 _ rfl
    obtain rfl := by simpa using e0
    obtain ⟨a0, r0, w0⟩ := open_IntsF Try.underlying22 Try.underlying3 (by kernel_rfl) t0
    exact ⟨⟨a0⟩, ⟨_, rfl, r0⟩, w0⟩
--% open Match 61
set_option maxRecDepth 100000 in
theorem open_Match {H : Type} {enc : TypeId × Value → H} {w : World} {r : Reach} {base b0 : Nat} {v : Value} {d : DataW H} {ps : List MemPlace}
    (hv : Value.okWide Try.prog w r b0 61 v) (h : DataW.Trod enc Try.prog w base (fun _ => true) true 61 v d ps) : ∃ x : DatM, RdM w v x ∧ WfM x := by
  obtain ⟨cs, rfl, hl, hf⟩ := open_fields Try.underlying61 (by kernel_rfl) (by kernel_rfl) hv h
  match cs, hl with
  | [c0, c1], _ =>
    obtain ⟨_, y0, m0, e0, t0⟩ := hf 0 _ rfl
    obtain rfl := by simpa using e0
    obtain ⟨a0, r0, w0⟩ := open_IntsF Try.underlying22 Try.underlying3 (by kernel_rfl) t0
    obtain ⟨_, y1, m1, e1, t1⟩ := hf 1 _ rfl
    obtain rfl := by simpa using e1
    obtain ⟨a1, r1, w1⟩ := open_IntsF Try.underlying22 Try.underlying3 (by kernel_rfl) t1
    exact ⟨⟨a0, a1⟩, ⟨_, _, rfl, r0, r1⟩, ⟨w0, w1⟩⟩
--%
end Go.Proofs.Ytgigdpdmdldhnaa
