/- Struct arguments opened. -/
import Derived.Test.YtcldfodnblkeiaaFrame
import Derived.Test.YtcldfodnblkeiaaPkt
import Derived.WalkKit
import Derived.ProofKit
import Derived.OpenShut
import Derived.ChangeOld
import Derived.Below
import Derived.SizedLaws
import Derived.Deep.Fields
namespace Go.Proofs.Ytcldfodnblkeiaa
open Go.ChangeShapes Go.WideShapes Go.ChangeAt Go.RowKit
set_option linter.unusedVariables false
/-- The world of a call, named by the call itself. -/
theorem at_call {w W : World} {P : Program} {f : Nat} {vs : Array Value} {Q : Ending → World → Prop} (hG : Grow w W) (k : Grow w W → Calls P f vs W Q) : Calls P f vs W Q := k hG
--% open Packet 24
set_option maxRecDepth 100000 in
theorem open_Packet {H : Type} {enc : TypeId × Value → H} {w : World} {r : Reach} {base b0 : Nat} {v : Value} {d : DataW H} {ps : List MemPlace}
    (hv : Value.okWide Try.prog w r b0 24 v) (h : DataW.Trod enc Try.prog w base (fun _ => true) true 24 v d ps) : ∃ x : DatP, RdP w v x ∧ WfP x := by
  obtain ⟨cs, rfl, hl, hf⟩ := open_fields Try.underlying24 (by kernel_rfl) (by kernel_rfl) hv h
  match cs, hl with
  | [c0, c1, c2, c3, c4], _ =>
    obtain ⟨_, y0, m0, e0, t0⟩ := hf 0 _ rfl
    obtain rfl := by simpa using e0
    obtain ⟨a0, rfl, w0⟩ := open_intF Try.underlying3 t0
    obtain ⟨_, y1, m1, e1, t1⟩ := hf 1 _ rfl
    obtain rfl := by simpa using e1
    obtain ⟨a1, rfl, w1⟩ := open_intF Try.underlying3 t1
    obtain ⟨_, y2, m2, e2, t2⟩ := hf 2 _ rfl
    obtain rfl := by simpa using e2
    obtain ⟨a2, rfl, w2⟩ := open_intF Try.underlying3 t2
    obtain ⟨_, y3, m3, e3, t3⟩ := hf 3 _ rfl
    obtain rfl := by simpa using e3
    obtain ⟨a3, rfl, w3⟩ := open_intF Try.underlying3 t3
    obtain ⟨_, y4, m4, e4, t4⟩ := hf 4 _ rfl
    obtain rfl := by simpa using e4
    obtain ⟨a4, r4, w4⟩ := open_BytesF Try.underlying22 Try.underlying5 (by kernel_rfl) t4
    exact ⟨⟨a0, a1, a2, a3, a4⟩, ⟨_, rfl, r4⟩, ⟨w0, w1, w2, w3, w4⟩⟩
--% open Ip 44
set_option maxRecDepth 100000 in
theorem open_Ip {H : Type} {enc : TypeId × Value → H} {w : World} {r : Reach} {base b0 : Nat} {v : Value} {d : DataW H} {ps : List MemPlace}
    (hv : Value.okWide Try.prog w r b0 44 v) (h : DataW.Trod enc Try.prog w base (fun _ => true) true 44 v d ps) : ∃ x : DatIp, RdIp w v x ∧ WfIp x := by
  obtain ⟨cs, rfl, hl, hf⟩ := open_fields Try.underlying44 (by kernel_rfl) (by kernel_rfl) hv h
  match cs, hl with
  | [c0, c1, c2, c3, c4], _ =>
    obtain ⟨_, y0, m0, e0, t0⟩ := hf 0 _ rfl
    obtain rfl := by simpa using e0
    obtain ⟨a0, rfl, w0⟩ := open_intF Try.underlying3 t0
    obtain ⟨_, y1, m1, e1, t1⟩ := hf 1 _ rfl
    obtain rfl := by simpa using e1
    obtain ⟨a1, rfl, w1⟩ := open_intF Try.underlying3 t1
    obtain ⟨_, y2, m2, e2, t2⟩ := hf 2 _ rfl
    obtain rfl := by simpa using e2
    obtain ⟨a2, rfl, w2⟩ := open_intF Try.underlying3 t2
    obtain ⟨_, y3, m3, e3, t3⟩ := hf 3 _ rfl
    obtain rfl := by simpa using e3
    obtain ⟨a3, rfl, w3⟩ := open_intF Try.underlying3 t3
    obtain ⟨_, y4, m4, e4, t4⟩ := hf 4 _ rfl
    obtain rfl := by simpa using e4
    obtain ⟨a4, r4, w4⟩ := open_BytesF Try.underlying22 Try.underlying5 (by kernel_rfl) t4
    exact ⟨⟨a0, a1, a2, a3, a4⟩, ⟨_, rfl, r4⟩, ⟨w0, w1, w2, w3, w4⟩⟩
--% open Udp 58
set_option maxRecDepth 100000 in
theorem open_Udp {H : Type} {enc : TypeId × Value → H} {w : World} {r : Reach} {base b0 : Nat} {v : Value} {d : DataW H} {ps : List MemPlace}
    (hv : Value.okWide Try.prog w r b0 58 v) (h : DataW.Trod enc Try.prog w base (fun _ => true) true 58 v d ps) : ∃ x : DatU, RdU w v x ∧ WfU x := by
  obtain ⟨cs, rfl, hl, hf⟩ := open_fields Try.underlying58 (by kernel_rfl) (by kernel_rfl) hv h
  match cs, hl with
  | [c0, c1, c2], _ =>
    obtain ⟨_, y0, m0, e0, t0⟩ := hf 0 _ rfl
    obtain rfl := by simpa using e0
    obtain ⟨a0, rfl, w0⟩ := open_intF Try.underlying3 t0
    obtain ⟨_, y1, m1, e1, t1⟩ := hf 1 _ rfl
    obtain rfl := by simpa using e1
    obtain ⟨a1, rfl, w1⟩ := open_intF Try.underlying3 t1
    obtain ⟨_, y2, m2, e2, t2⟩ := hf 2 _ rfl
    obtain rfl := by simpa using e2
    obtain ⟨a2, r2, w2⟩ := open_BytesF Try.underlying22 Try.underlying5 (by kernel_rfl) t2
    exact ⟨⟨a0, a1, a2⟩, ⟨_, rfl, r2⟩, ⟨w0, w1, w2⟩⟩
--%
end Go.Proofs.Ytcldfodnblkeiaa
