/- Bytes that a function gathers: one row, its own, in blocks made since the world w1. -/
import Derived.Test.YtcldfodnblkeiaaTag
import Derived.WalkKit
import Derived.ProofKit
import Derived.Deep.QuietTactic
import Derived.BigQuiet
import Derived.Outline
import Derived.WalkSpells
namespace Go.Proofs.Ytcldfodnblkeiaa
open Go.ChangeShapes Go.WideShapes Go.ChangeAt Go.RowKit
set_option linter.unusedVariables false
set_option linter.unusedSimpArgs false
--%
def Acc (w1 w : World) (v : Value) (zs : List Int) : Prop := Grow w1 w ∧ w.ownsRow w1.heap.size 5 1 v zs.length (zs.map (Value.int .u8))
theorem Acc.nil {w1 w : World} (g : Grow w1 w) : Acc w1 w (.slice none 0 0) [] := ⟨g, World.ownsRow_nil _ _ _ _⟩
theorem Acc.grow {w1 w w' : World} {v : Value} {zs : List Int} (h : Acc w1 w v zs) (g : Grow w w') : Acc w1 w' v zs := ⟨h.1.trans g, own_grow h.2 g⟩
theorem Acc.own {w1 w : World} {v : Value} {zs : List Int} (h : Acc w1 w v zs) : OwnB w v zs (fpOf v) ∧ Fresh w1 (fpOf v) := OwnR.of h.2
theorem Acc.rd {w1 w : World} {v : Value} {zs : List Int} (h : Acc w1 w v zs) : RdB w v zs := h.own.1.rd
theorem Acc.onto {w1 w w' : World} {v v' : Value} {zs ys : List Int} (h : Acc w1 w v zs) (ho : w'.ownsRow w1.heap.size 5 1 v' (zs.length + ys.length) (zs.map (Value.int .u8) ++ ys.map (Value.int .u8))) (hg : w.grownBy w' v.ownBlock) : Acc w1 w' v' (zs ++ ys) := by
  refine ⟨h.1.then_upd (Upd.of_grown hg) h.own.2, ?_⟩
  rw [List.length_append, List.map_append]
  exact ho
theorem Acc.ret {w1 w : World} {v : Value} {zs : List Int} (h : Acc w1 w v zs) {W : World} (g : Grow W w1) : ∃ fp, OwnB w v zs fp ∧ Fresh W fp ∧ Grow W w := ⟨_, h.own.1, h.own.2.older g, g.trans h.1⟩
theorem Acc.of_own {w1 w : World} {v : Value} {zs : List Int} {fp : List Nat} (g : Grow w1 w) (h : OwnB w v zs fp) (hf : Fresh w1 fp) : Acc w1 w v zs := by
  obtain ⟨h, rfl⟩ := h
  refine ⟨g, h.1, ?_⟩
  obtain ⟨_, h | ⟨b, cap, cur, rfl, hb, r⟩⟩ := h
  · exact .inl h
  · exact .inr ⟨b, cap, cur, rfl, hf b (by simp [fpOf, Value.ownBlock]), r⟩
/-- A part of the code that answers with what it has gathered. -/
def RetAcc (w1 : World) (zs : List Int) (e : Ending) (w' : World) : Prop := ∃ v', e = .returned v' ∧ Acc w1 w' v' zs
--% 83
theorem put_acc (w1 w : World) (v : Value) (zs : List Int) (n : Int) (size : Nat) (h : Acc w1 w v zs) (hm : zs.length ≤ 1048576) (h6 : size ≤ 6) (hn : 0 ≤ n ∧ n ≤ 281474976710655) :
    Calls Try.prog 83 #[v, .int .i64 n, .int .i64 size] w (RetAcc w1 (zs ++ beBytes n size)) :=
  (put_any v _ zs.length w1.heap.size n size w h.2 h.1.size hm h6 hn.1 hn.2).mono fun e w' ⟨v', he, ho, hg, _⟩ => ⟨v', he, h.onto (by rw [beBytes_length]; exact ho) hg⟩
--% 75
theorem putF_yes {zs : List Int} {n : Int} {size : Nat} (h : numOkB n size = true) (hl : zs.length + size ≤ 60000) : putF zs n size = (zs ++ beBytes n size, true) := by
  unfold putF; rw [if_pos ⟨h, by omega⟩]; simp
theorem putS_yes (w : World) (v : Value) (zs : List Int) (n : Int) (size : Nat) (h : RdB w v zs) (hok : numOkB n size = true) (hl : zs.length + size ≤ 60000) :
    Calls Try.prog 75 #[v, .int .i64 n, .int .i64 size] w (RetNew2 OwnB (zs ++ beBytes n size) (.bool true) w) := by
  have h6 : 1 ≤ (size : Int) ∧ (size : Int) ≤ 6 ∧ 0 ≤ n ∧ n < 256 ^ (size : Int).toNat := by simpa [numOkB] using hok
  have := putNumS_any v zs n size w h (by omega) (by omega)
  rw [putF_yes hok hl] at this
  exact this.mono fun _ _ h => RetNew2.of_row h
--%
theorem numOk_bd {n : Int} {size : Nat} (h : numOkB n size = true) : 0 ≤ n ∧ n ≤ 281474976710655 := by
  have h1 : 1 ≤ (size : Int) ∧ (size : Int) ≤ 6 ∧ 0 ≤ n ∧ n < 256 ^ (size : Int).toNat := by simpa [numOkB] using h
  obtain ⟨a, b, c, d⟩ := h1
  refine ⟨c, ?_⟩
  have := p256_bd size (by omega)
  unfold p256 at this
  simp only [Int.toNat_natCast] at d
  omega
--%
end Go.Proofs.Ytcldfodnblkeiaa
