/- The laws' helpers in one form for all types: what is owned, where it stands, what may have been written. -/
import Derived.Test.YtgigdpdmdldhnaaByt
import Derived.Test.YtgigdpdmdldhnaaApp
import Derived.WalkKit
import Derived.ProofKit
namespace Go.Proofs.Ytgigdpdmdldhnaa
open Go.ChangeShapes Go.WideShapes Go.ChangeAt Go.RowKit
set_option linter.unusedVariables false

/-- Blocks fp may have been written, and new ones made; nothing else has turned. -/
structure Upd (fp : List Nat) (w w' : World) : Prop where
  os : w'.os = w.os
  tape : w'.tape = w.tape
  output : w'.output = w.output
  size : w.heap.size ≤ w'.heap.size
  block : ∀ k, k < w.heap.size → k ∉ fp → w'.heap[k]? = w.heap[k]?
def Fresh (w : World) (fp : List Nat) : Prop := ∀ b ∈ fp, w.heap.size ≤ b
/-- All blocks are there. -/
def Here (w : World) (fp : List Nat) : Prop := ∀ b ∈ fp, b < w.heap.size
theorem Grow.upd {w w' : World} (h : Grow w w') (fp : List Nat) : Upd fp w w' := ⟨h.os, h.tape, h.output, h.size, fun k hk _ => h.block k hk⟩
theorem Upd.refl (fp : List Nat) (w : World) : Upd fp w w := (Grow.refl w).upd fp
theorem Upd.trans {fp fq : List Nat} {a b c : World} (h : Upd fp a b) (k : Upd fq b c) : Upd (fp ++ fq) a c :=
  ⟨k.os.trans h.os, k.tape.trans h.tape, k.output.trans h.output, Nat.le_trans h.size k.size, fun i hi hn => by
    simp only [List.mem_append, not_or] at hn
    rw [k.block i (Nat.lt_of_lt_of_le hi h.size) hn.2, h.block i hi hn.1]⟩
theorem Upd.mono {fp fq : List Nat} {a b : World} (h : Upd fp a b) (hs : ∀ x ∈ fp, x < a.heap.size → x ∈ fq) : Upd fq a b :=
  ⟨h.os, h.tape, h.output, h.size, fun k hk hn => h.block k hk (fun hm => hn (hs k hm hk))⟩
/-- Of what was there earlier nothing has turned, if only newer blocks were written. -/
theorem Grow.then_upd {fp : List Nat} {a b c : World} (h : Grow a b) (k : Upd fp b c) (hf : Fresh a fp) : Grow a c :=
  ⟨k.os.trans h.os, k.tape.trans h.tape, k.output.trans h.output, Nat.le_trans h.size k.size, fun i hi => by
    rw [k.block i (Nat.lt_of_lt_of_le hi h.size) (fun hm => by have := hf i hm; omega), h.block i hi]⟩
theorem Fresh.older {a b : World} {fp : List Nat} (h : Fresh b fp) (g : Grow a b) : Fresh a fp := fun x hx => Nat.le_trans g.size (h x hx)
theorem Here.later {a b : World} {fp : List Nat} (h : Here a fp) (g : Grow a b) : Here b fp := fun x hx => Nat.lt_of_lt_of_le (h x hx) g.size
theorem Here.apart {a b c : World} {fp fq : List Nat} (h : Here a fp) (k : Fresh b fq) (g : Grow a b) : ∀ x ∈ fq, x ∉ fp := fun x hx hm => by
  have h1 := h x hm; have h2 := k x hx; have h3 := g.size; omega

def fpOf (v : Value) : List Nat := v.ownBlock.toList
/-- A slice value that owns its row. -/
def OwnR (t : TypeId) (size : Nat) (w : World) (v : Value) (n : Nat) (xs : List Value) (fp : List Nat) : Prop := w.ownsRow 0 t size v n xs ∧ fp = fpOf v
theorem OwnR.here {t : TypeId} {size : Nat} {w : World} {v : Value} {n : Nat} {xs : List Value} {fp : List Nat} (h : OwnR t size w v n xs fp) : Here w fp := by
  obtain ⟨h, rfl⟩ := h
  intro b hb
  have : v.ownBlock = some b := by simpa [fpOf] using hb
  exact (own_block h this).2
theorem OwnR.upd {t : TypeId} {size : Nat} {w w' : World} {v : Value} {n : Nat} {xs : List Value} {fp fq : List Nat} (h : OwnR t size w v n xs fp) (u : Upd fq w w') (ha : ∀ x ∈ fp, x ∉ fq) : OwnR t size w' v n xs fp := by
  obtain ⟨h, rfl⟩ := h
  refine ⟨?_, rfl⟩
  obtain ⟨hl, h | ⟨g, cap, cur, rfl, hb, hg, r⟩⟩ := h
  · exact ⟨hl, .inl h⟩
  · refine ⟨hl, .inr ⟨g, cap, cur, rfl, hb, ?_, r⟩⟩
    rw [u.block g (Array.getElem?_eq_some_iff.1 hg).1 (ha g (by simp [fpOf, Value.ownBlock]))]
    exact hg
theorem OwnR.grow {t : TypeId} {size : Nat} {w w' : World} {v : Value} {n : Nat} {xs : List Value} {fp : List Nat} (h : OwnR t size w v n xs fp) (g : Grow w w') : OwnR t size w' v n xs fp := h.upd (g.upd []) (by simp)
theorem OwnR.rd {t : TypeId} {size : Nat} {w : World} {v : Value} {n : Nat} {xs : List Value} {fp : List Nat} (h : OwnR t size w v n xs fp) : Rd w size v xs := Rd.of_own h.1
theorem OwnR.of {t : TypeId} {size B : Nat} {w : World} {v : Value} {n : Nat} {xs : List Value} (h : w.ownsRow B t size v n xs) : OwnR t size w v n xs (fpOf v) ∧ ∀ b ∈ fpOf v, B ≤ b := by
  refine ⟨⟨own_mono h (Nat.zero_le _), rfl⟩, fun b hb => ?_⟩
  have : v.ownBlock = some b := by simpa [fpOf] using hb
  exact (own_block h this).1
theorem Upd.of_grown {w w' : World} {v : Value} (h : w.grownBy w' v.ownBlock) : Upd (fpOf v) w w' :=
  ⟨h.os, h.tape, h.output, h.size, fun k hk hn => h.block k hk (fun e => hn (by simp [fpOf, ← e]))⟩
theorem Upd.grown {w w' : World} {v : Value} (h : Upd (fpOf v) w w') : w.grownBy w' v.ownBlock :=
  ⟨h.os, h.tape, h.output, h.size, fun k hk hn => h.block k hk (fun hm => hn (by simpa [fpOf, eq_comm] using hm))⟩

/-- What a call hands back that makes memory: data d at v, owned (O), in new blocks. -/
def RetNew {D : Type} (O : World → Value → D → List Nat → Prop) (d : D) (w : World) (e : Ending) (w' : World) : Prop :=
  ∃ v fp, e = .returned v ∧ O w' v d fp ∧ Fresh w fp ∧ Grow w w'
/-- The same with one more plain result. -/
def RetNew2 {D : Type} (O : World → Value → D → List Nat → Prop) (d : D) (r : Value) (w : World) (e : Ending) (w' : World) : Prop :=
  ∃ v fp, e = .returned (.tuple #[v, r]) ∧ O w' v d fp ∧ Fresh w fp ∧ Grow w w'
/-- Data that is only read. -/
def RetRd {D : Type} (R : World → Value → D → Prop) (d : D) (w : World) (e : Ending) (w' : World) : Prop := ∃ v, e = .returned v ∧ R w' v d ∧ Grow w w'
def RetRd2 {D : Type} (R : World → Value → D → Prop) (d : D) (r : Value) (w : World) (e : Ending) (w' : World) : Prop := ∃ v, e = .returned (.tuple #[v, r]) ∧ R w' v d ∧ Grow w w'
/-- A plain result; memory may have been made. -/
def RetV (v : Value) (w : World) (e : Ending) (w' : World) : Prop := e = .returned v ∧ Grow w w'
/-- A mark: the next number; what is owned holds the marked data; no other block is written. -/
def RetMark {D : Type} (O : World → Value → D → List Nat → Prop) (v : Value) (d : D) (fp : List Nat) (k : Int) (w : World) (e : Ending) (w' : World) : Prop :=
  e = .returned (.int .i64 k) ∧ O w' v d fp ∧ Upd fp w w'
theorem RetV.of_quietBool {b : Bool} {w : World} {e : Ending} {w' : World} (h : QuietBool b w e w') : RetV (.bool b) w e w' := by
  obtain ⟨rfl, n, rfl⟩ := h; exact ⟨rfl, Grow.drewN _ _⟩
theorem RetV.of_quietInt {b : Int} {w : World} {e : Ending} {w' : World} (h : QuietInt b w e w') : RetV (.int .i64 b) w e w' := by
  obtain ⟨rfl, n, rfl⟩ := h; exact ⟨rfl, Grow.drewN _ _⟩

/-! byte slices -/
abbrev DatB := List Int
abbrev WfB (zs : List Int) : Prop := ∀ x ∈ zs, 0 ≤ x ∧ x < 256
def RdB (w : World) (v : Value) (zs : List Int) : Prop := Rd w 1 v (zs.map (Value.int .u8))
def OwnB (w : World) (v : Value) (zs : List Int) (fp : List Nat) : Prop := OwnR 5 1 w v zs.length (zs.map (Value.int .u8)) fp
theorem RdB.grow {w w' : World} {v : Value} {zs : List Int} (h : RdB w v zs) (g : Grow w w') : RdB w' v zs := Rd.grow h g
theorem OwnB.rd {w : World} {v : Value} {zs : List Int} {fp : List Nat} (h : OwnB w v zs fp) : RdB w v zs := OwnR.rd h
theorem OwnB.here {w : World} {v : Value} {zs : List Int} {fp : List Nat} (h : OwnB w v zs fp) : Here w fp := OwnR.here h
theorem OwnB.grow {w w' : World} {v : Value} {zs : List Int} {fp : List Nat} (h : OwnB w v zs fp) (g : Grow w w') : OwnB w' v zs fp := OwnR.grow h g
theorem OwnB.upd {w w' : World} {v : Value} {zs : List Int} {fp fq : List Nat} (h : OwnB w v zs fp) (u : Upd fq w w') (ha : ∀ x ∈ fp, x ∉ fq) : OwnB w' v zs fp := OwnR.upd h u ha
def mkB (zs : List Int) (k : Int) : List Int := upFrom IntKind.u8.wrap k zs.length
def cntB (zs : List Int) : Int := zs.length
/-- Small enough for the laws' counters. -/
def SmB (zs : List Int) : Prop := zs.length ≤ 1048576
theorem cntB_bd (zs : List Int) (h : SmB zs) : 0 ≤ cntB zs ∧ cntB zs ≤ 1048576 := by unfold cntB; unfold SmB at h; omega
theorem RetNew.of_row {n : Nat} {zs : List Int} {w : World} {e : Ending} {w' : World} (h : RetRow 5 1 w zs.length (zs.map (Value.int .u8)) e w') : RetNew OwnB zs w e w' := by
  obtain ⟨v, rfl, hown, hg⟩ := h
  exact ⟨v, fpOf v, rfl, (OwnR.of hown).1, (OwnR.of hown).2, hg⟩
theorem RetNew2.of_row {zs : List Int} {b : Bool} {w : World} {e : Ending} {w' : World} (h : ∃ v, e = .returned (.tuple #[v, .bool b]) ∧ w'.ownsRow w.heap.size 5 1 v zs.length (zs.map (Value.int .u8)) ∧ Grow w w') : RetNew2 OwnB zs (.bool b) w e w' := by
  obtain ⟨v, rfl, hown, hg⟩ := h
  exact ⟨v, fpOf v, rfl, (OwnR.of hown).1, (OwnR.of hown).2, hg⟩
--%
end Go.Proofs.Ytgigdpdmdldhnaa
