/- What a slice value reads as, and the lemmas on worlds that the walks use. No program in sight. -/
import Derived.WalkKit
import Derived.Lib.Hide
import Derived.Deep.Draws
namespace Go.Proofs.Ytgbaaapneddcoaa
open Go Go.RowKit

/-- The slice value v reads as these cells (size cells an element). -/
def Rd (w : World) (size : Nat) (v : Value) (xs : List Value) : Prop :=
  ∃ a n cap, v = .slice a n cap ∧ xs.length = n * size ∧ n ≤ cap ∧ cap ≤ maxLen ∧ (a = none → cap = 0) ∧
    ∀ j x, xs[j]? = some x → ∃ b off, a = some ⟨b, off, none⟩ ∧ w.cell? ⟨b, off + j, none⟩ = some x

theorem cell_lt {w : World} {b o : Nat} {v : Value} (h : w.cell? ⟨b, o, none⟩ = some v) : b < w.heap.size := World.block_lt_of_cell? w _ h

/-- Blocks that were there hold what they held. -/
def Grow (w w' : World) : Prop := Below w.heap.size w w'
theorem Grow.refl (w : World) : Grow w w := Below.refl _ _
theorem Grow.trans {a b c : World} (h : Grow a b) (k : Grow b c) : Grow a c := Below.trans h (k.mono h.size)
theorem Grow.drewN (w : World) (n : Nat) : Grow w (w.drewN n) := ⟨rfl, rfl, rfl, Nat.le_refl _, fun _ _ => rfl⟩
theorem Grow.alloc (w : World) (o : Obj) : Grow w (w.alloc o) := (Below.refl _ _).alloc (Nat.le_refl _) o
theorem Grow.of_grown {w w' : World} (h : w.grownBy w' none) : Grow w w' := ⟨h.os, h.tape, h.output, h.size, fun k hk => h.block k hk (by simp)⟩
theorem Grow.grown {w w' : World} (h : Grow w w') : w.grownBy w' none := ⟨h.os, h.tape, h.output, h.size, fun k hk _ => h.block k hk⟩
theorem Grow.cell {w w' : World} (h : Grow w w') {b o : Nat} {v : Value} (hc : w.cell? ⟨b, o, none⟩ = some v) : w'.cell? ⟨b, o, none⟩ = some v := by
  rw [Below.cell h (p := ⟨b, o, none⟩) (cell_lt hc)]; exact hc
theorem grown_refl (w : World) (r : Option Nat) : w.grownBy w r := ⟨rfl, rfl, rfl, Nat.le_refl _, fun _ _ _ => rfl⟩
theorem grown_drewN (w : World) (n : Nat) (r : Option Nat) : w.grownBy (w.drewN n) r := ⟨rfl, rfl, rfl, Nat.le_refl _, fun _ _ _ => rfl⟩
theorem grown_mono {w w' : World} {r : Option Nat} (h : w.grownBy w' none) : w.grownBy w' r := ⟨h.os, h.tape, h.output, h.size, fun k hk _ => h.block k hk (by simp)⟩
/-- Two steps; the second writes what is new, or the row that the first may write. -/
theorem grown_trans {a b c : World} {r s : Option Nat} (h : a.grownBy b r) (k : b.grownBy c s) (hs : ∀ g, s = some g → g < a.heap.size → r = some g) : a.grownBy c r :=
  ⟨k.os.trans h.os, k.tape.trans h.tape, k.output.trans h.output, Nat.le_trans h.size k.size, fun i hi hne => by
    rw [k.block i (Nat.lt_of_lt_of_le hi h.size) (fun e => hne ((hs i e.symm hi).symm)), h.block i hi hne]⟩

theorem Rd.frame {w w' : World} {size : Nat} {v : Value} {xs : List Value} (h : Rd w size v xs) (hb : ∀ b, v.ownBlock = some b → b < w.heap.size → w'.heap[b]? = w.heap[b]?) : Rd w' size v xs := by
  obtain ⟨a, n, cap, rfl, h1, h2, h3, h4, h5⟩ := h
  refine ⟨a, n, cap, rfl, h1, h2, h3, h4, fun j x hx => ?_⟩
  obtain ⟨b, off, rfl, hc⟩ := h5 j x hx
  refine ⟨b, off, rfl, ?_⟩
  rw [World.cell?_of_block (w := w) (hb b rfl (cell_lt hc))]; exact hc
theorem Rd.grow {w w' : World} {size : Nat} {v : Value} {xs : List Value} (h : Rd w size v xs) (g : Grow w w') : Rd w' size v xs := h.frame fun b _ hb => g.block b hb
theorem Rd.drewN {w : World} {size : Nat} {v : Value} {xs : List Value} (h : Rd w size v xs) (n : Nat) : Rd (w.drewN n) size v xs := h
theorem Rd.grown {w w' : World} {size : Nat} {v : Value} {xs : List Value} {r : Option Nat} (h : Rd w size v xs) (g : w.grownBy w' r) (hr : ∀ b, v.ownBlock = some b → b < w.heap.size → r ≠ some b) : Rd w' size v xs :=
  h.frame fun b hv hb => g.block b hb (fun e => hr b hv hb e.symm)
theorem Rd.of_own {w : World} {base : Nat} {e : TypeId} {size : Nat} {v : Value} {n : Nat} {xs : List Value} (h : w.ownsRow base e size v n xs) : Rd w size v xs := by
  obtain ⟨hl, ⟨rfl, rfl⟩ | ⟨g, cap, cur, rfl, hb, hg, hn, hc, hs, ht⟩⟩ := h
  · exact ⟨none, 0, 0, rfl, hl, Nat.le_refl _, by simp [maxLen], fun _ => rfl, fun j x hx => by
      have : xs = [] := List.eq_nil_of_length_eq_zero (by simpa using hl)
      subst this; simp at hx⟩
  · refine ⟨_, n, cap, rfl, hl, hn, hc, (fun e => by cases e), fun j x hx => ⟨g, 0, rfl, ?_⟩⟩
    have hj : j < n * size := by rw [← hl]; exact (List.getElem?_eq_some_iff.1 hx).1
    rw [cell_of_row w g (0 + j) cur e (0, 0) hg, Nat.zero_add]
    rw [← ht, List.getElem?_take, if_pos hj] at hx
    simpa using hx
theorem Rd.nil (w : World) (size : Nat) : Rd w size (.slice none 0 0) [] := ⟨none, 0, 0, rfl, by simp, Nat.le_refl _, by simp [maxLen], fun _ => rfl, fun j x hx => by simp at hx⟩

/-- A slice of numbers, its elements one by one. -/
theorem Rd.ints {w : World} {k : IntKind} {v : Value} {zs : List Int} (h : Rd w 1 v (zs.map (Value.int k))) :
    ∃ a cap, v = .slice a zs.length cap ∧ zs.length ≤ cap ∧ cap ≤ maxLen ∧ (a = none → cap = 0) ∧ ∀ j (hj : j < zs.length), ∃ b off, a = some ⟨b, off, none⟩ ∧ w.cell? ⟨b, off + j, none⟩ = some (.int k zs[j]) := by
  obtain ⟨a, n, cap, rfl, h1, h2, h3, h4, h5⟩ := h
  simp at h1
  subst h1
  exact ⟨a, cap, rfl, h2, h3, h4, fun j hj => h5 j _ (by simp [hj])⟩
theorem Rd.len {w : World} {k : IntKind} {v : Value} {zs : List Int} (h : Rd w 1 v (zs.map (Value.int k))) : zs.length ≤ maxLen := by
  obtain ⟨a, cap, _, h1, h2, _⟩ := h.ints; omega

/-- 'x[lo:hi]' as the model spells it. -/
theorem Rd.sub {w : World} {a : Option Addr} {n cap : Nat} {xs : List Value} (h : Rd w 1 (.slice a n cap) xs) {lo hi : Nat} (hlh : lo ≤ hi) (hhn : hi ≤ n) :
    Rd w 1 (.slice (if cap = lo then a else a.map (·.add (lo * 1))) (hi - lo) (cap - lo)) ((xs.drop lo).take (hi - lo)) := by
  obtain ⟨a', n', cap', e, h1, h2, h3, h4, h5⟩ := h
  simp only [Value.slice.injEq] at e
  obtain ⟨rfl, rfl, rfl⟩ := e
  refine ⟨_, _, _, rfl, ?_, by omega, by omega, ?_, ?_⟩
  · simp only [List.length_take, List.length_drop]; omega
  · intro e
    have : a = none := by
      split at e
      · exact e
      · simpa using e
    have := h4 this; omega
  · intro j x hx
    rw [List.getElem?_take] at hx
    split at hx
    · rename_i hj
      rw [List.getElem?_drop] at hx
      obtain ⟨b, off, rfl, hc⟩ := h5 _ x hx
      refine ⟨b, off + lo, ?_, by rw [Nat.add_assoc]; exact hc⟩
      rw [if_neg (by omega)]
      simp [Addr.add]
    · cases hx

/-- The same where the walk knows that lo lies below the capacity. -/
theorem Rd.cut {w : World} {a : Option Addr} {n cap : Nat} {xs : List Value} (h : Rd w 1 (.slice a n cap) xs) (lo m : Nat) (hhn : lo + m ≤ n) (hc : lo < cap) :
    Rd w 1 (.slice (Option.map (fun x => x.add lo) a) m (cap - lo)) ((xs.drop lo).take m) := by
  have := h.sub (lo := lo) (hi := lo + m) (by omega) hhn
  rw [if_neg (by omega), Nat.mul_one, show lo + m - lo = m from by omega] at this
  exact this

/-- What a call that makes a row leaves: a slice value that owns it; nothing that was there has turned. -/
def RetRow (t : TypeId) (size : Nat) (w : World) (n : Nat) (xs : List Value) (e : Ending) (w' : World) : Prop :=
  ∃ v, e = .returned v ∧ w'.ownsRow w.heap.size t size v n xs ∧ Grow w w'

theorem ret_bool {a b : Bool} (h : a = b) : Ending.returned (.bool a) = .returned (.bool b) := by rw [h]
theorem ret_int {k : IntKind} {a b : Int} (h : a = b) : Ending.returned (.int k a) = .returned (.int k b) := by rw [h]
theorem ret_str {a b : ByteArray} (h : a = b) : Ending.returned (.string a) = .returned (.string b) := by rw [h]

theorem own_mono {w : World} {B B' : Nat} {e : TypeId} {size : Nat} {v : Value} {n : Nat} {xs : List Value} (h : w.ownsRow B e size v n xs) (hB : B' ≤ B) : w.ownsRow B' e size v n xs := by
  obtain ⟨hl, h | ⟨g, cap, cur, rfl, hb, r⟩⟩ := h
  · exact ⟨hl, .inl h⟩
  · exact ⟨hl, .inr ⟨g, cap, cur, rfl, Nat.le_trans hB hb, r⟩⟩
theorem own_drewN {w : World} {B : Nat} {e : TypeId} {size : Nat} {v : Value} {n : Nat} {xs : List Value} (h : w.ownsRow B e size v n xs) (m : Nat) : (w.drewN m).ownsRow B e size v n xs := h
theorem own_grow {w w' : World} {B : Nat} {e : TypeId} {size : Nat} {v : Value} {n : Nat} {xs : List Value} (h : w.ownsRow B e size v n xs) (g : Grow w w') : w'.ownsRow B e size v n xs :=
  h.kept g.grown (by cases v.ownBlock <;> simp)
theorem own_block {w : World} {B : Nat} {e : TypeId} {size : Nat} {v : Value} {n : Nat} {xs : List Value} (h : w.ownsRow B e size v n xs) {b : Nat} (hb : v.ownBlock = some b) : B ≤ b ∧ b < w.heap.size := h.lt b hb

/-- The numbers that a mark leaves: k, k + 1, .. -/
def upFrom (f : Int → Int) (k : Int) (n : Nat) : List Int := (List.range n).map fun i : Nat => f (k + Int.ofNat i)
theorem upFrom_length (f : Int → Int) (k : Int) (n : Nat) : (upFrom f k n).length = n := by simp [upFrom]
theorem upFrom_get (f : Int → Int) (k : Int) (n i : Nat) (h : i < (upFrom f k n).length) : (upFrom f k n)[i] = f (k + (i : Int)) := by simp [upFrom]
theorem upFrom_succ (f : Int → Int) (k : Int) (n : Nat) : upFrom f k (n + 1) = upFrom f k n ++ [f (k + (n : Int))] := by simp [upFrom, List.range_succ]
/-- j numbers marked, the others as they were. -/
def marked (f : Int → Int) (k : Int) (zs : List Int) (j : Nat) : List Int := upFrom f k j ++ zs.drop j
theorem marked_zero (f : Int → Int) (k : Int) (zs : List Int) : marked f k zs 0 = zs := by simp [marked, upFrom]
theorem marked_end (f : Int → Int) (k : Int) (zs : List Int) : marked f k zs zs.length = upFrom f k zs.length := by simp [marked]
theorem marked_length (f : Int → Int) (k : Int) (zs : List Int) (j : Nat) (h : j ≤ zs.length) : (marked f k zs j).length = zs.length := by simp [marked, upFrom_length]; omega
theorem marked_set (f : Int → Int) (k : Int) (zs : List Int) (j : Nat) (h : j < zs.length) : (marked f k zs j).set j (f (k + (j : Int))) = marked f k zs (j + 1) := by
  unfold marked
  rw [List.set_append_right _ _ (by rw [upFrom_length]; omega), upFrom_length, Nat.sub_self, upFrom_succ, List.append_assoc, List.drop_eq_getElem_cons h]
  rfl
theorem own_shape {w : World} {B : Nat} {e : TypeId} {size : Nat} {v : Value} {n : Nat} {xs : List Value} (h : w.ownsRow B e size v n xs) : ∃ a cap, v = .slice a n cap := by
  obtain ⟨hl, ⟨rfl, rfl⟩ | ⟨g, cap, cur, rfl, _⟩⟩ := h
  · exact ⟨none, 0, rfl⟩
  · exact ⟨_, cap, rfl⟩
theorem own_some {w : World} {B : Nat} {e : TypeId} {size : Nat} {a : Option Addr} {cap n : Nat} {xs : List Value} (h : w.ownsRow B e size (.slice a n cap) n xs) (hn : 0 < n) : ∃ g, a = some ⟨g, 0, none⟩ := by
  obtain ⟨hl, ⟨h1, h2⟩ | ⟨g, cap, cur, h1, _⟩⟩ := h
  · omega
  · simp only [Value.slice.injEq] at h1; exact ⟨g, h1.1⟩
end Go.Proofs.Ytgbaaapneddcoaa
