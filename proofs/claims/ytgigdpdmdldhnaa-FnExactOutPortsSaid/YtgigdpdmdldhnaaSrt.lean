/- slices.Sort and slices.Compact on ints of the call's own: the shelf's contracts, turned to OwnN. No walk here. -/
import Derived.Test.YtgigdpdmdldhnaaCln
import Derived.Shelf.Lay
import Derived.Shelf.Sort.Plain
import Derived.Shelf.Slices.CompactI
import Derived.Shelf.Slices.In.SortNone
import Derived.Ground.NamesProg
import Derived.Ground.Names2Prog
import Derived.Sort.OwnSortedInts
import Derived.Sort.Grow
import Derived.Lib.OwnBridge
namespace Go.Proofs
open Go.Shelf
--% @f{slices.Sort[[]int,int]} @f{slices.Compact[[]int,int]}
shelf_lay Lays.n189 Nm 189 at Try as Try.laysSort
shelf_lay Lays2.n20 Nm2 20 at Try as Try.laysCompact
--%
end Go.Proofs
namespace Go.Proofs.Ytgigdpdmdldhnaa
open Go.ChangeShapes Go.WideShapes Go.ChangeAt Go.RowKit Go.Sort
set_option linter.unusedVariables false
set_option linter.unusedSimpArgs false
--% sortN 83
theorem sort_N (w : World) (v : Value) (zs : List Int) (fp : List Nat) (h : OwnN w v zs fp) (hl : zs.length ≤ 1000000) :
    Calls Try.prog 83 #[v] w (fun e w' => e = .returned (.tuple #[]) ∧ OwnN w' v (zs.mergeSort fun x y => decide (x ≤ y)) fp ∧ Upd fp w w') := by
  obtain ⟨h, rfl⟩ := h
  have h0 := h
  obtain ⟨hl0, ⟨rfl, hn⟩ | ⟨g, cap, cur, rfl, hb, hg, h1, h2, h3, h4⟩⟩ := h0
  · have hz : zs = [] := List.eq_nil_of_length_eq_zero hn
    subst hz
    refine (Any.slices_Sort_int_none Try.laysSort none 0 w).mono ?_
    rintro e w' ⟨rfl, rfl⟩
    exact ⟨rfl, ⟨by simpa using h, rfl⟩, Upd.refl _ _⟩
  · have hH : Holds (Value.int .i64) w g 0 zs.toArray := holds_of_blockI hg (by simpa using h4)
    refine (Any.slices_Sort_int Try.laysSort g 0 cap zs w hH (Array.getElem?_eq_some_iff.1 hg).1 (by omega)).mono ?_
    rintro e w' ⟨rfl, nn, os, rfl⟩
    have hlm : (zs.mergeSort fun x y => decide (x ≤ y)).length = zs.length := List.length_mergeSort zs
    refine ⟨rfl, ⟨?_, rfl⟩, Upd.of_grown (grownBy_sortedI _)⟩
    rw [hlm]
    exact ownsRow_sortedI hlm hb hg h1 h2 h3
--% compactN 84
theorem compact_N (w : World) (v : Value) (zs : List Int) (fp : List Nat) (h : OwnN w v zs fp) (hl : zs.length ≤ 1000000) :
    Calls Try.prog 84 #[v] w (fun e w' => ∃ v', e = .returned v' ∧ OwnN w' v' (Lib.compact zs) fp ∧ Upd fp w w') := by
  obtain ⟨h, rfl⟩ := h
  have h0 := h
  obtain ⟨hl0, ⟨rfl, hn⟩ | ⟨g, cap, cur, rfl, hb, hg, h1, h2, h3, h4⟩⟩ := h0
  · have hz : zs = [] := List.eq_nil_of_length_eq_zero hn
    subst hz
    refine (Any.slices_Compact_int_empty Try.laysCompact none 0 w).mono ?_
    rintro e w' ⟨rfl, rfl⟩
    exact ⟨_, rfl, ⟨by simpa [Lib.compact, Lib.compactUpTo] using h, rfl⟩, Upd.refl _ _⟩
  · have hH : Holds (Value.int .i64) w g 0 zs.toArray := holds_of_blockI hg (by simpa using h4)
    refine (Any.slices_Compact_int Try.laysCompact g 0 cap zs w hH (by omega) h1).mono ?_
    rintro e w' ⟨rfl, q, rfl⟩
    have hle := Lib.compact_length_le zs
    have hc := Lib.ownsRow_putRow (q := q) (k := (Lib.compact zs).length) (ys := Lib.compact zs ++ List.replicate (zs.length - (Lib.compact zs).length) 0) h (by simp; omega) hle
    rw [List.take_left] at hc
    refine ⟨_, rfl, ⟨hc, by simp [fpOf, Value.ownBlock]⟩, Upd.of_grown (v := .slice (some ⟨g, 0, none⟩) zs.length cap) ?_⟩
    refine ⟨rfl, rfl, rfl, by simp [putRow, mapBlock, Sort.ahead], fun k hk hne => ?_⟩
    have : g ≠ k := fun e => hne (by simp [Value.ownBlock, e])
    simp [putRow, mapBlock, Sort.ahead, Array.getElem?_modify, this]
--%
end Go.Proofs.Ytgigdpdmdldhnaa
