/- HeadSet, SmallHead: contracts of the code. -/
import Derived.Test.YtgigdpdmdldhnaaHd
import Derived.Test.YtgigdpdmdldhnaaCln
import Derived.WalkKit
import Derived.ProofKit
import Derived.Deep.QuietTactic
import Derived.BigQuiet
import Derived.Outline
import Derived.WalkSpells
namespace Go.Proofs.Ytgigdpdmdldhnaa
open Go.ChangeShapes Go.WideShapes Go.ChangeAt Go.RowKit
set_option linter.unusedVariables false
set_option linter.unusedSimpArgs false
--%
def zeroH : HeadD := ⟨[]⟩
def hsF (zs : List Int) (f v : Int) : HeadD × Bool := if hdOk zs = true ∧ fitB f v = true then (⟨zs.set f.toNat v⟩, true) else (zeroH, false)
theorem hsF_no1 {zs : List Int} {f v : Int} (h : hdOk zs = false) : hsF zs f v = (zeroH, false) := by simp [hsF, h]
theorem hsF_no2 {zs : List Int} {f v : Int} (h : fitB f v = false) : hsF zs f v = (zeroH, false) := by simp [hsF, h]
theorem hsF_yes {zs : List Int} {f v : Int} (h : hdOk zs = true) (h2 : fitB f v = true) : hsF zs f v = (⟨zs.set f.toNat v⟩, true) := by simp [hsF, h, h2]
theorem hsF_sm {d : HeadD} {f v : Int} (h : SmH d) : SmH (hsF d.vs f v).1 := by
  unfold hsF; split
  · simpa [SmH, sizeH] using h
  · simp [SmH, sizeH, zeroH]
--% HeadSetI 79
theorem headSetI_any (w : World) (V : Value) (d : DatH) (f x : Int) (h : RdH w V d) (sm : SmH d) : Calls Try.prog 79 #[V, .int .i64 f, .int .i64 x] w (RetNew2 OwnH (hsF d.vs f x).1 (.bool (hsF d.vs f x).2) w) := by
  have HS := Lib.hid sm.vs; clear sm
  obtain ⟨v, rfl, hv⟩ := h
  have HV := Lib.hid hv; clear hv
  have HZ : ∀ (w1 : World), Grow w w1 → RetNew2 OwnH zeroH (.bool false) w (.returned (.tuple #[.agg #[.slice none 0 0], .bool false])) w1 := fun w1 hg => ⟨_, [], rfl, ⟨_, rfl, ownN_nil _⟩, by simp [Fresh], hg⟩
  have HZ := Lib.hid HZ
  cases hok : hdOk d.vs
  · rw [hsF_no1 hok]
    go_enter Try.func79, Try.ntmps79
    go_wp2_with fail
    refine at_world (w := w) ?G (fun hG => (headOkI_any _ _ d ⟨_, rfl, HV.out.grow hG⟩).mono ?_)
    case G => ((repeat (first | with_reducible exact Grow.refl _ | (with_reducible refine Grow.alloc_ ?_ _) | (with_reducible refine Grow.setCell_ ?_ (by first | exact Nat.le_refl _ | (simp only [World.alloc, Array.size_push]; omega) | omega) _))))
    rintro e w1 ⟨rfl, hg⟩
    rw [hok]
    have HG := Lib.hid (hG.trans hg)
    have BX := ((Box.alloc w _ _).grow ((Grow.alloc _ _).trans hg))
    obtain ⟨hc, hfz⟩ := bcell hg
    clear hG hg
    go_wp2
    refine bodyPost_ret (v := .tuple #[.agg #[.slice none 0 0], .bool false]) ?_ rfl (HZ.out _ (HG.out.box_end (fq := [w.heap.size + 1]) ?_ (by simp)))
    · simp [results, Try.results79, go_sem, hc, hfz]
    · ((repeat (first | (with_reducible refine Upd.setCell ?_ (by simp) _) | with_reducible exact Upd.refl _ _)))
  cases hft : fitB f x
  · rw [hsF_no2 hft]
    go_enter Try.func79, Try.ntmps79
    go_wp2_with fail
    refine at_world (w := w) ?G (fun hG => (headOkI_any _ _ d ⟨_, rfl, HV.out.grow hG⟩).mono ?_)
    case G => ((repeat (first | with_reducible exact Grow.refl _ | (with_reducible refine Grow.alloc_ ?_ _) | (with_reducible refine Grow.setCell_ ?_ (by first | exact Nat.le_refl _ | (simp only [World.alloc, Array.size_push]; omega) | omega) _))))
    rintro e w1 ⟨rfl, hg⟩
    rw [hok]
    have HG := Lib.hid (hG.trans hg)
    have BX := Lib.hid (((Box.alloc (w.alloc _) _ _).grow hg).at_ (b' := w.heap.size + 1) (by simp only [World.alloc, Array.size_push]))
    clear hG hg
    go_wp2_with fail
    refine (fitsField_any _ _ _).mono ?_
    rintro e w2 ⟨rfl, hg⟩
    rw [hft]
    have HG := Lib.hid (HG.out.trans hg)
    have BX := BX.out.grow hg
    have q0 := BX.one
    have z0 := BX.2.2
    have l0 := BX.1
    clear hg BX
    go_wp2
    refine bodyPost_ret (v := .tuple #[.agg #[.slice none 0 0], .bool false]) ?_ rfl (HZ.out _ (HG.out.box_end (fq := [w.heap.size + 1]) ?_ (by simp)))
    · simp [results, Try.results79, go_sem, q0, z0]
    · ((repeat (first | (with_reducible refine Upd.setCell ?_ (by simp) _) | with_reducible exact Upd.refl _ _)))
  rw [hsF_yes hok hft]
  have hk := fitB_iff.1 hft
  have hl8 := (hdOk_at hok).1
  obtain ⟨k, rfl⟩ := Int.eq_ofNat_of_zero_le hk.1.1
  have hk8 : k < d.vs.length := by omega
  have HL8 := Lib.hid hl8
  clear hk hl8
  go_enter Try.func79, Try.ntmps79
  go_wp2_with fail
  refine at_world (w := w) ?G (fun hG => (headOkI_any _ _ d ⟨_, rfl, HV.out.grow hG⟩).mono ?_)
  case G => ((repeat (first | with_reducible exact Grow.refl _ | (with_reducible refine Grow.alloc_ ?_ _) | (with_reducible refine Grow.setCell_ ?_ (by first | exact Nat.le_refl _ | (simp only [World.alloc, Array.size_push]; omega) | omega) _))))
  rintro e w1 ⟨rfl, hg⟩
  rw [hok]
  have HG := Lib.hid (hG.trans hg)
  have B0 := Lib.hid ((Box.alloc w _ _).grow ((Grow.alloc _ _).trans hg))
  have BX := Lib.hid (((Box.alloc (w.alloc _) _ _).grow hg).at_ (b' := w.heap.size + 1) (by simp only [World.alloc, Array.size_push]))
  clear hG hg
  go_wp2_with fail
  refine (fitsField_any _ _ _).mono ?_
  rintro e w2 ⟨rfl, hg⟩
  rw [hft]
  have HG := Lib.hid (HG.out.trans hg)
  have B0 := Lib.hid (B0.out.grow hg)
  have BX := Lib.hid (BX.out.grow hg)
  clear hg
  have q0 := B0.out.one
  go_wp2_with fail
  have l2 := BX.out.1
  refine (clone_N _ _ _ (HV.out.grow HG.out) HS.out).mono ?_
  rintro e w3 ⟨v3, fp3, rfl, ho, hf, hg⟩
  obtain ⟨g, c3, rfl, rfl, hcell, hfz, hset⟩ := ho.set k hk8 x
  have HG3 := Lib.hid (HG.out.trans hg)
  have BX := Lib.hid (BX.out.grow hg)
  have hg2 : w2.heap.size ≤ g := hf g (by simp)
  have hg1 : w.heap.size + 1 < g := by omega
  have hgl : g < w3.heap.size := ho.here g (by simp)
  have HO := Lib.hid ho
  have HR : Hid (∀ W, Upd [w.heap.size + 1] (w3.setCell ⟨g, k, none⟩ (.int .i64 x)) W → RetNew2 OwnH ⟨d.vs.set (k : Int).toNat x⟩ (.bool true) w (.returned (.tuple #[.agg #[.slice (some ⟨g, 0, none⟩) d.vs.length c3], .bool true])) W) := Lib.hid (fun W hu => by
    have h1 := (HO.out.put k hk8 x).upd hu (by intro y hy; simp only [List.mem_cons, List.not_mem_nil, or_false] at hy ⊢; omega)
    refine ⟨_, [g], rfl, ⟨_, rfl, h1⟩, ?_, ?_⟩
    · intro y hy; simp only [List.mem_cons, List.not_mem_nil, or_false] at hy; omega
    · exact (HG3.out.setCell_ (p := ⟨g, k, none⟩) (by show w.heap.size ≤ g; omega) (.int .i64 x)).then_upd hu (by intro y hy; simp only [List.mem_cons, List.not_mem_nil, or_false] at hy; omega))
  have r0 := BX.out.one
  have z0 := BX.out.2.2
  have l0 := BX.out.1
  clear ho hf hg hset q0
  go_wp2
  refine bodyPost_ret (v := .tuple #[.agg #[.slice (some ⟨g, 0, none⟩) d.vs.length c3], .bool true]) ?_ rfl (HR.out _ ?_)
  · simp [results, Try.results79, go_sem, r0, z0, l0]
  · ((repeat (first | with_reducible exact Upd.refl _ _ | (with_reducible refine Upd.setCell ?_ (by simp) _))))
--% built
/-- A slice literal of ints, and a box for it, have just been made. -/
theorem rdN_built (w : World) (zs : List Int) (h : zs.length ≤ 1000) : RdN (w.alloc (.cells (zs.map (Value.int .i64)).toArray 3)) (.slice (some ⟨w.heap.size, 0, none⟩) zs.length zs.length) zs :=
  rd_built w _ 1 zs.length (zs.map (Value.int .i64)) (by simp) (by unfold maxLen; omega)
theorem ownN_built (w : World) (zs : List Int) (h : zs.length ≤ 1000) : OwnN (w.alloc (.cells (zs.map (Value.int .i64)).toArray 3)) (.slice (some ⟨w.heap.size, 0, none⟩) zs.length zs.length) zs [w.heap.size] :=
  ⟨own_mono (own_built w _ 1 zs.length (zs.map (Value.int .i64)) (by simp) (by unfold maxLen; omega)) (Nat.zero_le _), rfl⟩
theorem ownN_at {w : World} {b b' n c : Nat} {zs : List Int} (h : OwnN w (.slice (some ⟨b, 0, none⟩) n c) zs [b]) (e : b = b') : OwnN w (.slice (some ⟨b', 0, none⟩) n c) zs [b'] := e ▸ h
def smF (a b c : Int) : HeadD := if hdOk [a, b, c, 2048, 0, 0, 0, 0] = true then ⟨[a, b, c, 2048, 0, 0, 0, 0]⟩ else zeroH
--%
end Go.Proofs.Ytgigdpdmdldhnaa
