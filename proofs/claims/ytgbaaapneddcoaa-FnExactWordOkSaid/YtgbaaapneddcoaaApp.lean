/- Appends onto rows that the call owns. No program in sight. -/
import Derived.Test.YtgbaaapneddcoaaMem
import Derived.Laws.AppendOwnNone
namespace Go.Proofs.Ytgbaaapneddcoaa
open Go Go.RowKit

/-- What the model's table says of a slice type and its element type. -/
structure ElemOk (P : Program) (t e : TypeId) (size bytes : Nat) : Prop where
  under : P.underlying t = some (.slice e)
  info : ∃ i z, P.info? e = some i ∧ i.zero = some z ∧ i.size = size ∧ i.bytes = bytes ∧ z.cells.size = size
  pos : 0 < size

/-- The second value stands on the first one's block, or on a new one. -/
def Moved (w : World) (v v' : Value) : Prop := ∀ g, v'.ownBlock = some g → v.ownBlock = some g ∨ w.heap.size ≤ g
theorem Moved.refl (w : World) (v : Value) : Moved w v v := fun _ h => .inl h
theorem Moved.trans {a b : World} {u v x : Value} (h : Moved a u v) (k : Moved b v x) (hs : a.heap.size ≤ b.heap.size) : Moved a u x := fun g hg => by
  rcases k g hg with h1 | h1
  · exact h g h1
  · exact .inr (by omega)
theorem Moved.below {a b : World} {u v : Value} (h : Moved b u v) (hs : a.heap.size ≤ b.heap.size) : Moved a u v := fun g hg => (h g hg).imp id (by omega)
/-- Two appends, one behind the other. -/
theorem grown_moved {a b c : World} {u v : Value} (h : a.grownBy b u.ownBlock) (m : Moved a u v) (k : b.grownBy c v.ownBlock) : a.grownBy c u.ownBlock :=
  grown_trans h k fun g hg hlt => (m g hg).resolve_right (by omega)

section
variable {P : Program} {t e : TypeId} {size bytes : Nat} {ops : Array Oper} {rest : List Oper} {o : Oper} {a : Act} {Q : Exit → Act → World → Prop} {w : World}

theorem rd_src {size : Nat} {ad : Addr} {m c : Nat} {ys : List Value} (hu : Rd w size (.slice (some ad) m c) ys) : ys.length = m * size ∧ ∀ j u, ys[j]? = some u → w.cell? (ad.add j) = some u := by
  obtain ⟨a', n', c', e, h1, _, _, _, h5⟩ := hu
  simp only [Value.slice.injEq] at e
  obtain ⟨rfl, rfl, rfl⟩ := e
  refine ⟨h1, fun j u hj => ?_⟩
  obtain ⟨b, off, e, hc⟩ := h5 j u hj
  obtain rfl : ad = ⟨b, off, none⟩ := by simpa using e
  have e : (⟨b, off, none⟩ : Addr).add j = ⟨b, off + j, none⟩ := by unfold Addr.add; split <;> simp_all
  rw [e]; exact hc

/-- An append, with where the new value stands. -/
theorem run_append_exact (ty : TypeId) (ok : ElemOk P t e size bytes) (B : Nat) {v : Value} {n : Nat} {xs : List Value} (hown : w.ownsRow B e size v n xs) {u : Value} (m : Nat) {ys : List Value} (hu : Rd w size u ys) (hm : ys.length = m * size)
    (h1 : ∀ y ∈ ys, y.oneCell' = true) (hbytes : (n + m) * bytes ≤ 140737488355328) (h63 : n + m ≤ maxLen) (hB : B ≤ w.heap.size) :
    ∃ v' w', (Builtin.append_ #[t, t] ty #[v, u]).run P w = .ok v' w' ∧ w'.ownsRow B e size v' (n + m) (xs ++ ys) ∧ w.grownBy w' v.ownBlock ∧ Moved w v v' := by
  obtain ⟨i, z, hi, hz, hsize, hby, hzs⟩ := ok.info
  subst hsize
  subst hby
  have ht := ok.under
  have hu' := hu
  obtain ⟨ao, m', c, rfl, h3, _, _, h4, _⟩ := hu
  have hmm : m' = m := by
    have := ok.pos
    rw [h3] at hm
    exact Nat.eq_of_mul_eq_mul_right this hm
  subst hmm
  cases ao with
  | none =>
    have hc := h4 rfl
    have hm0 : m' = 0 := by omega
    subst hm0 hc
    have hy : ys = [] := List.eq_nil_of_length_eq_zero (by simpa using h3)
    subst hy
    exact ⟨v, w, run_append_owned_none w B t ty e i i.size ht hi v n xs hown, by simpa using hown, grown_refl _ _, Moved.refl _ _⟩
  | some ad =>
    obtain ⟨hl, hnews⟩ := rd_src hu'
    have hsmall : n + m' ≤ 9223372036854775807 := by simp only [maxLen] at h63; omega
    have hlen : (xs ++ ys).length = (n + m') * i.size := by rw [List.length_append, hown.1, hl, Nat.add_mul]
    have grown : ∀ (old : Nat), old < n + m' → ∀ (row : Option Nat),
        (w.drew.alloc (.cells (xs.toArray ++ ys.toArray ++ Builtin.zeroCells z.cells (grownCap w (n + m') old e - (n + m'))) e)).ownsRow B e i.size
          (.slice (some ⟨w.heap.size, 0, none⟩) (n + m') (grownCap w (n + m') old e)) (n + m') (xs ++ ys) ∧
        w.grownBy (w.drew.alloc (.cells (xs.toArray ++ ys.toArray ++ Builtin.zeroCells z.cells (grownCap w (n + m') old e - (n + m'))) e)) row := by
      intro old ho row
      have hge := grownCap_ge w (n + m') old e
      have hcm : grownCap w (n + m') old e ≤ maxLen := grownCap_le_maxLen w (n + m') old e h63
      refine ⟨⟨hlen, .inr ⟨w.heap.size, _, _, rfl, hB, heap_alloc_new w.drew _, hge, hcm, ?_, ?_⟩⟩, ⟨rfl, rfl, rfl, by simp, fun k hk _ => Below.heap_alloc w.drew _ k hk⟩⟩
      · simp only [Array.size_append, List.size_toArray, size_zeroCells, hzs, hown.1, hl, ← Nat.add_mul]
        congr 1
        omega
      · simp only [Array.toList_append, List.append_assoc]
        rw [← List.append_assoc, ← hlen]
        exact List.take_left
    have new : ∀ (v : Value) (n cap : Nat), Moved w v (.slice (some ⟨w.heap.size, 0, none⟩) n cap) := fun v n cap g hg => .inr (by
      simp [Value.ownBlock] at hg; omega)
    rcases hown.2 with ⟨rfl, rfl⟩ | ⟨g, cap, cur, rfl, hbg, hg, hnc, hcm, hcs, htake⟩
    · have hx : xs = [] := List.eq_nil_of_length_eq_zero (by simpa using hown.1)
      subst hx
      by_cases hm : m' = 0
      · subst hm
        have hn : ys = [] := List.eq_nil_of_length_eq_zero (by simpa using hl)
        subst hn
        refine ⟨.slice none 0 0, w, ?_, World.ownsRow_nil w B e i.size, grown_refl _ _, Moved.refl _ _⟩
        simp [Builtin.append_, run_underlying ht, sizeOf, typeInfo, hi, Builtin.lenOf, Builtin.firstCells, loadCells, loadCellsFrom]
      · have hr := run_append_nil (P := P) w t ty e i z ht hi hz ad m' c ys hl hnews (by omega) (by omega) (by have hb := hbytes; simp only [Nat.zero_add] at hb; omega)
        have hgr := grown 0 (by omega) (Value.ownBlock (.slice none 0 0))
        simp only [Nat.zero_add, List.nil_append, Array.empty_append] at hgr ⊢
        exact ⟨_, _, hr, hgr.1, hgr.2, new _ _ _⟩
    · by_cases hroom : n + m' ≤ cap
      · have hfit : n * i.size + ys.length ≤ cur.size := by rw [hl, hcs, ← Nat.add_mul]; exact Nat.mul_le_mul_right _ hroom
        have hr := run_append_room (P := P) w t ty e i ht hi g n cap cur hg ad m' c ys hl hnews h1 hroom hfit
        refine ⟨_, _, hr, ⟨hlen, .inr ⟨g, cap, _, rfl, hbg, setRow_heap w g cur _ e _ hg, hroom, hcm, ?_, ?_⟩⟩, ⟨rfl, rfl, rfl, by simp, fun k _ hk => setRow_other w g k _ (fun e => hk (by simp [Value.ownBlock, e]))⟩, fun g' hg' => .inl hg'⟩
        · simp only [List.size_toArray, List.length_append, List.length_take, List.length_drop, Array.length_toList]
          omega
        · rw [htake, ← hlen]
          exact List.take_left
      · have holds : ∀ j u, xs[j]? = some u → w.cell? ((⟨g, 0, none⟩ : Addr).add j) = some u := hown.cells (g := g) rfl
        have hr := run_append_grow (P := P) w t ty e i z ht hi hz ⟨g, 0, none⟩ n cap xs hown.1 holds ad m' c ys hl hnews (by omega) (by omega) (growslice_fits (by omega) hbytes)
        have hgr := grown cap (by omega) (Value.ownBlock (.slice (some ⟨g, 0, none⟩) n cap))
        exact ⟨_, _, hr, hgr.1, hgr.2, new _ _ _⟩

/-- 'append(x, y...)', x the call's own, y whatever reads as ys (m elements). -/
theorem wpl_append (ok : ElemOk P t e size bytes) (hgd : o.guard = none) (s x : Operand) (ho : o.op = .call { callee := .builtin .append, args := #[s, x], argTypes := #[t, t] })
    (B : Nat) {v : Value} {n : Nat} {xs : List Value} (hs : a.eval s = v) (hown : w.ownsRow B e size v n xs) {u : Value} (m : Nat) {ys : List Value} (hx : a.eval x = u) (hu : Rd w size u ys) (hm : ys.length = m * size)
    (h1 : ∀ y ∈ ys, y.oneCell' = true) (hl : (n + m) * bytes ≤ 140737488355328) (hl2 : n + m ≤ maxLen) (hB : B ≤ w.heap.size)
    (h : ∀ v' w', w'.ownsRow B e size v' (n + m) (xs ++ ys) → w.grownBy w' v.ownBlock → Moved w v v' → wpList P ops Q rest (a.put o.dst v') w') : wpList P ops Q (o :: rest) a w := by
  obtain ⟨v', w', hr, h2, h3, h4⟩ := run_append_exact (P := P) (w := w) o.type ok B hown m hu hm h1 hl hl2 hB
  refine wpList_plain hgd fun K hK => ?_
  unfold Oper.wp execOp
  simp only [ho, resolve, invoke, builtin, Sem.run_bind, Sem.run_pure, Result.andThen_ok, List.map_toArray, List.map_cons, List.map_nil, hs, hx, hr]
  exact hK _ _ (h v' w' h2 h3 h4)
end
theorem oneCell_ints (k : IntKind) (zs : List Int) : ∀ u ∈ zs.map (Value.int k), u.oneCell' = true := ints_oneCell k zs
/-- What 'buildSlice' has just made. -/
theorem rd_built (w : World) (e : TypeId) (size n : Nat) (cs : List Value) (h : cs.length = n * size) (hn : n ≤ maxLen) : Rd (w.alloc (.cells cs.toArray e)) size (.slice (some ⟨w.heap.size, 0, none⟩) n n) cs := by
  refine ⟨_, n, n, rfl, by simpa using h, Nat.le_refl _, hn, (fun e => by cases e), fun j x hx => ⟨w.heap.size, 0, rfl, ?_⟩⟩
  rw [cell_of_row (w.alloc (.cells cs.toArray e)) w.heap.size (0 + j) cs.toArray e (0, 0) (heap_alloc_new w _), Nat.zero_add]
  simpa using hx
theorem own_built (w : World) (e : TypeId) (size n : Nat) (cs : List Value) (h : cs.length = n * size) (hn : n ≤ maxLen) : (w.alloc (.cells cs.toArray e)).ownsRow w.heap.size e size (.slice (some ⟨w.heap.size, 0, none⟩) n n) n cs :=
  World.ownsRow_lit w cs.toArray n (Nat.le_refl _) hn (by simpa using h)
theorem own_new {b g n c : Nat} (h : (Value.slice (some ⟨b, 0, none⟩) n c).ownBlock = some g) : g = b := by
  have : b = g := by simpa [Value.ownBlock] using h
  exact this.symm
/-- A call that appends: what it hands back, and what it may have written. -/
def RetOnto (t : TypeId) (size : Nat) (B : Nat) (w : World) (v : Value) (n : Nat) (xs : List Value) (e : Ending) (w' : World) : Prop :=
  ∃ v', e = .returned v' ∧ w'.ownsRow B t size v' n xs ∧ w.grownBy w' v.ownBlock ∧ Moved w v v'
end Go.Proofs.Ytgbaaapneddcoaa
