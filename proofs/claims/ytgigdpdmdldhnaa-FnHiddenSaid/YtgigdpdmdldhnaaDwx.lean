/- The laws' draws: contracts that tell only bounds (the values may be any). -/
import Derived.Test.YtgigdpdmdldhnaaCln
import Derived.Test.YtgigdpdmdldhnaaPkt
import Derived.WalkKit
import Derived.ProofKit
import Derived.Deep.QuietTactic
import Derived.BigQuiet
import Derived.Outline
import Derived.WalkSpells
namespace Go.Proofs.Ytgigdpdmdldhnaa
open Go.ChangeShapes Go.WideShapes Go.ChangeAt Go.RowKit
set_option linter.unusedVariables false
set_option linter.unusedSimpArgs false
--%
def Bytes (zs : List Int) : Prop := ∀ x ∈ zs, 0 ≤ x ∧ x < 256
theorem wrap64_bd (x : Int) : -9223372036854775808 ≤ wrap64 x ∧ wrap64 x ≤ 9223372036854775807 := by unfold wrap64; omega
theorem ofInt64_m : (BitVec.ofInt 64 1073741823).toNat = 1073741823 := by decide
theorem andm_bd (y : Int) : 0 ≤ bits .and .i64 y 1073741823 ∧ bits .and .i64 y 1073741823 ≤ 1073741823 := by
  have hw : ∀ n : Nat, n ≤ 1073741823 → IntKind.i64.wrap (n : Int) = n := fun n hn => by rw [IntKind.wrap_i64]; omega
  show 0 ≤ IntKind.i64.wrap ((BitVec.ofInt 64 y &&& BitVec.ofInt 64 1073741823).toNat : Int) ∧ IntKind.i64.wrap ((BitVec.ofInt 64 y &&& BitVec.ofInt 64 1073741823).toNat : Int) ≤ 1073741823
  have h : (BitVec.ofInt 64 y &&& BitVec.ofInt 64 1073741823).toNat ≤ 1073741823 := by
    rw [BitVec.toNat_and, ofInt64_m]; exact Nat.and_le_right
  rw [hw _ h]; omega
theorem ofInt64_255 : (BitVec.ofInt 64 255).toNat = 255 := by decide
theorem and255_bd (y : Int) : 0 ≤ bits .and .i64 y 255 ∧ bits .and .i64 y 255 ≤ 255 := by
  have hw : ∀ n : Nat, n ≤ 255 → IntKind.i64.wrap (n : Int) = n := fun n hn => by rw [IntKind.wrap_i64]; omega
  show 0 ≤ IntKind.i64.wrap ((BitVec.ofInt 64 y &&& BitVec.ofInt 64 255).toNat : Int) ∧ IntKind.i64.wrap ((BitVec.ofInt 64 y &&& BitVec.ofInt 64 255).toNat : Int) ≤ 255
  have h : (BitVec.ofInt 64 y &&& BitVec.ofInt 64 255).toNat ≤ 255 := by
    rw [BitVec.toNat_and, ofInt64_255]; exact Nat.and_le_right
  rw [hw _ h]; omega
theorem RdB.keep {W W' : World} {p : Nat} {a : Option Addr} {c : Nat} {zs : List Int} (h : RdB W (.slice a zs.length c) zs) (u : Upd [p] W W') (hne : ∀ ad, a = some ad → 0 < zs.length → ad.block < p) :
    RdB W' (.slice a zs.length c) zs := by
  cases Nat.eq_zero_or_pos zs.length with
  | inl e =>
    obtain rfl : zs = [] := List.eq_nil_of_length_eq_zero e
    obtain ⟨a', n', c', e, h1, h2, h3, h4, h5⟩ := h
    exact ⟨a', n', c', e, h1, h2, h3, h4, fun j x hx => by simp at hx⟩
  | inr hp =>
    exact Rd.frame h (fun b hb hlt => u.block b hlt (by
      intro hm
      simp only [List.mem_cons, List.not_mem_nil, or_false] at hm
      subst hm
      cases a with
      | none => simp [Value.ownBlock] at hb
      | some ad => have := hne ad rfl hp; have hb : ad.block = b := (by simpa [Value.ownBlock] using hb); omega))
--% l01Byte 139
def I64 (x : Int) : Prop := -9223372036854775808 ≤ x ∧ x ≤ 9223372036854775807
/-- The cursor of a draw, at the block p. -/
def Cur (W : World) (p : Nat) : Prop := ∃ a c zs, ∃ i : Nat, ∃ h : Int, Box W p [.slice a zs.length c, .int .i64 i, .int .i64 h] ∧ RdB W (.slice a zs.length c) zs ∧ Bytes zs ∧ i ≤ zs.length ∧ zs.length ≤ 1048576 ∧ I64 h ∧ (∀ ad, a = some ad → 0 < zs.length → ad.block < p)
theorem l01Byte_any (w : World) (p : Nat) (hc : Cur w p) : Calls Try.prog 139 #[.pointer (some ⟨p, 0, none⟩)] w (fun e w' => ∃ x : Int, e = .returned (.int .i64 x) ∧ 0 ≤ x ∧ x ≤ 255 ∧ Cur w' p ∧ Upd [p] w w') := by
  obtain ⟨a, c, zs, i, h, hB, hR, hby, hi, hl, hh, hne⟩ := hc
  have ⟨q0, q1, q2⟩ := hB.three
  have qz := hB.2.2
  have ql := hB.1
  go_enter Try.func139, Try.ntmps139
  go_wp2_with fail
  generalize hh' : wrap64 (wrap64 (h * 6364136223846793005) + 1442695040888963407) = h'
  have H' : I64 h' := by subst hh'; unfold I64; exact wrap64_bd _
  clear hh'
  have B2 := hB.set 2 (.int .i64 h') (by simp)
  have U2 := Upd.setCell (p := ⟨p, 2, none⟩) (Upd.refl [p] w) (by simp) (.int .i64 h')
  clear q0 q1 q2 qz ql
  generalize World.setCell w ⟨p, 2, none⟩ (.int .i64 h') = W at *
  have B2 : Box W p [.slice a zs.length c, .int .i64 i, .int .i64 h'] := B2
  have ⟨q0, q1, q2⟩ := B2.three
  have qz := B2.2.2
  have ql := B2.1
  go_quiet (fail)
  obtain ⟨x0, hx0⟩ : ∃ x0, bits BinOp.and IntKind.i64 (bits BinOp.xor IntKind.i64 (h' / 8589934592) (h' / 35184372088832)) 255 = x0 := ⟨_, rfl⟩
  have hx0b : 0 ≤ x0 ∧ x0 ≤ 255 := hx0 ▸ and255_bd _
  rw [hx0]
  clear hx0
  have hR2 : RdB W (.slice a zs.length c) zs := RdB.keep hR U2 hne
  have HC : Hid (∀ W', Upd [p] W W' → ∀ i' : Nat, i' ≤ zs.length → Box W' p [.slice a zs.length c, .int .i64 i', .int .i64 h'] → Cur W' p ∧ Upd [p] w W') := Lib.hid (fun W' hu i' hi' hb' => by
    refine ⟨⟨a, c, zs, i', h', hb', ?_, hby, hi', hl, H', hne⟩, (U2.trans hu).mono (by simp)⟩
    exact RdB.keep hR2 hu hne)
  by_cases hlt : i < zs.length
  · obtain ⟨a', c', e, -, -, -, hcell⟩ := Rd.ints hR2
    simp only [Value.slice.injEq] at e
    obtain ⟨rfl, -, rfl⟩ := e
    obtain ⟨b1, o1, rfl, hc1⟩ := hcell i hlt
    have hx1 := hby zs[i] (List.getElem_mem _)
    have HB2 : Hid (Box W p [.slice (some ⟨b1, o1, none⟩) zs.length c, .int .i64 i, .int .i64 h']) := Lib.hid B2
    clear hcell hR2 hR hB B2 hby hne U2
    go_wp2
    go_quiet (fail)
    go_wp2
    go_quiet (fail)
    obtain ⟨x1, hx1'⟩ : ∃ x1, bits BinOp.and IntKind.i64 (x0 + zs[i]) 255 = x1 := ⟨_, rfl⟩
    have hx1b : 0 ≤ x1 ∧ x1 ≤ 255 := hx1' ▸ and255_bd _
    rw [hx1']
    clear hx1' q0 q1 q2 qz ql
    generalize hD : World.drewN (World.drewN (World.drewN W _) _) _ = W3
    have U3 : Hid (Upd [p] W W3) := Lib.hid (by rw [← hD]; exact ⟨rfl, rfl, rfl, Nat.le_refl _, fun _ _ _ => rfl⟩)
    have B3 : Hid (Box W3 p [.slice (some ⟨b1, o1, none⟩) zs.length c, .int .i64 i, .int .i64 h']) := Lib.hid (by rw [← hD]; exact HB2.out)
    clear hD
    have ⟨q0, q1, q2⟩ := B3.out.three
    have qz := B3.out.2.2
    have ql := B3.out.1
    go_wp2
    go_ret
    exact ⟨x1, rfl, hx1b.1, hx1b.2, HC.out _ (Upd.setCell (p := ⟨p, 1, none⟩) U3.out (by simp) _) (i + 1) (by omega) (B3.out.set 1 (.int .i64 (i + 1 : Nat)) (by simp))⟩
  · have HB2 : Hid (Box W p [.slice a zs.length c, .int .i64 i, .int .i64 h']) := Lib.hid B2
    clear hR2 hR hB B2 hby hne U2
    go_wp2
    go_quiet (fail)
    go_wp2
    go_ret
    exact ⟨x0, rfl, hx0b.1, hx0b.2, HC.out _ ⟨rfl, rfl, rfl, Nat.le_refl _, fun _ _ _ => rfl⟩ i hi HB2.out⟩
--% l01Below 119
/-- A draw below n. -/
def BelowN (n : Int) (w : World) (p : Nat) (e : Ending) (w' : World) : Prop := ∃ x : Int, e = .returned (.int .i64 x) ∧ 0 ≤ x ∧ (0 < n → x < n) ∧ (n ≤ 0 → x = 0) ∧ Cur w' p ∧ Upd [p] w w'
theorem Upd.same {p : Nat} {a b c : World} (u : Upd [p] a b) (v : Upd [p] b c) : Upd [p] a c := (u.trans v).mono (by simp)
theorem l01Below_any (w : World) (p : Nat) (n : Int) (hn : n ≤ 9223372036854775807) (hc : Cur w p) : Calls Try.prog 119 #[.pointer (some ⟨p, 0, none⟩), .int .i64 n] w (BelowN n w p) := by
  have HC := Lib.hid hc; clear hc
  by_cases h0 : n ≤ 0
  · go_enter Try.func119, Try.ntmps119
    go_wp2
    go_ret
    exact ⟨0, rfl, by omega, by omega, fun _ => rfl, HC.out, Upd.refl _ _⟩
  by_cases h1 : n ≤ 256
  · have hne : (n == 0) = false := by simp; omega
    go_enter Try.func119, Try.ntmps119
    go_wp2_with fail
    refine (l01Byte_any _ p HC.out).mono ?_
    rintro e w1 ⟨x, rfl, hx0, hx1, hC1, hU1⟩
    have C1 := Lib.hid hC1; have U1 := Lib.hid hU1; clear hC1 hU1
    go_wp2
    go_ret
    exact ⟨_, rfl, Int.emod_nonneg _ (by omega), fun h => Int.emod_lt_of_pos _ h, fun h => by omega, C1.out, U1.out⟩
  · have hne : (n == 0) = false := by simp; omega
    go_enter Try.func119, Try.ntmps119
    go_wp2_with fail
    refine (l01Byte_any _ p HC.out).mono ?_
    rintro e w1 ⟨x, rfl, hx0, hx1, hC1, hU1⟩
    have C1 := Lib.hid hC1; have U1 := Lib.hid hU1; clear hC1 hU1
    go_wp2_with fail
    refine (l01Byte_any _ p C1.out).mono ?_
    rintro e w2 ⟨y, rfl, hy0, hy1, hC2, hU2⟩
    have C2 := Lib.hid hC2; have U2 := Lib.hid (U1.out.same hU2); clear hC2 hU2
    go_wp2_with fail
    refine (l01Byte_any _ p C2.out).mono ?_
    rintro e w3 ⟨z, rfl, hz0, hz1, hC3, hU3⟩
    have C3 := Lib.hid hC3; have U3 := Lib.hid (U2.out.same hU3); clear hC3 hU3
    go_wp2_with fail
    refine (l01Byte_any _ p C3.out).mono ?_
    rintro e w4 ⟨u, rfl, hu0, hu1, hC4, hU4⟩
    have C4 := Lib.hid hC4; have U4 := Lib.hid (U3.out.same hU4); clear hC4 hU4
    go_wp2
    go_ret
    exact ⟨_, rfl, Int.emod_nonneg _ (by omega), fun h => Int.emod_lt_of_pos _ h, fun h => by omega, C4.out, U4.out⟩
--% l01New 85
/-- A new cursor. -/
def RetCur (w : World) (e : Ending) (w' : World) : Prop := ∃ p, e = .returned (.pointer (some ⟨p, 0, none⟩)) ∧ Cur w' p ∧ w.heap.size ≤ p ∧ Grow w w'
theorem Rd.lt_ {w : World} {b o n c : Nat} {zs : List Int} (h : RdB w (.slice (some ⟨b, o, none⟩) n c) zs) (hp : 0 < zs.length) : b < w.heap.size := by
  obtain ⟨a, c', e, -, -, -, hcell⟩ := Rd.ints h
  simp only [Value.slice.injEq] at e
  obtain ⟨rfl, -, rfl⟩ := e
  obtain ⟨b1, o1, e, hc1⟩ := hcell 0 hp
  simp only [Option.some.injEq, Addr.mk.injEq, and_true] at e
  obtain ⟨rfl, rfl⟩ := e
  exact cell_lt hc1
set_option maxRecDepth 20000 in
theorem l01New_any (w : World) (v : Value) (zs : List Int) (h : RdB w v zs) (hb : Bytes zs) (hm : zs.length ≤ 1048576) : Calls Try.prog 85 #[v] w (RetCur w) := by
  obtain ⟨a, c, rfl, hlc, hmx, hnn, hcell⟩ := Rd.ints h
  have HV := Lib.hid h; have HB : Hid (Bytes zs) := Lib.hid hb; have HC := Lib.hid hcell; have HN := Lib.hid hnn
  clear h hb hcell hnn
  unfold maxLen at hmx
  go_enter Try.func85, Try.ntmps85
  go_wp2
  go_loopw [3, 4] (fun q i wr => ∃ k : Nat, k ≤ zs.length ∧ i = .int .i64 k ∧ wr = w ∧ ∃ x : Int, q = .int .i64 x ∧ 0 ≤ x ∧ x ≤ 1073741823) (fun _ i _ => zs.length - (intOf i).toNat)
  case atStart => exact ⟨0, Nat.zero_le _, rfl, rfl, _, rfl, by omega, by omega⟩
  case round =>
    obtain ⟨k, hk, rfl, rfl, x, rfl, hx0, hx1⟩ := hrel
    have HE : Hid (RetCur wr (.returned (.pointer (some ⟨wr.heap.size, 0, none⟩))) (wr.alloc (.cells #[.slice a zs.length c, .int .i64 0, .int .i64 x] 133))) := Lib.hid (by
      refine ⟨_, rfl, ⟨a, c, zs, 0, x, Box.alloc wr [.slice a zs.length c, .int .i64 0, .int .i64 x] 133, HV.out.grow (Grow.alloc _ _), HB.out, Nat.zero_le _, hm, ⟨by omega, by omega⟩, ?_⟩, Nat.le_refl _, Grow.alloc _ _⟩
      rintro ad rfl hp
      obtain ⟨b1, o1, e, hc1⟩ := HC.out 0 hp
      simp only [Option.some.injEq] at e
      subst e
      exact cell_lt hc1)
    by_cases hlt : k < zs.length
    · by_cases h4 : k < 4000
      · obtain ⟨b1, o1, rfl, hc1⟩ := HC.out k hlt
        have hby := HB.out zs[k] (List.getElem_mem _)
        go_wp2
        go_roundw
        case rel =>
          have hb := andm_bd (x * 131 + zs[k] + 7)
          exact ⟨k + 1, by omega, by go_num, trivial, _, rfl, hb.1, hb.2⟩
        case measure => simp [intOf]; omega
      · go_wp2
        go_ret
        exact HE.out
    · go_wp2
      go_ret
      exact HE.out

--%
theorem Cur.upd {w w' : World} {p : Nat} {fp : List Nat} (h : Cur w p) (u : Upd fp w w') (hf : ∀ x ∈ fp, p < x) : Cur w' p := by
  obtain ⟨a, c, zs, i, x, hB, hR, hb, hi, hl, hh, hne⟩ := h
  refine ⟨a, c, zs, i, x, hB.upd u (fun hm => Nat.lt_irrefl _ (hf p hm)), ?_, hb, hi, hl, hh, hne⟩
  cases Nat.eq_zero_or_pos zs.length with
  | inl e =>
    obtain rfl : zs = [] := List.eq_nil_of_length_eq_zero e
    obtain ⟨a', n', c', e, h1, h2, h3, h4, h5⟩ := hR
    exact ⟨a', n', c', e, h1, h2, h3, h4, fun j x hx => by simp at hx⟩
  | inr hp =>
    exact Rd.frame hR (fun b hb hlt => u.block b hlt (by
      intro hm
      have h1 := hf b hm
      cases a with
      | none => simp [Value.ownBlock] at hb
      | some ad => have := hne ad rfl hp; have hb : ad.block = b := (by simpa [Value.ownBlock] using hb); omega))
theorem Cur.grow {w w' : World} {p : Nat} (h : Cur w p) (g : Grow w w') : Cur w' p := h.upd (g.upd []) (by simp)
theorem Cur.lt {w : World} {p : Nat} (h : Cur w p) : p < w.heap.size := by obtain ⟨_, _, _, _, _, hB, _⟩ := h; exact hB.1
theorem Upd.grow_ {fp : List Nat} {a b c : World} (u : Upd fp a b) (g : Grow b c) : Upd fp a c :=
  ⟨g.os.trans u.os, g.tape.trans u.tape, g.output.trans u.output, Nat.le_trans u.size g.size, fun k hk hn => (g.block k (Nat.lt_of_lt_of_le hk u.size)).trans (u.block k hk hn)⟩
theorem Upd.fresh_ {fp fq : List Nat} {a b c : World} (u : Upd fp a b) (v : Upd fq b c) (hf : ∀ x ∈ fq, a.heap.size ≤ x) : Upd fp a c :=
  (u.trans v).mono (fun x hx hlt => (List.mem_append.1 hx).elim id (fun h => absurd hlt (Nat.not_lt.2 (hf x h))))
theorem own_upd {w w' : World} {B : Nat} {e : TypeId} {size : Nat} {v : Value} {n : Nat} {xs : List Value} {p : Nat} (h : w.ownsRow B e size v n xs) (u : Upd [p] w w') (hp : p < B) : w'.ownsRow B e size v n xs := by
  obtain ⟨hl, h | ⟨g, cap, cur, rfl, hb, hg, r⟩⟩ := h
  · exact ⟨hl, .inl h⟩
  · refine ⟨hl, .inr ⟨g, cap, cur, rfl, hb, ?_, r⟩⟩
    rw [u.block g (Array.getElem?_eq_some_iff.1 hg).1 (by simp; omega)]
    exact hg
/-- A number of any kind. -/
def RawN (w : World) (p : Nat) (e : Ending) (w' : World) : Prop := ∃ x : Int, e = .returned (.int .i64 x) ∧ I64 x ∧ Cur w' p ∧ Upd [p] w w'
--% l01Pow 128
theorem l01Pow_any' (w : World) (n : Nat) (hn : n ≤ 100) : Calls Try.prog 128 #[.int .i64 n] w (fun e w' => ∃ x : Int, e = .returned (.int .i64 x) ∧ I64 x ∧ w = w') := by
  go_enter Try.func128, Try.ntmps128
  go_wp2
  go_loopw [3, 4] (fun q i wr => ∃ k : Nat, k ≤ n ∧ i = .int .i64 k ∧ wr = w ∧ ∃ x : Int, q = .int .i64 x ∧ I64 x) (fun _ i _ => n - (intOf i).toNat)
  case atStart => exact ⟨0, Nat.zero_le _, rfl, rfl, _, rfl, by unfold I64; omega⟩
  case round =>
    obtain ⟨k, hk, rfl, rfl, x, rfl, hx⟩ := hrel
    by_cases hlt : k < n
    · go_wp2
      go_roundw
      case rel => exact ⟨k + 1, by omega, by go_num, trivial, _, rfl, wrap64_bd _⟩
      case measure => simp [intOf]; omega
    · go_wp2
      go_ret
      exact ⟨x, rfl, hx, rfl⟩
theorem l01Pow_I (w : World) (n : Int) (h0 : 0 ≤ n) (hn : n ≤ 100) : Calls Try.prog 128 #[.int .i64 n] w (fun e w' => ∃ x : Int, e = .returned (.int .i64 x) ∧ I64 x ∧ w = w') := by
  obtain ⟨m, rfl⟩ := Int.eq_ofNat_of_zero_le h0
  exact l01Pow_any' w m (by omega)
--% l01Raw 126
set_option maxRecDepth 20000 in
theorem l01Raw_any (w : World) (p : Nat) (hc : Cur w p) : Calls Try.prog 126 #[.pointer (some ⟨p, 0, none⟩)] w (RawN w p) := by
  have HC := Lib.hid hc; clear hc
  go_enter Try.func126, Try.ntmps126
  go_wp2_with fail
  refine (l01Below_any _ p 12 (by decide) HC.out).mono ?_
  rintro e w1 ⟨x1, rfl, h1a, h1b, -, hC, hU⟩
  have h1b := h1b (by decide)
  have C1 := Lib.hid hC
  have U1 := Lib.hid hU; clear hC hU
  by_cases c1 : x1 < 5
  · go_wp2_with fail
    refine (l01Below_any _ p 12 (by decide) C1.out).mono ?_
    rintro e w2 ⟨x2, rfl, h2a, h2b, -, hC, hU⟩
    have h2b := h2b (by decide)
    have C2 := Lib.hid hC
    have U2 := Lib.hid (U1.out.same hU); clear hC hU
    go_wp2
    go_ret
    exact ⟨_, rfl, by unfold I64; omega, C2.out, U2.out⟩

  by_cases c5 : x1 = 5
  · subst c5
    go_wp2_with fail
    refine (l01Below_any _ p 256 (by decide) C1.out).mono ?_
    rintro e w2 ⟨x2, rfl, h2a, h2b, -, hC, hU⟩
    have h2b := h2b (by decide)
    have C2 := Lib.hid hC
    have U2 := Lib.hid (U1.out.same hU); clear hC hU
    go_wp2
    go_ret
    exact ⟨_, rfl, by unfold I64; omega, C2.out, U2.out⟩

  by_cases c6 : x1 = 6
  · subst c6
    go_wp2_with fail
    refine (l01Below_any _ p 2 (by decide) C1.out).mono ?_
    rintro e w2 ⟨x2, rfl, h2a, h2b, -, hC, hU⟩
    have h2b := h2b (by decide)
    have C2 := Lib.hid hC
    have U2 := Lib.hid (U1.out.same hU); clear hC hU
    go_wp2_with fail
    refine (l01Below_any _ p 3 (by decide) C2.out).mono ?_
    rintro e w3 ⟨x3, rfl, h3a, h3b, -, hC, hU⟩
    have h3b := h3b (by decide)
    have C3 := Lib.hid hC
    have U3 := Lib.hid (U2.out.same hU); clear hC hU
    go_wp2
    go_ret
    exact ⟨_, rfl, by unfold I64; omega, C3.out, U3.out⟩

  by_cases c7 : x1 = 7
  · subst c7
    go_wp2_with fail
    refine (l01Below_any _ p 3 (by decide) C1.out).mono ?_
    rintro e w2 ⟨x2, rfl, h2a, h2b, -, hC, hU⟩
    have h2b := h2b (by decide)
    have C2 := Lib.hid hC
    have U2 := Lib.hid (U1.out.same hU); clear hC hU
    go_wp2
    go_ret
    exact ⟨_, rfl, by unfold I64; omega, C2.out, U2.out⟩

  by_cases c8 : x1 = 8
  · subst c8
    go_wp2_with fail
    refine (l01Below_any _ p 2 (by decide) C1.out).mono ?_
    rintro e w2 ⟨x2, rfl, h2a, h2b, -, hC, hU⟩
    have h2b := h2b (by decide)
    have C2 := Lib.hid hC
    have U2 := Lib.hid (U1.out.same hU); clear hC hU
    go_wp2
    go_ret
    exact ⟨_, rfl, by unfold I64; omega, C2.out, U2.out⟩

  by_cases c9 : x1 = 9
  · subst c9
    go_wp2_with fail
    refine (l01Below_any _ p 2 (by decide) C1.out).mono ?_
    rintro e w2 ⟨x2, rfl, h2a, h2b, -, hC, hU⟩
    have h2b := h2b (by decide)
    have C2 := Lib.hid hC
    have U2 := Lib.hid (U1.out.same hU); clear hC hU
    go_wp2
    go_ret
    exact ⟨_, rfl, by unfold I64; omega, C2.out, U2.out⟩

  by_cases c10 : x1 = 10
  · subst c10
    go_wp2_with fail
    refine (l01Below_any _ p 6 (by decide) C1.out).mono ?_
    rintro e w2 ⟨x2, rfl, h2a, h2b, -, hC, hU⟩
    have h2b := h2b (by decide)
    have C2 := Lib.hid hC
    have U2 := Lib.hid (U1.out.same hU); clear hC hU
    go_wp2_with fail
    refine (l01Pow_I _ _ (by omega) (by omega)).mono ?_
    rintro e wp ⟨y, rfl, hy, rfl⟩
    go_wp2_with fail
    refine (l01Below_any _ p 2 (by decide) C2.out).mono ?_
    rintro e w3 ⟨x3, rfl, h3a, h3b, -, hC, hU⟩
    have h3b := h3b (by decide)
    have C3 := Lib.hid hC
    have U3 := Lib.hid (U2.out.same hU); clear hC hU
    go_wp2
    go_ret
    exact ⟨_, rfl, wrap64_bd _, C3.out, U3.out⟩

  have hk5 : (x1 == 5) = false := by simpa using c5
  have hk6 : (x1 == 6) = false := by simpa using c6
  have hk7 : (x1 == 7) = false := by simpa using c7
  have hk8 : (x1 == 8) = false := by simpa using c8
  have hk9 : (x1 == 9) = false := by simpa using c9
  have hk10 : (x1 == 10) = false := by simpa using c10
  go_wp2_with fail
  refine (l01Below_any _ p 65536 (by decide) C1.out).mono ?_
  rintro e w2 ⟨x2, rfl, h2a, h2b, -, hC, hU⟩
  have h2b := h2b (by decide)
  have C2 := Lib.hid hC
  have U2 := Lib.hid (U1.out.same hU); clear hC hU
  go_wp2_with fail
  refine (l01Below_any _ p 65536 (by decide) C2.out).mono ?_
  rintro e w3 ⟨x3, rfl, h3a, h3b, -, hC, hU⟩
  have h3b := h3b (by decide)
  have C3 := Lib.hid hC
  have U3 := Lib.hid (U2.out.same hU); clear hC hU
  have h1 := Int.mul_nonneg h2a h3a
  have h2 : x2 * x3 ≤ 65535 * 65535 := Int.mul_le_mul (by omega) (by omega) h3a (by decide)
  go_wp2
  go_ret
  exact ⟨_, rfl, (by have h1 := Int.mul_nonneg h2a h3a; have h2 : x2 * x3 ≤ 65535 * 65535 := Int.mul_le_mul (by omega) (by omega) h3a (by decide); unfold I64; omega), C3.out, U3.out⟩

--% l01Num6 154
set_option maxRecDepth 20000 in
theorem l01Num6_any (w : World) (p : Nat) (hc : Cur w p) : Calls Try.prog 154 #[.pointer (some ⟨p, 0, none⟩)] w (RawN w p) := by
  have HC := Lib.hid hc; clear hc
  go_enter Try.func154, Try.ntmps154
  go_wp2_with fail
  refine (l01Below_any _ p 8 (by decide) HC.out).mono ?_
  rintro e w1 ⟨x1, rfl, h1a, h1b, -, hC, hU⟩
  have h1b := h1b (by decide)
  have C1 := Lib.hid hC; have U1 := Lib.hid hU; clear hC hU
  by_cases c6 : x1 < 6
  · go_wp2_with fail
    refine (l01Below_any _ p 9 (by decide) C1.out).mono ?_
    rintro e w2 ⟨x2, rfl, h2a, h2b, -, hC, hU⟩
    have h2b := h2b (by decide)
    have C2 := Lib.hid hC; have U2 := Lib.hid (U1.out.same hU); clear hC hU
    go_wp2
    go_ret
    exact ⟨_, rfl, by unfold I64; omega, C2.out, U2.out⟩
  by_cases c7 : x1 = 6
  · subst c7
    go_wp2
    go_ret
    exact ⟨_, rfl, by unfold I64; omega, C1.out, U1.out⟩
  have hk : (x1 == 6) = false := by simpa using c7
  go_wp2_with fail
  refine (l01Below_any _ p 1000000 (by decide) C1.out).mono ?_
  rintro e w2 ⟨x2, rfl, h2a, h2b, -, hC, hU⟩
  have h2b := h2b (by decide)
  have C2 := Lib.hid hC; have U2 := Lib.hid (U1.out.same hU); clear hC hU
  go_wp2
  go_ret
  exact ⟨_, rfl, by unfold I64; omega, C2.out, U2.out⟩
--%
end Go.Proofs.Ytgigdpdmdldhnaa
