/- The draws of packets: contracts that tell only bounds in bounds (printed by gdkg.py). -/
import Derived.Test.YtcldfodnblkeiaaDi
import Derived.Test.YtcldfodnblkeiaaFk
import Derived.WalkKit
import Derived.ProofKit
import Derived.Deep.QuietTactic
import Derived.BigQuiet
import Derived.Outline
import Derived.WalkSpells
namespace Go.Proofs.Ytcldfodnblkeiaa
open Go.ChangeShapes Go.WideShapes Go.ChangeAt Go.RowKit
set_option linter.unusedVariables false
set_option linter.unusedSimpArgs false
--%
theorem Box.four' {W : World} {b : Nat} {c0 c1 c2 c3 : Value} (h : Box W b [c0, c1, c2, c3]) : W.cell? ⟨b, 0, none⟩ = some c0 ∧ W.cell? ⟨b, 1, none⟩ = some c1 ∧ W.cell? ⟨b, 2, none⟩ = some c2 ∧ W.cell? ⟨b, 3, none⟩ = some c3 := ⟨h.2.1 0 _ rfl, h.2.1 1 _ rfl, h.2.1 2 _ rfl, h.2.1 3 _ rfl⟩
/-- A number of 48 bits. -/
def RawM (w : World) (p : Nat) (e : Ending) (w' : World) : Prop := ∃ x : Int, e = .returned (.int .i64 x) ∧ (0 ≤ x ∧ x ≤ 281474976710655) ∧ Cur w' p ∧ Upd [p] w w'
def RetPkG (w : World) (p : Nat) (e : Ending) (w' : World) : Prop := ∃ v d fp, e = .returned v ∧ OwnP w' v d fp ∧ Fresh w fp ∧ Bytes d.body ∧ (0 ≤ d.dst ∧ d.dst ≤ 281474976710655) ∧ (0 ≤ d.src ∧ d.src ≤ 281474976710655) ∧ (-1 ≤ d.tag ∧ d.tag ≤ 4094) ∧ Cur w' p ∧ Upd [p] w w'
theorem PS.retPkG {w W : World} {p r b : Nat} {z cs : List Value} (h : PS w W p r b z cs) {sl : Value} {zs : List Int} {fp : List Nat} (O : OwnB W sl zs fp) (F : FA p r b fp)
    (hfr : Fresh w fp) (hb : Bytes zs) (hl : zs.length ≤ 1501) (t pr s dd : Int) (h1 : 0 ≤ t ∧ t ≤ 281474976710655) (h2 : 0 ≤ pr ∧ pr ≤ 281474976710655) (h3 : -1 ≤ s ∧ s ≤ 4094) (h4 : I64 dd) :
    ∀ W', Upd [r] W W' → RetPkG w p (.returned (.agg #[.int .i64 t, .int .i64 pr, .int .i64 s, .int .i64 dd, sl])) W' := by
  intro W' hu
  obtain ⟨k1, k2, k3, k4, k5, k6, k7, k8⟩ := h
  refine ⟨_, ⟨t, pr, s, dd, zs⟩, fp, rfl, ⟨_, rfl, O.upd hu (fun y hy hm => by have := F y hy; simp only [List.mem_cons, List.not_mem_nil, or_false] at hm; omega)⟩, hfr, hb, h1, h2, h3, k1.upd hu (by simp; omega), k4.fresh_ hu (by simp; omega)⟩
--% l01Num6 109
set_option maxRecDepth 20000 in
theorem l01Num6G_any (w : World) (p : Nat) (hc : Cur w p) : Calls Try.prog 109 #[.pointer (some ⟨p, 0, none⟩)] w (RawM w p) := by
  have HC := Lib.hid hc; clear hc
  go_enter Try.func109, Try.ntmps109
  go_wp2_with fail
  refine (l01Below_any _ p 8 (by decide) HC.out).mono ?_
  rintro e w1 ⟨x1, rfl, h1a, h1b, -, hC, hU⟩
  have h1b := h1b (by decide)
  have C1 := Lib.hid hC; have U1 := Lib.hid hU; clear hC hU
  by_cases c6 : x1 < 6
  · go_wp2_with fail
    refine (l01Below_any _ p 9 (by decide) C1.out).mono ?_
    rintro e w2 ⟨x2, rfl, h2a, h2b, -, hC, hU⟩
    have h2b := h2b (by decide)
    have C2 := Lib.hid hC; have U2 := Lib.hid (U1.out.same hU); clear hC hU
    go_wp2
    go_ret
    exact ⟨_, rfl, by omega, C2.out, U2.out⟩
  by_cases c7 : x1 = 6
  · subst c7
    go_wp2
    go_ret
    exact ⟨_, rfl, by omega, C1.out, U1.out⟩
  have hk : (x1 == 6) = false := by simpa using c7
  go_wp2_with fail
  refine (l01Below_any _ p 1000000 (by decide) C1.out).mono ?_
  rintro e w2 ⟨x2, rfl, h2a, h2b, -, hC, hU⟩
  have h2b := h2b (by decide)
  have C2 := Lib.hid hC; have U2 := Lib.hid (U1.out.same hU); clear hC hU
  go_wp2
  go_ret
  exact ⟨_, rfl, by omega, C2.out, U2.out⟩
--% l02PacketG 102
set_option maxRecDepth 20000 in
set_option maxHeartbeats 4000000 in
theorem l02PacketG_any (w : World) (p : Nat) (hc : Cur w p) : Calls Try.prog 102 #[.pointer (some ⟨p, 0, none⟩)] w (RetPkG w p) := by
  have HC := Lib.hid hc; clear hc
  go_enter Try.func102, Try.ntmps102
  go_wp2_with fail
  have CW := Lib.hid (HC.out.grow (Grow.alloc w (.cells #[.int .i64 0, .int .i64 0, .int .i64 0, .int .i64 0, .slice none 0 0] 27)))
  have BR := Lib.hid (Box.alloc w [.int .i64 0, .int .i64 0, .int .i64 0, .int .i64 0, .slice none 0 0] 27)
  have U0 := Lib.hid ((Grow.alloc w (.cells #[.int .i64 0, .int .i64 0, .int .i64 0, .int .i64 0, .slice none 0 0] 27)).upd [p])
  have PW : Hid (p < w.heap.size) := Lib.hid HC.out.lt
  generalize w.alloc (.cells #[.int .i64 0, .int .i64 0, .int .i64 0, .int .i64 0, .slice none 0 0] 27) = w2 at *
  obtain ⟨R, hR⟩ : ∃ R, w.heap.size = R := ⟨_, rfl⟩
  rw [hR] at BR ⊢
  have HRR := Lib.hid hR
  have hpR : p < R := by have := PW.out; omega
  clear hR
  refine (l01Num6G_any _ p CW.out).mono ?_
  rintro e wa ⟨xa, rfl, ha, hC, hU⟩
  have CA := Lib.hid hC; have UA := Lib.hid (U0.out.same hU); have BA := Lib.hid (BR.out.upd hU (by simp; omega)); have IA := Lib.hid ha
  clear hC hU ha
  go_wp2_with fail
  refine (l01Num6G_any _ p CA.out).mono ?_
  rintro e wb ⟨xb, rfl, hb, hC, hU⟩
  have UB := Lib.hid (UA.out.same hU); have BB := Lib.hid (BA.out.upd hU (by simp; omega)); have IB := Lib.hid hb
  have S3 : Hid (PS w (wb.alloc (.cells #[.int .i64 xa, .int .i64 xb, .int .i64 (-1), .int .i64 2048, .slice none 0 0] 27)) p R wb.heap.size [.int .i64 0, .int .i64 0, .int .i64 0, .int .i64 0, .slice none 0 0] [.int .i64 xa, .int .i64 xb, .int .i64 (-1), .int .i64 2048, .slice none 0 0]) := Lib.hid ⟨hC.grow (Grow.alloc _ _), BB.out.grow (Grow.alloc _ _), Box.alloc wb [.int .i64 xa, .int .i64 xb, .int .i64 (-1), .int .i64 2048, .slice none 0 0] 27, UB.out.grow_ (Grow.alloc _ _), Nat.le_of_eq HRR.out, Nat.ne_of_lt BB.out.1, PW.out, by have h1 := BB.out.1; have h2 := HRR.out; omega⟩
  clear hC hU hb
  have x3 := BB.out.1
  go_wp2_with fail
  generalize wb.alloc (.cells #[.int .i64 xa, .int .i64 xb, .int .i64 (-1), .int .i64 2048, .slice none 0 0] 27) = w4 at *
  generalize wb.heap.size = b at *
  clear x3
  refine (l01Below_any _ p 6 (by decide) S3.out.1).mono ?_
  rintro e w11 ⟨x11, rfl, h11a, h11b, -, hC, hU⟩
  have h11b := h11b (by decide)
  have S11 : Hid (PS w _ p R b [.int .i64 0, .int .i64 0, .int .i64 0, .int .i64 0, .slice none 0 0] [.int .i64 xa, .int .i64 xb, .int .i64 (-1), .int .i64 2048, .slice none 0 0]) := Lib.hid (S3.out.step hC hU)
  clear hC hU
  by_cases c0 : x11 = 0
  · subst c0
    have ⟨q0, q1, q2, q3, q4⟩ := S11.out.2.2.1.five; have qz := S11.out.2.2.1.2.2; have ql := S11.out.2.2.1.1
    have ⟨y0, y1, y2, y3, y4⟩ := S11.out.2.1.five; have yz := S11.out.2.1.2.2; have yl := S11.out.2.1.1
    have hne1 : ¬ b = R := by have := S11.out.2.2.2.2.2.1; omega
    have hne2 : ¬ R = b := by have := S11.out.2.2.2.2.2.1; omega
    go_wp2_with fail
    refine (l01Below_any _ p 4095 (by decide) S11.out.1).mono ?_
    rintro e w12 ⟨x12, rfl, h12a, h12b, -, hC, hU⟩
    have h12b := h12b (by decide)
    clear q0 q1 q2 q3 q4 qz ql y0 y1 y2 y3 y4 yz yl hne1 hne2
    have S12 : Hid (PS w _ p R b [.int .i64 0, .int .i64 0, .int .i64 0, .int .i64 0, .slice none 0 0] [.int .i64 xa, .int .i64 xb, .int .i64 (-1), .int .i64 2048, .slice none 0 0]) := Lib.hid (S11.out.step hC hU)
    clear hC hU
    have S13 : Hid (PS w (w12.setCell ⟨b, 2, none⟩ (.int .i64 x12)) p R b [.int .i64 0, .int .i64 0, .int .i64 0, .int .i64 0, .slice none 0 0] [.int .i64 xa, .int .i64 xb, .int .i64 x12, .int .i64 2048, .slice none 0 0]) := Lib.hid (S12.out.set 2 (.int .i64 x12) (by simp))
    have ⟨q0, q1, q2, q3, q4⟩ := S12.out.2.2.1.five; have qz := S12.out.2.2.1.2.2; have ql := S12.out.2.2.1.1
    have ⟨y0, y1, y2, y3, y4⟩ := S12.out.2.1.five; have yz := S12.out.2.1.2.2; have yl := S12.out.2.1.1
    have hne1 : ¬ b = R := by have := S12.out.2.2.2.2.2.1; omega
    have hne2 : ¬ R = b := by have := S12.out.2.2.2.2.2.1; omega
    go_wp2_with fail
    refine (l01Bytes_any _ p 40 (by decide) S13.out.1).mono ?_
    rintro e w14 ⟨v14, zs14, fp14, rfl, ho, hf, hzb, hzl, hC, hU⟩
    obtain ⟨a14, c14, rfl⟩ := own_shape ho.1
    have F14 : Hid (FA p R b fp14) := Lib.hid (fun x hx => by have h1 := Nat.lt_of_lt_of_le S13.out.2.2.1.1 (hf x hx); have h2 := Nat.lt_of_lt_of_le S13.out.1.lt (hf x hx); have h3 := Nat.lt_of_lt_of_le S13.out.2.1.1 (hf x hx); exact ⟨by omega, by omega, by omega⟩)
    have FR14 : Hid (Fresh w fp14) := Lib.hid (fun x hx => Nat.le_trans S13.out.2.2.2.1.size (hf x hx))
    have ZB14 := Lib.hid hzb
    have ZL14 : Hid (zs14.length ≤ 1481) := Lib.hid (by omega)
    have O14 := Lib.hid ho
    have S14 : Hid (PS w _ p R b [.int .i64 0, .int .i64 0, .int .i64 0, .int .i64 0, .slice none 0 0] [.int .i64 xa, .int .i64 xb, .int .i64 x12, .int .i64 2048, .slice none 0 0]) := Lib.hid (S13.out.step hC hU)
    clear hC hU ho hf hzb hzl
    clear q0 q1 q2 q3 q4 qz ql y0 y1 y2 y3 y4 yz yl hne1 hne2
    have S15 : Hid (PS w (w14.setCell ⟨b, 4, none⟩ (.slice a14 zs14.length c14)) p R b [.int .i64 0, .int .i64 0, .int .i64 0, .int .i64 0, .slice none 0 0] [.int .i64 xa, .int .i64 xb, .int .i64 x12, .int .i64 2048, .slice a14 zs14.length c14]) := Lib.hid (S14.out.set 4 (.slice a14 zs14.length c14) (by simp))
    have O15 : Hid (OwnB (w14.setCell ⟨b, 4, none⟩ (.slice a14 zs14.length c14)) _ _ _) := Lib.hid (S14.out.apart (W' := w14) O14.out F14.out (.slice a14 zs14.length c14))
    have ⟨q0, q1, q2, q3, q4⟩ := S14.out.2.2.1.five; have qz := S14.out.2.2.1.2.2; have ql := S14.out.2.2.1.1
    have ⟨y0, y1, y2, y3, y4⟩ := S14.out.2.1.five; have yz := S14.out.2.1.2.2; have yl := S14.out.2.1.1
    have hne1 : ¬ b = R := by have := S14.out.2.2.2.2.2.1; omega
    have hne2 : ¬ R = b := by have := S14.out.2.2.2.2.2.1; omega
    go_wp2_with fail
    refine (l01Below_any _ p 30 (by decide) S15.out.1).mono ?_
    rintro e w16 ⟨x16, rfl, h16a, h16b, -, hC, hU⟩
    have h16b := h16b (by decide)
    clear q0 q1 q2 q3 q4 qz ql y0 y1 y2 y3 y4 yz yl hne1 hne2
    have S16 : Hid (PS w _ p R b [.int .i64 0, .int .i64 0, .int .i64 0, .int .i64 0, .slice none 0 0] [.int .i64 xa, .int .i64 xb, .int .i64 x12, .int .i64 2048, .slice a14 zs14.length c14]) := Lib.hid (S15.out.step hC hU)
    have O16 := Lib.hid (S15.out.keep O15.out F14.out hU)
    clear hC hU
    by_cases kx16 : x16 = 0
    rotate_left
    · have hkx16 : (x16 == 0) = false := by simpa using kx16
      have ⟨q0, q1, q2, q3, q4⟩ := S16.out.2.2.1.five; have qz := S16.out.2.2.1.2.2; have ql := S16.out.2.2.1.1
      have ⟨y0, y1, y2, y3, y4⟩ := S16.out.2.1.five; have yz := S16.out.2.1.2.2; have yl := S16.out.2.1.1
      have hne1 : ¬ b = R := by have := S16.out.2.2.2.2.2.1; omega
      have hne2 : ¬ R = b := by have := S16.out.2.2.2.2.2.1; omega
      go_wp2
      clear q0 q1 q2 q3 q4 qz ql y0 y1 y2 y3 y4 yz yl hne1 hne2
      have ⟨q0, q1, q2, q3, q4⟩ := S16.out.2.2.1.five; have qz := S16.out.2.2.1.2.2; have ql := S16.out.2.2.1.1
      have ⟨y0, y1, y2, y3, y4⟩ := S16.out.2.1.five; have yz := S16.out.2.1.2.2; have yl := S16.out.2.1.1
      have hne1 : ¬ b = R := by have := S16.out.2.2.2.2.2.1; omega
      have hne2 : ¬ R = b := by have := S16.out.2.2.2.2.2.1; omega
      have HR := Lib.hid (S16.out.retPkG O16.out F14.out FR14.out ZB14.out (Nat.le_trans ZL14.out (by decide)) (xa) (xb) (x12) (2048) IA.out IB.out (by omega) (by unfold I64; omega))
      refine bodyPost_ret (v := .agg #[.int .i64 xa, .int .i64 xb, .int .i64 x12, .int .i64 2048, .slice a14 zs14.length c14]) ?_ rfl (HR.out _ ?_)
      · simp [results, Try.results102, go_sem, q0, q1, q2, q3, q4, qz, y0, y1, y2, y3, y4, yz, yl, hne1, hne2] <;> omega
      · ((repeat (first | (with_reducible refine Upd.setCell ?_ (by simp) _) | with_reducible exact Upd.refl _ _)))

    subst kx16
    have ⟨q0, q1, q2, q3, q4⟩ := S16.out.2.2.1.five; have qz := S16.out.2.2.1.2.2; have ql := S16.out.2.2.1.1
    have ⟨y0, y1, y2, y3, y4⟩ := S16.out.2.1.five; have yz := S16.out.2.1.2.2; have yl := S16.out.2.1.1
    have hne1 : ¬ b = R := by have := S16.out.2.2.2.2.2.1; omega
    have hne2 : ¬ R = b := by have := S16.out.2.2.2.2.2.1; omega
    go_wp2_with fail
    refine (l01Below_any _ p 2 (by decide) S16.out.1).mono ?_
    rintro e w17 ⟨x17, rfl, h17a, h17b, -, hC, hU⟩
    have h17b := h17b (by decide)
    clear q0 q1 q2 q3 q4 qz ql y0 y1 y2 y3 y4 yz yl hne1 hne2
    have S17 : Hid (PS w _ p R b [.int .i64 0, .int .i64 0, .int .i64 0, .int .i64 0, .slice none 0 0] [.int .i64 xa, .int .i64 xb, .int .i64 x12, .int .i64 2048, .slice a14 zs14.length c14]) := Lib.hid (S16.out.step hC hU)
    have O17 := Lib.hid (S16.out.keep O16.out F14.out hU)
    clear hC hU
    obtain ⟨m18, hm18⟩ : ∃ m : Nat, (1500 : Int) - x17 = m := ⟨((1500 : Int) - x17).toNat, by omega⟩
    have hmb18 : m18 ≤ 1500 := by omega
    obtain ⟨i0, hi, hz0, hz1, hz2⟩ := info_parts Try.infoU8
    have ⟨q0, q1, q2, q3, q4⟩ := S17.out.2.2.1.five; have qz := S17.out.2.2.1.2.2; have ql := S17.out.2.2.1.1
    have ⟨y0, y1, y2, y3, y4⟩ := S17.out.2.1.five; have yz := S17.out.2.1.2.2; have yl := S17.out.2.1.1
    have hne1 : ¬ b = R := by have := S17.out.2.2.2.2.2.1; omega
    have hne2 : ¬ R = b := by have := S17.out.2.2.2.2.2.1; omega
    go_wp2_with (at_make; refine wpList_make_full _ rfl _ _ 22 rfl w17.heap.size 5 i0 (.int .u8 0) 1 Try.underlying22 hi hz0 hz1 .i64 .i64 _ _ m18 rfl rfl rfl rfl (by rw [hz2]; omega) (by unfold maxLen; omega) (Nat.le_refl _) ?_; intro w18 hown hgr; have hgw := Grow.of_grown hgr; clear q0 q1 q2 q3 q4 qz ql y0 y1 y2 y3 y4 yz yl; have S18 : Hid (PS w w18 p R b [.int .i64 0, .int .i64 0, .int .i64 0, .int .i64 0, .slice none 0 0] [.int .i64 xa, .int .i64 xb, .int .i64 x12, .int .i64 2048, .slice a14 zs14.length c14]) := Lib.hid (S17.out.grow hgw); have ⟨q0, q1, q2, q3, q4⟩ := S18.out.2.2.1.five; have qz := S18.out.2.2.1.2.2; have ql := S18.out.2.2.1.1; have ⟨y0, y1, y2, y3, y4⟩ := S18.out.2.1.five; have yz := S18.out.2.1.2.2; have yl := S18.out.2.1.1)
    have O18 : Hid (OwnB w18 (.slice (some ⟨w17.heap.size, 0, none⟩) m18 m18) (List.replicate m18 0) [w17.heap.size]) := Lib.hid (by
      have ho : w18.ownsRow w17.heap.size 5 1 (.slice (some ⟨w17.heap.size, 0, none⟩) m18 m18) m18 ((List.replicate m18 (0 : Int)).map (Value.int .u8)) := by
        rw [List.map_replicate, ← toList_madeCells_one]
        simpa [Value.cells] using hown
      have e : (List.replicate m18 (0 : Int)).length = m18 := by simp
      have := (OwnR.of ho).1
      unfold OwnB
      rw [e]
      exact this)
    have FR18 : Hid (Fresh w [w17.heap.size]) := Lib.hid (fun x hx => by have h1 := S17.out.2.2.2.1.size; simp only [List.mem_cons, List.not_mem_nil, or_false] at hx; omega)
    have F18 : Hid (FA p R b [w17.heap.size]) := Lib.hid (fun x hx => by have h1 := S17.out.2.2.1.1; have h2 := S17.out.1.lt; have h3 := S17.out.2.1.1; simp only [List.mem_cons, List.not_mem_nil, or_false] at hx; exact ⟨by omega, by omega, by omega⟩)
    clear hown hgr hgw
    have S19 : Hid (PS w (w18.setCell ⟨b, 4, none⟩ (.slice (some ⟨w17.heap.size, 0, none⟩) m18 m18)) p R b [.int .i64 0, .int .i64 0, .int .i64 0, .int .i64 0, .slice none 0 0] [.int .i64 xa, .int .i64 xb, .int .i64 x12, .int .i64 2048, .slice (some ⟨w17.heap.size, 0, none⟩) m18 m18]) := Lib.hid (S18.out.set 4 (.slice (some ⟨w17.heap.size, 0, none⟩) m18 m18) (by simp))
    have O19 : Hid (OwnB (w18.setCell ⟨b, 4, none⟩ (.slice (some ⟨w17.heap.size, 0, none⟩) m18 m18)) _ _ _) := Lib.hid (S18.out.apart (W' := w18) O18.out F18.out (.slice (some ⟨w17.heap.size, 0, none⟩) m18 m18))
    clear q0 q1 q2 q3 q4 qz ql y0 y1 y2 y3 y4 yz yl hne1 hne2
    generalize (w18.setCell ⟨b, 4, none⟩ (.slice (some ⟨w17.heap.size, 0, none⟩) m18 m18)) = WV at *
    have ⟨q0, q1, q2, q3, q4⟩ := S19.out.2.2.1.five; have qz := S19.out.2.2.1.2.2; have ql := S19.out.2.2.1.1
    have ⟨y0, y1, y2, y3, y4⟩ := S19.out.2.1.five; have yz := S19.out.2.1.2.2; have yl := S19.out.2.1.1
    have hne1 : ¬ b = R := by have := S19.out.2.2.2.2.2.1; omega
    have hne2 : ¬ R = b := by have := S19.out.2.2.2.2.2.1; omega
    have HR := Lib.hid (S19.out.retPkG O19.out F18.out FR18.out (fun x hx => by have := List.eq_of_mem_replicate hx; omega) (by simp <;> omega) (xa) (xb) (x12) (2048) IA.out IB.out (by omega) (by unfold I64; omega))
    refine bodyPost_ret (v := .agg #[.int .i64 xa, .int .i64 xb, .int .i64 x12, .int .i64 2048, .slice (some ⟨w17.heap.size, 0, none⟩) m18 m18]) ?_ rfl (HR.out _ ?_)
    · simp [results, Try.results102, go_sem, q0, q1, q2, q3, q4, qz, y0, y1, y2, y3, y4, yz, yl, hne1, hne2] <;> omega
    · ((repeat (first | (with_reducible refine Upd.setCell ?_ (by simp) _) | with_reducible exact Upd.refl _ _)))

  by_cases c1 : x11 = 1
  · subst c1
    have ⟨q0, q1, q2, q3, q4⟩ := S11.out.2.2.1.five; have qz := S11.out.2.2.1.2.2; have ql := S11.out.2.2.1.1
    have ⟨y0, y1, y2, y3, y4⟩ := S11.out.2.1.five; have yz := S11.out.2.1.2.2; have yl := S11.out.2.1.1
    have hne1 : ¬ b = R := by have := S11.out.2.2.2.2.2.1; omega
    have hne2 : ¬ R = b := by have := S11.out.2.2.2.2.2.1; omega
    go_wp2_with fail
    refine (l01Below_any _ p 30000 (by decide) S11.out.1).mono ?_
    rintro e w20 ⟨x20, rfl, h20a, h20b, -, hC, hU⟩
    have h20b := h20b (by decide)
    clear q0 q1 q2 q3 q4 qz ql y0 y1 y2 y3 y4 yz yl hne1 hne2
    have S20 : Hid (PS w _ p R b [.int .i64 0, .int .i64 0, .int .i64 0, .int .i64 0, .slice none 0 0] [.int .i64 xa, .int .i64 xb, .int .i64 (-1), .int .i64 2048, .slice none 0 0]) := Lib.hid (S11.out.step hC hU)
    clear hC hU
    have S21 : Hid (PS w (w20.setCell ⟨b, 3, none⟩ (.int .i64 (1536 + x20))) p R b [.int .i64 0, .int .i64 0, .int .i64 0, .int .i64 0, .slice none 0 0] [.int .i64 xa, .int .i64 xb, .int .i64 (-1), .int .i64 (1536 + x20), .slice none 0 0]) := Lib.hid (S20.out.set 3 (.int .i64 (1536 + x20)) (by simp))
    have ⟨q0, q1, q2, q3, q4⟩ := S20.out.2.2.1.five; have qz := S20.out.2.2.1.2.2; have ql := S20.out.2.2.1.1
    have ⟨y0, y1, y2, y3, y4⟩ := S20.out.2.1.five; have yz := S20.out.2.1.2.2; have yl := S20.out.2.1.1
    have hne1 : ¬ b = R := by have := S20.out.2.2.2.2.2.1; omega
    have hne2 : ¬ R = b := by have := S20.out.2.2.2.2.2.1; omega
    go_wp2_with fail
    refine (l01Bytes_any _ p 40 (by decide) S21.out.1).mono ?_
    rintro e w22 ⟨v22, zs22, fp22, rfl, ho, hf, hzb, hzl, hC, hU⟩
    obtain ⟨a22, c22, rfl⟩ := own_shape ho.1
    have F22 : Hid (FA p R b fp22) := Lib.hid (fun x hx => by have h1 := Nat.lt_of_lt_of_le S21.out.2.2.1.1 (hf x hx); have h2 := Nat.lt_of_lt_of_le S21.out.1.lt (hf x hx); have h3 := Nat.lt_of_lt_of_le S21.out.2.1.1 (hf x hx); exact ⟨by omega, by omega, by omega⟩)
    have FR22 : Hid (Fresh w fp22) := Lib.hid (fun x hx => Nat.le_trans S21.out.2.2.2.1.size (hf x hx))
    have ZB22 := Lib.hid hzb
    have ZL22 : Hid (zs22.length ≤ 1481) := Lib.hid (by omega)
    have O22 := Lib.hid ho
    have S22 : Hid (PS w _ p R b [.int .i64 0, .int .i64 0, .int .i64 0, .int .i64 0, .slice none 0 0] [.int .i64 xa, .int .i64 xb, .int .i64 (-1), .int .i64 (1536 + x20), .slice none 0 0]) := Lib.hid (S21.out.step hC hU)
    clear hC hU ho hf hzb hzl
    clear q0 q1 q2 q3 q4 qz ql y0 y1 y2 y3 y4 yz yl hne1 hne2
    have S23 : Hid (PS w (w22.setCell ⟨b, 4, none⟩ (.slice a22 zs22.length c22)) p R b [.int .i64 0, .int .i64 0, .int .i64 0, .int .i64 0, .slice none 0 0] [.int .i64 xa, .int .i64 xb, .int .i64 (-1), .int .i64 (1536 + x20), .slice a22 zs22.length c22]) := Lib.hid (S22.out.set 4 (.slice a22 zs22.length c22) (by simp))
    have O23 : Hid (OwnB (w22.setCell ⟨b, 4, none⟩ (.slice a22 zs22.length c22)) _ _ _) := Lib.hid (S22.out.apart (W' := w22) O22.out F22.out (.slice a22 zs22.length c22))
    have ⟨q0, q1, q2, q3, q4⟩ := S22.out.2.2.1.five; have qz := S22.out.2.2.1.2.2; have ql := S22.out.2.2.1.1
    have ⟨y0, y1, y2, y3, y4⟩ := S22.out.2.1.five; have yz := S22.out.2.1.2.2; have yl := S22.out.2.1.1
    have hne1 : ¬ b = R := by have := S22.out.2.2.2.2.2.1; omega
    have hne2 : ¬ R = b := by have := S22.out.2.2.2.2.2.1; omega
    go_wp2_with fail
    refine (l01Below_any _ p 30 (by decide) S23.out.1).mono ?_
    rintro e w24 ⟨x24, rfl, h24a, h24b, -, hC, hU⟩
    have h24b := h24b (by decide)
    clear q0 q1 q2 q3 q4 qz ql y0 y1 y2 y3 y4 yz yl hne1 hne2
    have S24 : Hid (PS w _ p R b [.int .i64 0, .int .i64 0, .int .i64 0, .int .i64 0, .slice none 0 0] [.int .i64 xa, .int .i64 xb, .int .i64 (-1), .int .i64 (1536 + x20), .slice a22 zs22.length c22]) := Lib.hid (S23.out.step hC hU)
    have O24 := Lib.hid (S23.out.keep O23.out F22.out hU)
    clear hC hU
    by_cases kx24 : x24 = 0
    rotate_left
    · have hkx24 : (x24 == 0) = false := by simpa using kx24
      have ⟨q0, q1, q2, q3, q4⟩ := S24.out.2.2.1.five; have qz := S24.out.2.2.1.2.2; have ql := S24.out.2.2.1.1
      have ⟨y0, y1, y2, y3, y4⟩ := S24.out.2.1.five; have yz := S24.out.2.1.2.2; have yl := S24.out.2.1.1
      have hne1 : ¬ b = R := by have := S24.out.2.2.2.2.2.1; omega
      have hne2 : ¬ R = b := by have := S24.out.2.2.2.2.2.1; omega
      go_wp2
      clear q0 q1 q2 q3 q4 qz ql y0 y1 y2 y3 y4 yz yl hne1 hne2
      have ⟨q0, q1, q2, q3, q4⟩ := S24.out.2.2.1.five; have qz := S24.out.2.2.1.2.2; have ql := S24.out.2.2.1.1
      have ⟨y0, y1, y2, y3, y4⟩ := S24.out.2.1.five; have yz := S24.out.2.1.2.2; have yl := S24.out.2.1.1
      have hne1 : ¬ b = R := by have := S24.out.2.2.2.2.2.1; omega
      have hne2 : ¬ R = b := by have := S24.out.2.2.2.2.2.1; omega
      have HR := Lib.hid (S24.out.retPkG O24.out F22.out FR22.out ZB22.out (Nat.le_trans ZL22.out (by decide)) (xa) (xb) ((-1)) (1536 + x20) IA.out IB.out (by omega) (by unfold I64; omega))
      refine bodyPost_ret (v := .agg #[.int .i64 xa, .int .i64 xb, .int .i64 (-1), .int .i64 (1536 + x20), .slice a22 zs22.length c22]) ?_ rfl (HR.out _ ?_)
      · simp [results, Try.results102, go_sem, q0, q1, q2, q3, q4, qz, y0, y1, y2, y3, y4, yz, yl, hne1, hne2] <;> omega
      · ((repeat (first | (with_reducible refine Upd.setCell ?_ (by simp) _) | with_reducible exact Upd.refl _ _)))

    subst kx24
    have ⟨q0, q1, q2, q3, q4⟩ := S24.out.2.2.1.five; have qz := S24.out.2.2.1.2.2; have ql := S24.out.2.2.1.1
    have ⟨y0, y1, y2, y3, y4⟩ := S24.out.2.1.five; have yz := S24.out.2.1.2.2; have yl := S24.out.2.1.1
    have hne1 : ¬ b = R := by have := S24.out.2.2.2.2.2.1; omega
    have hne2 : ¬ R = b := by have := S24.out.2.2.2.2.2.1; omega
    go_wp2_with fail
    refine (l01Below_any _ p 2 (by decide) S24.out.1).mono ?_
    rintro e w25 ⟨x25, rfl, h25a, h25b, -, hC, hU⟩
    have h25b := h25b (by decide)
    clear q0 q1 q2 q3 q4 qz ql y0 y1 y2 y3 y4 yz yl hne1 hne2
    have S25 : Hid (PS w _ p R b [.int .i64 0, .int .i64 0, .int .i64 0, .int .i64 0, .slice none 0 0] [.int .i64 xa, .int .i64 xb, .int .i64 (-1), .int .i64 (1536 + x20), .slice a22 zs22.length c22]) := Lib.hid (S24.out.step hC hU)
    have O25 := Lib.hid (S24.out.keep O24.out F22.out hU)
    clear hC hU
    obtain ⟨m26, hm26⟩ : ∃ m : Nat, (1500 : Int) - x25 = m := ⟨((1500 : Int) - x25).toNat, by omega⟩
    have hmb26 : m26 ≤ 1500 := by omega
    obtain ⟨i0, hi, hz0, hz1, hz2⟩ := info_parts Try.infoU8
    have ⟨q0, q1, q2, q3, q4⟩ := S25.out.2.2.1.five; have qz := S25.out.2.2.1.2.2; have ql := S25.out.2.2.1.1
    have ⟨y0, y1, y2, y3, y4⟩ := S25.out.2.1.five; have yz := S25.out.2.1.2.2; have yl := S25.out.2.1.1
    have hne1 : ¬ b = R := by have := S25.out.2.2.2.2.2.1; omega
    have hne2 : ¬ R = b := by have := S25.out.2.2.2.2.2.1; omega
    go_wp2_with (at_make; refine wpList_make_full _ rfl _ _ 22 rfl w25.heap.size 5 i0 (.int .u8 0) 1 Try.underlying22 hi hz0 hz1 .i64 .i64 _ _ m26 rfl rfl rfl rfl (by rw [hz2]; omega) (by unfold maxLen; omega) (Nat.le_refl _) ?_; intro w26 hown hgr; have hgw := Grow.of_grown hgr; clear q0 q1 q2 q3 q4 qz ql y0 y1 y2 y3 y4 yz yl; have S26 : Hid (PS w w26 p R b [.int .i64 0, .int .i64 0, .int .i64 0, .int .i64 0, .slice none 0 0] [.int .i64 xa, .int .i64 xb, .int .i64 (-1), .int .i64 (1536 + x20), .slice a22 zs22.length c22]) := Lib.hid (S25.out.grow hgw); have ⟨q0, q1, q2, q3, q4⟩ := S26.out.2.2.1.five; have qz := S26.out.2.2.1.2.2; have ql := S26.out.2.2.1.1; have ⟨y0, y1, y2, y3, y4⟩ := S26.out.2.1.five; have yz := S26.out.2.1.2.2; have yl := S26.out.2.1.1)
    have O26 : Hid (OwnB w26 (.slice (some ⟨w25.heap.size, 0, none⟩) m26 m26) (List.replicate m26 0) [w25.heap.size]) := Lib.hid (by
      have ho : w26.ownsRow w25.heap.size 5 1 (.slice (some ⟨w25.heap.size, 0, none⟩) m26 m26) m26 ((List.replicate m26 (0 : Int)).map (Value.int .u8)) := by
        rw [List.map_replicate, ← toList_madeCells_one]
        simpa [Value.cells] using hown
      have e : (List.replicate m26 (0 : Int)).length = m26 := by simp
      have := (OwnR.of ho).1
      unfold OwnB
      rw [e]
      exact this)
    have FR26 : Hid (Fresh w [w25.heap.size]) := Lib.hid (fun x hx => by have h1 := S25.out.2.2.2.1.size; simp only [List.mem_cons, List.not_mem_nil, or_false] at hx; omega)
    have F26 : Hid (FA p R b [w25.heap.size]) := Lib.hid (fun x hx => by have h1 := S25.out.2.2.1.1; have h2 := S25.out.1.lt; have h3 := S25.out.2.1.1; simp only [List.mem_cons, List.not_mem_nil, or_false] at hx; exact ⟨by omega, by omega, by omega⟩)
    clear hown hgr hgw
    have S27 : Hid (PS w (w26.setCell ⟨b, 4, none⟩ (.slice (some ⟨w25.heap.size, 0, none⟩) m26 m26)) p R b [.int .i64 0, .int .i64 0, .int .i64 0, .int .i64 0, .slice none 0 0] [.int .i64 xa, .int .i64 xb, .int .i64 (-1), .int .i64 (1536 + x20), .slice (some ⟨w25.heap.size, 0, none⟩) m26 m26]) := Lib.hid (S26.out.set 4 (.slice (some ⟨w25.heap.size, 0, none⟩) m26 m26) (by simp))
    have O27 : Hid (OwnB (w26.setCell ⟨b, 4, none⟩ (.slice (some ⟨w25.heap.size, 0, none⟩) m26 m26)) _ _ _) := Lib.hid (S26.out.apart (W' := w26) O26.out F26.out (.slice (some ⟨w25.heap.size, 0, none⟩) m26 m26))
    clear q0 q1 q2 q3 q4 qz ql y0 y1 y2 y3 y4 yz yl hne1 hne2
    generalize (w26.setCell ⟨b, 4, none⟩ (.slice (some ⟨w25.heap.size, 0, none⟩) m26 m26)) = WV at *
    have ⟨q0, q1, q2, q3, q4⟩ := S27.out.2.2.1.five; have qz := S27.out.2.2.1.2.2; have ql := S27.out.2.2.1.1
    have ⟨y0, y1, y2, y3, y4⟩ := S27.out.2.1.five; have yz := S27.out.2.1.2.2; have yl := S27.out.2.1.1
    have hne1 : ¬ b = R := by have := S27.out.2.2.2.2.2.1; omega
    have hne2 : ¬ R = b := by have := S27.out.2.2.2.2.2.1; omega
    have HR := Lib.hid (S27.out.retPkG O27.out F26.out FR26.out (fun x hx => by have := List.eq_of_mem_replicate hx; omega) (by simp <;> omega) (xa) (xb) ((-1)) (1536 + x20) IA.out IB.out (by omega) (by unfold I64; omega))
    refine bodyPost_ret (v := .agg #[.int .i64 xa, .int .i64 xb, .int .i64 (-1), .int .i64 (1536 + x20), .slice (some ⟨w25.heap.size, 0, none⟩) m26 m26]) ?_ rfl (HR.out _ ?_)
    · simp [results, Try.results102, go_sem, q0, q1, q2, q3, q4, qz, y0, y1, y2, y3, y4, yz, yl, hne1, hne2] <;> omega
    · ((repeat (first | (with_reducible refine Upd.setCell ?_ (by simp) _) | with_reducible exact Upd.refl _ _)))

  by_cases c2 : x11 = 2
  · subst c2
    have S28 : Hid (PS w (w11.setCell ⟨b, 3, none⟩ (.int .i64 65535)) p R b [.int .i64 0, .int .i64 0, .int .i64 0, .int .i64 0, .slice none 0 0] [.int .i64 xa, .int .i64 xb, .int .i64 (-1), .int .i64 65535, .slice none 0 0]) := Lib.hid (S11.out.set 3 (.int .i64 65535) (by simp))
    have S29 : Hid (PS w ((w11.setCell ⟨b, 3, none⟩ (.int .i64 65535)).alloc (.cells #[.int .i64 0, .int .i64 4094] 3)) p R b [.int .i64 0, .int .i64 0, .int .i64 0, .int .i64 0, .slice none 0 0] [.int .i64 xa, .int .i64 xb, .int .i64 (-1), .int .i64 65535, .slice none 0 0]) := Lib.hid (S28.out.grow (Grow.alloc _ _))
    have L29 := Lib.hid ((Box.alloc (w11.setCell ⟨b, 3, none⟩ (.int .i64 65535)) [.int .i64 0, .int .i64 4094] 3).at_ (b' := w11.heap.size) (by simp only [size_set]))
    have ⟨q0, q1, q2, q3, q4⟩ := S11.out.2.2.1.five; have qz := S11.out.2.2.1.2.2; have ql := S11.out.2.2.1.1
    have ⟨y0, y1, y2, y3, y4⟩ := S11.out.2.1.five; have yz := S11.out.2.1.2.2; have yl := S11.out.2.1.1
    have hne1 : ¬ b = R := by have := S11.out.2.2.2.2.2.1; omega
    have hne2 : ¬ R = b := by have := S11.out.2.2.2.2.2.1; omega
    go_wp2_with fail
    refine (l01Below_any _ p 2 (by decide) S29.out.1).mono ?_
    rintro e w30 ⟨x30, rfl, h30a, h30b, -, hC, hU⟩
    have h30b := h30b (by decide)
    clear q0 q1 q2 q3 q4 qz ql y0 y1 y2 y3 y4 yz yl hne1 hne2
    have S30 : Hid (PS w _ p R b [.int .i64 0, .int .i64 0, .int .i64 0, .int .i64 0, .slice none 0 0] [.int .i64 xa, .int .i64 xb, .int .i64 (-1), .int .i64 65535, .slice none 0 0]) := Lib.hid (S29.out.step hC hU)
    have M29 := Lib.hid (L29.out.upd hU (by have := S11.out.1.lt; simp; omega))
    clear hC hU
    have ⟨l0, l1⟩ := M29.out.two
    obtain kx30 | kx30 : x30 = 0 ∨ x30 = 1 := by omega
    · subst kx30
      have S31 : Hid (PS w (w30.setCell ⟨b, 2, none⟩ (.int .i64 0)) p R b [.int .i64 0, .int .i64 0, .int .i64 0, .int .i64 0, .slice none 0 0] [.int .i64 xa, .int .i64 xb, .int .i64 0, .int .i64 65535, .slice none 0 0]) := Lib.hid (S30.out.set 2 (.int .i64 0) (by simp))
      have ⟨q0, q1, q2, q3, q4⟩ := S30.out.2.2.1.five; have qz := S30.out.2.2.1.2.2; have ql := S30.out.2.2.1.1
      have ⟨y0, y1, y2, y3, y4⟩ := S30.out.2.1.five; have yz := S30.out.2.1.2.2; have yl := S30.out.2.1.1
      have hne1 : ¬ b = R := by have := S30.out.2.2.2.2.2.1; omega
      have hne2 : ¬ R = b := by have := S30.out.2.2.2.2.2.1; omega
      go_wp2_with fail
      refine (l01Bytes_any _ p 40 (by decide) S31.out.1).mono ?_
      rintro e w32 ⟨v32, zs32, fp32, rfl, ho, hf, hzb, hzl, hC, hU⟩
      obtain ⟨a32, c32, rfl⟩ := own_shape ho.1
      have F32 : Hid (FA p R b fp32) := Lib.hid (fun x hx => by have h1 := Nat.lt_of_lt_of_le S31.out.2.2.1.1 (hf x hx); have h2 := Nat.lt_of_lt_of_le S31.out.1.lt (hf x hx); have h3 := Nat.lt_of_lt_of_le S31.out.2.1.1 (hf x hx); exact ⟨by omega, by omega, by omega⟩)
      have FR32 : Hid (Fresh w fp32) := Lib.hid (fun x hx => Nat.le_trans S31.out.2.2.2.1.size (hf x hx))
      have ZB32 := Lib.hid hzb
      have ZL32 : Hid (zs32.length ≤ 1481) := Lib.hid (by omega)
      have O32 := Lib.hid ho
      have S32 : Hid (PS w _ p R b [.int .i64 0, .int .i64 0, .int .i64 0, .int .i64 0, .slice none 0 0] [.int .i64 xa, .int .i64 xb, .int .i64 0, .int .i64 65535, .slice none 0 0]) := Lib.hid (S31.out.step hC hU)
      clear hC hU ho hf hzb hzl
      clear q0 q1 q2 q3 q4 qz ql y0 y1 y2 y3 y4 yz yl hne1 hne2
      have S33 : Hid (PS w (w32.setCell ⟨b, 4, none⟩ (.slice a32 zs32.length c32)) p R b [.int .i64 0, .int .i64 0, .int .i64 0, .int .i64 0, .slice none 0 0] [.int .i64 xa, .int .i64 xb, .int .i64 0, .int .i64 65535, .slice a32 zs32.length c32]) := Lib.hid (S32.out.set 4 (.slice a32 zs32.length c32) (by simp))
      have O33 : Hid (OwnB (w32.setCell ⟨b, 4, none⟩ (.slice a32 zs32.length c32)) _ _ _) := Lib.hid (S32.out.apart (W' := w32) O32.out F32.out (.slice a32 zs32.length c32))
      have ⟨q0, q1, q2, q3, q4⟩ := S32.out.2.2.1.five; have qz := S32.out.2.2.1.2.2; have ql := S32.out.2.2.1.1
      have ⟨y0, y1, y2, y3, y4⟩ := S32.out.2.1.five; have yz := S32.out.2.1.2.2; have yl := S32.out.2.1.1
      have hne1 : ¬ b = R := by have := S32.out.2.2.2.2.2.1; omega
      have hne2 : ¬ R = b := by have := S32.out.2.2.2.2.2.1; omega
      go_wp2_with fail
      refine (l01Below_any _ p 30 (by decide) S33.out.1).mono ?_
      rintro e w34 ⟨x34, rfl, h34a, h34b, -, hC, hU⟩
      have h34b := h34b (by decide)
      clear q0 q1 q2 q3 q4 qz ql y0 y1 y2 y3 y4 yz yl hne1 hne2
      have S34 : Hid (PS w _ p R b [.int .i64 0, .int .i64 0, .int .i64 0, .int .i64 0, .slice none 0 0] [.int .i64 xa, .int .i64 xb, .int .i64 0, .int .i64 65535, .slice a32 zs32.length c32]) := Lib.hid (S33.out.step hC hU)
      have O34 := Lib.hid (S33.out.keep O33.out F32.out hU)
      clear hC hU
      by_cases kx34 : x34 = 0
      rotate_left
      · have hkx34 : (x34 == 0) = false := by simpa using kx34
        have ⟨q0, q1, q2, q3, q4⟩ := S34.out.2.2.1.five; have qz := S34.out.2.2.1.2.2; have ql := S34.out.2.2.1.1
        have ⟨y0, y1, y2, y3, y4⟩ := S34.out.2.1.five; have yz := S34.out.2.1.2.2; have yl := S34.out.2.1.1
        have hne1 : ¬ b = R := by have := S34.out.2.2.2.2.2.1; omega
        have hne2 : ¬ R = b := by have := S34.out.2.2.2.2.2.1; omega
        go_wp2
        clear q0 q1 q2 q3 q4 qz ql y0 y1 y2 y3 y4 yz yl hne1 hne2
        have ⟨q0, q1, q2, q3, q4⟩ := S34.out.2.2.1.five; have qz := S34.out.2.2.1.2.2; have ql := S34.out.2.2.1.1
        have ⟨y0, y1, y2, y3, y4⟩ := S34.out.2.1.five; have yz := S34.out.2.1.2.2; have yl := S34.out.2.1.1
        have hne1 : ¬ b = R := by have := S34.out.2.2.2.2.2.1; omega
        have hne2 : ¬ R = b := by have := S34.out.2.2.2.2.2.1; omega
        have HR := Lib.hid (S34.out.retPkG O34.out F32.out FR32.out ZB32.out (Nat.le_trans ZL32.out (by decide)) (xa) (xb) (0) (65535) IA.out IB.out (by omega) (by unfold I64; omega))
        refine bodyPost_ret (v := .agg #[.int .i64 xa, .int .i64 xb, .int .i64 0, .int .i64 65535, .slice a32 zs32.length c32]) ?_ rfl (HR.out _ ?_)
        · simp [results, Try.results102, go_sem, q0, q1, q2, q3, q4, qz, y0, y1, y2, y3, y4, yz, yl, hne1, hne2] <;> omega
        · ((repeat (first | (with_reducible refine Upd.setCell ?_ (by simp) _) | with_reducible exact Upd.refl _ _)))

      subst kx34
      have ⟨q0, q1, q2, q3, q4⟩ := S34.out.2.2.1.five; have qz := S34.out.2.2.1.2.2; have ql := S34.out.2.2.1.1
      have ⟨y0, y1, y2, y3, y4⟩ := S34.out.2.1.five; have yz := S34.out.2.1.2.2; have yl := S34.out.2.1.1
      have hne1 : ¬ b = R := by have := S34.out.2.2.2.2.2.1; omega
      have hne2 : ¬ R = b := by have := S34.out.2.2.2.2.2.1; omega
      go_wp2_with fail
      refine (l01Below_any _ p 2 (by decide) S34.out.1).mono ?_
      rintro e w35 ⟨x35, rfl, h35a, h35b, -, hC, hU⟩
      have h35b := h35b (by decide)
      clear q0 q1 q2 q3 q4 qz ql y0 y1 y2 y3 y4 yz yl hne1 hne2
      have S35 : Hid (PS w _ p R b [.int .i64 0, .int .i64 0, .int .i64 0, .int .i64 0, .slice none 0 0] [.int .i64 xa, .int .i64 xb, .int .i64 0, .int .i64 65535, .slice a32 zs32.length c32]) := Lib.hid (S34.out.step hC hU)
      have O35 := Lib.hid (S34.out.keep O34.out F32.out hU)
      clear hC hU
      obtain ⟨m36, hm36⟩ : ∃ m : Nat, (1500 : Int) - x35 = m := ⟨((1500 : Int) - x35).toNat, by omega⟩
      have hmb36 : m36 ≤ 1500 := by omega
      obtain ⟨i0, hi, hz0, hz1, hz2⟩ := info_parts Try.infoU8
      have ⟨q0, q1, q2, q3, q4⟩ := S35.out.2.2.1.five; have qz := S35.out.2.2.1.2.2; have ql := S35.out.2.2.1.1
      have ⟨y0, y1, y2, y3, y4⟩ := S35.out.2.1.five; have yz := S35.out.2.1.2.2; have yl := S35.out.2.1.1
      have hne1 : ¬ b = R := by have := S35.out.2.2.2.2.2.1; omega
      have hne2 : ¬ R = b := by have := S35.out.2.2.2.2.2.1; omega
      go_wp2_with (at_make; refine wpList_make_full _ rfl _ _ 22 rfl w35.heap.size 5 i0 (.int .u8 0) 1 Try.underlying22 hi hz0 hz1 .i64 .i64 _ _ m36 rfl rfl rfl rfl (by rw [hz2]; omega) (by unfold maxLen; omega) (Nat.le_refl _) ?_; intro w36 hown hgr; have hgw := Grow.of_grown hgr; clear q0 q1 q2 q3 q4 qz ql y0 y1 y2 y3 y4 yz yl; have S36 : Hid (PS w w36 p R b [.int .i64 0, .int .i64 0, .int .i64 0, .int .i64 0, .slice none 0 0] [.int .i64 xa, .int .i64 xb, .int .i64 0, .int .i64 65535, .slice a32 zs32.length c32]) := Lib.hid (S35.out.grow hgw); have ⟨q0, q1, q2, q3, q4⟩ := S36.out.2.2.1.five; have qz := S36.out.2.2.1.2.2; have ql := S36.out.2.2.1.1; have ⟨y0, y1, y2, y3, y4⟩ := S36.out.2.1.five; have yz := S36.out.2.1.2.2; have yl := S36.out.2.1.1)
      have O36 : Hid (OwnB w36 (.slice (some ⟨w35.heap.size, 0, none⟩) m36 m36) (List.replicate m36 0) [w35.heap.size]) := Lib.hid (by
        have ho : w36.ownsRow w35.heap.size 5 1 (.slice (some ⟨w35.heap.size, 0, none⟩) m36 m36) m36 ((List.replicate m36 (0 : Int)).map (Value.int .u8)) := by
          rw [List.map_replicate, ← toList_madeCells_one]
          simpa [Value.cells] using hown
        have e : (List.replicate m36 (0 : Int)).length = m36 := by simp
        have := (OwnR.of ho).1
        unfold OwnB
        rw [e]
        exact this)
      have FR36 : Hid (Fresh w [w35.heap.size]) := Lib.hid (fun x hx => by have h1 := S35.out.2.2.2.1.size; simp only [List.mem_cons, List.not_mem_nil, or_false] at hx; omega)
      have F36 : Hid (FA p R b [w35.heap.size]) := Lib.hid (fun x hx => by have h1 := S35.out.2.2.1.1; have h2 := S35.out.1.lt; have h3 := S35.out.2.1.1; simp only [List.mem_cons, List.not_mem_nil, or_false] at hx; exact ⟨by omega, by omega, by omega⟩)
      clear hown hgr hgw
      have S37 : Hid (PS w (w36.setCell ⟨b, 4, none⟩ (.slice (some ⟨w35.heap.size, 0, none⟩) m36 m36)) p R b [.int .i64 0, .int .i64 0, .int .i64 0, .int .i64 0, .slice none 0 0] [.int .i64 xa, .int .i64 xb, .int .i64 0, .int .i64 65535, .slice (some ⟨w35.heap.size, 0, none⟩) m36 m36]) := Lib.hid (S36.out.set 4 (.slice (some ⟨w35.heap.size, 0, none⟩) m36 m36) (by simp))
      have O37 : Hid (OwnB (w36.setCell ⟨b, 4, none⟩ (.slice (some ⟨w35.heap.size, 0, none⟩) m36 m36)) _ _ _) := Lib.hid (S36.out.apart (W' := w36) O36.out F36.out (.slice (some ⟨w35.heap.size, 0, none⟩) m36 m36))
      clear q0 q1 q2 q3 q4 qz ql y0 y1 y2 y3 y4 yz yl hne1 hne2
      generalize (w36.setCell ⟨b, 4, none⟩ (.slice (some ⟨w35.heap.size, 0, none⟩) m36 m36)) = WV at *
      have ⟨q0, q1, q2, q3, q4⟩ := S37.out.2.2.1.five; have qz := S37.out.2.2.1.2.2; have ql := S37.out.2.2.1.1
      have ⟨y0, y1, y2, y3, y4⟩ := S37.out.2.1.five; have yz := S37.out.2.1.2.2; have yl := S37.out.2.1.1
      have hne1 : ¬ b = R := by have := S37.out.2.2.2.2.2.1; omega
      have hne2 : ¬ R = b := by have := S37.out.2.2.2.2.2.1; omega
      have HR := Lib.hid (S37.out.retPkG O37.out F36.out FR36.out (fun x hx => by have := List.eq_of_mem_replicate hx; omega) (by simp <;> omega) (xa) (xb) (0) (65535) IA.out IB.out (by omega) (by unfold I64; omega))
      refine bodyPost_ret (v := .agg #[.int .i64 xa, .int .i64 xb, .int .i64 0, .int .i64 65535, .slice (some ⟨w35.heap.size, 0, none⟩) m36 m36]) ?_ rfl (HR.out _ ?_)
      · simp [results, Try.results102, go_sem, q0, q1, q2, q3, q4, qz, y0, y1, y2, y3, y4, yz, yl, hne1, hne2] <;> omega
      · ((repeat (first | (with_reducible refine Upd.setCell ?_ (by simp) _) | with_reducible exact Upd.refl _ _)))

    · subst kx30
      have S38 : Hid (PS w (w30.setCell ⟨b, 2, none⟩ (.int .i64 4094)) p R b [.int .i64 0, .int .i64 0, .int .i64 0, .int .i64 0, .slice none 0 0] [.int .i64 xa, .int .i64 xb, .int .i64 4094, .int .i64 65535, .slice none 0 0]) := Lib.hid (S30.out.set 2 (.int .i64 4094) (by simp))
      have ⟨q0, q1, q2, q3, q4⟩ := S30.out.2.2.1.five; have qz := S30.out.2.2.1.2.2; have ql := S30.out.2.2.1.1
      have ⟨y0, y1, y2, y3, y4⟩ := S30.out.2.1.five; have yz := S30.out.2.1.2.2; have yl := S30.out.2.1.1
      have hne1 : ¬ b = R := by have := S30.out.2.2.2.2.2.1; omega
      have hne2 : ¬ R = b := by have := S30.out.2.2.2.2.2.1; omega
      go_wp2_with fail
      refine (l01Bytes_any _ p 40 (by decide) S38.out.1).mono ?_
      rintro e w39 ⟨v39, zs39, fp39, rfl, ho, hf, hzb, hzl, hC, hU⟩
      obtain ⟨a39, c39, rfl⟩ := own_shape ho.1
      have F39 : Hid (FA p R b fp39) := Lib.hid (fun x hx => by have h1 := Nat.lt_of_lt_of_le S38.out.2.2.1.1 (hf x hx); have h2 := Nat.lt_of_lt_of_le S38.out.1.lt (hf x hx); have h3 := Nat.lt_of_lt_of_le S38.out.2.1.1 (hf x hx); exact ⟨by omega, by omega, by omega⟩)
      have FR39 : Hid (Fresh w fp39) := Lib.hid (fun x hx => Nat.le_trans S38.out.2.2.2.1.size (hf x hx))
      have ZB39 := Lib.hid hzb
      have ZL39 : Hid (zs39.length ≤ 1481) := Lib.hid (by omega)
      have O39 := Lib.hid ho
      have S39 : Hid (PS w _ p R b [.int .i64 0, .int .i64 0, .int .i64 0, .int .i64 0, .slice none 0 0] [.int .i64 xa, .int .i64 xb, .int .i64 4094, .int .i64 65535, .slice none 0 0]) := Lib.hid (S38.out.step hC hU)
      clear hC hU ho hf hzb hzl
      clear q0 q1 q2 q3 q4 qz ql y0 y1 y2 y3 y4 yz yl hne1 hne2
      have S40 : Hid (PS w (w39.setCell ⟨b, 4, none⟩ (.slice a39 zs39.length c39)) p R b [.int .i64 0, .int .i64 0, .int .i64 0, .int .i64 0, .slice none 0 0] [.int .i64 xa, .int .i64 xb, .int .i64 4094, .int .i64 65535, .slice a39 zs39.length c39]) := Lib.hid (S39.out.set 4 (.slice a39 zs39.length c39) (by simp))
      have O40 : Hid (OwnB (w39.setCell ⟨b, 4, none⟩ (.slice a39 zs39.length c39)) _ _ _) := Lib.hid (S39.out.apart (W' := w39) O39.out F39.out (.slice a39 zs39.length c39))
      have ⟨q0, q1, q2, q3, q4⟩ := S39.out.2.2.1.five; have qz := S39.out.2.2.1.2.2; have ql := S39.out.2.2.1.1
      have ⟨y0, y1, y2, y3, y4⟩ := S39.out.2.1.five; have yz := S39.out.2.1.2.2; have yl := S39.out.2.1.1
      have hne1 : ¬ b = R := by have := S39.out.2.2.2.2.2.1; omega
      have hne2 : ¬ R = b := by have := S39.out.2.2.2.2.2.1; omega
      go_wp2_with fail
      refine (l01Below_any _ p 30 (by decide) S40.out.1).mono ?_
      rintro e w41 ⟨x41, rfl, h41a, h41b, -, hC, hU⟩
      have h41b := h41b (by decide)
      clear q0 q1 q2 q3 q4 qz ql y0 y1 y2 y3 y4 yz yl hne1 hne2
      have S41 : Hid (PS w _ p R b [.int .i64 0, .int .i64 0, .int .i64 0, .int .i64 0, .slice none 0 0] [.int .i64 xa, .int .i64 xb, .int .i64 4094, .int .i64 65535, .slice a39 zs39.length c39]) := Lib.hid (S40.out.step hC hU)
      have O41 := Lib.hid (S40.out.keep O40.out F39.out hU)
      clear hC hU
      by_cases kx41 : x41 = 0
      rotate_left
      · have hkx41 : (x41 == 0) = false := by simpa using kx41
        have ⟨q0, q1, q2, q3, q4⟩ := S41.out.2.2.1.five; have qz := S41.out.2.2.1.2.2; have ql := S41.out.2.2.1.1
        have ⟨y0, y1, y2, y3, y4⟩ := S41.out.2.1.five; have yz := S41.out.2.1.2.2; have yl := S41.out.2.1.1
        have hne1 : ¬ b = R := by have := S41.out.2.2.2.2.2.1; omega
        have hne2 : ¬ R = b := by have := S41.out.2.2.2.2.2.1; omega
        go_wp2
        clear q0 q1 q2 q3 q4 qz ql y0 y1 y2 y3 y4 yz yl hne1 hne2
        have ⟨q0, q1, q2, q3, q4⟩ := S41.out.2.2.1.five; have qz := S41.out.2.2.1.2.2; have ql := S41.out.2.2.1.1
        have ⟨y0, y1, y2, y3, y4⟩ := S41.out.2.1.five; have yz := S41.out.2.1.2.2; have yl := S41.out.2.1.1
        have hne1 : ¬ b = R := by have := S41.out.2.2.2.2.2.1; omega
        have hne2 : ¬ R = b := by have := S41.out.2.2.2.2.2.1; omega
        have HR := Lib.hid (S41.out.retPkG O41.out F39.out FR39.out ZB39.out (Nat.le_trans ZL39.out (by decide)) (xa) (xb) (4094) (65535) IA.out IB.out (by omega) (by unfold I64; omega))
        refine bodyPost_ret (v := .agg #[.int .i64 xa, .int .i64 xb, .int .i64 4094, .int .i64 65535, .slice a39 zs39.length c39]) ?_ rfl (HR.out _ ?_)
        · simp [results, Try.results102, go_sem, q0, q1, q2, q3, q4, qz, y0, y1, y2, y3, y4, yz, yl, hne1, hne2] <;> omega
        · ((repeat (first | (with_reducible refine Upd.setCell ?_ (by simp) _) | with_reducible exact Upd.refl _ _)))

      subst kx41
      have ⟨q0, q1, q2, q3, q4⟩ := S41.out.2.2.1.five; have qz := S41.out.2.2.1.2.2; have ql := S41.out.2.2.1.1
      have ⟨y0, y1, y2, y3, y4⟩ := S41.out.2.1.five; have yz := S41.out.2.1.2.2; have yl := S41.out.2.1.1
      have hne1 : ¬ b = R := by have := S41.out.2.2.2.2.2.1; omega
      have hne2 : ¬ R = b := by have := S41.out.2.2.2.2.2.1; omega
      go_wp2_with fail
      refine (l01Below_any _ p 2 (by decide) S41.out.1).mono ?_
      rintro e w42 ⟨x42, rfl, h42a, h42b, -, hC, hU⟩
      have h42b := h42b (by decide)
      clear q0 q1 q2 q3 q4 qz ql y0 y1 y2 y3 y4 yz yl hne1 hne2
      have S42 : Hid (PS w _ p R b [.int .i64 0, .int .i64 0, .int .i64 0, .int .i64 0, .slice none 0 0] [.int .i64 xa, .int .i64 xb, .int .i64 4094, .int .i64 65535, .slice a39 zs39.length c39]) := Lib.hid (S41.out.step hC hU)
      have O42 := Lib.hid (S41.out.keep O41.out F39.out hU)
      clear hC hU
      obtain ⟨m43, hm43⟩ : ∃ m : Nat, (1500 : Int) - x42 = m := ⟨((1500 : Int) - x42).toNat, by omega⟩
      have hmb43 : m43 ≤ 1500 := by omega
      obtain ⟨i0, hi, hz0, hz1, hz2⟩ := info_parts Try.infoU8
      have ⟨q0, q1, q2, q3, q4⟩ := S42.out.2.2.1.five; have qz := S42.out.2.2.1.2.2; have ql := S42.out.2.2.1.1
      have ⟨y0, y1, y2, y3, y4⟩ := S42.out.2.1.five; have yz := S42.out.2.1.2.2; have yl := S42.out.2.1.1
      have hne1 : ¬ b = R := by have := S42.out.2.2.2.2.2.1; omega
      have hne2 : ¬ R = b := by have := S42.out.2.2.2.2.2.1; omega
      go_wp2_with (at_make; refine wpList_make_full _ rfl _ _ 22 rfl w42.heap.size 5 i0 (.int .u8 0) 1 Try.underlying22 hi hz0 hz1 .i64 .i64 _ _ m43 rfl rfl rfl rfl (by rw [hz2]; omega) (by unfold maxLen; omega) (Nat.le_refl _) ?_; intro w43 hown hgr; have hgw := Grow.of_grown hgr; clear q0 q1 q2 q3 q4 qz ql y0 y1 y2 y3 y4 yz yl; have S43 : Hid (PS w w43 p R b [.int .i64 0, .int .i64 0, .int .i64 0, .int .i64 0, .slice none 0 0] [.int .i64 xa, .int .i64 xb, .int .i64 4094, .int .i64 65535, .slice a39 zs39.length c39]) := Lib.hid (S42.out.grow hgw); have ⟨q0, q1, q2, q3, q4⟩ := S43.out.2.2.1.five; have qz := S43.out.2.2.1.2.2; have ql := S43.out.2.2.1.1; have ⟨y0, y1, y2, y3, y4⟩ := S43.out.2.1.five; have yz := S43.out.2.1.2.2; have yl := S43.out.2.1.1)
      have O43 : Hid (OwnB w43 (.slice (some ⟨w42.heap.size, 0, none⟩) m43 m43) (List.replicate m43 0) [w42.heap.size]) := Lib.hid (by
        have ho : w43.ownsRow w42.heap.size 5 1 (.slice (some ⟨w42.heap.size, 0, none⟩) m43 m43) m43 ((List.replicate m43 (0 : Int)).map (Value.int .u8)) := by
          rw [List.map_replicate, ← toList_madeCells_one]
          simpa [Value.cells] using hown
        have e : (List.replicate m43 (0 : Int)).length = m43 := by simp
        have := (OwnR.of ho).1
        unfold OwnB
        rw [e]
        exact this)
      have FR43 : Hid (Fresh w [w42.heap.size]) := Lib.hid (fun x hx => by have h1 := S42.out.2.2.2.1.size; simp only [List.mem_cons, List.not_mem_nil, or_false] at hx; omega)
      have F43 : Hid (FA p R b [w42.heap.size]) := Lib.hid (fun x hx => by have h1 := S42.out.2.2.1.1; have h2 := S42.out.1.lt; have h3 := S42.out.2.1.1; simp only [List.mem_cons, List.not_mem_nil, or_false] at hx; exact ⟨by omega, by omega, by omega⟩)
      clear hown hgr hgw
      have S44 : Hid (PS w (w43.setCell ⟨b, 4, none⟩ (.slice (some ⟨w42.heap.size, 0, none⟩) m43 m43)) p R b [.int .i64 0, .int .i64 0, .int .i64 0, .int .i64 0, .slice none 0 0] [.int .i64 xa, .int .i64 xb, .int .i64 4094, .int .i64 65535, .slice (some ⟨w42.heap.size, 0, none⟩) m43 m43]) := Lib.hid (S43.out.set 4 (.slice (some ⟨w42.heap.size, 0, none⟩) m43 m43) (by simp))
      have O44 : Hid (OwnB (w43.setCell ⟨b, 4, none⟩ (.slice (some ⟨w42.heap.size, 0, none⟩) m43 m43)) _ _ _) := Lib.hid (S43.out.apart (W' := w43) O43.out F43.out (.slice (some ⟨w42.heap.size, 0, none⟩) m43 m43))
      clear q0 q1 q2 q3 q4 qz ql y0 y1 y2 y3 y4 yz yl hne1 hne2
      generalize (w43.setCell ⟨b, 4, none⟩ (.slice (some ⟨w42.heap.size, 0, none⟩) m43 m43)) = WV at *
      have ⟨q0, q1, q2, q3, q4⟩ := S44.out.2.2.1.five; have qz := S44.out.2.2.1.2.2; have ql := S44.out.2.2.1.1
      have ⟨y0, y1, y2, y3, y4⟩ := S44.out.2.1.five; have yz := S44.out.2.1.2.2; have yl := S44.out.2.1.1
      have hne1 : ¬ b = R := by have := S44.out.2.2.2.2.2.1; omega
      have hne2 : ¬ R = b := by have := S44.out.2.2.2.2.2.1; omega
      have HR := Lib.hid (S44.out.retPkG O44.out F43.out FR43.out (fun x hx => by have := List.eq_of_mem_replicate hx; omega) (by simp <;> omega) (xa) (xb) (4094) (65535) IA.out IB.out (by omega) (by unfold I64; omega))
      refine bodyPost_ret (v := .agg #[.int .i64 xa, .int .i64 xb, .int .i64 4094, .int .i64 65535, .slice (some ⟨w42.heap.size, 0, none⟩) m43 m43]) ?_ rfl (HR.out _ ?_)
      · simp [results, Try.results102, go_sem, q0, q1, q2, q3, q4, qz, y0, y1, y2, y3, y4, yz, yl, hne1, hne2] <;> omega
      · ((repeat (first | (with_reducible refine Upd.setCell ?_ (by simp) _) | with_reducible exact Upd.refl _ _)))


  have hk0 : (x11 == 0) = false := by simpa using c0
  have hk1 : (x11 == 1) = false := by simpa using c1
  have hk2 : (x11 == 2) = false := by simpa using c2
  have ⟨q0, q1, q2, q3, q4⟩ := S11.out.2.2.1.five; have qz := S11.out.2.2.1.2.2; have ql := S11.out.2.2.1.1
  have ⟨y0, y1, y2, y3, y4⟩ := S11.out.2.1.five; have yz := S11.out.2.1.2.2; have yl := S11.out.2.1.1
  have hne1 : ¬ b = R := by have := S11.out.2.2.2.2.2.1; omega
  have hne2 : ¬ R = b := by have := S11.out.2.2.2.2.2.1; omega
  go_wp2_with fail
  refine (l01Bytes_any _ p 40 (by decide) S11.out.1).mono ?_
  rintro e w45 ⟨v45, zs45, fp45, rfl, ho, hf, hzb, hzl, hC, hU⟩
  obtain ⟨a45, c45, rfl⟩ := own_shape ho.1
  have F45 : Hid (FA p R b fp45) := Lib.hid (fun x hx => by have h1 := Nat.lt_of_lt_of_le S11.out.2.2.1.1 (hf x hx); have h2 := Nat.lt_of_lt_of_le S11.out.1.lt (hf x hx); have h3 := Nat.lt_of_lt_of_le S11.out.2.1.1 (hf x hx); exact ⟨by omega, by omega, by omega⟩)
  have FR45 : Hid (Fresh w fp45) := Lib.hid (fun x hx => Nat.le_trans S11.out.2.2.2.1.size (hf x hx))
  have ZB45 := Lib.hid hzb
  have ZL45 : Hid (zs45.length ≤ 1481) := Lib.hid (by omega)
  have O45 := Lib.hid ho
  have S45 : Hid (PS w _ p R b [.int .i64 0, .int .i64 0, .int .i64 0, .int .i64 0, .slice none 0 0] [.int .i64 xa, .int .i64 xb, .int .i64 (-1), .int .i64 2048, .slice none 0 0]) := Lib.hid (S11.out.step hC hU)
  clear hC hU ho hf hzb hzl
  clear q0 q1 q2 q3 q4 qz ql y0 y1 y2 y3 y4 yz yl hne1 hne2
  have S46 : Hid (PS w (w45.setCell ⟨b, 4, none⟩ (.slice a45 zs45.length c45)) p R b [.int .i64 0, .int .i64 0, .int .i64 0, .int .i64 0, .slice none 0 0] [.int .i64 xa, .int .i64 xb, .int .i64 (-1), .int .i64 2048, .slice a45 zs45.length c45]) := Lib.hid (S45.out.set 4 (.slice a45 zs45.length c45) (by simp))
  have O46 : Hid (OwnB (w45.setCell ⟨b, 4, none⟩ (.slice a45 zs45.length c45)) _ _ _) := Lib.hid (S45.out.apart (W' := w45) O45.out F45.out (.slice a45 zs45.length c45))
  have ⟨q0, q1, q2, q3, q4⟩ := S45.out.2.2.1.five; have qz := S45.out.2.2.1.2.2; have ql := S45.out.2.2.1.1
  have ⟨y0, y1, y2, y3, y4⟩ := S45.out.2.1.five; have yz := S45.out.2.1.2.2; have yl := S45.out.2.1.1
  have hne1 : ¬ b = R := by have := S45.out.2.2.2.2.2.1; omega
  have hne2 : ¬ R = b := by have := S45.out.2.2.2.2.2.1; omega
  go_wp2_with fail
  refine (l01Below_any _ p 30 (by decide) S46.out.1).mono ?_
  rintro e w47 ⟨x47, rfl, h47a, h47b, -, hC, hU⟩
  have h47b := h47b (by decide)
  clear q0 q1 q2 q3 q4 qz ql y0 y1 y2 y3 y4 yz yl hne1 hne2
  have S47 : Hid (PS w _ p R b [.int .i64 0, .int .i64 0, .int .i64 0, .int .i64 0, .slice none 0 0] [.int .i64 xa, .int .i64 xb, .int .i64 (-1), .int .i64 2048, .slice a45 zs45.length c45]) := Lib.hid (S46.out.step hC hU)
  have O47 := Lib.hid (S46.out.keep O46.out F45.out hU)
  clear hC hU
  by_cases kx47 : x47 = 0
  rotate_left
  · have hkx47 : (x47 == 0) = false := by simpa using kx47
    have ⟨q0, q1, q2, q3, q4⟩ := S47.out.2.2.1.five; have qz := S47.out.2.2.1.2.2; have ql := S47.out.2.2.1.1
    have ⟨y0, y1, y2, y3, y4⟩ := S47.out.2.1.five; have yz := S47.out.2.1.2.2; have yl := S47.out.2.1.1
    have hne1 : ¬ b = R := by have := S47.out.2.2.2.2.2.1; omega
    have hne2 : ¬ R = b := by have := S47.out.2.2.2.2.2.1; omega
    go_wp2
    clear q0 q1 q2 q3 q4 qz ql y0 y1 y2 y3 y4 yz yl hne1 hne2
    have ⟨q0, q1, q2, q3, q4⟩ := S47.out.2.2.1.five; have qz := S47.out.2.2.1.2.2; have ql := S47.out.2.2.1.1
    have ⟨y0, y1, y2, y3, y4⟩ := S47.out.2.1.five; have yz := S47.out.2.1.2.2; have yl := S47.out.2.1.1
    have hne1 : ¬ b = R := by have := S47.out.2.2.2.2.2.1; omega
    have hne2 : ¬ R = b := by have := S47.out.2.2.2.2.2.1; omega
    have HR := Lib.hid (S47.out.retPkG O47.out F45.out FR45.out ZB45.out (Nat.le_trans ZL45.out (by decide)) (xa) (xb) ((-1)) (2048) IA.out IB.out (by omega) (by unfold I64; omega))
    refine bodyPost_ret (v := .agg #[.int .i64 xa, .int .i64 xb, .int .i64 (-1), .int .i64 2048, .slice a45 zs45.length c45]) ?_ rfl (HR.out _ ?_)
    · simp [results, Try.results102, go_sem, q0, q1, q2, q3, q4, qz, y0, y1, y2, y3, y4, yz, yl, hne1, hne2] <;> omega
    · ((repeat (first | (with_reducible refine Upd.setCell ?_ (by simp) _) | with_reducible exact Upd.refl _ _)))

  subst kx47
  have ⟨q0, q1, q2, q3, q4⟩ := S47.out.2.2.1.five; have qz := S47.out.2.2.1.2.2; have ql := S47.out.2.2.1.1
  have ⟨y0, y1, y2, y3, y4⟩ := S47.out.2.1.five; have yz := S47.out.2.1.2.2; have yl := S47.out.2.1.1
  have hne1 : ¬ b = R := by have := S47.out.2.2.2.2.2.1; omega
  have hne2 : ¬ R = b := by have := S47.out.2.2.2.2.2.1; omega
  go_wp2_with fail
  refine (l01Below_any _ p 2 (by decide) S47.out.1).mono ?_
  rintro e w48 ⟨x48, rfl, h48a, h48b, -, hC, hU⟩
  have h48b := h48b (by decide)
  clear q0 q1 q2 q3 q4 qz ql y0 y1 y2 y3 y4 yz yl hne1 hne2
  have S48 : Hid (PS w _ p R b [.int .i64 0, .int .i64 0, .int .i64 0, .int .i64 0, .slice none 0 0] [.int .i64 xa, .int .i64 xb, .int .i64 (-1), .int .i64 2048, .slice a45 zs45.length c45]) := Lib.hid (S47.out.step hC hU)
  have O48 := Lib.hid (S47.out.keep O47.out F45.out hU)
  clear hC hU
  obtain ⟨m49, hm49⟩ : ∃ m : Nat, (1500 : Int) - x48 = m := ⟨((1500 : Int) - x48).toNat, by omega⟩
  have hmb49 : m49 ≤ 1500 := by omega
  obtain ⟨i0, hi, hz0, hz1, hz2⟩ := info_parts Try.infoU8
  have ⟨q0, q1, q2, q3, q4⟩ := S48.out.2.2.1.five; have qz := S48.out.2.2.1.2.2; have ql := S48.out.2.2.1.1
  have ⟨y0, y1, y2, y3, y4⟩ := S48.out.2.1.five; have yz := S48.out.2.1.2.2; have yl := S48.out.2.1.1
  have hne1 : ¬ b = R := by have := S48.out.2.2.2.2.2.1; omega
  have hne2 : ¬ R = b := by have := S48.out.2.2.2.2.2.1; omega
  go_wp2_with (at_make; refine wpList_make_full _ rfl _ _ 22 rfl w48.heap.size 5 i0 (.int .u8 0) 1 Try.underlying22 hi hz0 hz1 .i64 .i64 _ _ m49 rfl rfl rfl rfl (by rw [hz2]; omega) (by unfold maxLen; omega) (Nat.le_refl _) ?_; intro w49 hown hgr; have hgw := Grow.of_grown hgr; clear q0 q1 q2 q3 q4 qz ql y0 y1 y2 y3 y4 yz yl; have S49 : Hid (PS w w49 p R b [.int .i64 0, .int .i64 0, .int .i64 0, .int .i64 0, .slice none 0 0] [.int .i64 xa, .int .i64 xb, .int .i64 (-1), .int .i64 2048, .slice a45 zs45.length c45]) := Lib.hid (S48.out.grow hgw); have ⟨q0, q1, q2, q3, q4⟩ := S49.out.2.2.1.five; have qz := S49.out.2.2.1.2.2; have ql := S49.out.2.2.1.1; have ⟨y0, y1, y2, y3, y4⟩ := S49.out.2.1.five; have yz := S49.out.2.1.2.2; have yl := S49.out.2.1.1)
  have O49 : Hid (OwnB w49 (.slice (some ⟨w48.heap.size, 0, none⟩) m49 m49) (List.replicate m49 0) [w48.heap.size]) := Lib.hid (by
    have ho : w49.ownsRow w48.heap.size 5 1 (.slice (some ⟨w48.heap.size, 0, none⟩) m49 m49) m49 ((List.replicate m49 (0 : Int)).map (Value.int .u8)) := by
      rw [List.map_replicate, ← toList_madeCells_one]
      simpa [Value.cells] using hown
    have e : (List.replicate m49 (0 : Int)).length = m49 := by simp
    have := (OwnR.of ho).1
    unfold OwnB
    rw [e]
    exact this)
  have FR49 : Hid (Fresh w [w48.heap.size]) := Lib.hid (fun x hx => by have h1 := S48.out.2.2.2.1.size; simp only [List.mem_cons, List.not_mem_nil, or_false] at hx; omega)
  have F49 : Hid (FA p R b [w48.heap.size]) := Lib.hid (fun x hx => by have h1 := S48.out.2.2.1.1; have h2 := S48.out.1.lt; have h3 := S48.out.2.1.1; simp only [List.mem_cons, List.not_mem_nil, or_false] at hx; exact ⟨by omega, by omega, by omega⟩)
  clear hown hgr hgw
  have S50 : Hid (PS w (w49.setCell ⟨b, 4, none⟩ (.slice (some ⟨w48.heap.size, 0, none⟩) m49 m49)) p R b [.int .i64 0, .int .i64 0, .int .i64 0, .int .i64 0, .slice none 0 0] [.int .i64 xa, .int .i64 xb, .int .i64 (-1), .int .i64 2048, .slice (some ⟨w48.heap.size, 0, none⟩) m49 m49]) := Lib.hid (S49.out.set 4 (.slice (some ⟨w48.heap.size, 0, none⟩) m49 m49) (by simp))
  have O50 : Hid (OwnB (w49.setCell ⟨b, 4, none⟩ (.slice (some ⟨w48.heap.size, 0, none⟩) m49 m49)) _ _ _) := Lib.hid (S49.out.apart (W' := w49) O49.out F49.out (.slice (some ⟨w48.heap.size, 0, none⟩) m49 m49))
  clear q0 q1 q2 q3 q4 qz ql y0 y1 y2 y3 y4 yz yl hne1 hne2
  generalize (w49.setCell ⟨b, 4, none⟩ (.slice (some ⟨w48.heap.size, 0, none⟩) m49 m49)) = WV at *
  have ⟨q0, q1, q2, q3, q4⟩ := S50.out.2.2.1.five; have qz := S50.out.2.2.1.2.2; have ql := S50.out.2.2.1.1
  have ⟨y0, y1, y2, y3, y4⟩ := S50.out.2.1.five; have yz := S50.out.2.1.2.2; have yl := S50.out.2.1.1
  have hne1 : ¬ b = R := by have := S50.out.2.2.2.2.2.1; omega
  have hne2 : ¬ R = b := by have := S50.out.2.2.2.2.2.1; omega
  have HR := Lib.hid (S50.out.retPkG O50.out F49.out FR49.out (fun x hx => by have := List.eq_of_mem_replicate hx; omega) (by simp <;> omega) (xa) (xb) ((-1)) (2048) IA.out IB.out (by omega) (by unfold I64; omega))
  refine bodyPost_ret (v := .agg #[.int .i64 xa, .int .i64 xb, .int .i64 (-1), .int .i64 2048, .slice (some ⟨w48.heap.size, 0, none⟩) m49 m49]) ?_ rfl (HR.out _ ?_)
  · simp [results, Try.results102, go_sem, q0, q1, q2, q3, q4, qz, y0, y1, y2, y3, y4, yz, yl, hne1, hne2] <;> omega
  · ((repeat (first | (with_reducible refine Upd.setCell ?_ (by simp) _) | with_reducible exact Upd.refl _ _)))

--%
end Go.Proofs.Ytcldfodnblkeiaa
