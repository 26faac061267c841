/- The draw of a datagram within a datagram within a packet (printed by gd5.py). -/
import Derived.Test.YtcldfodnblkeiaaDkg
import Derived.WalkKit
import Derived.ProofKit
import Derived.Deep.QuietTactic
import Derived.BigQuiet
import Derived.Outline
import Derived.WalkSpells
namespace Go.Proofs.Ytcldfodnblkeiaa
open Go.ChangeShapes Go.WideShapes Go.ChangeAt Go.RowKit
set_option linter.unusedVariables false
set_option linter.unusedSimpArgs false
--%
/-- Boxes. -/
def NB (W : World) (l : List (Nat × List Value)) : Prop := ∀ q ∈ l, Box W q.1 q.2
def NP (p : Nat) (l : List (Nat × List Value)) : Prop := ∀ q ∈ l, q.1 ≠ p
theorem NB.upd {W W' : World} {fp : List Nat} {l : List (Nat × List Value)} (h : NB W l) (u : Upd fp W W') (hn : ∀ q ∈ l, q.1 ∉ fp) : NB W' l := fun q hq => (h q hq).upd u (hn q hq)
theorem NB.step {W W' : World} {p : Nat} {l : List (Nat × List Value)} (h : NB W l) (np : NP p l) (u : Upd [p] W W') : NB W' l := h.upd u (fun q hq => by simpa using np q hq)
theorem NB.grow {W W' : World} {l : List (Nat × List Value)} (h : NB W l) (g : Grow W W') : NB W' l := fun q hq => (h q hq).grow g
theorem NB.cons {W : World} {l : List (Nat × List Value)} {x : Nat} {cs : List Value} (h : NB W l) (b : Box W x cs) : NB W ((x, cs) :: l) := fun q hq => by
  rcases List.mem_cons.1 hq with rfl | h1
  · exact b
  · exact h q h1
theorem NB.nil (W : World) : NB W [] := fun q hq => by cases hq
theorem NB.hd {W : World} {l : List (Nat × List Value)} {x : Nat} {cs : List Value} (h : NB W ((x, cs) :: l)) : Box W x cs := h (x, cs) (by simp)
theorem NB.tl {W : World} {l : List (Nat × List Value)} {q : Nat × List Value} (h : NB W (q :: l)) : NB W l := fun r hr => h r (by simp [hr])
theorem NP.cons {p x : Nat} {cs : List Value} {l : List (Nat × List Value)} (h : NP p l) (hx : x ≠ p) : NP p ((x, cs) :: l) := fun q hq => by
  rcases List.mem_cons.1 hq with rfl | h1
  · exact hx
  · exact h q h1
theorem NP.hd {p x : Nat} {cs : List Value} {l : List (Nat × List Value)} (h : NP p ((x, cs) :: l)) : x ≠ p := h (x, cs) (by simp)
theorem NP.tl {p : Nat} {l : List (Nat × List Value)} {q : Nat × List Value} (h : NP p (q :: l)) : NP p l := fun r hr => h r (by simp [hr])
theorem NP.nil (p : Nat) : NP p [] := fun q hq => by cases hq
def RetNest (w : World) (e : Ending) (w' : World) : Prop := ∃ (us ud ttl sr ds pd ps tg ty i : Int) (zs : List Int) (a : Option Addr) (c : Nat),
  e = .returned (.tuple #[.agg #[.int .i64 us, .int .i64 ud, .slice a zs.length c], .agg #[.int .i64 ttl, .int .i64 0, .int .i64 sr, .int .i64 ds, .slice none 0 0], .agg #[.int .i64 pd, .int .i64 ps, .int .i64 tg, .int .i64 ty, .slice none 0 0], .int .i64 i]) ∧
  RdB w' (.slice a zs.length c) zs ∧ Bytes zs ∧ zs.length ≤ 30 ∧ (0 ≤ us ∧ us < 65536) ∧ (0 ≤ ud ∧ ud < 65536) ∧ (0 ≤ ttl ∧ ttl < 256) ∧ (0 ≤ sr ∧ sr < 1000000) ∧ (0 ≤ ds ∧ ds < 9) ∧ (0 ≤ pd ∧ pd ≤ 281474976710655) ∧ (0 ≤ ps ∧ ps ≤ 281474976710655) ∧ (-1 ≤ tg ∧ tg ≤ 4094) ∧ (1 ≤ i ∧ i ≤ 255) ∧ Grow w w'
--% MakeNested 70
set_option maxRecDepth 20000 in
set_option maxHeartbeats 4000000 in
theorem makeNested_any (w : World) (v : Value) (cs : List Int) (h : RdB w v cs) (hb : Bytes cs) (hm : cs.length ≤ 1048576) : Calls Try.prog 70 #[v] w (RetNest w) := by
  have HV := Lib.hid h; have HB : Hid (Bytes cs) := Lib.hid hb
  clear h hb
  go_enter Try.func70, Try.ntmps70
  go_wp2_with fail
  have GA := Lib.hid (((Grow.alloc w (.cells #[.int .i64 0, .int .i64 0, .slice none 0 0] 61)).trans (Grow.alloc _ (.cells #[.int .i64 0, .int .i64 0, .int .i64 0, .int .i64 0, .slice none 0 0] 47))).trans (Grow.alloc _ (.cells #[.int .i64 0, .int .i64 0, .int .i64 0, .int .i64 0, .slice none 0 0] 27)))
  have N0 : Hid (NB (((w.alloc (.cells #[.int .i64 0, .int .i64 0, .slice none 0 0] 61)).alloc (.cells #[.int .i64 0, .int .i64 0, .int .i64 0, .int .i64 0, .slice none 0 0] 47)).alloc (.cells #[.int .i64 0, .int .i64 0, .int .i64 0, .int .i64 0, .slice none 0 0] 27)) [((w.heap.size + 1 + 1), [.int .i64 0, .int .i64 0, .int .i64 0, .int .i64 0, .slice none 0 0]), ((w.heap.size + 1), [.int .i64 0, .int .i64 0, .int .i64 0, .int .i64 0, .slice none 0 0]), (w.heap.size, [.int .i64 0, .int .i64 0, .slice none 0 0])]) := Lib.hid ((((NB.nil _).cons (((Box.alloc w [.int .i64 0, .int .i64 0, .slice none 0 0] 61).grow (Grow.alloc _ (.cells #[.int .i64 0, .int .i64 0, .int .i64 0, .int .i64 0, .slice none 0 0] 47))).grow (Grow.alloc _ (.cells #[.int .i64 0, .int .i64 0, .int .i64 0, .int .i64 0, .slice none 0 0] 27)))).cons (((Box.alloc (w.alloc (.cells #[.int .i64 0, .int .i64 0, .slice none 0 0] 61)) [.int .i64 0, .int .i64 0, .int .i64 0, .int .i64 0, .slice none 0 0] 47).grow (Grow.alloc _ (.cells #[.int .i64 0, .int .i64 0, .int .i64 0, .int .i64 0, .slice none 0 0] 27))).at_ (b' := (w.heap.size + 1)) (by simp only [World.alloc, Array.size_push]))).cons ((Box.alloc ((w.alloc (.cells #[.int .i64 0, .int .i64 0, .slice none 0 0] 61)).alloc (.cells #[.int .i64 0, .int .i64 0, .int .i64 0, .int .i64 0, .slice none 0 0] 47)) [.int .i64 0, .int .i64 0, .int .i64 0, .int .i64 0, .slice none 0 0] 27).at_ (b' := (w.heap.size + 1 + 1)) (by simp only [World.alloc, Array.size_push])))
  generalize ((w.alloc (.cells #[.int .i64 0, .int .i64 0, .slice none 0 0] 61)).alloc (.cells #[.int .i64 0, .int .i64 0, .int .i64 0, .int .i64 0, .slice none 0 0] 47)).alloc (.cells #[.int .i64 0, .int .i64 0, .int .i64 0, .int .i64 0, .slice none 0 0] 27) = wA at *
  refine (l01New_any _ _ cs (HV.out.grow GA.out) HB.out hm).mono ?_
  rintro e w1 ⟨p, rfl, hC, hp, hg⟩
  have G1 := Lib.hid (GA.out.trans hg)
  have L0 := Lib.hid N0.out.hd.1
  have hpl : w.heap.size + 1 + 1 < p := Nat.lt_of_lt_of_le N0.out.hd.1 hp
  have N1 := Lib.hid (N0.out.grow hg)
  have P1 : Hid (NP p [((w.heap.size + 1 + 1), [.int .i64 0, .int .i64 0, .int .i64 0, .int .i64 0, .slice none 0 0]), ((w.heap.size + 1), [.int .i64 0, .int .i64 0, .int .i64 0, .int .i64 0, .slice none 0 0]), (w.heap.size, [.int .i64 0, .int .i64 0, .slice none 0 0])]) := Lib.hid ((((NP.nil p).cons (by omega)).cons (by omega)).cons (by omega))
  have C1 := Lib.hid hC
  have U1 := Lib.hid (Upd.refl [p] w1)
  clear hC hp hg N0 GA
  go_wp2_with fail
  refine (l01Below_any _ p 65536 (by decide) C1.out).mono ?_
  rintro e w2 ⟨us, rfl, husa, husb, -, hC, hU⟩
  have husb := husb (by decide)
  have C2 := Lib.hid hC; have U2 := Lib.hid (U1.out.same hU); have N2 := Lib.hid (N1.out.step P1.out hU); have P2 := P1
  clear hC hU
  go_wp2_with fail
  refine (l01Below_any _ p 65536 (by decide) C2.out).mono ?_
  rintro e w3 ⟨ud, rfl, huda, hudb, -, hC, hU⟩
  have hudb := hudb (by decide)
  have C3 := Lib.hid hC; have U3 := Lib.hid (U2.out.same hU); have N3 := Lib.hid (N2.out.step P2.out hU); have P3 := P2
  clear hC hU
  go_wp2_with fail
  refine (l01Bytes_any _ p 30 (by decide) C3.out).mono ?_
  rintro e w4 ⟨vb, zs, fp, rfl, ho, hf, hzb, hzl, hC, hU⟩
  obtain ⟨av, cv, rfl⟩ := own_shape ho.1
  have O4 := Lib.hid ho; have ZB := Lib.hid hzb; have ZL := Lib.hid hzl
  have FO : Hid (∀ x ∈ fp, x ≠ p) := Lib.hid (fun x hx => by have h1 := hf x hx; have h2 := C3.out.lt; omega)
  have FF : Hid (∀ x ∈ fp, w.heap.size + 1 + 1 < x) := Lib.hid (fun x hx => by have h1 := hf x hx; have h2 := C3.out.lt; omega)
  have C4 := Lib.hid hC; have U4 := Lib.hid (U3.out.same hU); have N4 := Lib.hid (N3.out.step P3.out hU); have P4 := P3
  clear hC hU
  clear ho hf hzb hzl
  have C5 := Lib.hid (C4.out.grow (Grow.alloc w4 (.cells #[.int .i64 us, .int .i64 ud, .slice av zs.length cv] 61))); have U5 := Lib.hid (U4.out.grow_ (Grow.alloc w4 (.cells #[.int .i64 us, .int .i64 ud, .slice av zs.length cv] 61)))
  have N5 := Lib.hid ((N4.out.grow (Grow.alloc w4 (.cells #[.int .i64 us, .int .i64 ud, .slice av zs.length cv] 61))).cons (Box.alloc w4 [.int .i64 us, .int .i64 ud, .slice av zs.length cv] 61))
  have P5 := Lib.hid (P4.out.cons (x := w4.heap.size) (cs := [.int .i64 us, .int .i64 ud, .slice av zs.length cv]) (Nat.ne_of_gt C4.out.lt))
  have O5 := Lib.hid (O4.out.grow (Grow.alloc w4 (.cells #[.int .i64 us, .int .i64 ud, .slice av zs.length cv] 61)))
  have LB5 : Hid (w.heap.size + 1 + 1 < w4.heap.size) := Lib.hid (by have h1 := C4.out.lt; omega)
  go_wp2_with fail
  generalize w4.alloc (.cells #[.int .i64 us, .int .i64 ud, .slice av zs.length cv] 61) = w5 at *
  generalize w4.heap.size = b1 at *
  refine (l01Below_any _ p 256 (by decide) C5.out).mono ?_
  rintro e w6 ⟨ttl, rfl, httla, httlb, -, hC, hU⟩
  have httlb := httlb (by decide)
  have C6 := Lib.hid hC; have U6 := Lib.hid (U5.out.same hU); have N6 := Lib.hid (N5.out.step P5.out hU); have P6 := P5
  have O6 := Lib.hid (O5.out.upd hU (fun x hx hm => by have := FO.out x hx; simp only [List.mem_cons, List.not_mem_nil, or_false] at hm; exact this hm))
  clear hC hU
  go_wp2_with fail
  refine (l01Below_any _ p 1000000 (by decide) C6.out).mono ?_
  rintro e w7 ⟨sr, rfl, hsra, hsrb, -, hC, hU⟩
  have hsrb := hsrb (by decide)
  have C7 := Lib.hid hC; have U7 := Lib.hid (U6.out.same hU); have N7 := Lib.hid (N6.out.step P6.out hU); have P7 := P6
  have O7 := Lib.hid (O6.out.upd hU (fun x hx hm => by have := FO.out x hx; simp only [List.mem_cons, List.not_mem_nil, or_false] at hm; exact this hm))
  clear hC hU
  go_wp2_with fail
  refine (l01Below_any _ p 9 (by decide) C7.out).mono ?_
  rintro e w8 ⟨ds, rfl, hdsa, hdsb, -, hC, hU⟩
  have hdsb := hdsb (by decide)
  have C8 := Lib.hid hC; have U8 := Lib.hid (U7.out.same hU); have N8 := Lib.hid (N7.out.step P7.out hU); have P8 := P7
  have O8 := Lib.hid (O7.out.upd hU (fun x hx hm => by have := FO.out x hx; simp only [List.mem_cons, List.not_mem_nil, or_false] at hm; exact this hm))
  clear hC hU
  have C9 := Lib.hid (C8.out.grow (Grow.alloc w8 (.cells #[.int .i64 ttl, .int .i64 0, .int .i64 sr, .int .i64 ds, .slice none 0 0] 47))); have U9 := Lib.hid (U8.out.grow_ (Grow.alloc w8 (.cells #[.int .i64 ttl, .int .i64 0, .int .i64 sr, .int .i64 ds, .slice none 0 0] 47)))
  have N9 := Lib.hid ((N8.out.grow (Grow.alloc w8 (.cells #[.int .i64 ttl, .int .i64 0, .int .i64 sr, .int .i64 ds, .slice none 0 0] 47))).cons (Box.alloc w8 [.int .i64 ttl, .int .i64 0, .int .i64 sr, .int .i64 ds, .slice none 0 0] 47))
  have P9 := Lib.hid (P8.out.cons (x := w8.heap.size) (cs := [.int .i64 ttl, .int .i64 0, .int .i64 sr, .int .i64 ds, .slice none 0 0]) (Nat.ne_of_gt C8.out.lt))
  have O9 := Lib.hid (O8.out.grow (Grow.alloc w8 (.cells #[.int .i64 ttl, .int .i64 0, .int .i64 sr, .int .i64 ds, .slice none 0 0] 47)))
  have LB9 : Hid (w.heap.size + 1 + 1 < w8.heap.size) := Lib.hid (by have h1 := C8.out.lt; omega)
  go_wp2_with fail
  generalize w8.alloc (.cells #[.int .i64 ttl, .int .i64 0, .int .i64 sr, .int .i64 ds, .slice none 0 0] 47) = w9 at *
  generalize w8.heap.size = b2 at *
  refine (l02PacketG_any _ p C9.out).mono ?_
  rintro e w10 ⟨V, d, fpd, rfl, ⟨v0, rfl, hod⟩, -, -, hd1, hd2, hd3, hC, hU⟩
  obtain ⟨ad, cd, rfl⟩ := own_shape hod.1
  have C10 := Lib.hid hC; have U10 := Lib.hid (U9.out.same hU); have N10 := Lib.hid (N9.out.step P9.out hU); have P10 := P9
  have O10 := Lib.hid (O9.out.upd hU (fun x hx hm => by have := FO.out x hx; simp only [List.mem_cons, List.not_mem_nil, or_false] at hm; exact this hm))
  clear hC hU
  clear hod
  have C11 := Lib.hid (C10.out.grow (Grow.alloc w10 (.cells #[.int .i64 d.dst, .int .i64 d.src, .int .i64 d.tag, .int .i64 d.typ, .slice none 0 0] 27))); have U11 := Lib.hid (U10.out.grow_ (Grow.alloc w10 (.cells #[.int .i64 d.dst, .int .i64 d.src, .int .i64 d.tag, .int .i64 d.typ, .slice none 0 0] 27)))
  have N11 := Lib.hid ((N10.out.grow (Grow.alloc w10 (.cells #[.int .i64 d.dst, .int .i64 d.src, .int .i64 d.tag, .int .i64 d.typ, .slice none 0 0] 27))).cons (Box.alloc w10 [.int .i64 d.dst, .int .i64 d.src, .int .i64 d.tag, .int .i64 d.typ, .slice none 0 0] 27))
  have P11 := Lib.hid (P10.out.cons (x := w10.heap.size) (cs := [.int .i64 d.dst, .int .i64 d.src, .int .i64 d.tag, .int .i64 d.typ, .slice none 0 0]) (Nat.ne_of_gt C10.out.lt))
  have O11 := Lib.hid (O10.out.grow (Grow.alloc w10 (.cells #[.int .i64 d.dst, .int .i64 d.src, .int .i64 d.tag, .int .i64 d.typ, .slice none 0 0] 27)))
  have LB11 : Hid (w.heap.size + 1 + 1 < w10.heap.size) := Lib.hid (by have h1 := C10.out.lt; omega)
  go_wp2_with fail
  generalize w10.alloc (.cells #[.int .i64 d.dst, .int .i64 d.src, .int .i64 d.tag, .int .i64 d.typ, .slice none 0 0] 27) = w11 at *
  generalize w10.heap.size = b3 at *
  have hne : Nonempty (Cl (Upd [p, w.heap.size, w.heap.size + 1, w.heap.size + 1 + 1] w11)) := ⟨⟨w11, Upd.refl _ _⟩⟩
  have l5 := LB5.out; have l9 := LB9.out; have l11 := LB11.out
  have p11 := P11.out.hd
  have p9 := P11.out.tl.hd
  have p5 := P11.out.tl.tl.hd
  have B3 := Lib.hid N11.out.hd; have B2 := Lib.hid N11.out.tl.hd; have B1 := Lib.hid N11.out.tl.tl.hd
  have k3 : ∀ x : Cl (Upd [p, w.heap.size, w.heap.size + 1, w.heap.size + 1 + 1] w11), Box x.w b3 [.int .i64 d.dst, .int .i64 d.src, .int .i64 d.tag, .int .i64 d.typ, .slice none 0 0] := fun x => B3.out.upd x.ok (by simp; omega)
  have k2 : ∀ x : Cl (Upd [p, w.heap.size, w.heap.size + 1, w.heap.size + 1 + 1] w11), Box x.w b2 [.int .i64 ttl, .int .i64 0, .int .i64 sr, .int .i64 ds, .slice none 0 0] := fun x => B2.out.upd x.ok (by simp; omega)
  have k1 : ∀ x : Cl (Upd [p, w.heap.size, w.heap.size + 1, w.heap.size + 1 + 1] w11), Box x.w b1 [.int .i64 us, .int .i64 ud, .slice av zs.length cv] := fun x => B1.out.upd x.ok (by simp; omega)
  have b1c0 : ∀ x : Cl (Upd [p, w.heap.size, w.heap.size + 1, w.heap.size + 1 + 1] w11), x.w.cell? ⟨b1, 0, none⟩ = some (.int .i64 us) := fun x => (k1 x).three.1
  have b1c1 : ∀ x : Cl (Upd [p, w.heap.size, w.heap.size + 1, w.heap.size + 1 + 1] w11), x.w.cell? ⟨b1, 1, none⟩ = some (.int .i64 ud) := fun x => (k1 x).three.2.1
  have b1c2 : ∀ x : Cl (Upd [p, w.heap.size, w.heap.size + 1, w.heap.size + 1 + 1] w11), x.w.cell? ⟨b1, 2, none⟩ = some (.slice av zs.length cv) := fun x => (k1 x).three.2.2
  have b2c0 : ∀ x : Cl (Upd [p, w.heap.size, w.heap.size + 1, w.heap.size + 1 + 1] w11), x.w.cell? ⟨b2, 0, none⟩ = some (.int .i64 ttl) := fun x => (k2 x).five.1
  have b2c1 : ∀ x : Cl (Upd [p, w.heap.size, w.heap.size + 1, w.heap.size + 1 + 1] w11), x.w.cell? ⟨b2, 1, none⟩ = some (.int .i64 0) := fun x => (k2 x).five.2.1
  have b2c2 : ∀ x : Cl (Upd [p, w.heap.size, w.heap.size + 1, w.heap.size + 1 + 1] w11), x.w.cell? ⟨b2, 2, none⟩ = some (.int .i64 sr) := fun x => (k2 x).five.2.2.1
  have b2c3 : ∀ x : Cl (Upd [p, w.heap.size, w.heap.size + 1, w.heap.size + 1 + 1] w11), x.w.cell? ⟨b2, 3, none⟩ = some (.int .i64 ds) := fun x => (k2 x).five.2.2.2.1
  have b2c4 : ∀ x : Cl (Upd [p, w.heap.size, w.heap.size + 1, w.heap.size + 1 + 1] w11), x.w.cell? ⟨b2, 4, none⟩ = some (.slice none 0 0) := fun x => (k2 x).five.2.2.2.2
  have b3c0 : ∀ x : Cl (Upd [p, w.heap.size, w.heap.size + 1, w.heap.size + 1 + 1] w11), x.w.cell? ⟨b3, 0, none⟩ = some (.int .i64 d.dst) := fun x => (k3 x).five.1
  have b3c1 : ∀ x : Cl (Upd [p, w.heap.size, w.heap.size + 1, w.heap.size + 1 + 1] w11), x.w.cell? ⟨b3, 1, none⟩ = some (.int .i64 d.src) := fun x => (k3 x).five.2.1
  have b3c2 : ∀ x : Cl (Upd [p, w.heap.size, w.heap.size + 1, w.heap.size + 1 + 1] w11), x.w.cell? ⟨b3, 2, none⟩ = some (.int .i64 d.tag) := fun x => (k3 x).five.2.2.1
  have b3c3 : ∀ x : Cl (Upd [p, w.heap.size, w.heap.size + 1, w.heap.size + 1 + 1] w11), x.w.cell? ⟨b3, 3, none⟩ = some (.int .i64 d.typ) := fun x => (k3 x).five.2.2.2.1
  have b3c4 : ∀ x : Cl (Upd [p, w.heap.size, w.heap.size + 1, w.heap.size + 1 + 1] w11), x.w.cell? ⟨b3, 4, none⟩ = some (.slice none 0 0) := fun x => (k3 x).five.2.2.2.2
  have D0 := Lib.hid ((Grow.drewN w11 1).upd [p, w.heap.size, w.heap.size + 1, w.heap.size + 1 + 1])
  have CD := Lib.hid (C11.out.grow (Grow.drewN w11 1))
  clear k1 k2 k3
  refine wp_region_mix (Cls (Upd [p, w.heap.size, w.heap.size + 1, w.heap.size + 1 + 1] w11)) 10 #[false, false, false, false, false, false, false, false, false, false] (by kernel_rfl) (by kernel_rfl) ⟨⟨_, D0.out⟩, rfl⟩ ?_
  refine anyC_seg [0, 1, 2, 3] #[true, true, true, true, false, false, false, false, false, false] (fuel := 6) rfl (by kernel_rfl) ⟨⟨_, D0.out⟩, rfl⟩ ?_
  simp only [pickOps, List.getD_cons_succ, List.getD_cons_zero]
  repeat (go_big_quiet_step (fail))
  refine wpQuiet_nil ?_
  clear b1c0 b1c1 b1c2 b2c0 b2c1 b2c2 b2c3 b2c4 b3c0 b3c1 b3c2 b3c3 b3c4
  refine anyC_sole 4 #[true, true, true, true, true, false, false, false, false, false] (fuel := 5) (by kernel_rfl) ?_
  simp only [List.getD_cons_succ, List.getD_cons_zero]
  go_wp2_with fail
  refine (l01Below_any _ p 255 (by decide) CD.out).mono ?_
  rintro e w12 ⟨ii, rfl, hia, hib, -, hC, hU⟩
  have hib := hib (by decide)
  have D1 := Lib.hid (((Grow.drewN w11 1).upd [p]).same hU)
  have E1 : Hid (Upd [p, w.heap.size, w.heap.size + 1, w.heap.size + 1 + 1] w11 w12) := Lib.hid (D1.out.mono (fun x hx _ => by simp at hx; simp [hx]))
  have N12 := Lib.hid ((N11.out.step P11.out D1.out))
  have O12 := Lib.hid (O11.out.upd D1.out (fun x hx hm => by have := FO.out x hx; simp only [List.mem_cons, List.not_mem_nil, or_false] at hm; exact this hm))
  have U12 := Lib.hid (U11.out.same D1.out)
  clear hC hU
  go_wp2
  refine ⟨⟨⟨_, E1.out⟩, rfl⟩, ?_⟩
  refine anyC_seg [5] #[true, true, true, true, true, true, false, false, false, false] (fuel := 4) rfl (by kernel_rfl) ⟨⟨_, E1.out⟩, rfl⟩ ?_
  simp only [pickOps, List.getD_cons_succ, List.getD_cons_zero]
  repeat (go_big_quiet_step (fail))
  refine wpQuiet_nil ?_
  have Q3 := Lib.hid N12.out.tl.tl.tl.hd; have Q2 := Lib.hid N12.out.tl.tl.tl.tl.hd; have Q1 := Lib.hid N12.out.tl.tl.tl.tl.tl.hd
  have ⟨r10, r11, r12⟩ := Q1.out.three; have r1z := Q1.out.2.2; have r1l := Q1.out.1
  have ⟨r20, r21, r22, r23, r24⟩ := Q2.out.five; have r2z := Q2.out.2.2; have r2l := Q2.out.1
  have ⟨r30, r31, r32, r33, r34⟩ := Q3.out.five; have r3z := Q3.out.2.2; have r3l := Q3.out.1
  refine anyC_sole 6 #[true, true, true, true, true, true, true, false, false, false] (fuel := 3) (by kernel_rfl) ?_
  simp only [List.getD_cons_succ, List.getD_cons_zero]
  go_wp2
  have E6 := Lib.hid (Upd.setCell (p := ⟨w.heap.size, 2, none⟩) (Upd.setCell (p := ⟨w.heap.size, 1, none⟩) (Upd.setCell (p := ⟨w.heap.size, 0, none⟩) E1.out (by simp) (.int .i64 us)) (by simp) (.int .i64 ud)) (by simp) (.slice av zs.length cv))
  refine ⟨⟨⟨_, E6.out⟩, rfl⟩, ?_⟩
  refine anyC_sole 7 #[true, true, true, true, true, true, true, true, false, false] (fuel := 2) (by kernel_rfl) ?_
  simp only [List.getD_cons_succ, List.getD_cons_zero]
  go_wp2
  have E7 := Lib.hid (Upd.setCell (p := ⟨(w.heap.size + 1), 4, none⟩) (Upd.setCell (p := ⟨(w.heap.size + 1), 3, none⟩) (Upd.setCell (p := ⟨(w.heap.size + 1), 2, none⟩) (Upd.setCell (p := ⟨(w.heap.size + 1), 1, none⟩) (Upd.setCell (p := ⟨(w.heap.size + 1), 0, none⟩) (Upd.setCell (p := ⟨w.heap.size, 2, none⟩) (Upd.setCell (p := ⟨w.heap.size, 1, none⟩) (Upd.setCell (p := ⟨w.heap.size, 0, none⟩) E1.out (by simp) (.int .i64 us)) (by simp) (.int .i64 ud)) (by simp) (.slice av zs.length cv)) (by simp) (.int .i64 ttl)) (by simp) (.int .i64 0)) (by simp) (.int .i64 sr)) (by simp) (.int .i64 ds)) (by simp) (.slice none 0 0))
  refine ⟨⟨⟨_, E7.out⟩, rfl⟩, ?_⟩
  refine anyC_sole 8 #[true, true, true, true, true, true, true, true, true, false] (fuel := 1) (by kernel_rfl) ?_
  simp only [List.getD_cons_succ, List.getD_cons_zero]
  go_wp2
  have E8 := Lib.hid (Upd.setCell (p := ⟨(w.heap.size + 1 + 1), 4, none⟩) (Upd.setCell (p := ⟨(w.heap.size + 1 + 1), 3, none⟩) (Upd.setCell (p := ⟨(w.heap.size + 1 + 1), 2, none⟩) (Upd.setCell (p := ⟨(w.heap.size + 1 + 1), 1, none⟩) (Upd.setCell (p := ⟨(w.heap.size + 1 + 1), 0, none⟩) (Upd.setCell (p := ⟨(w.heap.size + 1), 4, none⟩) (Upd.setCell (p := ⟨(w.heap.size + 1), 3, none⟩) (Upd.setCell (p := ⟨(w.heap.size + 1), 2, none⟩) (Upd.setCell (p := ⟨(w.heap.size + 1), 1, none⟩) (Upd.setCell (p := ⟨(w.heap.size + 1), 0, none⟩) (Upd.setCell (p := ⟨w.heap.size, 2, none⟩) (Upd.setCell (p := ⟨w.heap.size, 1, none⟩) (Upd.setCell (p := ⟨w.heap.size, 0, none⟩) E1.out (by simp) (.int .i64 us)) (by simp) (.int .i64 ud)) (by simp) (.slice av zs.length cv)) (by simp) (.int .i64 ttl)) (by simp) (.int .i64 0)) (by simp) (.int .i64 sr)) (by simp) (.int .i64 ds)) (by simp) (.slice none 0 0)) (by simp) (.int .i64 d.dst)) (by simp) (.int .i64 d.src)) (by simp) (.int .i64 d.tag)) (by simp) (.int .i64 d.typ)) (by simp) (.slice none 0 0))
  refine ⟨⟨⟨_, E8.out⟩, rfl⟩, ?_⟩
  refine anyC_seg [9] #[true, true, true, true, true, true, true, true, true, true] (fuel := 0) rfl (by kernel_rfl) ⟨⟨_, E8.out⟩, rfl⟩ ?_
  simp only [pickOps, List.getD_cons_succ, List.getD_cons_zero]
  repeat (go_big_quiet_step (fail))
  refine wpQuiet_nil ?_
  refine anyC_done (by kernel_rfl) ?_
  have HR : Hid (∀ W', Upd [w.heap.size, w.heap.size + 1, w.heap.size + 1 + 1] w12 W' → RetNest w (.returned (.tuple #[.agg #[.int .i64 us, .int .i64 ud, .slice av zs.length cv], .agg #[.int .i64 ttl, .int .i64 0, .int .i64 sr, .int .i64 ds, .slice none 0 0], .agg #[.int .i64 d.dst, .int .i64 d.src, .int .i64 d.tag, .int .i64 d.typ, .slice none 0 0], .int .i64 (1 + ii)])) W') := Lib.hid (fun W' hu => by
    refine ⟨us, ud, ttl, sr, ds, d.dst, d.src, d.tag, d.typ, 1 + ii, zs, av, cv, rfl, (O12.out.upd hu (fun x hx hm => by have := FF.out x hx; simp only [List.mem_cons, List.not_mem_nil, or_false] at hm; omega)).rd, ZB.out, ZL.out, ⟨husa, husb⟩, ⟨huda, hudb⟩, ⟨httla, httlb⟩, ⟨hsra, hsrb⟩, ⟨hdsa, hdsb⟩, hd1, hd2, hd3, ⟨by omega, by omega⟩, ?_⟩
    exact (G1.out.then_upd U12.out (by intro x hx; simp only [List.mem_cons, List.not_mem_nil, or_false] at hx; omega)).then_upd hu (by intro x hx; simp only [List.mem_cons, List.not_mem_nil, or_false] at hx; omega))
  go_wp2
  refine bodyPost_ret (v := .tuple #[.agg #[.int .i64 us, .int .i64 ud, .slice av zs.length cv], .agg #[.int .i64 ttl, .int .i64 0, .int .i64 sr, .int .i64 ds, .slice none 0 0], .agg #[.int .i64 d.dst, .int .i64 d.src, .int .i64 d.tag, .int .i64 d.typ, .slice none 0 0], .int .i64 (1 + ii)]) ?_ rfl (HR.out _ ?_)
  · simp [results, Try.results70, go_sem, r10, r11, r12, r20, r21, r22, r23, r24, r30, r31, r32, r33, r34] <;> omega
  · ((repeat (first | (with_reducible refine Upd.setCell ?_ (by simp) _) | with_reducible exact Upd.refl _ _)))

--%
end Go.Proofs.Ytcldfodnblkeiaa
