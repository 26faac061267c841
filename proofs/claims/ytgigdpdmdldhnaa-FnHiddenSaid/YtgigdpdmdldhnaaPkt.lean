/- The laws' helpers on packets, datagrams and headers, in the form of Ty (printed by structs.py). -/
import Derived.Test.YtgigdpdmdldhnaaInts
import Derived.Test.YtgigdpdmdldhnaaReg
import Derived.WalkKit
import Derived.ProofKit
import Derived.Deep.QuietTactic
import Derived.BigQuiet
import Derived.Outline
import Derived.WalkSpells
namespace Go.Proofs.Ytgigdpdmdldhnaa
open Go.ChangeShapes Go.WideShapes Go.ChangeAt Go.RowKit
set_option linter.unusedVariables false
set_option linter.unusedSimpArgs false

--%
/-- After a call that only makes memory: what was there reads as it did. -/
theorem bcell {W w1 : World} (hb : Grow W w1) : (∀ b o, b < W.heap.size → w1.cell? ⟨b, o, none⟩ = W.cell? ⟨b, o, none⟩) ∧ (∀ b o, b < W.heap.size → w1.frozen? ⟨b, o, none⟩ = W.frozen? ⟨b, o, none⟩) :=
  ⟨fun b o h => Below.cell hb (p := ⟨b, o, none⟩) h, fun b o h => Below.frozen hb (p := ⟨b, o, none⟩) h⟩
/-- The same over writes to blocks that stand apart. -/
theorem ucell {fp : List Nat} {W w1 : World} (hu : Upd fp W w1) : (∀ b o, b < W.heap.size → b ∉ fp → w1.cell? ⟨b, o, none⟩ = W.cell? ⟨b, o, none⟩) ∧ (∀ b o, b < W.heap.size → b ∉ fp → w1.frozen? ⟨b, o, none⟩ = W.frozen? ⟨b, o, none⟩) :=
  ⟨fun b o h hn => by have := hu.block b h hn; simp only [World.cell?, this], fun b o h hn => by have := hu.block b h hn; simp only [World.frozen?, this]⟩
theorem Grow.alloc_ {w W : World} (h : Grow w W) (o : Obj) : Grow w (W.alloc o) := h.trans (Grow.alloc _ _)
theorem Grow.setCell_ {w W : World} (h : Grow w W) {p : Addr} (hp : w.heap.size ≤ p.block) (x : Value) : Grow w (W.setCell p x) := Below.setCell h hp x
theorem Upd.setCell {fp : List Nat} {a w : World} (h : Upd fp a w) {p : Addr} (hp : p.block ∈ fp) (x : Value) : Upd fp a (w.setCell p x) := by
  have hb := Below.setCell (Below.refl 0 w) (p := p) (Nat.zero_le _) x
  refine ⟨hb.os.trans h.os, hb.tape.trans h.tape, hb.output.trans h.output, Nat.le_trans h.size hb.size, fun k hk hn => ?_⟩
  rw [Below.heap_setCell _ _ _ _ (fun e => hn (by rw [e]; exact hp)), h.block k hk hn]
theorem Grow.upd_then {w W w1 : World} {fp : List Nat} (hG : Grow w W) (u : Upd fp W w1) : Upd fp w w1 :=
  ((hG.upd fp).trans u).mono (fun x hx _ => by rcases List.mem_append.1 hx with h | h <;> exact h)
theorem at_both {fp : List Nat} {w w1 W : World} {G : Prop} (hG : Grow w W) (hU : Upd fp w1 W) (k : Grow w W → Upd fp w1 W → G) : G := k hG hU
theorem at_world {w W : World} {G : Prop} (hG : Grow w W) (k : Grow w W → G) : G := k hG
/-- Memory was made (W), a call made data (w1), then boxes were written. -/
theorem Grow.boxes {w W w1 w2 : World} {fq fp : List Nat} (hG : Grow w W) (hg : Grow W w1) (hu : Upd fq w1 w2) (hf : Fresh W fp) (hq : ∀ b ∈ fq, w.heap.size ≤ b ∧ b < W.heap.size) :
    Grow w w2 ∧ Fresh w fp ∧ (∀ x ∈ fp, x ∉ fq) :=
  ⟨(hG.trans hg).then_upd hu (fun x hx => (hq x hx).1), hf.older hG, fun x hx hm => by have h1 := (hq x hm).2; have h2 := hf x hx; omega⟩
def leftOf (l s : Int) : Int := if l < s then -1 else l - s
theorem leftOf_no {l s : Int} (h : l < s) : leftOf l s = -1 := by simp [leftOf, h]
theorem leftOf_yes {l s : Int} (h : ¬ l < s) : leftOf l s = l - s := by simp [leftOf, h]
/-- A box: its cells, one by one. -/
def Box (W : World) (b : Nat) (cs : List Value) : Prop := b < W.heap.size ∧ (∀ j v, cs[j]? = some v → W.cell? ⟨b, j, none⟩ = some v) ∧ ∀ o, W.frozen? ⟨b, o, none⟩ = false
theorem Box.grow {W W' : World} {b : Nat} {cs : List Value} (h : Box W b cs) (g : Grow W W') : Box W' b cs := ⟨Nat.lt_of_lt_of_le h.1 g.size, fun j v hj => g.cell (h.2.1 j v hj), fun o => ((bcell g).2 b o h.1).trans (h.2.2 o)⟩
theorem Box.upd {W W' : World} {b : Nat} {cs : List Value} {fp : List Nat} (h : Box W b cs) (u : Upd fp W W') (hn : b ∉ fp) : Box W' b cs :=
  ⟨Nat.lt_of_lt_of_le h.1 u.size, fun j v hj => ((ucell u).1 b j h.1 hn).trans (h.2.1 j v hj), fun o => ((ucell u).2 b o h.1 hn).trans (h.2.2 o)⟩
theorem Box.alloc (W : World) (cs : List Value) (t : TypeId) : Box (W.alloc (.cells cs.toArray t)) W.heap.size cs := by
  refine ⟨by simp only [World.alloc, Array.size_push]; omega, fun j v hj => ?_, fun o => ?_⟩
  · simp only [World.cell?, heap_alloc_new]
    simpa using hj
  · simp only [World.frozen?, heap_alloc_new]
    simp
theorem Box.one {W : World} {b : Nat} {a : Value} (h : Box W b [a]) : W.cell? ⟨b, 0, none⟩ = some a := h.2.1 0 _ rfl
theorem Box.three {W : World} {b : Nat} {c0 c1 c2 : Value} (h : Box W b [c0, c1, c2]) : W.cell? ⟨b, 0, none⟩ = some c0 ∧ W.cell? ⟨b, 1, none⟩ = some c1 ∧ W.cell? ⟨b, 2, none⟩ = some c2 := ⟨h.2.1 0 _ rfl, h.2.1 1 _ rfl, h.2.1 2 _ rfl⟩
theorem Box.five {W : World} {b : Nat} {c0 c1 c2 c3 c4 : Value} (h : Box W b [c0, c1, c2, c3, c4]) : W.cell? ⟨b, 0, none⟩ = some c0 ∧ W.cell? ⟨b, 1, none⟩ = some c1 ∧ W.cell? ⟨b, 2, none⟩ = some c2 ∧ W.cell? ⟨b, 3, none⟩ = some c3 ∧ W.cell? ⟨b, 4, none⟩ = some c4 := ⟨h.2.1 0 _ rfl, h.2.1 1 _ rfl, h.2.1 2 _ rfl, h.2.1 3 _ rfl, h.2.1 4 _ rfl⟩
theorem Box.three_ {W : World} {b : Nat} {c0 c1 c2 : Value} (h : Box W b [c0, c1, c2]) : (∀ x : Cl (Grow W), x.w.cell? ⟨b, 0, none⟩ = some c0) ∧ (∀ x : Cl (Grow W), x.w.cell? ⟨b, 1, none⟩ = some c1) ∧ (∀ x : Cl (Grow W), x.w.cell? ⟨b, 2, none⟩ = some c2) :=
  ⟨fun x => (h.grow x.ok).three.1, fun x => (h.grow x.ok).three.2.1, fun x => (h.grow x.ok).three.2.2⟩
theorem Box.five_ {W : World} {b : Nat} {c0 c1 c2 c3 c4 : Value} (h : Box W b [c0, c1, c2, c3, c4]) : (∀ x : Cl (Grow W), x.w.cell? ⟨b, 0, none⟩ = some c0) ∧ (∀ x : Cl (Grow W), x.w.cell? ⟨b, 1, none⟩ = some c1) ∧ (∀ x : Cl (Grow W), x.w.cell? ⟨b, 2, none⟩ = some c2) ∧ (∀ x : Cl (Grow W), x.w.cell? ⟨b, 3, none⟩ = some c3) ∧ (∀ x : Cl (Grow W), x.w.cell? ⟨b, 4, none⟩ = some c4) :=
  ⟨fun x => (h.grow x.ok).five.1, fun x => (h.grow x.ok).five.2.1, fun x => (h.grow x.ok).five.2.2.1, fun x => (h.grow x.ok).five.2.2.2.1, fun x => (h.grow x.ok).five.2.2.2.2⟩
theorem Box.set {W : World} {b : Nat} {cs : List Value} (h : Box W b cs) (i : Nat) (x : Value) (hi : i < cs.length) : Box (W.setCell ⟨b, i, none⟩ x) b (cs.set i x) := by
  refine ⟨Nat.lt_of_lt_of_le h.1 (Below.setCell (Below.refl 0 W) (p := ⟨b, i, none⟩) (Nat.zero_le _) x).size, fun j v hj => ?_, fun o => (World.frozen?_setCell _ _ _ _).trans (h.2.2 o)⟩
  by_cases e : i = j
  · subst e
    rw [List.getElem?_set_self hi] at hj
    have hj' : x = v := by simpa using hj
    subst hj'
    exact World.cell?_setCell_same W _ x (h.2.1 i _ (List.getElem?_eq_getElem hi))
  · rw [List.getElem?_set_ne e] at hj
    exact (World.cell?_setCell_other W _ _ x (by intro he; injection he with h1 h2 h3; exact e h2)).trans (h.2.1 j v hj)
theorem Box.two {W : World} {b : Nat} {c0 c1 : Value} (h : Box W b [c0, c1]) : W.cell? ⟨b, 0, none⟩ = some c0 ∧ W.cell? ⟨b, 1, none⟩ = some c1 := ⟨h.2.1 0 _ rfl, h.2.1 1 _ rfl⟩
theorem Box.one_ {W : World} {b : Nat} {c0 : Value} (h : Box W b [c0]) : ∀ x : Cl (Grow W), x.w.cell? ⟨b, 0, none⟩ = some c0 := fun x => (h.grow x.ok).one
theorem Box.two_ {W : World} {b : Nat} {c0 c1 : Value} (h : Box W b [c0, c1]) : (∀ x : Cl (Grow W), x.w.cell? ⟨b, 0, none⟩ = some c0) ∧ (∀ x : Cl (Grow W), x.w.cell? ⟨b, 1, none⟩ = some c1) :=
  ⟨fun x => (h.grow x.ok).two.1, fun x => (h.grow x.ok).two.2⟩
theorem Box.six {W : World} {b : Nat} {c0 c1 c2 c3 c4 c5 : Value} (h : Box W b [c0, c1, c2, c3, c4, c5]) : W.cell? ⟨b, 0, none⟩ = some c0 ∧ W.cell? ⟨b, 1, none⟩ = some c1 ∧ W.cell? ⟨b, 2, none⟩ = some c2 ∧ W.cell? ⟨b, 3, none⟩ = some c3 ∧ W.cell? ⟨b, 4, none⟩ = some c4 ∧ W.cell? ⟨b, 5, none⟩ = some c5 := ⟨h.2.1 0 _ rfl, h.2.1 1 _ rfl, h.2.1 2 _ rfl, h.2.1 3 _ rfl, h.2.1 4 _ rfl, h.2.1 5 _ rfl⟩
theorem Box.six_ {W : World} {b : Nat} {c0 c1 c2 c3 c4 c5 : Value} (h : Box W b [c0, c1, c2, c3, c4, c5]) : (∀ x : Cl (Grow W), x.w.cell? ⟨b, 0, none⟩ = some c0) ∧ (∀ x : Cl (Grow W), x.w.cell? ⟨b, 1, none⟩ = some c1) ∧ (∀ x : Cl (Grow W), x.w.cell? ⟨b, 2, none⟩ = some c2) ∧ (∀ x : Cl (Grow W), x.w.cell? ⟨b, 3, none⟩ = some c3) ∧ (∀ x : Cl (Grow W), x.w.cell? ⟨b, 4, none⟩ = some c4) ∧ (∀ x : Cl (Grow W), x.w.cell? ⟨b, 5, none⟩ = some c5) :=
  ⟨fun x => (h.grow x.ok).six.1, fun x => (h.grow x.ok).six.2.1, fun x => (h.grow x.ok).six.2.2.1, fun x => (h.grow x.ok).six.2.2.2.1, fun x => (h.grow x.ok).six.2.2.2.2.1, fun x => (h.grow x.ok).six.2.2.2.2.2⟩
theorem Box.at_ {W : World} {b b' : Nat} {cs : List Value} (h : Box W b cs) (e : b = b') : Box W b' cs := e ▸ h
--% szInt 77
theorem szInt_any (w : World) (v : Value) (zs : List Int) (l : Int) (h : RdN w v zs) (hl : 0 ≤ l ∧ l ≤ 1048576) : Calls Try.prog 77 #[v, .int .i64 l] w (RetV (.int .i64 (leftOf l zs.length)) w) := by
  obtain ⟨a, c, rfl, hlc, hm, hn, hc⟩ := Rd.ints h
  clear h hn hc
  unfold maxLen at hm
  by_cases hs : l < zs.length
  · have HE := Lib.hid (leftOf_no hs)
    go_enter Try.func77, Try.ntmps77
    go_wp2
    go_ret
    exact ⟨ret_int HE.out.symm, Grow.refl _⟩
  · have HE := Lib.hid (leftOf_yes hs)
    go_enter Try.func77, Try.ntmps77
    go_wp2
    go_ret
    exact ⟨ret_int HE.out.symm, Grow.refl _⟩
--% Packet
structure PacketD where
  dst : Int
  src : Int
  tag : Int
  typ : Int
  body : List Int
deriving DecidableEq
abbrev DatP := PacketD
def RdP (w : World) (V : Value) (d : PacketD) : Prop := ∃ v0, V = .agg #[.int .i64 d.dst, .int .i64 d.src, .int .i64 d.tag, .int .i64 d.typ, v0] ∧ RdB w v0 d.body
def OwnP (w : World) (V : Value) (d : PacketD) (fp : List Nat) : Prop := ∃ v0, V = .agg #[.int .i64 d.dst, .int .i64 d.src, .int .i64 d.tag, .int .i64 d.typ, v0] ∧ OwnB w v0 d.body fp
def WfP (d : PacketD) : Prop := (-9223372036854775808 ≤ d.dst ∧ d.dst ≤ 9223372036854775807) ∧ (-9223372036854775808 ≤ d.src ∧ d.src ≤ 9223372036854775807) ∧ (-9223372036854775808 ≤ d.tag ∧ d.tag ≤ 9223372036854775807) ∧ (-9223372036854775808 ≤ d.typ ∧ d.typ ≤ 9223372036854775807) ∧ WfB d.body
def cntP (d : PacketD) : Int := cntB d.body
def sizeP (d : PacketD) : Int := (d.body.length : Int)
def SmP (d : PacketD) : Prop := sizeP d ≤ 1048576
def mkP (d : PacketD) (k : Int) : PacketD := ⟨d.dst, d.src, d.tag, d.typ, mkB d.body k⟩
theorem SmP.body {d : PacketD} (h : SmP d) : SmB d.body := by unfold SmP sizeP at h; unfold SmB; omega
theorem cntP_bd (d : PacketD) (h : SmP d) : 0 ≤ cntP d ∧ cntP d ≤ 1048576 := by unfold cntP cntB; unfold SmP sizeP at h; omega
theorem RdP.grow {w w' : World} {V : Value} {d : PacketD} (h : RdP w V d) (g : Grow w w') : RdP w' V d := by obtain ⟨v, e, h⟩ := h; exact ⟨v, e, h.grow g⟩
theorem OwnP.rd {w : World} {V : Value} {d : PacketD} {fp : List Nat} (h : OwnP w V d fp) : RdP w V d := by obtain ⟨v, e, h⟩ := h; exact ⟨v, e, h.rd⟩
theorem OwnP.here {w : World} {V : Value} {d : PacketD} {fp : List Nat} (h : OwnP w V d fp) : Here w fp := by obtain ⟨v, e, h⟩ := h; exact h.here
theorem OwnP.upd {w w' : World} {V : Value} {d : PacketD} {fp fq : List Nat} (h : OwnP w V d fp) (u : Upd fq w w') (ha : ∀ x ∈ fp, x ∉ fq) : OwnP w' V d fp := by obtain ⟨v, e, h⟩ := h; exact ⟨v, e, h.upd u ha⟩
theorem OwnP.grow {w w' : World} {V : Value} {d : PacketD} {fp : List Nat} (h : OwnP w V d fp) (g : Grow w w') : OwnP w' V d fp := h.upd (g.upd []) (by simp)
theorem RdP.shape {w : World} {V : Value} {d : PacketD} (h : RdP w V d) : ∃ a c, V = .agg #[.int .i64 d.dst, .int .i64 d.src, .int .i64 d.tag, .int .i64 d.typ, .slice a d.body.length c] := by
  obtain ⟨v, rfl, hv⟩ := h
  obtain ⟨a, c, rfl, _⟩ := Rd.ints hv
  exact ⟨a, c, rfl⟩
--% Ip
structure IpD where
  ttl : Int
  proto : Int
  src : Int
  dst : Int
  data : List Int
deriving DecidableEq
abbrev DatIp := IpD
def RdIp (w : World) (V : Value) (d : IpD) : Prop := ∃ v0, V = .agg #[.int .i64 d.ttl, .int .i64 d.proto, .int .i64 d.src, .int .i64 d.dst, v0] ∧ RdB w v0 d.data
def OwnIp (w : World) (V : Value) (d : IpD) (fp : List Nat) : Prop := ∃ v0, V = .agg #[.int .i64 d.ttl, .int .i64 d.proto, .int .i64 d.src, .int .i64 d.dst, v0] ∧ OwnB w v0 d.data fp
def WfIp (d : IpD) : Prop := (-9223372036854775808 ≤ d.ttl ∧ d.ttl ≤ 9223372036854775807) ∧ (-9223372036854775808 ≤ d.proto ∧ d.proto ≤ 9223372036854775807) ∧ (-9223372036854775808 ≤ d.src ∧ d.src ≤ 9223372036854775807) ∧ (-9223372036854775808 ≤ d.dst ∧ d.dst ≤ 9223372036854775807) ∧ WfB d.data
def cntIp (d : IpD) : Int := cntB d.data
def sizeIp (d : IpD) : Int := (d.data.length : Int)
def SmIp (d : IpD) : Prop := sizeIp d ≤ 1048576
def mkIp (d : IpD) (k : Int) : IpD := ⟨d.ttl, d.proto, d.src, d.dst, mkB d.data k⟩
theorem SmIp.data {d : IpD} (h : SmIp d) : SmB d.data := by unfold SmIp sizeIp at h; unfold SmB; omega
theorem cntIp_bd (d : IpD) (h : SmIp d) : 0 ≤ cntIp d ∧ cntIp d ≤ 1048576 := by unfold cntIp cntB; unfold SmIp sizeIp at h; omega
theorem RdIp.grow {w w' : World} {V : Value} {d : IpD} (h : RdIp w V d) (g : Grow w w') : RdIp w' V d := by obtain ⟨v, e, h⟩ := h; exact ⟨v, e, h.grow g⟩
theorem OwnIp.rd {w : World} {V : Value} {d : IpD} {fp : List Nat} (h : OwnIp w V d fp) : RdIp w V d := by obtain ⟨v, e, h⟩ := h; exact ⟨v, e, h.rd⟩
theorem OwnIp.here {w : World} {V : Value} {d : IpD} {fp : List Nat} (h : OwnIp w V d fp) : Here w fp := by obtain ⟨v, e, h⟩ := h; exact h.here
theorem OwnIp.upd {w w' : World} {V : Value} {d : IpD} {fp fq : List Nat} (h : OwnIp w V d fp) (u : Upd fq w w') (ha : ∀ x ∈ fp, x ∉ fq) : OwnIp w' V d fp := by obtain ⟨v, e, h⟩ := h; exact ⟨v, e, h.upd u ha⟩
theorem OwnIp.grow {w w' : World} {V : Value} {d : IpD} {fp : List Nat} (h : OwnIp w V d fp) (g : Grow w w') : OwnIp w' V d fp := h.upd (g.upd []) (by simp)
theorem RdIp.shape {w : World} {V : Value} {d : IpD} (h : RdIp w V d) : ∃ a c, V = .agg #[.int .i64 d.ttl, .int .i64 d.proto, .int .i64 d.src, .int .i64 d.dst, .slice a d.data.length c] := by
  obtain ⟨v, rfl, hv⟩ := h
  obtain ⟨a, c, rfl, _⟩ := Rd.ints hv
  exact ⟨a, c, rfl⟩
--% Udp
structure UdpD where
  src : Int
  dst : Int
  data : List Int
deriving DecidableEq
abbrev DatU := UdpD
def RdU (w : World) (V : Value) (d : UdpD) : Prop := ∃ v0, V = .agg #[.int .i64 d.src, .int .i64 d.dst, v0] ∧ RdB w v0 d.data
def OwnU (w : World) (V : Value) (d : UdpD) (fp : List Nat) : Prop := ∃ v0, V = .agg #[.int .i64 d.src, .int .i64 d.dst, v0] ∧ OwnB w v0 d.data fp
def WfU (d : UdpD) : Prop := (-9223372036854775808 ≤ d.src ∧ d.src ≤ 9223372036854775807) ∧ (-9223372036854775808 ≤ d.dst ∧ d.dst ≤ 9223372036854775807) ∧ WfB d.data
def cntU (d : UdpD) : Int := cntB d.data
def sizeU (d : UdpD) : Int := (d.data.length : Int)
def SmU (d : UdpD) : Prop := sizeU d ≤ 1048576
def mkU (d : UdpD) (k : Int) : UdpD := ⟨d.src, d.dst, mkB d.data k⟩
theorem SmU.data {d : UdpD} (h : SmU d) : SmB d.data := by unfold SmU sizeU at h; unfold SmB; omega
theorem cntU_bd (d : UdpD) (h : SmU d) : 0 ≤ cntU d ∧ cntU d ≤ 1048576 := by unfold cntU cntB; unfold SmU sizeU at h; omega
theorem RdU.grow {w w' : World} {V : Value} {d : UdpD} (h : RdU w V d) (g : Grow w w') : RdU w' V d := by obtain ⟨v, e, h⟩ := h; exact ⟨v, e, h.grow g⟩
theorem OwnU.rd {w : World} {V : Value} {d : UdpD} {fp : List Nat} (h : OwnU w V d fp) : RdU w V d := by obtain ⟨v, e, h⟩ := h; exact ⟨v, e, h.rd⟩
theorem OwnU.here {w : World} {V : Value} {d : UdpD} {fp : List Nat} (h : OwnU w V d fp) : Here w fp := by obtain ⟨v, e, h⟩ := h; exact h.here
theorem OwnU.upd {w w' : World} {V : Value} {d : UdpD} {fp fq : List Nat} (h : OwnU w V d fp) (u : Upd fq w w') (ha : ∀ x ∈ fp, x ∉ fq) : OwnU w' V d fp := by obtain ⟨v, e, h⟩ := h; exact ⟨v, e, h.upd u ha⟩
theorem OwnU.grow {w w' : World} {V : Value} {d : UdpD} {fp : List Nat} (h : OwnU w V d fp) (g : Grow w w') : OwnU w' V d fp := h.upd (g.upd []) (by simp)
theorem RdU.shape {w : World} {V : Value} {d : UdpD} (h : RdU w V d) : ∃ a c, V = .agg #[.int .i64 d.src, .int .i64 d.dst, .slice a d.data.length c] := by
  obtain ⟨v, rfl, hv⟩ := h
  obtain ⟨a, c, rfl, _⟩ := Rd.ints hv
  exact ⟨a, c, rfl⟩
--% Head
structure HeadD where
  vs : List Int
deriving DecidableEq
abbrev DatH := HeadD
def RdH (w : World) (V : Value) (d : HeadD) : Prop := ∃ v0, V = .agg #[v0] ∧ RdN w v0 d.vs
def OwnH (w : World) (V : Value) (d : HeadD) (fp : List Nat) : Prop := ∃ v0, V = .agg #[v0] ∧ OwnN w v0 d.vs fp
def WfH (d : HeadD) : Prop := WfN d.vs
def cntH (d : HeadD) : Int := cntN d.vs
def sizeH (d : HeadD) : Int := (d.vs.length : Int)
def SmH (d : HeadD) : Prop := sizeH d ≤ 1048576
def mkH (d : HeadD) (k : Int) : HeadD := ⟨mkN d.vs k⟩
theorem SmH.vs {d : HeadD} (h : SmH d) : SmN d.vs := by unfold SmH sizeH at h; unfold SmN; omega
theorem cntH_bd (d : HeadD) (h : SmH d) : 0 ≤ cntH d ∧ cntH d ≤ 1048576 := by unfold cntH cntN; unfold SmH sizeH at h; omega
theorem RdH.grow {w w' : World} {V : Value} {d : HeadD} (h : RdH w V d) (g : Grow w w') : RdH w' V d := by obtain ⟨v, e, h⟩ := h; exact ⟨v, e, h.grow g⟩
theorem OwnH.rd {w : World} {V : Value} {d : HeadD} {fp : List Nat} (h : OwnH w V d fp) : RdH w V d := by obtain ⟨v, e, h⟩ := h; exact ⟨v, e, h.rd⟩
theorem OwnH.here {w : World} {V : Value} {d : HeadD} {fp : List Nat} (h : OwnH w V d fp) : Here w fp := by obtain ⟨v, e, h⟩ := h; exact h.here
theorem OwnH.upd {w w' : World} {V : Value} {d : HeadD} {fp fq : List Nat} (h : OwnH w V d fp) (u : Upd fq w w') (ha : ∀ x ∈ fp, x ∉ fq) : OwnH w' V d fp := by obtain ⟨v, e, h⟩ := h; exact ⟨v, e, h.upd u ha⟩
theorem OwnH.grow {w w' : World} {V : Value} {d : HeadD} {fp : List Nat} (h : OwnH w V d fp) (g : Grow w w') : OwnH w' V d fp := h.upd (g.upd []) (by simp)
theorem RdH.shape {w : World} {V : Value} {d : HeadD} (h : RdH w V d) : ∃ a c, V = .agg #[.slice a d.vs.length c] := by
  obtain ⟨v, rfl, hv⟩ := h
  obtain ⟨a, c, rfl, _⟩ := Rd.ints hv
  exact ⟨a, c, rfl⟩
--% toHead 32
theorem to_H (w : World) (V : Value) (d : HeadD) (h : RdH w V d) (hs : SmH d) : Calls Try.prog 32 #[V] w (RetNew OwnH d w) := by
  obtain ⟨v, rfl, hv⟩ := h
  have HV := Lib.hid hv; clear hv
  have HS := Lib.hid hs.vs; clear hs
  go_enter Try.func32, Try.ntmps32
  go_wp2_with fail
  refine at_world (w := w) ?G (fun hG => (to_N _ _ _ (HV.out.grow hG) HS.out).mono ?_)
  case G => ((repeat (first | with_reducible exact Grow.refl _ | (with_reducible refine Grow.alloc_ ?_ _) | (with_reducible refine Grow.setCell_ ?_ (by first | exact Nat.le_refl _ | (simp only [World.alloc, Array.size_push]; omega) | omega) _))))
  rintro e w1 ⟨v1, fp1, rfl, ho, hf, hg⟩
  obtain ⟨a1, c1, rfl⟩ := own_shape ho.1
  have HB : Hid (∀ (w2 : World), Upd [w.heap.size + 1 + 1, w.heap.size + 1] w1 w2 → RetNew OwnH d w (.returned (.agg #[.slice a1 d.vs.length c1])) w2) := Lib.hid (fun w2 hu => by
    obtain ⟨h1, h2, h3⟩ := Grow.boxes hG hg hu hf (by intro b hb; simp only [List.mem_cons, List.not_mem_nil, or_false] at hb; simp only [World.alloc, Array.size_push]; omega)
    exact ⟨_, fp1, rfl, ⟨_, rfl, ho.upd hu h3⟩, h2, h1⟩)
  obtain ⟨hc, hfz⟩ := bcell hg
  clear ho hf hg hG
  go_wp2
  refine bodyPost_ret (v := .agg #[.slice a1 d.vs.length c1]) ?_ rfl (HB.out _ ?_)
  · simp [results, Try.results32, go_sem, hc, hfz]
  · ((repeat (first | (with_reducible refine Upd.setCell ?_ (by simp) _) | with_reducible exact Upd.refl _ _)))
--% eqHead 35
theorem eq_H (w : World) (V1 V2 : Value) (x y : HeadD) (h1 : RdH w V1 x) (h2 : RdH w V2 y) : Calls Try.prog 35 #[V1, V2] w (RetV (.bool (decide (x = y))) w) := by
  obtain ⟨v0, rfl, hv0⟩ := h1
  obtain ⟨u0, rfl, hu0⟩ := h2
  have HV0 := Lib.hid hv0; have HU0 := Lib.hid hu0; clear hv0 hu0
  by_cases f0 : x.vs = y.vs
  rotate_left
  · have hd0 := decide_eq_false f0
    have HN := Lib.hid f0; clear f0
    go_enter Try.func35, Try.ntmps35
    go_wp2_with fail
    refine at_world (w := w) ?G (fun hG => (eq_N _ _ _ _ _ (HV0.out.grow hG) (HU0.out.grow hG)).mono ?_)
    case G => ((repeat (first | with_reducible exact Grow.refl _ | (with_reducible refine Grow.alloc_ ?_ _) | (with_reducible refine Grow.setCell_ ?_ (by first | exact Nat.le_refl _ | (simp only [World.alloc, Array.size_push]; omega) | omega) _))))
    rintro e w1 ⟨rfl, hg⟩
    obtain ⟨hc, hfz⟩ := bcell hg
    have HG1 := Lib.hid (hG.trans hg)
    clear hG hg
    go_wp2
    go_ret
    exact ⟨ret_bool (decide_eq_false (fun h => HN.out (by rw [h]))).symm, HG1.out⟩
  have hd0 := decide_eq_true f0
  have F0 := Lib.hid f0; clear f0
  go_enter Try.func35, Try.ntmps35
  go_wp2_with fail
  refine at_world (w := w) ?G (fun hG => (eq_N _ _ _ _ _ (HV0.out.grow hG) (HU0.out.grow hG)).mono ?_)
  case G => ((repeat (first | with_reducible exact Grow.refl _ | (with_reducible refine Grow.alloc_ ?_ _) | (with_reducible refine Grow.setCell_ ?_ (by first | exact Nat.le_refl _ | (simp only [World.alloc, Array.size_push]; omega) | omega) _))))
  rintro e w1 ⟨rfl, hg⟩
  obtain ⟨hc, hfz⟩ := bcell hg
  have HG1 := Lib.hid (hG.trans hg)
  clear hG hg
  go_wp2
  go_ret
  refine ⟨ret_bool (decide_eq_true ?_).symm, HG1.out⟩
  cases x; cases y; simp only [HeadD.mk.injEq]
  exact F0.out
--% markHead 36
theorem mark_H (w : World) (V : Value) (d : HeadD) (fp : List Nat) (k : Int) (h : OwnH w V d fp) (hs : SmH d) (hk : 0 ≤ k ∧ k ≤ 1073741824) : Calls Try.prog 36 #[V, .int .i64 k] w (RetMark OwnH V (mkH d k) fp (k + cntH d) w) := by
  obtain ⟨v, rfl, hv⟩ := h
  have HV := Lib.hid hv; clear hv
  have HS := Lib.hid hs.vs; clear hs
  go_enter Try.func36, Try.ntmps36
  go_wp2_with fail
  refine at_world (w := w) ?G (fun hG => (mark_N _ _ _ _ _ (HV.out.grow hG) HS.out hk).mono ?_)
  case G => ((repeat (first | with_reducible exact Grow.refl _ | (with_reducible refine Grow.alloc_ ?_ _) | (with_reducible refine Grow.setCell_ ?_ (by first | exact Nat.le_refl _ | (simp only [World.alloc, Array.size_push]; omega) | omega) _))))
  rintro e w1 ⟨rfl, ho, hu⟩
  have HO := Lib.hid ho; have HU := Lib.hid (hG.upd_then hu); clear ho hu hG
  go_wp2
  go_ret
  exact ⟨rfl, ⟨_, rfl, HO.out⟩, HU.out⟩
--% szHead 30
theorem sz_H (w : World) (V : Value) (d : HeadD) (l : Int) (h : RdH w V d) (hl : 0 ≤ l ∧ l ≤ 1048576) : Calls Try.prog 30 #[V, .int .i64 l] w (RetV (.int .i64 (leftOf l (sizeH d))) w) := by
  obtain ⟨v, rfl, hv⟩ := h
  have HV := Lib.hid hv; clear hv
  unfold sizeH
  have hc0 : leftOf l d.vs.length = -1 ∨ (0 ≤ leftOf l d.vs.length ∧ leftOf l d.vs.length ≤ 1048576) := by unfold leftOf; split <;> omega
  have HZ := Lib.hid (szInt_any · v d.vs l · hl)
  generalize leftOf l d.vs.length = q at *
  rcases hc0 with rfl | hq
  · go_enter Try.func30, Try.ntmps30
    go_wp2_with fail
    refine at_world (w := w) ?G (fun hG => (HZ.out _ (HV.out.grow hG)).mono ?_)
    case G => ((repeat (first | with_reducible exact Grow.refl _ | (with_reducible refine Grow.alloc_ ?_ _) | (with_reducible refine Grow.setCell_ ?_ (by first | exact Nat.le_refl _ | (simp only [World.alloc, Array.size_push]; omega) | omega) _))))
    rintro e w1 ⟨rfl, hg⟩
    have HG := Lib.hid (hG.trans hg); clear hg hG
    go_wp2
    go_ret
    exact ⟨rfl, HG.out⟩
  · go_enter Try.func30, Try.ntmps30
    go_wp2_with fail
    refine at_world (w := w) ?G (fun hG => (HZ.out _ (HV.out.grow hG)).mono ?_)
    case G => ((repeat (first | with_reducible exact Grow.refl _ | (with_reducible refine Grow.alloc_ ?_ _) | (with_reducible refine Grow.setCell_ ?_ (by first | exact Nat.le_refl _ | (simp only [World.alloc, Array.size_push]; omega) | omega) _))))
    rintro e w1 ⟨rfl, hg⟩
    have HG := Lib.hid (hG.trans hg); clear hg hG
    go_wp2
    go_ret
    exact ⟨rfl, HG.out⟩
--% Match
structure MatchD where
  vs : List Int
  ms : List Int
deriving DecidableEq
abbrev DatM := MatchD
def RdM (w : World) (V : Value) (d : MatchD) : Prop := ∃ v0 v1, V = .agg #[v0, v1] ∧ RdN w v0 d.vs ∧ RdN w v1 d.ms
def OwnM (w : World) (V : Value) (d : MatchD) (fp : List Nat) : Prop := ∃ v0 v1 fp0 fp1, V = .agg #[v0, v1] ∧ fp = fp0 ++ fp1 ∧ (∀ x ∈ fp0, x ∉ fp1) ∧ OwnN w v0 d.vs fp0 ∧ OwnN w v1 d.ms fp1
def WfM (d : MatchD) : Prop := WfN d.vs ∧ WfN d.ms
def cntM (d : MatchD) : Int := cntN d.vs + cntN d.ms
def sizeM (d : MatchD) : Int := (d.vs.length : Int) + (d.ms.length : Int)
def SmM (d : MatchD) : Prop := sizeM d ≤ 1048576
def mkM (d : MatchD) (k : Int) : MatchD := ⟨mkN d.vs k, mkN d.ms (k + cntN d.vs)⟩
theorem SmM.vs {d : MatchD} (h : SmM d) : SmN d.vs := by unfold SmM sizeM at h; unfold SmN; omega
theorem SmM.ms {d : MatchD} (h : SmM d) : SmN d.ms := by unfold SmM sizeM at h; unfold SmN; omega
theorem cntM_bd (d : MatchD) (h : SmM d) : 0 ≤ cntM d ∧ cntM d ≤ 1048576 := by unfold cntM cntN; unfold SmM sizeM at h; omega
theorem RdM.grow {w w' : World} {V : Value} {d : MatchD} (h : RdM w V d) (g : Grow w w') : RdM w' V d := by obtain ⟨v, v', e, h, h'⟩ := h; exact ⟨v, v', e, h.grow g, h'.grow g⟩
theorem OwnM.rd {w : World} {V : Value} {d : MatchD} {fp : List Nat} (h : OwnM w V d fp) : RdM w V d := by obtain ⟨v, v', _, _, e, _, _, h, h'⟩ := h; exact ⟨v, v', e, h.rd, h'.rd⟩
theorem OwnM.here {w : World} {V : Value} {d : MatchD} {fp : List Nat} (h : OwnM w V d fp) : Here w fp := by
  obtain ⟨v, v', _, _, e, rfl, _, h, h'⟩ := h
  intro b hb
  rcases List.mem_append.1 hb with hb | hb
  · exact h.here b hb
  · exact h'.here b hb
theorem OwnM.upd {w w' : World} {V : Value} {d : MatchD} {fp fq : List Nat} (h : OwnM w V d fp) (u : Upd fq w w') (ha : ∀ x ∈ fp, x ∉ fq) : OwnM w' V d fp := by
  obtain ⟨v, v', _, _, e, rfl, hd, h, h'⟩ := h
  exact ⟨v, v', _, _, e, rfl, hd, h.upd u fun x hx => ha x (List.mem_append_left _ hx), h'.upd u fun x hx => ha x (List.mem_append_right _ hx)⟩
theorem OwnM.grow {w w' : World} {V : Value} {d : MatchD} {fp : List Nat} (h : OwnM w V d fp) (g : Grow w w') : OwnM w' V d fp := h.upd (g.upd []) (by simp)
theorem RdM.shape {w : World} {V : Value} {d : MatchD} (h : RdM w V d) : ∃ a c a' c', V = .agg #[.slice a d.vs.length c, .slice a' d.ms.length c'] := by
  obtain ⟨v, v', rfl, hv, hv'⟩ := h
  obtain ⟨a, c, rfl, _⟩ := Rd.ints hv
  obtain ⟨a', c', rfl, _⟩ := Rd.ints hv'
  exact ⟨a, c, a', c', rfl⟩
--% eqMatch 95
theorem eq_M (w : World) (V1 V2 : Value) (x y : MatchD) (h1 : RdM w V1 x) (h2 : RdM w V2 y) : Calls Try.prog 95 #[V1, V2] w (RetV (.bool (decide (x = y))) w) := by
  obtain ⟨v0, v1, rfl, hv0, hv1⟩ := h1
  obtain ⟨u0, u1, rfl, hu0, hu1⟩ := h2
  have HV0 := Lib.hid hv0; have HU0 := Lib.hid hu0; clear hv0 hu0
  have HV1 := Lib.hid hv1; have HU1 := Lib.hid hu1; clear hv1 hu1
  by_cases f0 : x.vs = y.vs
  rotate_left
  · have hd0 := decide_eq_false f0
    have HN := Lib.hid f0; clear f0
    go_enter Try.func95, Try.ntmps95
    go_wp2_with fail
    refine at_world (w := w) ?G (fun hG => (eq_N _ _ _ _ _ (HV0.out.grow hG) (HU0.out.grow hG)).mono ?_)
    case G => ((repeat (first | with_reducible exact Grow.refl _ | (with_reducible refine Grow.alloc_ ?_ _) | (with_reducible refine Grow.setCell_ ?_ (by first | exact Nat.le_refl _ | (simp only [World.alloc, Array.size_push]; omega) | omega) _))))
    rintro e w1 ⟨rfl, hg⟩
    obtain ⟨hc, hfz⟩ := bcell hg
    have HG1 := Lib.hid (hG.trans hg)
    clear hG hg
    go_wp2
    go_ret
    exact ⟨ret_bool (decide_eq_false (fun h => HN.out (by rw [h]))).symm, HG1.out⟩
  have hd0 := decide_eq_true f0
  have F0 := Lib.hid f0; clear f0
  by_cases f1 : x.ms = y.ms
  rotate_left
  · have hd1 := decide_eq_false f1
    have HN := Lib.hid f1; clear f1
    go_enter Try.func95, Try.ntmps95
    go_wp2_with fail
    refine at_world (w := w) ?G (fun hG => (eq_N _ _ _ _ _ (HV0.out.grow hG) (HU0.out.grow hG)).mono ?_)
    case G => ((repeat (first | with_reducible exact Grow.refl _ | (with_reducible refine Grow.alloc_ ?_ _) | (with_reducible refine Grow.setCell_ ?_ (by first | exact Nat.le_refl _ | (simp only [World.alloc, Array.size_push]; omega) | omega) _))))
    rintro e w1 ⟨rfl, hg⟩
    obtain ⟨hc, hfz⟩ := bcell hg
    have HG1 := Lib.hid (hG.trans hg)
    clear hG hg
    go_wp2_with fail
    refine (eq_N _ _ _ _ _ (HV1.out.grow HG1.out) (HU1.out.grow HG1.out)).mono ?_
    rintro e w2 ⟨rfl, hg⟩
    have HG2 := Lib.hid (HG1.out.trans hg)
    clear hg
    go_wp2
    go_ret
    exact ⟨ret_bool (decide_eq_false (fun h => HN.out (by rw [h]))).symm, HG2.out⟩
  have hd1 := decide_eq_true f1
  have F1 := Lib.hid f1; clear f1
  go_enter Try.func95, Try.ntmps95
  go_wp2_with fail
  refine at_world (w := w) ?G (fun hG => (eq_N _ _ _ _ _ (HV0.out.grow hG) (HU0.out.grow hG)).mono ?_)
  case G => ((repeat (first | with_reducible exact Grow.refl _ | (with_reducible refine Grow.alloc_ ?_ _) | (with_reducible refine Grow.setCell_ ?_ (by first | exact Nat.le_refl _ | (simp only [World.alloc, Array.size_push]; omega) | omega) _))))
  rintro e w1 ⟨rfl, hg⟩
  obtain ⟨hc, hfz⟩ := bcell hg
  have HG1 := Lib.hid (hG.trans hg)
  clear hG hg
  go_wp2_with fail
  refine (eq_N _ _ _ _ _ (HV1.out.grow HG1.out) (HU1.out.grow HG1.out)).mono ?_
  rintro e w2 ⟨rfl, hg⟩
  have HG2 := Lib.hid (HG1.out.trans hg)
  clear hg
  go_wp2
  go_ret
  refine ⟨ret_bool (decide_eq_true ?_).symm, HG2.out⟩
  cases x; cases y; simp only [MatchD.mk.injEq]
  exact ⟨F0.out, F1.out⟩
--% toMatch 92
theorem to_M (w : World) (V : Value) (d : MatchD) (h : RdM w V d) (hs : SmM d) : Calls Try.prog 92 #[V] w (RetNew OwnM d w) := by
  obtain ⟨v, v', rfl, hv, hv'⟩ := h
  have HV := Lib.hid hv; have HV' := Lib.hid hv'; clear hv hv'
  have HS := Lib.hid hs.vs; have HS' := Lib.hid hs.ms; clear hs
  go_enter Try.func92, Try.ntmps92
  go_wp2_with fail
  refine at_world (w := w) ?G (fun hG => (to_N _ _ _ (HV.out.grow hG) HS.out).mono ?_)
  case G => ((repeat (first | with_reducible exact Grow.refl _ | (with_reducible refine Grow.alloc_ ?_ _) | (with_reducible refine Grow.setCell_ ?_ (by first | exact Nat.le_refl _ | (simp only [World.alloc, Array.size_push]; omega) | omega) _))))
  rintro e w1 ⟨v1, fp1, rfl, ho, hf, hg⟩
  obtain ⟨a1, c1, rfl⟩ := own_shape ho.1
  have HG1 := Lib.hid (hG.trans hg)
  have HF1 := Lib.hid (hf.older hG)
  have HO1 := Lib.hid ho
  have HA1 : Hid (∀ x ∈ fp1, x ∉ [w.heap.size + 1 + 1, w.heap.size + 1]) := Lib.hid (by
    intro x hx hm
    have h1 := hf x hx
    simp only [List.mem_cons, List.not_mem_nil, or_false] at hm
    simp only [World.alloc, Array.size_push] at h1
    omega)
  have BX0 := Lib.hid (((Box.alloc (w.alloc _) _ _).grow ((Grow.alloc _ _).trans hg)).at_ (b' := w.heap.size + 1) (by simp only [World.alloc, Array.size_push]))
  have BX1 := Lib.hid (((Box.alloc ((w.alloc _).alloc _) _ _).grow hg).at_ (b' := w.heap.size + 1 + 1) (by simp only [World.alloc, Array.size_push]))
  have HB1 : Hid (w.heap.size + 3 ≤ w1.heap.size) := Lib.hid (by have := hg.size; simp only [World.alloc, Array.size_push] at this; omega)
  obtain ⟨hc, hfz⟩ := bcell hg
  clear ho hf hg hG
  go_wp2_with fail
  refine at_both (fp := [w.heap.size + 1 + 1, w.heap.size + 1]) (w := w) (w1 := w1) ?H ?G (fun hG hU => (to_N _ _ _ (HV'.out.grow hG) HS'.out).mono ?_)
  case G => ((repeat (first | (with_reducible refine Upd.setCell ?_ (by simp) _) | with_reducible exact Upd.refl _ _)))
  case H => (((repeat (first | with_reducible exact Grow.refl _ | (with_reducible refine Grow.alloc_ ?_ _) | (with_reducible refine Grow.setCell_ ?_ (by first | exact Nat.le_refl _ | (simp only [World.alloc, Array.size_push]; omega) | omega) _)))); exact HG1.out)
  rintro e w2 ⟨v2, fp2, rfl, ho, hf, hg⟩
  obtain ⟨a2, c2, rfl⟩ := own_shape ho.1
  have HB : Hid (∀ (w3 : World), Upd [w.heap.size + 1 + 1, w.heap.size + 1] w2 w3 → RetNew OwnM d w (.returned (.agg #[.slice a1 d.vs.length c1, .slice a2 d.ms.length c2])) w3) := Lib.hid (fun w3 hu => by
    have o1 := (HO1.out.upd hU HA1.out).grow hg
    have hh := (HO1.out.upd hU HA1.out).here
    obtain ⟨h1, h2, h3⟩ := Grow.boxes hG hg hu hf (by intro b hb; simp only [List.mem_cons, List.not_mem_nil, or_false] at hb; have h1 := HB1.out; have h2 := hU.size; omega)
    refine ⟨_, fp1 ++ fp2, rfl, ⟨_, _, fp1, fp2, rfl, rfl, ?_, o1.upd hu HA1.out, ho.upd hu h3⟩, ?_, h1⟩
    · intro x hx hm
      have k1 := hh x hx; have k2 := hf x hm; omega
    · intro b hb
      rcases List.mem_append.1 hb with hb | hb
      · exact HF1.out b hb
      · exact h2 b hb)
  have ⟨q0, q1⟩ := ((BX1.out.set 0 (.slice a1 d.vs.length c1) (by decide)).grow hg).two
  have z0 := ((BX1.out.set 0 (.slice a1 d.vs.length c1) (by decide)).grow hg).2.2
  have l0 := ((BX1.out.set 0 (.slice a1 d.vs.length c1) (by decide)).grow hg).1
  have HBo := ((BX0.out.upd (Upd.setCell (Upd.refl [w.heap.size + 1 + 1] w1) (p := ⟨w.heap.size + 1 + 1, 0, none⟩) (by simp) (.slice a1 d.vs.length c1)) (by simp)).grow hg)
  have ⟨r0, r1⟩ := HBo.two
  have y0 := HBo.2.2
  have k0 := HBo.1
  clear ho hf hg hG hU hc hfz HBo
  go_wp2
  refine bodyPost_ret (v := .agg #[.slice a1 d.vs.length c1, .slice a2 d.ms.length c2]) ?_ rfl (HB.out _ ?_)
  · simp [results, Try.results92, go_sem, q0, q1, z0, r0, r1, y0]
  · ((repeat (first | (with_reducible refine Upd.setCell ?_ (by simp) _) | with_reducible exact Upd.refl _ _)))
--% szMatch 90
theorem sz_M (w : World) (V : Value) (d : MatchD) (l : Int) (h : RdM w V d) (hl : 0 ≤ l ∧ l ≤ 1048576) : Calls Try.prog 90 #[V, .int .i64 l] w (RetV (.int .i64 (leftOf l (sizeM d))) w) := by
  obtain ⟨v, v', rfl, hv, hv'⟩ := h
  have HV := Lib.hid hv; have HV' := Lib.hid hv'; clear hv hv'
  have H0 := Lib.hid (szInt_any · v d.vs l · hl)
  by_cases h1 : l < d.vs.length
  · have hz : leftOf l (sizeM d) = -1 := by unfold sizeM; exact leftOf_no (by omega)
    have HZ := Lib.hid hz; clear hz
    have HL := Lib.hid (leftOf_no h1); clear h1
    go_enter Try.func90, Try.ntmps90
    go_wp2_with fail
    refine at_world (w := w) ?G (fun hG => (H0.out _ (HV.out.grow hG)).mono ?_)
    case G => ((repeat (first | with_reducible exact Grow.refl _ | (with_reducible refine Grow.alloc_ ?_ _) | (with_reducible refine Grow.setCell_ ?_ (by first | exact Nat.le_refl _ | (simp only [World.alloc, Array.size_push]; omega) | omega) _))))
    rw [HL.out]
    rintro e w1 ⟨rfl, hg⟩
    have HG := Lib.hid (hG.trans hg); clear hg hG
    go_wp2
    go_ret
    exact ⟨ret_int HZ.out.symm, HG.out⟩
  have HL := Lib.hid (leftOf_yes h1)
  have hq : 0 ≤ l - d.vs.length ∧ l - d.vs.length ≤ 1048576 := by omega
  have H1 := Lib.hid (szInt_any · v' d.ms (l - d.vs.length) · hq)
  have hz : leftOf l (sizeM d) = leftOf (l - d.vs.length) d.ms.length := by unfold sizeM leftOf; split <;> split <;> omega
  have hr : leftOf (l - d.vs.length) d.ms.length = -1 ∨ (0 ≤ leftOf (l - d.vs.length) d.ms.length ∧ leftOf (l - d.vs.length) d.ms.length ≤ 1048576) := by unfold leftOf; split <;> omega
  have HZ := Lib.hid hz; clear hz
  generalize leftOf (l - d.vs.length) d.ms.length = q at *
  generalize l - (d.vs.length : Int) = l1 at *
  clear h1
  have HR : Hid (q = -1 ∨ (0 ≤ q ∧ q ≤ 1048576)) := Lib.hid hr; clear hr
  rcases HR.out with rfl | hq2
  all_goals (
    go_enter Try.func90, Try.ntmps90
    go_wp2_with fail
    refine at_world (w := w) ?G (fun hG => (H0.out _ (HV.out.grow hG)).mono ?_)
    case G => ((repeat (first | with_reducible exact Grow.refl _ | (with_reducible refine Grow.alloc_ ?_ _) | (with_reducible refine Grow.setCell_ ?_ (by first | exact Nat.le_refl _ | (simp only [World.alloc, Array.size_push]; omega) | omega) _))))
    rw [HL.out]
    rintro e w1 ⟨rfl, hg⟩
    have HG := Lib.hid (hG.trans hg)
    obtain ⟨hc, hfz⟩ := bcell hg
    clear hg hG
    go_wp2_with fail
    refine at_world (w := w) ?G (fun hG => (H1.out _ (HV'.out.grow hG)).mono ?_)
    case G => (((repeat (first | with_reducible exact Grow.refl _ | (with_reducible refine Grow.alloc_ ?_ _) | (with_reducible refine Grow.setCell_ ?_ (by first | exact Nat.le_refl _ | (simp only [World.alloc, Array.size_push]; omega) | omega) _)))); exact HG.out)
    rintro e w2 ⟨rfl, hg⟩
    have HG := Lib.hid (hG.trans hg); clear hg hG
    go_wp2
    go_ret
    exact ⟨ret_int HZ.out.symm, HG.out⟩)
--%
end Go.Proofs.Ytgigdpdmdldhnaa
