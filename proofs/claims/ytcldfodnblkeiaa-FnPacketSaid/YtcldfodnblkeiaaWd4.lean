/- FnPacket: the walk of the law; a packet is read back. -/
import Derived.Test.YtcldfodnblkeiaaDk
import Derived.Test.YtcldfodnblkeiaaPr
import Derived.Test.YtcldfodnblkeiaaPb
import Derived.Test.YtcldfodnblkeiaaApp2
import Derived.Laws.Strings
import Derived.Test.YtcldfodnblkeiaaOpn
import Derived.WalkKit
import Derived.ProofKit
import Derived.OpenShut
import Derived.ShutString
import Derived.ChangeOld
import Derived.Below
import Derived.SizedLaws
import Derived.WalkSpells
import Derived.Deep.QuietTactic
import Derived.BigQuiet
import Derived.Outline
namespace Go.Proofs.Ytcldfodnblkeiaa
open Go.ChangeShapes Go.WideShapes Go.ChangeAt Go.RowKit
open Go.ChangeMaps (open_string shut_string)
set_option linter.unusedVariables false
set_option linter.unusedSimpArgs false
--%
theorem valBE_be {n : Int} {size : Nat} (h : numOkB n size = true) : valBE (beBytes n size) = n := by
  have h1 : 1 ≤ (size : Int) ∧ (size : Int) ≤ 6 ∧ 0 ≤ n ∧ n < 256 ^ (size : Int).toNat := by simpa [numOkB] using h
  obtain ⟨ha, hb, h0, h2⟩ := h1
  have e : size = 1 ∨ size = 2 ∨ size = 3 ∨ size = 4 ∨ size = 5 ∨ size = 6 := by omega
  rcases e with rfl | rfl | rfl | rfl | rfl | rfl
  all_goals
    simp only [Int.toNat_natCast] at h2
    simp [valBE, beBytes, dig, List.range_succ]
    omega
theorem fld_app (a b c : List Int) {n m : Nat} (ha : a.length = n) (hb : b.length = m) : fld (a ++ (b ++ c)) n m = valBE b := by
  subst ha; subst hb
  unfold fld; rw [List.drop_left, List.take_left]
theorem prF_back {d : PacketD} (h : pkOk d = true) (hb : Bytes d.body) : prF (pbB d) = (d, 0) := by
  obtain ⟨h1, h2, h3, h4, h5⟩ := pkOk_iff h
  have n1 := numOk6 h1.1 h1.2; have n2 := numOk6 h2.1 h2.2
  have n4 : numOkB d.typ 2 = true := numOk2' (by omega) (by omega)
  have hty : typeB d.typ = true := by
    unfold pkOk at h
    simp only [Bool.and_eq_true] at h
    exact h.2.2.2.1
  have hty2 : d.typ ≠ 33024 := by unfold typeB at hty; have := of_decide_eq_true hty; exact this.2.2
  have hc := crcOf_bd (pbRest_bytes d hb)
  have n5 := numOk4 hc.1 hc.2
  have lrest : (pbB d).length = (pbRest d).length + 4 := by unfold pbB; simp [beBytes_length]
  have hcr : crcOf ((pbB d).take ((pbB d).length - 4)) = fld (pbB d) ((pbB d).length - 4) 4 := by
    rw [show (pbB d).length - 4 = (pbRest d).length by omega]
    unfold pbB
    rw [List.take_left]
    have := fld_app (pbRest d) (beBytes (crcOf (pbRest d)) 4) [] rfl (beBytes_length _ _)
    rw [List.append_nil] at this
    rw [this, valBE_be n5]
  by_cases ht : d.tag = -1
  · have er : pbRest d = beBytes d.dst 6 ++ (beBytes d.src 6 ++ (beBytes d.typ 2 ++ d.body)) := by unfold pbRest; simp [pbTag, ht, pbHead, List.append_assoc]
    have e : pbB d = beBytes d.dst 6 ++ (beBytes d.src 6 ++ (beBytes d.typ 2 ++ (d.body ++ beBytes (crcOf (pbRest d)) 4))) := by
      have e0 : pbB d = pbRest d ++ beBytes (crcOf (pbRest d)) 4 := rfl
      obtain ⟨C, hC⟩ : ∃ C, beBytes (crcOf (pbRest d)) 4 = C := ⟨_, rfl⟩
      rw [hC] at e0 ⊢
      rw [e0, er]
      simp [List.append_assoc]
    have hlen : (pbB d).length = 18 + d.body.length := by rw [e]; simp [beBytes_length]; omega
    have f0 : fld (pbB d) 0 6 = d.dst := by rw [e]; exact (fld_app [] _ _ rfl (beBytes_length _ _)).trans (valBE_be n1)
    have f6 : fld (pbB d) 6 6 = d.src := by rw [e]; exact (fld_app _ _ _ (beBytes_length _ _) (beBytes_length _ _)).trans (valBE_be n2)
    have f12 : fld (pbB d) 12 2 = d.typ := by
      rw [e, ← List.append_assoc]
      exact (fld_app _ _ _ (by simp [beBytes_length]) (beBytes_length _ _)).trans (valBE_be n4)
    have hT : hdL (pbB d) = 14 := hdL_14 (.inr (by rw [f12]; exact hty2))
    have hbd : ((pbB d).drop 14).take ((pbB d).length - 4 - 14) = d.body := by
      rw [hlen, e, ← List.append_assoc, ← List.append_assoc]
      rw [List.drop_left' (by simp [beBytes_length]), List.take_left' (by omega)]
    have hp : prT (pbB d) 14 = d.tag := by unfold prT; rw [if_neg (by decide)]; exact ht.symm
    have hD : prD (pbB d) 14 = d := by
      unfold prD
      rw [f0, f6, hp, hbd, show fld (pbB d) (14 - 2) 2 = d.typ from f12]
    unfold prF
    rw [hT, prG_r (by omega) (by omega) hcr]
    unfold prR
    rw [if_neg (by unfold prT; simp), show fld (pbB d) (14 - 2) 2 = d.typ from f12, if_pos hty, hD]
  · have n3 : numOkB d.tag 2 = true := numOk2' (by omega) (by omega)
    have n0 : numOkB 33024 2 = true := by decide
    have er : pbRest d = beBytes d.dst 6 ++ (beBytes d.src 6 ++ (beBytes 33024 2 ++ (beBytes d.tag 2 ++ (beBytes d.typ 2 ++ d.body)))) := by unfold pbRest; simp [pbTag, ht, pbHead, List.append_assoc]
    have e : pbB d = beBytes d.dst 6 ++ (beBytes d.src 6 ++ (beBytes 33024 2 ++ (beBytes d.tag 2 ++ (beBytes d.typ 2 ++ (d.body ++ beBytes (crcOf (pbRest d)) 4))))) := by
      have e0 : pbB d = pbRest d ++ beBytes (crcOf (pbRest d)) 4 := rfl
      obtain ⟨C, hC⟩ : ∃ C, beBytes (crcOf (pbRest d)) 4 = C := ⟨_, rfl⟩
      rw [hC] at e0 ⊢
      rw [e0, er]
      simp [List.append_assoc]
    have hlen : (pbB d).length = 22 + d.body.length := by rw [e]; simp [beBytes_length]; omega
    have f0 : fld (pbB d) 0 6 = d.dst := by rw [e]; exact (fld_app [] _ _ rfl (beBytes_length _ _)).trans (valBE_be n1)
    have f6 : fld (pbB d) 6 6 = d.src := by rw [e]; exact (fld_app _ _ _ (beBytes_length _ _) (beBytes_length _ _)).trans (valBE_be n2)
    have f12 : fld (pbB d) 12 2 = 33024 := by
      rw [e, ← List.append_assoc]
      exact (fld_app _ _ _ (by simp [beBytes_length]) (beBytes_length _ _)).trans (valBE_be n0)
    have f14 : fld (pbB d) 14 2 = d.tag := by
      rw [e, ← List.append_assoc, ← List.append_assoc]
      exact (fld_app _ _ _ (by simp [beBytes_length]) (beBytes_length _ _)).trans (valBE_be n3)
    have f16 : fld (pbB d) 16 2 = d.typ := by
      rw [e, ← List.append_assoc, ← List.append_assoc, ← List.append_assoc]
      exact (fld_app _ _ _ (by simp [beBytes_length]) (beBytes_length _ _)).trans (valBE_be n4)
    have hT : hdL (pbB d) = 18 := hdL_18 (by omega) f12
    have hbd : ((pbB d).drop 18).take ((pbB d).length - 4 - 18) = d.body := by
      rw [hlen, e, ← List.append_assoc, ← List.append_assoc, ← List.append_assoc, ← List.append_assoc]
      rw [List.drop_left' (by simp [beBytes_length]), List.take_left' (by omega)]
    have hp : prT (pbB d) 18 = d.tag := by unfold prT; rw [if_pos rfl, f14]
    have hD : prD (pbB d) 18 = d := by
      unfold prD
      rw [f0, f6, hp, hbd, show fld (pbB d) (18 - 2) 2 = d.typ from f16]
    unfold prF
    rw [hT, prG_r (by omega) (by omega) hcr]
    unfold prR
    rw [if_neg (by rw [hp]; omega), show fld (pbB d) (18 - 2) 2 = d.typ from f16, if_pos hty, hD]
theorem prF_nil : prF [] = (zeroP, 1) := by
  unfold prF; rw [hdL_14 (.inl (by decide)), prG_1 (by decide)]
theorem pbB_bytes {d : PacketD} (hb : Bytes d.body) : Bytes (pbB d) := bytes_app (pbRest_bytes d hb) (beBytes_bytes _ _)
theorem pbB_len {d : PacketD} : (pbB d).length ≤ 22 + d.body.length := by have := pbRest_len d; unfold pbB; simp [beBytes_length]; omega
theorem txt_inj {a b : List Int} (ha : Bytes a) (hb : Bytes b) (h : txt a = txt b) : a = b := by
  have h1 : a.map (fun n => UInt8.ofNat n.toNat) = b.map (fun n => UInt8.ofNat n.toNat) := by
    have := congrArg ByteArray.data h
    simpa [txt, strOfNums] using this
  have hl : a.length = b.length := by have := congrArg List.length h1; simpa using this
  apply List.ext_getElem hl
  intro i i1 i2
  have e : UInt8.ofNat a[i].toNat = UInt8.ofNat b[i].toNat := by
    have := congrArg (fun l => l[i]?) h1
    simpa [i1, i2] using this
  have ea := congrArg UInt8.toNat e
  rw [UInt8.toNat_ofNat', UInt8.toNat_ofNat'] at ea
  have h3 := ha _ (List.getElem_mem i1); have h4 := hb _ (List.getElem_mem i2)
  omega
theorem txt_tag {d : PacketD} {t : Int} (h : pkOk d = true) (h2 : pkOk (tagD d t) = true) (hb : Bytes d.body) : txt (pbB (tagD d t)) = txt (pbB d) ↔ t = d.tag := by
  constructor
  · intro e
    have e2 := txt_inj (pbB_bytes (d := tagD d t) hb) (pbB_bytes hb) e
    have := congrArg prF e2
    rw [prF_back h2 hb, prF_back h hb] at this
    have := congrArg (fun q : PacketD × Int => q.1.tag) this
    exact this
  · rintro rfl
    rfl
--% DrawTagged 69
def RetTg (w : World) (e : Ending) (w' : World) : Prop := ∃ v d fp t, e = .returned (.tuple #[v, .int .i64 t]) ∧ OwnP w' v d fp ∧ Fresh w fp ∧ WfP d ∧ d.body.length ≤ 1501 ∧ I64 t ∧ Grow w w'
set_option maxRecDepth 20000 in
set_option maxHeartbeats 4000000 in
theorem drawTagged_any (w : World) (v : Value) (cs : List Int) (h : RdB w v cs) (hb : Bytes cs) (hm : cs.length ≤ 1048576) : Calls Try.prog 69 #[v] w (RetTg w) := by
  have HV := Lib.hid h; have HB : Hid (Bytes cs) := Lib.hid hb
  clear h hb
  go_enter Try.func69, Try.ntmps69
  go_wp2_with fail
  refine at_world (w := w) ?G (fun hG => (l01New_any _ _ cs (HV.out.grow hG) HB.out hm).mono ?_)
  case G => ((repeat (first | with_reducible exact Grow.refl _ | (with_reducible refine Grow.alloc_ ?_ _) | (with_reducible refine Grow.setCell_ ?_ (by first | exact Nat.le_refl _ | (simp only [World.alloc, Array.size_push]; omega) | omega) _))))
  rintro e w1 ⟨p, rfl, hC, hp, hg⟩
  have G1 := Lib.hid (hG.trans hg); have P1 := Lib.hid hp
  have B0 := Lib.hid ((Box.alloc w [.int .i64 0, .int .i64 0, .int .i64 0, .int .i64 0, .slice none 0 0] 27).grow hg)
  have C1 := Lib.hid hC
  have PP : Hid (w.heap.size < p) := Lib.hid (by have := hp; simp only [World.alloc, Array.size_push] at this; omega)
  clear hC hp hg hG
  go_wp2_with fail
  refine (l02Any_any _ p C1.out).mono ?_
  rintro e w2 ⟨V, d, fp, rfl, ⟨v0, rfl, ho⟩, hf, hw, hl, hC, hU⟩
  obtain ⟨av, cv, rfl⟩ := own_shape ho.1
  have B2 := Lib.hid ((B0.out.upd hU (by have := PP.out; simp; omega)).grow (Grow.alloc w2 (.cells #[.int .i64 d.dst, .int .i64 d.src, .int .i64 d.tag, .int .i64 d.typ, .slice av d.body.length cv] 27)))
  have BD := Lib.hid (Box.alloc w2 [.int .i64 d.dst, .int .i64 d.src, .int .i64 d.tag, .int .i64 d.typ, .slice av d.body.length cv] 27)
  have C2 := Lib.hid (hC.grow (Grow.alloc w2 (.cells #[.int .i64 d.dst, .int .i64 d.src, .int .i64 d.tag, .int .i64 d.typ, .slice av d.body.length cv] 27)))
  have G2 := Lib.hid ((G1.out.then_upd hU (by intro x hx; have := PP.out; simp only [List.mem_cons, List.not_mem_nil, or_false] at hx; omega)).trans (Grow.alloc w2 (.cells #[.int .i64 d.dst, .int .i64 d.src, .int .i64 d.tag, .int .i64 d.typ, .slice av d.body.length cv] 27)))
  have O2 := Lib.hid (ho.grow (Grow.alloc w2 (.cells #[.int .i64 d.dst, .int .i64 d.src, .int .i64 d.tag, .int .i64 d.typ, .slice av d.body.length cv] 27)))
  have F2 : Hid (∀ x ∈ fp, x ≠ p ∧ x ≠ w.heap.size ∧ w.heap.size ≤ x) := Lib.hid (fun x hx => by have h1 := hf x hx; have h2 := C1.out.lt; have h3 := B0.out.1; exact ⟨by omega, by omega, by omega⟩)
  have WD := Lib.hid hw; have LD := Lib.hid hl
  have hlt : w.heap.size < w2.heap.size := by have := hU.size; have := B0.out.1; omega
  have plt : p < w2.heap.size := by have := hU.size; have := C1.out.lt; omega
  clear ho hf hw hl hC hU
  go_wp2_with fail
  generalize w2.alloc (.cells #[.int .i64 d.dst, .int .i64 d.src, .int .i64 d.tag, .int .i64 d.typ, .slice av d.body.length cv] 27) = w3 at *
  generalize w2.heap.size = b at *
  refine (l01Below_any _ p 4097 (by decide) C2.out).mono ?_
  rintro e w4 ⟨x3, rfl, h3a, h3b, -, hC, hU⟩
  have h3b := h3b (by decide)
  have C3 := Lib.hid hC; have G3 := Lib.hid (G2.out.then_upd hU (by intro x hx; have := PP.out; simp only [List.mem_cons, List.not_mem_nil, or_false] at hx; omega))
  have O3 := Lib.hid (O2.out.upd hU (fun x hx hm => by have := F2.out x hx; simp only [List.mem_cons, List.not_mem_nil, or_false] at hm; exact this.1 hm))
  have B2 := Lib.hid (B2.out.upd hU (by have := PP.out; simp; omega)); have BD := Lib.hid (BD.out.upd hU (by simp; omega))
  clear hC hU
  go_wp2_with fail
  refine (l01Below_any _ p 6 (by decide) C3.out).mono ?_
  rintro e w5 ⟨x4, rfl, h4a, h4b, -, hC, hU⟩
  have h4b := h4b (by decide)
  have C4 := Lib.hid hC; have G4 := Lib.hid (G3.out.then_upd hU (by intro x hx; have := PP.out; simp only [List.mem_cons, List.not_mem_nil, or_false] at hx; omega))
  have O4 := Lib.hid (O3.out.upd hU (fun x hx hm => by have := F2.out x hx; simp only [List.mem_cons, List.not_mem_nil, or_false] at hm; exact this.1 hm))
  have B2 := Lib.hid (B2.out.upd hU (by have := PP.out; simp; omega)); have BD := Lib.hid (BD.out.upd hU (by simp; omega))
  clear hC hU
  by_cases c0 : x4 = 0
  rotate_left
  · have hk : (x4 == 0) = false := by simpa using c0
    have HR : Hid (∀ W', Upd [w.heap.size] w5 W' → RetTg w (.returned (.tuple #[.agg #[.int .i64 d.dst, .int .i64 d.src, .int .i64 d.tag, .int .i64 d.typ, .slice av d.body.length cv], .int .i64 (x3 - 1)])) W') := Lib.hid (fun W' hu => by
      refine ⟨_, d, fp, _, rfl, ⟨_, rfl, O4.out.upd hu (fun x hx hm => by have := F2.out x hx; simp only [List.mem_cons, List.not_mem_nil, or_false] at hm; exact this.2.1 hm)⟩, fun x hx => (F2.out x hx).2.2, WD.out, LD.out, (by unfold I64; omega), ?_⟩
      exact G4.out.then_upd hu (by intro x hx; simp only [List.mem_cons, List.not_mem_nil, or_false] at hx; omega))
    have ⟨q0, q1, q2, q3, q4⟩ := BD.out.five; have ql := BD.out.1
    have ⟨y0, y1, y2, y3, y4⟩ := B2.out.five; have yz := B2.out.2.2; have yl := B2.out.1
    have hne1 : ¬ b = w.heap.size := by omega
    have hne2 : ¬ w.heap.size = b := by omega
    go_wp2
    refine bodyPost_ret (v := .tuple #[.agg #[.int .i64 d.dst, .int .i64 d.src, .int .i64 d.tag, .int .i64 d.typ, .slice av d.body.length cv], .int .i64 (x3 - 1)]) ?_ rfl (HR.out _ ?_)
    · simp [results, Try.results69, go_sem, q0, q1, q2, q3, q4, y0, y1, y2, y3, y4, yz, yl, hne1, hne2] <;> omega
    · ((repeat (first | (with_reducible refine Upd.setCell ?_ (by simp) _) | with_reducible exact Upd.refl _ _)))

  subst c0
  go_wp2_with fail
  refine (l01Raw_any _ p C4.out).mono ?_
  rintro e w6 ⟨x5, rfl, h5, hC, hU⟩
  have I5 := Lib.hid h5
  clear h5
  have C5 := Lib.hid hC; have G5 := Lib.hid (G4.out.then_upd hU (by intro x hx; have := PP.out; simp only [List.mem_cons, List.not_mem_nil, or_false] at hx; omega))
  have O5 := Lib.hid (O4.out.upd hU (fun x hx hm => by have := F2.out x hx; simp only [List.mem_cons, List.not_mem_nil, or_false] at hm; exact this.1 hm))
  have B2 := Lib.hid (B2.out.upd hU (by have := PP.out; simp; omega)); have BD := Lib.hid (BD.out.upd hU (by simp; omega))
  clear hC hU
  have HR : Hid (∀ W', Upd [w.heap.size] w6 W' → RetTg w (.returned (.tuple #[.agg #[.int .i64 d.dst, .int .i64 d.src, .int .i64 d.tag, .int .i64 d.typ, .slice av d.body.length cv], .int .i64 x5])) W') := Lib.hid (fun W' hu => by
    refine ⟨_, d, fp, _, rfl, ⟨_, rfl, O5.out.upd hu (fun x hx hm => by have := F2.out x hx; simp only [List.mem_cons, List.not_mem_nil, or_false] at hm; exact this.2.1 hm)⟩, fun x hx => (F2.out x hx).2.2, WD.out, LD.out, I5.out, ?_⟩
    exact G5.out.then_upd hu (by intro x hx; simp only [List.mem_cons, List.not_mem_nil, or_false] at hx; omega))
  have ⟨q0, q1, q2, q3, q4⟩ := BD.out.five; have ql := BD.out.1
  have ⟨y0, y1, y2, y3, y4⟩ := B2.out.five; have yz := B2.out.2.2; have yl := B2.out.1
  have hne1 : ¬ b = w.heap.size := by omega
  have hne2 : ¬ w.heap.size = b := by omega
  go_wp2
  refine bodyPost_ret (v := .tuple #[.agg #[.int .i64 d.dst, .int .i64 d.src, .int .i64 d.tag, .int .i64 d.typ, .slice av d.body.length cv], .int .i64 x5]) ?_ rfl (HR.out _ ?_)
  · simp [results, Try.results69, go_sem, q0, q1, q2, q3, q4, y0, y1, y2, y3, y4, yz, yl, hne1, hne2] <;> omega
  · ((repeat (first | (with_reducible refine Upd.setCell ?_ (by simp) _) | with_reducible exact Upd.refl _ _)))

--% walk FnPacket 17
set_option maxRecDepth 20000 in
set_option maxHeartbeats 4000000 in
theorem walk_FnPacket (w : World) (v0 : Value) (d0 : DatB) (h0 : RdB w v0 d0) (b0 : WfB d0) : Calls Try.prog 17 #[v0] w (RetV (.bool true) w) := by
  have H0 := Lib.hid h0; have B0 : Hid (Bytes d0) := Lib.hid b0
  obtain ⟨a0, c0, rfl, hlc0, hm0, hn0', hc0'⟩ := Rd.ints h0
  clear hn0' hc0' h0 b0
  unfold maxLen at hm0
  by_cases hl0 : 1048576 < d0.length
  · go_enter Try.func17, Try.ntmps17
    go_wp2
    go_ret
    exact ⟨rfl, Grow.refl _⟩
  go_enter Try.func17, Try.ntmps17
  go_wp2_with fail
  refine (drawTagged_any _ _ d0 H0.out B0.out (by omega)).mono ?_
  rintro e w1 ⟨V, d, fp, t, rfl, ⟨v1, rfl, ho⟩, hf, hw, hl, htI, hg⟩
  obtain ⟨av, cv, rfl⟩ := own_shape ho.1
  have RD : Hid (RdB w1 (.slice av d.body.length cv) d.body) := Lib.hid ho.rd
  have RP : Hid (RdP w1 (.agg #[.int .i64 d.dst, .int .i64 d.src, .int .i64 d.tag, .int .i64 d.typ, .slice av d.body.length cv]) d) := Lib.hid ⟨_, rfl, ho.rd⟩
  have G1 := Lib.hid hg; have WP := Lib.hid hw; have DL := Lib.hid hl; have TI := Lib.hid htI
  have SP : Hid (SmP d) := Lib.hid (by unfold SmP sizeP; omega)
  clear ho hf hw hl hg htI
  go_wp2_with fail
  refine at_world (w := w1) ?G (fun hG => (packetBytesI_any _ _ d (RP.out.grow hG) WP.out).mono ?_)
  case G => ((repeat (first | with_reducible exact Grow.refl _ | (with_reducible refine Grow.alloc_ ?_ _) | (with_reducible refine Grow.setCell_ ?_ (by first | exact Nat.le_refl _ | (simp only [World.alloc, Array.size_push]; omega) | omega) _))))
  cases hok : pkOk d
  · rw [pbF_no hok]
    rintro e w2 ⟨vb, fpb, rfl, hb, hfb, hg⟩
    change OwnB w2 vb [] fpb at hb
    obtain ⟨ab, cb, rfl⟩ := own_shape hb.1
    have RX := Lib.hid hb.rd
    have B1 := Lib.hid ((Box.alloc w1 _ _).grow hg)
    have G2 := Lib.hid (hG.trans hg)
    clear hb hfb hg hG
    have ⟨q0, q1, q2, q3, q4⟩ := B1.out.five
    have ql := B1.out.1
    go_wp2_with fail
    refine at_world (w := w2) ?G (fun hG => (packetOkS _ _ d (RP.out.grow (G2.out.trans hG))).mono ?_)
    case G => ((repeat (first | with_reducible exact Grow.refl _ | (with_reducible refine Grow.alloc_ ?_ _) | (with_reducible refine Grow.setCell_ ?_ (by first | exact Nat.le_refl _ | (simp only [World.alloc, Array.size_push]; omega) | omega) _))))
    rintro e w3 ⟨rfl, hg⟩
    rw [hok]
    have G3 := Lib.hid (G2.out.trans (hG.trans hg))
    have RX := Lib.hid (RX.out.grow (hG.trans hg))
    clear hG hg q0 q1 q2 q3 q4 ql
    go_wp2_with fail
    refine at_world (w := w3) ?G (fun hG => (packetReadI_any _ _ [] (RX.out.grow hG) (fun x hx => by cases hx) (by unfold SmB; decide)).mono ?_)
    case G => ((repeat (first | with_reducible exact Grow.refl _ | (with_reducible refine Grow.alloc_ ?_ _) | (with_reducible refine Grow.setCell_ ?_ (by first | exact Nat.le_refl _ | (simp only [World.alloc, Array.size_push]; omega) | omega) _))))
    rw [prF_nil]
    rintro e w4 ⟨vq, fpq, rfl, ⟨v2, rfl, ho2⟩, hfq, hg⟩
    obtain ⟨aq, cq, rfl⟩ := own_shape ho2.1
    have G4 := Lib.hid (G3.out.trans (hG.trans hg))
    clear hG hg ho2 hfq
    go_wp2
    go_ret
    exact ⟨rfl, G1.out.trans (G4.out.trans (Grow.alloc _ _))⟩
  rw [pbF_yes hok]
  have hbk := prF_back hok WP.out.2.2.2.2
  have hbb := Lib.hid (pbB_bytes (d := d) WP.out.2.2.2.2)
  have h15 := (pkOk_iff hok).2.2.2.2
  have hsm : SmB (pbB d) := by unfold SmB; have := pbB_len (d := d); omega
  have HT0 : Hid (∀ h2 : pkOk (tagD d t) = true, txt (pbB (tagD d t)) = txt (pbB d) ↔ t = d.tag) := Lib.hid (fun h2 => txt_tag hok h2 WP.out.2.2.2.2)
  have HBK := Lib.hid hbk; have HSM := Lib.hid hsm; have H15 := Lib.hid h15
  clear hbk hsm h15
  generalize pbB d = X at *
  rintro e w2 ⟨vb, fpb, rfl, hb, hfb, hg⟩
  change OwnB w2 vb X fpb at hb
  obtain ⟨ab, cb, rfl⟩ := own_shape hb.1
  have RX := Lib.hid hb.rd
  have B1 := Lib.hid ((Box.alloc w1 _ _).grow hg)
  have G2 := Lib.hid (hG.trans hg)
  clear hb hfb hg hG
  have ⟨q0, q1, q2, q3, q4⟩ := B1.out.five
  have ql := B1.out.1
  go_wp2_with fail
  refine at_world (w := w2) ?G (fun hG => (packetOkS _ _ d (RP.out.grow (G2.out.trans hG))).mono ?_)
  case G => ((repeat (first | with_reducible exact Grow.refl _ | (with_reducible refine Grow.alloc_ ?_ _) | (with_reducible refine Grow.setCell_ ?_ (by first | exact Nat.le_refl _ | (simp only [World.alloc, Array.size_push]; omega) | omega) _))))
  rintro e w3 ⟨rfl, hg⟩
  rw [hok]
  have G3 := Lib.hid (G2.out.trans (hG.trans hg))
  have B1 := Lib.hid (B1.out.grow (hG.trans hg))
  have RX := Lib.hid (RX.out.grow (hG.trans hg))
  clear hG hg q0 q1 q2 q3 q4 ql
  have ⟨q0, q1, q2, q3, q4⟩ := B1.out.five
  have ql := B1.out.1
  go_wp2_with fail
  refine at_world (w := w3) ?G (fun hG => (packetReadI_any _ _ X (RX.out.grow hG) hbb.out HSM.out).mono ?_)
  case G => ((repeat (first | with_reducible exact Grow.refl _ | (with_reducible refine Grow.alloc_ ?_ _) | (with_reducible refine Grow.setCell_ ?_ (by first | exact Nat.le_refl _ | (simp only [World.alloc, Array.size_push]; omega) | omega) _))))
  rw [HBK.out]
  rintro e w4 ⟨ve, fpe, rfl, ⟨v2, rfl, ho2⟩, hfe, hg⟩
  change OwnB w4 v2 d.body fpe at ho2
  obtain ⟨aq, cq, rfl⟩ := own_shape ho2.1
  have G4 := Lib.hid (G3.out.trans (hG.trans hg))
  have B1 := Lib.hid (B1.out.grow (hG.trans hg))
  have RX := Lib.hid (RX.out.grow (hG.trans hg))
  have GA := Lib.hid (Grow.alloc w4 (.cells #[.int .i64 d.dst, .int .i64 d.src, .int .i64 d.tag, .int .i64 d.typ, .slice aq d.body.length cq] 27))
  have cv1 := run_txt (P := Try.prog) Try.underlying22 Try.underlying5 Try.underlying9 (ho2.rd.grow GA.out)
  have cv2 := run_txt (P := Try.prog) Try.underlying22 Try.underlying5 Try.underlying9 (RD.out.grow (G4.out.trans GA.out))
  have B2 := Lib.hid (Box.alloc w4 [.int .i64 d.dst, .int .i64 d.src, .int .i64 d.tag, .int .i64 d.typ, .slice aq d.body.length cq] 27)
  have B1 := Lib.hid (B1.out.grow GA.out)
  have RX := Lib.hid (RX.out.grow GA.out)
  generalize txt d.body = S0 at *
  clear hG hg ho2 hfe q0 q1 q2 q3 q4 ql
  have ⟨q0, q1, q2, q3, q4⟩ := B1.out.five
  have ql := B1.out.1
  have ⟨y0, y1, y2, y3, y4⟩ := B2.out.five
  have yl := B2.out.1
  have GW := Lib.hid (G4.out.trans GA.out)
  go_wp2_with fail
  generalize w4.alloc (.cells #[.int .i64 d.dst, .int .i64 d.src, .int .i64 d.tag, .int .i64 d.typ, .slice aq d.body.length cq] 27) = w5 at *
  clear cv1 cv2 y0 y1 y2 y3 y4 yl q0 q1 q2 q3 q4 ql
  refine at_world (w := w5) ?G (fun hG => (taggedI_any _ _ d t (RP.out.grow (GW.out.trans hG)) WP.out SP.out).mono ?_)
  case G => ((repeat (first | with_reducible exact Grow.refl _ | (with_reducible refine Grow.alloc_ ?_ _) | (with_reducible refine Grow.setCell_ ?_ (by first | exact Nat.le_refl _ | (simp only [World.alloc, Array.size_push]; omega) | omega) _))))
  cases hk : pkOk (tagD d t)
  · rw [tagF_no hk]
    rintro e w6 ⟨vr, fpr, rfl, ⟨v3, hv3, ho3⟩, hfr, hg⟩
    obtain rfl : vr = .agg #[.int .i64 0, .int .i64 0, .int .i64 0, .int .i64 0, v3] := hv3
    change OwnB w6 v3 [] fpr at ho3
    obtain ⟨ar, cr, rfl⟩ := own_shape ho3.1
    have GB6 := Lib.hid (GW.out.trans (hG.trans hg))
    have B1 := Lib.hid (B1.out.grow ((hG.trans hg).trans (Grow.alloc w6 (.cells #[.int .i64 0, .int .i64 0, .int .i64 0, .int .i64 0, .slice ar 0 cr] 27))))
    clear hG hg ho3 hfr
    have ⟨q0, q1, q2, q3, q4⟩ := B1.out.five
    have ql := B1.out.1
    go_wp2_with fail
    refine at_world (w := w6) ?G (fun hG => (taggedS_any _ _ d t (RP.out.grow (GB6.out.trans hG)) WP.out SP.out).mono ?_)
    case G => ((repeat (first | with_reducible exact Grow.refl _ | (with_reducible refine Grow.alloc_ ?_ _) | (with_reducible refine Grow.setCell_ ?_ (by first | exact Nat.le_refl _ | (simp only [World.alloc, Array.size_push]; omega) | omega) _))))
    rw [tagF_no hk]
    rintro e w7 ⟨vr2, fpr2, rfl, ⟨v4, rfl, ho4⟩, hfr2, hg⟩
    obtain ⟨ay, cy, rfl⟩ := own_shape ho4.1
    have G7 := Lib.hid (hG.trans hg)
    clear hG hg ho4 hfr2
    go_wp2
    go_ret
    exact ⟨rfl, G1.out.trans (GB6.out.trans (G7.out.trans (Grow.alloc _ _)))⟩
  rw [tagF_yes hk]
  have HT := Lib.hid (HT0.out hk)
  have HB2 := Lib.hid (prF_back hk WP.out.2.2.2.2)
  have hbb2 := Lib.hid (pbB_bytes (d := tagD d t) WP.out.2.2.2.2)
  have HS2 : Hid (SmB (pbB (tagD d t))) := Lib.hid (by unfold SmB; have h1 := pbB_len (d := tagD d t); have h2 : (tagD d t).body.length ≤ 1500 := H15.out; omega)
  have PB2 := Lib.hid (pbF_yes hk)
  have HK := Lib.hid hk
  generalize pbB (tagD d t) = X2 at *
  rintro e w6 ⟨vr, fpr, rfl, ⟨v3, hv3, ho3⟩, hfr, hg⟩
  obtain rfl : vr = .agg #[.int .i64 d.dst, .int .i64 d.src, .int .i64 t, .int .i64 d.typ, v3] := hv3
  change OwnB w6 v3 d.body fpr at ho3
  obtain ⟨ar, cr, rfl⟩ := own_shape ho3.1
  have RT : Hid (RdP w6 (.agg #[.int .i64 d.dst, .int .i64 d.src, .int .i64 t, .int .i64 d.typ, .slice ar d.body.length cr]) (tagD d t)) := Lib.hid ⟨_, rfl, ho3.rd⟩
  have WT : Hid (WfP (tagD d t)) := Lib.hid ⟨WP.out.1, WP.out.2.1, TI.out, WP.out.2.2.2.1, WP.out.2.2.2.2⟩
  have G6 := Lib.hid (GW.out.trans (hG.trans hg))
  have B1 := Lib.hid (B1.out.grow (hG.trans hg))
  have RX := Lib.hid (RX.out.grow (hG.trans hg))
  clear hG hg ho3 hfr
  have ⟨q0, q1, q2, q3, q4⟩ := (B1.out.grow (Grow.alloc w6 (.cells #[.int .i64 d.dst, .int .i64 d.src, .int .i64 t, .int .i64 d.typ, .slice ar d.body.length cr] 27))).five
  have ql := (B1.out.grow (Grow.alloc w6 (.cells #[.int .i64 d.dst, .int .i64 d.src, .int .i64 t, .int .i64 d.typ, .slice ar d.body.length cr] 27))).1
  have BR6 := Lib.hid (Box.alloc w6 [.int .i64 d.dst, .int .i64 d.src, .int .i64 t, .int .i64 d.typ, .slice ar d.body.length cr] 27)
  go_wp2_with fail
  refine at_world (w := w6) ?G (fun hG => (taggedS_any _ _ d t (RP.out.grow (G6.out.trans hG)) WP.out SP.out).mono ?_)
  case G => ((repeat (first | with_reducible exact Grow.refl _ | (with_reducible refine Grow.alloc_ ?_ _) | (with_reducible refine Grow.setCell_ ?_ (by first | exact Nat.le_refl _ | (simp only [World.alloc, Array.size_push]; omega) | omega) _))))
  rw [tagF_yes HK.out]
  rintro e w7 ⟨vr2, fpr2, rfl, ⟨v4, hv4, ho4⟩, hfr2, hg⟩
  obtain rfl : vr2 = .agg #[.int .i64 d.dst, .int .i64 d.src, .int .i64 t, .int .i64 d.typ, v4] := hv4
  change OwnB w7 v4 d.body fpr2 at ho4
  obtain ⟨ay, cy, rfl⟩ := own_shape ho4.1
  have GB := Lib.hid ((hG.trans hg).trans (Grow.alloc w7 (.cells #[.int .i64 d.dst, .int .i64 d.src, .int .i64 t, .int .i64 d.typ, .slice ay d.body.length cy] 27)))
  have BR := Lib.hid (BR6.out.grow (hg.trans (Grow.alloc w7 (.cells #[.int .i64 d.dst, .int .i64 d.src, .int .i64 t, .int .i64 d.typ, .slice ay d.body.length cy] 27))))
  clear hG hg ho4 hfr2 q0 q1 q2 q3 q4 ql
  have ⟨q0, q1, q2, q3, q4⟩ := BR.out.five
  have ql := BR.out.1
  go_wp2_with fail
  generalize w7.alloc (.cells #[.int .i64 d.dst, .int .i64 d.src, .int .i64 t, .int .i64 d.typ, .slice ay d.body.length cy] 27) = w8 at *
  have B1 := Lib.hid (B1.out.grow GB.out)
  have RX := Lib.hid (RX.out.grow GB.out)
  have G8 := Lib.hid (G6.out.trans GB.out)
  refine at_world (w := w8) ?G (fun hG => (packetBytesI_any _ _ (tagD d t) (RT.out.grow (GB.out.trans hG)) WT.out).mono ?_)
  case G => ((repeat (first | with_reducible exact Grow.refl _ | (with_reducible refine Grow.alloc_ ?_ _) | (with_reducible refine Grow.setCell_ ?_ (by first | exact Nat.le_refl _ | (simp only [World.alloc, Array.size_push]; omega) | omega) _))))
  rw [PB2.out]
  rintro e w9 ⟨vt, fpt, rfl, hb, hfb, hg⟩
  change OwnB w9 vt X2 fpt at hb
  obtain ⟨at_, ct, rfl⟩ := own_shape hb.1
  have RX2 := Lib.hid hb.rd
  have B1 := Lib.hid (B1.out.grow (hG.trans hg))
  have RX := Lib.hid (RX.out.grow (hG.trans hg))
  have G9 := Lib.hid (G8.out.trans (hG.trans hg))
  clear hG hg hb hfb q0 q1 q2 q3 q4 ql
  go_wp2_with fail
  refine at_world (w := w9) ?G (fun hG => (packetReadI_any _ _ X2 (RX2.out.grow hG) hbb2.out HS2.out).mono ?_)
  case G => ((repeat (first | with_reducible exact Grow.refl _ | (with_reducible refine Grow.alloc_ ?_ _) | (with_reducible refine Grow.setCell_ ?_ (by first | exact Nat.le_refl _ | (simp only [World.alloc, Array.size_push]; omega) | omega) _))))
  rw [HB2.out]
  rintro e wa ⟨vs, fps, rfl, ⟨v5, hv5, ho5⟩, hfs, hg⟩
  obtain rfl : vs = .agg #[.int .i64 d.dst, .int .i64 d.src, .int .i64 t, .int .i64 d.typ, v5] := hv5
  change OwnB wa v5 d.body fps at ho5
  obtain ⟨az, cz, rfl⟩ := own_shape ho5.1
  have GC := Lib.hid ((hG.trans hg).trans (Grow.alloc wa (.cells #[.int .i64 d.dst, .int .i64 d.src, .int .i64 t, .int .i64 d.typ, .slice az d.body.length cz] 27)))
  have GA2 := Lib.hid (G9.out.trans GC.out)
  have cv1 := run_txt (P := Try.prog) Try.underlying22 Try.underlying5 Try.underlying9 (RX2.out.grow GC.out)
  have cv2 := run_txt (P := Try.prog) Try.underlying22 Try.underlying5 Try.underlying9 (RX.out.grow GC.out)
  have B1 := Lib.hid (B1.out.grow GC.out)
  have BS := Lib.hid (Box.alloc wa [.int .i64 d.dst, .int .i64 d.src, .int .i64 t, .int .i64 d.typ, .slice az d.body.length cz] 27)
  generalize txt X2 = T2 at *
  generalize txt X = T1 at *
  clear hG hg ho5 hfs
  have ⟨q0, q1, q2, q3, q4⟩ := B1.out.five
  have ql := B1.out.1
  have ⟨y0, y1, y2, y3, y4⟩ := BS.out.five
  have yl := BS.out.1
  by_cases ht : t = d.tag
  · obtain rfl : T2 = T1 := HT.out.2 ht
    have hb1 : (t == d.tag) = true := by simpa using ht
    have HTT := Lib.hid ht
    clear ht
    go_wp2
    go_ret
    exact ⟨ret_bool (by simp [HTT.out]), G1.out.trans GA2.out⟩
  · have hs : ¬ T2 = T1 := fun h => ht (HT.out.1 h)
    have hb1 : (t == d.tag) = false := by simpa using ht
    go_wp2
    go_ret
    have hs2 : ¬ T2.toList = T1.toList := fun h => hs (by
      rw [ByteArray.toList_eq, ByteArray.toList_eq] at h
      exact ByteArray.ext (Array.toList_inj.1 h))
    exact ⟨ret_bool (by simp [ht, hs2]), G1.out.trans GA2.out⟩
--%
end Go.Proofs.Ytcldfodnblkeiaa
