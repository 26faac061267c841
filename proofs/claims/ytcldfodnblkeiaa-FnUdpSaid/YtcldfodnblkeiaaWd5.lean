/- FnUdp: the walk of the law. -/
import Derived.Test.YtcldfodnblkeiaaPlu
import Derived.Test.YtcldfodnblkeiaaDn
import Derived.Test.YtcldfodnblkeiaaHo
import Derived.Test.YtcldfodnblkeiaaUb
import Derived.Test.YtcldfodnblkeiaaApp2
import Derived.Test.YtcldfodnblkeiaaOpn
import Derived.WalkKit
import Derived.ProofKit
import Derived.OpenShut
import Derived.ShutString
import Derived.ChangeOld
import Derived.Below
import Derived.SizedLaws
import Derived.WalkSpells
import Derived.Deep.QuietTactic
import Derived.BigQuiet
import Derived.Outline
namespace Go.Proofs.Ytcldfodnblkeiaa
open Go.ChangeMaps (open_string shut_string)
open Go.ChangeShapes Go.WideShapes Go.ChangeAt Go.RowKit
set_option linter.unusedVariables false
set_option linter.unusedSimpArgs false
--%
theorem nest_ok {us ud ttl sr ds pd ps tg : Int} {zs : List Int} (hzb : Bytes zs) (hz : zs.length ≤ 30) (h1 : 0 ≤ us ∧ us < 65536) (h2 : 0 ≤ ud ∧ ud < 65536) (h3 : 0 ≤ ttl ∧ ttl < 256) (h4 : 0 ≤ sr ∧ sr < 1000000) (h5 : 0 ≤ ds ∧ ds < 9)
    (h6 : 0 ≤ pd ∧ pd ≤ 281474976710655) (h7 : 0 ≤ ps ∧ ps ≤ 281474976710655) (h8 : -1 ≤ tg ∧ tg ≤ 4094) :
    udOk ⟨us, ud, zs⟩ = true ∧ ipOk ⟨ttl, 17, sr, ds, udB ⟨us, ud, zs⟩⟩ = true ∧ pkOk ⟨pd, ps, tg, 2048, ipB ⟨ttl, 17, sr, ds, udB ⟨us, ud, zs⟩⟩⟩ = true ∧ (udB ⟨us, ud, zs⟩).length ≤ 38 ∧ (ipB ⟨ttl, 17, sr, ds, udB ⟨us, ud, zs⟩⟩).length ≤ 58 := by
  have l1 : (udB ⟨us, ud, zs⟩).length ≤ 38 := by rw [udB_len]; show 8 + zs.length ≤ 38; omega
  have l2 : (ipB ⟨ttl, 17, sr, ds, udB ⟨us, ud, zs⟩⟩).length ≤ 58 := by rw [ipB_len]; show 20 + (udB ⟨us, ud, zs⟩).length ≤ 58; omega
  have e1 : (256 : Int) ^ (1 : Int).toNat = 256 := by decide
  have n1 : numOkB ttl 1 = true := by unfold numOkB; rw [e1]; simp; omega
  have n2 : numOkB 17 1 = true := by decide
  refine ⟨?_, ?_, ?_, l1, l2⟩
  · have a : zs.length ≤ 1472 := by omega
    simp only [udOk, numOk2 (show 0 ≤ us by omega) (by omega), numOk2 (show 0 ≤ ud by omega) (by omega), a, Bool.true_and, decide_true]
  · have a : (udB ⟨us, ud, zs⟩).length ≤ 1480 := by omega
    simp only [ipOk, n1, n2, numOk4 (show 0 ≤ sr by omega) (by omega), numOk4 (show 0 ≤ ds by omega) (by omega), a, Bool.true_and, decide_true]
  · have a : (ipB ⟨ttl, 17, sr, ds, udB ⟨us, ud, zs⟩⟩).length ≤ 1500 := by omega
    simp only [pkOk, inB_true h6.1 h6.2, inB_true h7.1 h7.2, inB_true h8.1 h8.2, show typeB 2048 = true by decide, a, Bool.true_and, decide_true]
--% walk FnUdp 18
set_option maxRecDepth 20000 in
set_option maxHeartbeats 4000000 in
theorem walk_FnUdp (w : World) (v0 : Value) (d0 : DatB) (h0 : RdB w v0 d0) (b0 : WfB d0) : Calls Try.prog 18 #[v0] w (RetV (.bool true) w) := by
  have H0 := Lib.hid h0; have B0 : Hid (Bytes d0) := Lib.hid b0
  obtain ⟨a0, c0, rfl, hlc0, hm0, hn0', hc0'⟩ := Rd.ints h0
  clear hn0' hc0' h0 b0
  unfold maxLen at hm0
  by_cases hl0 : 1048576 < d0.length
  · go_enter Try.func18, Try.ntmps18
    go_wp2
    go_ret
    exact ⟨rfl, Grow.refl _⟩
  go_enter Try.func18, Try.ntmps18
  go_wp2_with fail
  refine (makeNested_any _ _ d0 H0.out B0.out (by omega)).mono ?_
  rintro e w1 ⟨us, ud, ttl, sr, ds, pd, ps, tg, ty, ii, zs, av, cv, rfl, hrd, hzb, hzl, h1, h2, h3, h4, h5, h6, h7, h8, h9, hg⟩
  obtain ⟨hu, hi, hp, la, lb⟩ := nest_ok hzb hzl h1 h2 h3 h4 h5 h6 h7 h8
  have UF := Lib.hid (udF_yes hu); have IF := Lib.hid (ipF_yes hi); have PF := Lib.hid (pbF_yes hp)
  have UB := Lib.hid (urF_back hu); have IB := Lib.hid (irF_back hi)
  have bA : Bytes (udB ⟨us, ud, zs⟩) := udB_bytes hzb
  have bB : Bytes (ipB ⟨ttl, 17, sr, ds, udB ⟨us, ud, zs⟩⟩) := ipB_bytes hi bA
  have PB := Lib.hid (prF_back hp bB)
  have bC : Bytes (pbB ⟨pd, ps, tg, 2048, ipB ⟨ttl, 17, sr, ds, udB ⟨us, ud, zs⟩⟩⟩) := pbB_bytes bB
  have lc : (pbB ⟨pd, ps, tg, 2048, ipB ⟨ttl, 17, sr, ds, udB ⟨us, ud, zs⟩⟩⟩).length ≤ 80 := by
    have := pbB_len (d := ⟨pd, ps, tg, 2048, ipB ⟨ttl, 17, sr, ds, udB ⟨us, ud, zs⟩⟩⟩)
    have e : (PacketD.mk pd ps tg 2048 (ipB ⟨ttl, 17, sr, ds, udB ⟨us, ud, zs⟩⟩)).body.length = (ipB ⟨ttl, 17, sr, ds, udB ⟨us, ud, zs⟩⟩).length := rfl
    omega
  have HO : Hid (hoF ⟨pd, ps, tg, 2048, ipB ⟨ttl, 17, sr, ds, udB ⟨us, ud, zs⟩⟩⟩ ii = (⟨[ii, ps, pd, 2048, tg + 1, sr, ds, 17]⟩, true)) := Lib.hid (by
    rw [hoF_yes hp h9.1 h9.2]
    have e : hoX ⟨pd, ps, tg, 2048, ipB ⟨ttl, 17, sr, ds, udB ⟨us, ud, zs⟩⟩⟩ = [sr, ds, 17] := by
      unfold hoX
      rw [if_pos rfl, irF_back hi]
    rw [e]; rfl)
  have RZ := Lib.hid hrd; have BA := Lib.hid bA; have BB := Lib.hid bB; have BC := Lib.hid bC; have G1 := Lib.hid hg
  clear hrd hzb hg hu hi hp bA bB bC
  generalize pbB ⟨pd, ps, tg, 2048, ipB ⟨ttl, 17, sr, ds, udB ⟨us, ud, zs⟩⟩⟩ = C at *
  generalize ipB ⟨ttl, 17, sr, ds, udB ⟨us, ud, zs⟩⟩ = B at *
  generalize udB ⟨us, ud, zs⟩ = A at *
  have GA := Lib.hid (((Grow.alloc w1 (.cells #[.int .i64 us, .int .i64 ud, .slice av zs.length cv] 61)).trans (Grow.alloc _ (.cells #[.int .i64 ttl, .int .i64 0, .int .i64 sr, .int .i64 ds, .slice none 0 0] 47))).trans (Grow.alloc _ (.cells #[.int .i64 pd, .int .i64 ps, .int .i64 tg, .int .i64 ty, .slice none 0 0] 27)))
  have N0 : Hid (NB (((w1.alloc (.cells #[.int .i64 us, .int .i64 ud, .slice av zs.length cv] 61)).alloc (.cells #[.int .i64 ttl, .int .i64 0, .int .i64 sr, .int .i64 ds, .slice none 0 0] 47)).alloc (.cells #[.int .i64 pd, .int .i64 ps, .int .i64 tg, .int .i64 ty, .slice none 0 0] 27)) [((w1.heap.size + 1 + 1), [.int .i64 pd, .int .i64 ps, .int .i64 tg, .int .i64 ty, .slice none 0 0]), ((w1.heap.size + 1), [.int .i64 ttl, .int .i64 0, .int .i64 sr, .int .i64 ds, .slice none 0 0]), (w1.heap.size, [.int .i64 us, .int .i64 ud, .slice av zs.length cv])]) := Lib.hid ((((NB.nil _).cons (((Box.alloc w1 [.int .i64 us, .int .i64 ud, .slice av zs.length cv] 61).grow (Grow.alloc _ (.cells #[.int .i64 ttl, .int .i64 0, .int .i64 sr, .int .i64 ds, .slice none 0 0] 47))).grow (Grow.alloc _ (.cells #[.int .i64 pd, .int .i64 ps, .int .i64 tg, .int .i64 ty, .slice none 0 0] 27)))).cons (((Box.alloc (w1.alloc (.cells #[.int .i64 us, .int .i64 ud, .slice av zs.length cv] 61)) [.int .i64 ttl, .int .i64 0, .int .i64 sr, .int .i64 ds, .slice none 0 0] 47).grow (Grow.alloc _ (.cells #[.int .i64 pd, .int .i64 ps, .int .i64 tg, .int .i64 ty, .slice none 0 0] 27))).at_ (b' := (w1.heap.size + 1)) (by simp only [World.alloc, Array.size_push]))).cons ((Box.alloc ((w1.alloc (.cells #[.int .i64 us, .int .i64 ud, .slice av zs.length cv] 61)).alloc (.cells #[.int .i64 ttl, .int .i64 0, .int .i64 sr, .int .i64 ds, .slice none 0 0] 47)) [.int .i64 pd, .int .i64 ps, .int .i64 tg, .int .i64 ty, .slice none 0 0] 27).at_ (b' := (w1.heap.size + 1 + 1)) (by simp only [World.alloc, Array.size_push])))
  have RW := Lib.hid (RZ.out.grow GA.out)
  have ⟨q0, q1, q2⟩ := N0.out.tl.tl.hd.three
  go_wp2_with fail
  generalize ((w1.alloc (.cells #[.int .i64 us, .int .i64 ud, .slice av zs.length cv] 61)).alloc (.cells #[.int .i64 ttl, .int .i64 0, .int .i64 sr, .int .i64 ds, .slice none 0 0] 47)).alloc (.cells #[.int .i64 pd, .int .i64 ps, .int .i64 tg, .int .i64 ty, .slice none 0 0] 27) = w2 at *
  clear q0 q1 q2
  have L2 : Hid (w1.heap.size + 1 + 1 < w2.heap.size) := Lib.hid N0.out.hd.1
  refine at_world (w := w2) ?G (fun hG => (udpBytesI_any _ _ ⟨us, ud, zs⟩ ⟨_, rfl, RW.out.grow hG⟩).mono ?_)
  case G => ((repeat (first | with_reducible exact Grow.refl _ | (with_reducible refine Grow.alloc_ ?_ _) | (with_reducible refine Grow.setCell_ ?_ (by first | exact Nat.le_refl _ | (simp only [World.alloc, Array.size_push]; omega) | omega) _))))
  rw [UF.out]
  rintro e w3 ⟨va, fpa, rfl, ha, hfa, hg⟩
  change OwnB w3 va A fpa at ha
  obtain ⟨aa, ca, rfl⟩ := own_shape ha.1
  have OA := Lib.hid ha
  have FA_ : Hid (∀ x ∈ fpa, w1.heap.size + 1 + 1 < x) := Lib.hid (fun x hx => by have h1 := hfa x hx; have h2 := hG.size; have h3 := L2.out; omega)
  have G3 := Lib.hid (hG.trans hg)
  have N3 := Lib.hid (N0.out.grow G3.out)
  clear ha hfa hg hG
  have ⟨d0_, d1_, d2_, d3_, d4_⟩ := N3.out.tl.hd.five; have dz := N3.out.tl.hd.2.2; have dl := N3.out.tl.hd.1
  go_wp2_with fail
  have UX := Lib.hid (Upd.setCell (p := ⟨(w1.heap.size + 1), 1, none⟩) (Upd.setCell (p := ⟨(w1.heap.size + 1), 4, none⟩) (Upd.refl [(w1.heap.size + 1)] w3) (by simp) (.slice aa A.length ca)) (by simp) (.int .i64 17))
  have BD : Hid (Box ((w3.setCell ⟨(w1.heap.size + 1), 4, none⟩ (.slice aa A.length ca)).setCell ⟨(w1.heap.size + 1), 1, none⟩ (.int .i64 17)) (w1.heap.size + 1) [.int .i64 ttl, .int .i64 17, .int .i64 sr, .int .i64 ds, .slice aa A.length ca]) := Lib.hid ((N3.out.tl.hd.set 4 (.slice aa A.length ca) (by simp)).set 1 (.int .i64 17) (by simp))
  generalize (w3.setCell ⟨(w1.heap.size + 1), 4, none⟩ (.slice aa A.length ca)).setCell ⟨(w1.heap.size + 1), 1, none⟩ (.int .i64 17) = w4 at *
  have BP4 := Lib.hid (N3.out.hd.upd UX.out (by simp)); have BU4 := Lib.hid (N3.out.tl.tl.hd.upd UX.out (by simp))
  have OA4 := Lib.hid (OA.out.upd UX.out (fun x hx hm => by have := FA_.out x hx; simp only [List.mem_cons, List.not_mem_nil, or_false] at hm; omega))
  have G14 := Lib.hid ((GA.out.trans G3.out).then_upd UX.out (by intro x hx; simp only [List.mem_cons, List.not_mem_nil, or_false] at hx; omega))
  have WP : Hid (WfP ⟨pd, ps, tg, 2048, B⟩) := Lib.hid ⟨⟨by show _ ≤ pd; omega, by show pd ≤ _; omega⟩, ⟨by show _ ≤ ps; omega, by show ps ≤ _; omega⟩, ⟨by show _ ≤ tg; omega, by show tg ≤ _; omega⟩, ⟨by show (-9223372036854775808 : Int) ≤ 2048; decide, by show (2048 : Int) ≤ 9223372036854775807; decide⟩, BB.out⟩
  clear d0_ d1_ d2_ d3_ d4_ dz dl N3 OA G3
  refine at_world (w := w4) ?G (fun hG => (ipBytesI_any _ _ ⟨ttl, 17, sr, ds, A⟩ ⟨_, rfl, (OA4.out.rd).grow hG⟩).mono ?_)
  case G => ((repeat (first | with_reducible exact Grow.refl _ | (with_reducible refine Grow.alloc_ ?_ _) | (with_reducible refine Grow.setCell_ ?_ (by first | exact Nat.le_refl _ | (simp only [World.alloc, Array.size_push]; omega) | omega) _))))
  rw [IF.out]
  rintro e w5 ⟨vb, fpb, rfl, hb, hfb, hg⟩
  change OwnB w5 vb B fpb at hb
  obtain ⟨ab, cb, rfl⟩ := own_shape hb.1
  have OB := Lib.hid hb
  have G45 := Lib.hid (hG.trans hg)
  have FB_ : Hid (∀ x ∈ fpb, w1.heap.size + 1 + 1 < x) := Lib.hid (fun x hx => by have h1 := hfb x hx; have h2 := hG.size; have h3 := BP4.out.1; omega)
  clear hb hfb hg hG
  have BP5 := Lib.hid (BP4.out.grow G45.out); have BU5 := Lib.hid (BU4.out.grow G45.out); have BD5 := Lib.hid (BD.out.grow G45.out)
  have ⟨p0_, p1_, p2_, p3_, p4_⟩ := BP5.out.five; have pz := BP5.out.2.2; have pl := BP5.out.1
  go_wp2_with fail
  have UY := Lib.hid (Upd.setCell (p := ⟨(w1.heap.size + 1 + 1), 4, none⟩) (Upd.setCell (p := ⟨(w1.heap.size + 1 + 1), 3, none⟩) (Upd.refl [(w1.heap.size + 1 + 1)] w5) (by simp) (.int .i64 2048)) (by simp) (.slice ab B.length cb))
  have BP6 : Hid (Box ((w5.setCell ⟨(w1.heap.size + 1 + 1), 3, none⟩ (.int .i64 2048)).setCell ⟨(w1.heap.size + 1 + 1), 4, none⟩ (.slice ab B.length cb)) (w1.heap.size + 1 + 1) [.int .i64 pd, .int .i64 ps, .int .i64 tg, .int .i64 2048, .slice ab B.length cb]) := Lib.hid ((BP5.out.set 3 (.int .i64 2048) (by simp)).set 4 (.slice ab B.length cb) (by simp))
  generalize (w5.setCell ⟨(w1.heap.size + 1 + 1), 3, none⟩ (.int .i64 2048)).setCell ⟨(w1.heap.size + 1 + 1), 4, none⟩ (.slice ab B.length cb) = w6 at *
  have BU6 := Lib.hid (BU5.out.upd UY.out (by simp; omega)); have BD6 := Lib.hid (BD5.out.upd UY.out (by simp))
  have OB6 := Lib.hid (OB.out.upd UY.out (fun x hx hm => by have := FB_.out x hx; simp only [List.mem_cons, List.not_mem_nil, or_false] at hm; omega))
  have G16 := Lib.hid ((G14.out.trans G45.out).then_upd UY.out (by intro x hx; simp only [List.mem_cons, List.not_mem_nil, or_false] at hx; omega))
  clear p0_ p1_ p2_ p3_ p4_ pz pl OB G45 BP4 BP5 BD BD5 BU4 BU5 OA4
  refine at_world (w := w6) ?G (fun hG => (packetBytesI_any _ _ ⟨pd, ps, tg, 2048, B⟩ ⟨_, rfl, (OB6.out.rd).grow hG⟩ WP.out).mono ?_)
  case G => ((repeat (first | with_reducible exact Grow.refl _ | (with_reducible refine Grow.alloc_ ?_ _) | (with_reducible refine Grow.setCell_ ?_ (by first | exact Nat.le_refl _ | (simp only [World.alloc, Array.size_push]; omega) | omega) _))))
  rw [PF.out]
  rintro e w7 ⟨vc, fpc, rfl, hc, hfc, hg⟩
  change OwnB w7 vc C fpc at hc
  obtain ⟨ac, cc, rfl⟩ := own_shape hc.1
  have RC := Lib.hid hc.rd
  have G7 := Lib.hid (hG.trans hg)
  have G17 := Lib.hid (G16.out.trans G7.out)
  have BU7 := Lib.hid (BU6.out.grow G7.out); have BD7 := Lib.hid (BD6.out.grow G7.out)
  clear hc hfc hg hG BP6 OB6 BU6 BD6
  go_wp2_with fail
  refine at_world (w := w7) ?G (fun hG => (packetReadI_any _ _ C (RC.out.grow hG) BC.out (by unfold SmB; omega)).mono ?_)
  case G => ((repeat (first | with_reducible exact Grow.refl _ | (with_reducible refine Grow.alloc_ ?_ _) | (with_reducible refine Grow.setCell_ ?_ (by first | exact Nat.le_refl _ | (simp only [World.alloc, Array.size_push]; omega) | omega) _))))
  rw [PB.out]
  rintro e w8 ⟨vq, fpq, rfl, ⟨v2, hv2, ho2⟩, hfq, hg⟩
  obtain rfl : vq = .agg #[.int .i64 pd, .int .i64 ps, .int .i64 tg, .int .i64 2048, v2] := hv2
  change OwnB w8 v2 B fpq at ho2
  obtain ⟨aq, cq, rfl⟩ := own_shape ho2.1
  have G79 := Lib.hid ((hG.trans hg).trans (Grow.alloc w8 (.cells #[.int .i64 pd, .int .i64 ps, .int .i64 tg, .int .i64 2048, .slice aq B.length cq] 27)))
  have RB9 := Lib.hid (ho2.rd.grow (Grow.alloc w8 (.cells #[.int .i64 pd, .int .i64 ps, .int .i64 tg, .int .i64 2048, .slice aq B.length cq] 27)))
  have BQ9 := Lib.hid (Box.alloc w8 [.int .i64 pd, .int .i64 ps, .int .i64 tg, .int .i64 2048, .slice aq B.length cq] 27)
  clear hG hg ho2 hfq
  have ⟨q0, q1, q2, q3, q4⟩ := BQ9.out.five; have ql := BQ9.out.1
  go_wp2_with fail
  generalize w8.alloc (.cells #[.int .i64 pd, .int .i64 ps, .int .i64 tg, .int .i64 2048, .slice aq B.length cq] 27) = w9 at *
  generalize w8.heap.size = bq at *
  clear q0 q1 q2 q3 q4 ql
  refine at_world (w := w9) ?G (fun hG => (ipReadI_any _ _ B (RB9.out.grow hG) BB.out (by unfold SmB; omega)).mono ?_)
  case G => ((repeat (first | with_reducible exact Grow.refl _ | (with_reducible refine Grow.alloc_ ?_ _) | (with_reducible refine Grow.setCell_ ?_ (by first | exact Nat.le_refl _ | (simp only [World.alloc, Array.size_push]; omega) | omega) _))))
  rw [IB.out]
  rintro e w10 ⟨ve, fpe, rfl, ⟨v3, hv3, ho3⟩, hfe, hg⟩
  obtain rfl : ve = .agg #[.int .i64 ttl, .int .i64 17, .int .i64 sr, .int .i64 ds, v3] := hv3
  change OwnB w10 v3 A fpe at ho3
  obtain ⟨ae, ce, rfl⟩ := own_shape ho3.1
  have G9b := Lib.hid ((hG.trans hg).trans (Grow.alloc w10 (.cells #[.int .i64 ttl, .int .i64 17, .int .i64 sr, .int .i64 ds, .slice ae A.length ce] 47)))
  have RA11 := Lib.hid (ho3.rd.grow (Grow.alloc w10 (.cells #[.int .i64 ttl, .int .i64 17, .int .i64 sr, .int .i64 ds, .slice ae A.length ce] 47)))
  have BE := Lib.hid (Box.alloc w10 [.int .i64 ttl, .int .i64 17, .int .i64 sr, .int .i64 ds, .slice ae A.length ce] 47)
  clear hG hg ho3 hfe
  have ⟨q0, q1, q2, q3, q4⟩ := BE.out.five; have ql := BE.out.1
  go_wp2_with fail
  generalize w10.alloc (.cells #[.int .i64 ttl, .int .i64 17, .int .i64 sr, .int .i64 ds, .slice ae A.length ce] 47) = w11 at *
  generalize w10.heap.size = be at *
  clear q0 q1 q2 q3 q4 ql
  refine at_world (w := w11) ?G (fun hG => (udpReadI_any _ _ A (RA11.out.grow hG) BA.out (by unfold SmB; omega)).mono ?_)
  case G => ((repeat (first | with_reducible exact Grow.refl _ | (with_reducible refine Grow.alloc_ ?_ _) | (with_reducible refine Grow.setCell_ ?_ (by first | exact Nat.le_refl _ | (simp only [World.alloc, Array.size_push]; omega) | omega) _))))
  rw [UB.out]
  rintro e w12 ⟨vv, fpv, rfl, ⟨v4, hv4, ho4⟩, hfv, hg⟩
  obtain rfl : vv = .agg #[.int .i64 us, .int .i64 ud, v4] := hv4
  change OwnB w12 v4 zs fpv at ho4
  obtain ⟨ax, cx, rfl⟩ := own_shape ho4.1
  have GD := Lib.hid ((hG.trans hg).trans (Grow.alloc w12 (.cells #[.int .i64 us, .int .i64 ud, .slice ax zs.length cx] 61)))
  have RV13 := Lib.hid (ho4.rd.grow (Grow.alloc w12 (.cells #[.int .i64 us, .int .i64 ud, .slice ax zs.length cx] 61)))
  have BV := Lib.hid (Box.alloc w12 [.int .i64 us, .int .i64 ud, .slice ax zs.length cx] 61)
  have BQ13 := Lib.hid (BQ9.out.grow (G9b.out.trans GD.out))
  clear hG hg ho4 hfv
  have ⟨q0, q1, q2, q3, q4⟩ := BQ13.out.five; have ql := BQ13.out.1
  go_wp2_with fail
  generalize w12.alloc (.cells #[.int .i64 us, .int .i64 ud, .slice ax zs.length cx] 61) = w13 at *
  generalize w12.heap.size = bv at *
  clear q0 q1 q2 q3 q4 ql
  refine at_world (w := w13) ?G (fun hG => (headOfI_any _ _ ⟨pd, ps, tg, 2048, B⟩ ii ⟨_, rfl, (RB9.out.grow (G9b.out.trans GD.out)).grow hG⟩ WP.out (by show ((B.length : Int)) ≤ 1048576; omega)).mono ?_)
  case G => ((repeat (first | with_reducible exact Grow.refl _ | (with_reducible refine Grow.alloc_ ?_ _) | (with_reducible refine Grow.setCell_ ?_ (by first | exact Nat.le_refl _ | (simp only [World.alloc, Array.size_push]; omega) | omega) _))))
  rw [HO.out]
  rintro e w14 ⟨vh, fph, rfl, ⟨v5, hv5, ho5⟩, hfh, hg⟩
  obtain rfl : vh = .agg #[v5] := hv5
  change OwnN w14 v5 [ii, ps, pd, 2048, tg + 1, sr, ds, 17] fph at ho5
  obtain ⟨ah, ch, rfl⟩ := own_shape ho5.1
  change OwnN w14 (.slice ah 8 ch) [ii, ps, pd, 2048, tg + 1, sr, ds, 17] fph at ho5
  have GF := Lib.hid ((hG.trans hg).trans (Grow.alloc w14 (.cells #[.slice ah 8 ch] 71)))
  have RH := Lib.hid (ho5.rd.grow (Grow.alloc w14 (.cells #[.slice ah 8 ch] 71)))
  have BH := Lib.hid (Box.alloc w14 [.slice ah 8 ch] 71)
  clear hG hg ho5 hfh
  go_wp2_with fail
  generalize w14.alloc (.cells #[.slice ah 8 ch] 71) = w15 at *
  generalize w14.heap.size = bh at *
  have G7f := Lib.hid (G79.out.trans (G9b.out.trans (GD.out.trans GF.out)))
  have ⟨u0, u1, u2⟩ := (BU7.out.grow G7f.out).three
  have ⟨d0_, d1_, d2_, d3_, d4_⟩ := (BD7.out.grow G7f.out).five
  have ⟨x0, x1, x2⟩ := (BV.out.grow GF.out).three
  have hh0 := BH.out.one
  obtain ⟨a', c', e', -, -, -, hcell⟩ := Rd.ints RH.out
  simp only [Value.slice.injEq] at e'
  obtain ⟨rfl, -, rfl⟩ := e'
  obtain ⟨bb, oo, rfl, y0⟩ := hcell 0 (by simp)
  obtain ⟨bb5, oo5, e5, y5⟩ := hcell 5 (by simp)
  obtain ⟨bb7, oo7, e7, y7⟩ := hcell 7 (by simp)
  simp only [Option.some.injEq, Addr.mk.injEq, and_true] at e5 e7
  obtain ⟨rfl, rfl⟩ := e5
  obtain ⟨rfl, rfl⟩ := e7
  simp only [Nat.add_zero, List.getElem_cons_zero, List.getElem_cons_succ] at y0 y5 y7
  have cv1 := fun a : Nat => run_txt (P := Try.prog) Try.underlying22 Try.underlying5 Try.underlying9 (RV13.out.grow (GF.out.trans (Grow.drewN _ a)))
  have GW := Lib.hid (G17.out.trans G7f.out)
  have cv2 := fun a : Nat => run_txt (P := Try.prog) Try.underlying22 Try.underlying5 Try.underlying9 (RZ.out.grow (GW.out.trans (Grow.drewN _ a)))
  generalize txt zs = S at *
  clear hcell
  refine wp_region_quiet_lit (by kernel_rfl) (by kernel_rfl) ?_
  simp only [List.append_eq, List.cons_append, List.nil_append]
  repeat (go_big_quiet_step (fail))
  refine wpQuiet_nil ?_
  intro _ hw'
  obtain ⟨nq, hw''⟩ := hw'
  subst hw''
  go_wp2
  go_ret
  exact ⟨ret_bool (by simp), G1.out.trans (GW.out.trans (Grow.drewN _ _))⟩
--%
end Go.Proofs.Ytcldfodnblkeiaa
