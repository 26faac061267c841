/- FnIp: the walk of the law; a datagram is read back. -/
import Derived.Test.YtcldfodnblkeiaaDia
import Derived.Test.YtcldfodnblkeiaaIrs
import Derived.Test.YtcldfodnblkeiaaApp2
import Derived.Test.YtcldfodnblkeiaaOpn
import Derived.WalkKit
import Derived.ProofKit
import Derived.OpenShut
import Derived.ShutString
import Derived.ChangeOld
import Derived.Below
import Derived.SizedLaws
import Derived.WalkSpells
import Derived.Deep.QuietTactic
import Derived.BigQuiet
import Derived.Outline
namespace Go.Proofs.Ytcldfodnblkeiaa
open Go.ChangeShapes Go.WideShapes Go.ChangeAt Go.RowKit
open Go.ChangeMaps (open_string shut_string)
set_option linter.unusedVariables false
set_option linter.unusedSimpArgs false
--%
theorem ihHead_list (d : IpD) (s : Int) : ihHead d s = [69, 0, (20 + d.data.length : Int) / 256 % 256, (20 + d.data.length : Int) % 256, 0, 0, 0, 0, d.ttl, d.proto, s / 256 % 256, s % 256,
    d.src / 16777216 % 256, d.src / 65536 % 256, d.src / 256 % 256, d.src % 256, d.dst / 16777216 % 256, d.dst / 65536 % 256, d.dst / 256 % 256, d.dst % 256] := by
  simp [ihHead, ihMid, ihBase, be_2, be_4]
theorem numOk4b {n : Int} (h : numOkB n 4 = true) : 0 ≤ n ∧ n < 4294967296 := by
  have e : (256 : Int) ^ (4 : Int).toNat = 4294967296 := by decide
  unfold numOkB at h; rw [e] at h; simp at h; omega
theorem irF_back {d : IpD} (h : ipOk d = true) : irF (ipB d) = (d, 0) := by
  obtain ⟨k1, k2, k3, k4, k5⟩ := ipOk_iff h
  have h1 := numOk1 k1; have h2 := numOk1 k2; have h3 := numOk4b k3; have h4 := numOk4b k4
  have hs := s16_bd _ 0 (ihHead_bytes h1 h2 0) (by decide)
  have hlen : (ipB d).length = 20 + d.data.length := by unfold ipB; simp [ihHead_len]
  obtain ⟨s, es⟩ : ∃ s, 65535 - s16 0 (ihHead d 0) = s := ⟨_, rfl⟩
  have e : ipB d = ihHead d s ++ d.data := by unfold ipB; rw [es]
  have hD : irD (ipB d) = d := by
    rw [e, ihHead_list]
    obtain ⟨t, pr, sr, ds, da⟩ := d
    simp only [irD, fld, valBE, List.cons_append, List.nil_append, List.getD_cons_zero, List.getD_cons_succ, List.drop_succ_cons, List.drop_zero, List.take_succ_cons, List.take_zero, List.foldl_cons, List.foldl_nil, IpD.mk.injEq, and_true, true_and]
    simp only at h3 h4
    omega
  have f0 : (ipB d).getD 0 0 = 69 := by rw [e, ihHead_list]; rfl
  have f1 : (ipB d).getD 1 0 = 0 := by rw [e, ihHead_list]; rfl
  have f4 : fld (ipB d) 4 4 = 0 := by
    rw [e, ihHead_list]
    simp only [fld, valBE, List.cons_append, List.nil_append, List.drop_succ_cons, List.drop_zero, List.take_succ_cons, List.take_zero, List.foldl_cons, List.foldl_nil]
    omega
  have f2 : fld (ipB d) 2 2 = (ipB d).length := by
    rw [hlen, e, ihHead_list]
    simp only [fld, valBE, List.cons_append, List.nil_append, List.drop_succ_cons, List.drop_zero, List.take_succ_cons, List.take_zero, List.foldl_cons, List.foldl_nil]
    omega
  have f10 : fld (ipB d) 10 2 = s := by
    rw [e, ihHead_list]
    simp only [fld, valBE, List.cons_append, List.nil_append, List.drop_succ_cons, List.drop_zero, List.take_succ_cons, List.take_zero, List.foldl_cons, List.foldl_nil]
    omega
  rw [irF_0 (by omega) f0 ⟨f1, f4⟩ f2 (by rw [f10, hD, es]), hD]
theorem ipB_bytes {d : IpD} (h : ipOk d = true) (hb : Bytes d.data) : Bytes (ipB d) := by
  obtain ⟨k1, k2, _, _, _⟩ := ipOk_iff h
  unfold ipB
  intro x hx
  rcases List.mem_append.1 hx with h1 | h1
  · exact ihHead_bytes (numOk1 k1) (numOk1 k2) _ x h1
  · exact hb x h1
theorem ipB_len {d : IpD} : (ipB d).length = 20 + d.data.length := by unfold ipB; simp [ihHead_len]
theorem zeroIp_ok : ipOk zeroIp = true := by decide
theorem hopD_ok {d : IpD} (h : ipOk d = true) (h2 : 2 ≤ d.ttl) : ipOk (hopD d) = true := by
  obtain ⟨k1, k2, k3, k4, k5⟩ := ipOk_iff h
  have h1 := numOk1 k1
  have e1 : (256 : Int) ^ (1 : Int).toNat = 256 := by decide
  have k : numOkB (d.ttl - 1) 1 = true := by unfold numOkB; rw [e1]; simp; omega
  simp only [ipOk, hopD, k, k2, k3, k4, k5, Bool.true_and, decide_true]
--% walk FnIp 16
set_option maxRecDepth 20000 in
set_option maxHeartbeats 4000000 in
theorem walk_FnIp (w : World) (v0 : Value) (d0 : DatB) (h0 : RdB w v0 d0) (b0 : WfB d0) : Calls Try.prog 16 #[v0] w (RetV (.bool true) w) := by
  have H0 := Lib.hid h0; have B0 : Hid (Bytes d0) := Lib.hid b0
  obtain ⟨a0, c0, rfl, hlc0, hm0, hn0', hc0'⟩ := Rd.ints h0
  clear hn0' hc0' h0 b0
  unfold maxLen at hm0
  by_cases hl0 : 1048576 < d0.length
  · go_enter Try.func16, Try.ntmps16
    go_wp2
    go_ret
    exact ⟨rfl, Grow.refl _⟩
  go_enter Try.func16, Try.ntmps16
  go_wp2_with fail
  refine (drawHop_any _ _ d0 H0.out B0.out (by omega)).mono ?_
  rintro e w1 ⟨V, d, fp, rfl, ⟨v1, rfl, ho⟩, hf, hw, hl, hg⟩
  obtain ⟨av, cv, rfl⟩ := own_shape ho.1
  have RD : Hid (RdB w1 (.slice av d.data.length cv) d.data) := Lib.hid ho.rd
  have RI : Hid (RdIp w1 (.agg #[.int .i64 d.ttl, .int .i64 d.proto, .int .i64 d.src, .int .i64 d.dst, .slice av d.data.length cv]) d) := Lib.hid ⟨_, rfl, ho.rd⟩
  have G1 := Lib.hid hg; have WI := Lib.hid hw; have DL := Lib.hid hl
  clear ho hf hw hl hg
  go_wp2_with fail
  refine at_world (w := w1) ?G (fun hG => (ipBytesI_any _ _ d (RI.out.grow hG)).mono ?_)
  case G => ((repeat (first | with_reducible exact Grow.refl _ | (with_reducible refine Grow.alloc_ ?_ _) | (with_reducible refine Grow.setCell_ ?_ (by first | exact Nat.le_refl _ | (simp only [World.alloc, Array.size_push]; omega) | omega) _))))
  cases hok : ipOk d
  · rw [ipF_no hok]
    rintro e w2 ⟨vb, fpb, rfl, hb, hfb, hg⟩
    obtain ⟨ab, cb, rfl⟩ := own_shape hb.1
    have B1 := Lib.hid ((Box.alloc w1 _ _).grow hg)
    have G2 := Lib.hid (hG.trans hg)
    clear hb hfb hg hG
    have ⟨q0, q1, q2, q3, q4⟩ := B1.out.five
    have ql := B1.out.1
    go_wp2_with fail
    refine at_world (w := w2) ?G (fun hG => (ipOkS _ _ d (RI.out.grow (G2.out.trans hG))).mono ?_)
    case G => ((repeat (first | with_reducible exact Grow.refl _ | (with_reducible refine Grow.alloc_ ?_ _) | (with_reducible refine Grow.setCell_ ?_ (by first | exact Nat.le_refl _ | (simp only [World.alloc, Array.size_push]; omega) | omega) _))))
    rintro e w3 ⟨rfl, hg⟩
    rw [hok]
    have G3 := Lib.hid (hG.trans hg)
    clear hG hg
    go_wp2
    go_ret
    exact ⟨rfl, G1.out.trans (G2.out.trans G3.out)⟩
  rw [ipF_yes hok]
  have hbk := irF_back hok
  have hbb := Lib.hid (ipB_bytes hok WI.out.2.2.2.2)
  have hll := ipOk_iff hok
  have hsm : SmB (ipB d) := by unfold SmB; rw [ipB_len]; omega
  have ht := numOk1 hll.1
  have HBK := Lib.hid hbk; have HSM := Lib.hid hsm; have HLL := Lib.hid hll.2.2.2.2
  have HOK := Lib.hid hok
  clear hbk hll hsm
  generalize ipB d = X at *
  rintro e w2 ⟨vb, fpb, rfl, hb, hfb, hg⟩
  change OwnB w2 vb X fpb at hb
  obtain ⟨ab, cb, rfl⟩ := own_shape hb.1
  have RX := Lib.hid hb.rd
  have B1 := Lib.hid ((Box.alloc w1 _ _).grow hg)
  have G2 := Lib.hid (hG.trans hg)
  clear hb hfb hg hG
  have ⟨q0, q1, q2, q3, q4⟩ := B1.out.five
  have ql := B1.out.1
  go_wp2_with fail
  refine at_world (w := w2) ?G (fun hG => (ipOkS _ _ d (RI.out.grow (G2.out.trans hG))).mono ?_)
  case G => ((repeat (first | with_reducible exact Grow.refl _ | (with_reducible refine Grow.alloc_ ?_ _) | (with_reducible refine Grow.setCell_ ?_ (by first | exact Nat.le_refl _ | (simp only [World.alloc, Array.size_push]; omega) | omega) _))))
  rintro e w3 ⟨rfl, hg⟩
  rw [hok]
  have G3 := Lib.hid (G2.out.trans (hG.trans hg))
  have B1 := Lib.hid (B1.out.grow (hG.trans hg))
  have RX := Lib.hid (RX.out.grow (hG.trans hg))
  clear hG hg q0 q1 q2 q3 q4 ql
  have ⟨q0, q1, q2, q3, q4⟩ := B1.out.five
  have ql := B1.out.1
  go_wp2_with fail
  refine at_world (w := w3) ?G (fun hG => (ipReadI_any _ _ X (RX.out.grow hG) hbb.out HSM.out).mono ?_)
  case G => ((repeat (first | with_reducible exact Grow.refl _ | (with_reducible refine Grow.alloc_ ?_ _) | (with_reducible refine Grow.setCell_ ?_ (by first | exact Nat.le_refl _ | (simp only [World.alloc, Array.size_push]; omega) | omega) _))))
  rw [HBK.out]
  rintro e w4 ⟨ve, fpe, rfl, ⟨v2, rfl, ho2⟩, hfe, hg⟩
  change OwnB w4 v2 d.data fpe at ho2
  obtain ⟨ae, ce, rfl⟩ := own_shape ho2.1
  have G4 := Lib.hid (G3.out.trans (hG.trans hg))
  have B1 := Lib.hid (B1.out.grow (hG.trans hg))
  have GA := Lib.hid (Grow.alloc w4 (.cells #[.int .i64 d.ttl, .int .i64 d.proto, .int .i64 d.src, .int .i64 d.dst, .slice ae d.data.length ce] 47))
  have cv1 := run_txt (P := Try.prog) Try.underlying22 Try.underlying5 Try.underlying9 (ho2.rd.grow GA.out)
  have cv2 := run_txt (P := Try.prog) Try.underlying22 Try.underlying5 Try.underlying9 (RD.out.grow (G4.out.trans GA.out))
  have B2 := Lib.hid (Box.alloc w4 [.int .i64 d.ttl, .int .i64 d.proto, .int .i64 d.src, .int .i64 d.dst, .slice ae d.data.length ce] 47)
  have B1 := Lib.hid (B1.out.grow GA.out)
  generalize txt d.data = S at *
  clear hG hg ho2 hfe q0 q1 q2 q3 q4 ql
  have ⟨q0, q1, q2, q3, q4⟩ := B1.out.five
  have ql := B1.out.1
  have ⟨y0, y1, y2, y3, y4⟩ := B2.out.five
  have yl := B2.out.1
  have GW := Lib.hid (G4.out.trans GA.out)
  go_wp2_with fail
  generalize w4.alloc (.cells #[.int .i64 d.ttl, .int .i64 d.proto, .int .i64 d.src, .int .i64 d.dst, .slice ae d.data.length ce] 47) = w5 at *
  clear cv1 cv2 y0 y1 y2 y3 y4 yl q0 q1 q2 q3 q4 ql
  refine at_world (w := w5) ?G (fun hG => (hopI_any _ _ d (RI.out.grow (GW.out.trans hG)) WI.out (by have := DL.out; unfold SmIp sizeIp; omega)).mono ?_)
  case G => ((repeat (first | with_reducible exact Grow.refl _ | (with_reducible refine Grow.alloc_ ?_ _) | (with_reducible refine Grow.setCell_ ?_ (by first | exact Nat.le_refl _ | (simp only [World.alloc, Array.size_push]; omega) | omega) _))))
  by_cases h2 : 2 ≤ d.ttl
  · rw [hopF_yes HOK.out h2]
    have hk : ipOk (hopD d) = true := hopD_ok HOK.out h2
    have HF := Lib.hid (ipF_yes hk)
    have HB := Lib.hid (irF_back hk)
    have hbb2 := Lib.hid (ipB_bytes hk WI.out.2.2.2.2)
    have HS2 : Hid (SmB (ipB (hopD d))) := Lib.hid (by unfold SmB; rw [ipB_len]; have := HLL.out; show 20 + d.data.length ≤ _; omega)
    rintro e w6 ⟨vh, fph, rfl, ⟨v3, rfl, ho3⟩, hfh, hg⟩
    have RH : Hid (RdIp w6 (.agg #[.int .i64 (d.ttl - 1), .int .i64 d.proto, .int .i64 d.src, .int .i64 d.dst, v3]) (hopD d)) := Lib.hid ⟨v3, rfl, ho3.rd⟩
    obtain ⟨ah, ch, rfl⟩ := own_shape ho3.1
    have B1 := Lib.hid (B1.out.grow (hG.trans hg))
    have G6 := Lib.hid (GW.out.trans (hG.trans hg))
    clear hG hg hk hfh ho3
    generalize ipB (hopD d) = X2 at *
    go_wp2_with fail
    refine at_world (w := w6) ?G (fun hG => (ipBytesI_any _ _ (hopD d) (RH.out.grow hG)).mono ?_)
    case G => ((repeat (first | with_reducible exact Grow.refl _ | (with_reducible refine Grow.alloc_ ?_ _) | (with_reducible refine Grow.setCell_ ?_ (by first | exact Nat.le_refl _ | (simp only [World.alloc, Array.size_push]; omega) | omega) _))))
    rw [HF.out]
    rintro e w7 ⟨vt, fpt, rfl, hb, hfb, hg⟩
    change OwnB w7 vt X2 fpt at hb
    obtain ⟨at_, ct, rfl⟩ := own_shape hb.1
    have RX2 := Lib.hid hb.rd
    have B1 := Lib.hid (B1.out.grow (hG.trans hg))
    have G7 := Lib.hid (G6.out.trans (hG.trans hg))
    clear hG hg hb hfb
    go_wp2_with fail
    refine at_world (w := w7) ?G (fun hG => (ipReadI_any _ _ X2 (RX2.out.grow hG) hbb2.out HS2.out).mono ?_)
    case G => ((repeat (first | with_reducible exact Grow.refl _ | (with_reducible refine Grow.alloc_ ?_ _) | (with_reducible refine Grow.setCell_ ?_ (by first | exact Nat.le_refl _ | (simp only [World.alloc, Array.size_push]; omega) | omega) _))))
    rw [HB.out]
    rintro e w8 ⟨vx, fpx, rfl, ⟨v4, rfl, ho4⟩, hfx, hg⟩
    obtain ⟨ax, cx, rfl⟩ := own_shape ho4.1
    have B1 := Lib.hid (B1.out.grow (hG.trans hg))
    have G8 := Lib.hid (G7.out.trans (hG.trans hg))
    clear hG hg ho4 hfx
    have ⟨q0, q1, q2, q3, q4⟩ := (B1.out.grow (Grow.alloc w8 (.cells #[.int .i64 (d.ttl - 1), .int .i64 d.proto, .int .i64 d.src, .int .i64 d.dst, .slice ax (hopD d).data.length cx] 47))).five
    have ql := B1.out.1
    have ⟨r0, r1, r2, r3, r4⟩ := B1.out.five
    have ⟨y0, y1, y2, y3, y4⟩ := (Box.alloc w8 [.int .i64 (d.ttl - 1), .int .i64 d.proto, .int .i64 d.src, .int .i64 d.dst, .slice ax (hopD d).data.length cx] 47).five
    have h2d : decide (2 ≤ d.ttl) = true := by simpa using h2
    go_wp2
    go_ret
    exact ⟨ret_bool (by simp [hopD]), G1.out.trans (G8.out.trans (Grow.alloc _ _))⟩

  · rw [hopF_lo h2]
    have hk : ipOk zeroIp = true := zeroIp_ok
    have HF := Lib.hid (ipF_yes hk)
    have HB := Lib.hid (irF_back hk)
    have hbb2 := Lib.hid (ipB_bytes hk (fun x hx => by cases hx))
    have HS2 : Hid (SmB (ipB zeroIp)) := Lib.hid (by unfold SmB; rw [ipB_len]; decide)
    rintro e w6 ⟨vh, fph, rfl, ⟨v3, rfl, ho3⟩, hfh, hg⟩
    have RH : Hid (RdIp w6 (.agg #[.int .i64 0, .int .i64 0, .int .i64 0, .int .i64 0, v3]) zeroIp) := Lib.hid ⟨v3, rfl, ho3.rd⟩
    obtain ⟨ah, ch, rfl⟩ := own_shape ho3.1
    have B1 := Lib.hid (B1.out.grow (hG.trans hg))
    have G6 := Lib.hid (GW.out.trans (hG.trans hg))
    clear hG hg hk hfh ho3
    generalize ipB zeroIp = X2 at *
    go_wp2_with fail
    refine at_world (w := w6) ?G (fun hG => (ipBytesI_any _ _ zeroIp (RH.out.grow hG)).mono ?_)
    case G => ((repeat (first | with_reducible exact Grow.refl _ | (with_reducible refine Grow.alloc_ ?_ _) | (with_reducible refine Grow.setCell_ ?_ (by first | exact Nat.le_refl _ | (simp only [World.alloc, Array.size_push]; omega) | omega) _))))
    rw [HF.out]
    rintro e w7 ⟨vt, fpt, rfl, hb, hfb, hg⟩
    change OwnB w7 vt X2 fpt at hb
    obtain ⟨at_, ct, rfl⟩ := own_shape hb.1
    have RX2 := Lib.hid hb.rd
    have B1 := Lib.hid (B1.out.grow (hG.trans hg))
    have G7 := Lib.hid (G6.out.trans (hG.trans hg))
    clear hG hg hb hfb
    go_wp2_with fail
    refine at_world (w := w7) ?G (fun hG => (ipReadI_any _ _ X2 (RX2.out.grow hG) hbb2.out HS2.out).mono ?_)
    case G => ((repeat (first | with_reducible exact Grow.refl _ | (with_reducible refine Grow.alloc_ ?_ _) | (with_reducible refine Grow.setCell_ ?_ (by first | exact Nat.le_refl _ | (simp only [World.alloc, Array.size_push]; omega) | omega) _))))
    rw [HB.out]
    rintro e w8 ⟨vx, fpx, rfl, ⟨v4, rfl, ho4⟩, hfx, hg⟩
    obtain ⟨ax, cx, rfl⟩ := own_shape ho4.1
    have B1 := Lib.hid (B1.out.grow (hG.trans hg))
    have G8 := Lib.hid (G7.out.trans (hG.trans hg))
    clear hG hg ho4 hfx
    have ⟨q0, q1, q2, q3, q4⟩ := (B1.out.grow (Grow.alloc w8 (.cells #[.int .i64 0, .int .i64 0, .int .i64 0, .int .i64 0, .slice ax zeroIp.data.length cx] 47))).five
    have ql := B1.out.1
    have ⟨r0, r1, r2, r3, r4⟩ := B1.out.five
    have ⟨y0, y1, y2, y3, y4⟩ := (Box.alloc w8 [.int .i64 0, .int .i64 0, .int .i64 0, .int .i64 0, .slice ax zeroIp.data.length cx] 47).five
    have h2d : decide (2 ≤ d.ttl) = false := by simpa using h2
    go_wp2
    go_ret
    exact ⟨ret_bool (by simp [hopD]), G1.out.trans (G8.out.trans (Grow.alloc _ _))⟩

--%
end Go.Proofs.Ytcldfodnblkeiaa
