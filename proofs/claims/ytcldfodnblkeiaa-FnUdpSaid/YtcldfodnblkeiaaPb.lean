/- PacketBytes: contracts of the code (printed by gpb.py). -/
import Derived.Test.YtcldfodnblkeiaaUb
import Derived.Test.YtcldfodnblkeiaaCrc
import Derived.WalkKit
import Derived.ProofKit
import Derived.Deep.QuietTactic
import Derived.BigQuiet
import Derived.Outline
import Derived.WalkSpells
namespace Go.Proofs.Ytcldfodnblkeiaa
open Go.ChangeShapes Go.WideShapes Go.ChangeAt Go.RowKit
set_option linter.unusedVariables false
set_option linter.unusedSimpArgs false
--%
def pbHead (d : PacketD) : List Int := [] ++ beBytes d.dst 6 ++ beBytes d.src 6
def pbTag (d : PacketD) : List Int := if d.tag = -1 then pbHead d else pbHead d ++ beBytes 33024 2 ++ beBytes d.tag 2
def pbRest (d : PacketD) : List Int := pbTag d ++ beBytes d.typ 2 ++ d.body
def pbB (d : PacketD) : List Int := pbRest d ++ beBytes (crcOf (pbRest d)) 4
def pbF (d : PacketD) : List Int × Bool := if pkOk d = true then (pbB d, true) else ([], false)
theorem pbF_yes {d : PacketD} (h : pkOk d = true) : pbF d = (pbB d, true) := by simp [pbF, h]
theorem pbF_no {d : PacketD} (h : pkOk d = false) : pbF d = ([], false) := by simp [pbF, h]
theorem pbHead_len (d : PacketD) : (pbHead d).length = 12 := by simp [pbHead, beBytes_length]
theorem pbTag_len (d : PacketD) : (pbTag d).length ≤ 16 := by unfold pbTag; split <;> simp [pbHead_len, beBytes_length]
theorem pbRest_len (d : PacketD) : (pbRest d).length ≤ 18 + d.body.length := by have := pbTag_len d; simp [pbRest, beBytes_length]; omega
theorem pkOk_iff {d : PacketD} (h : pkOk d = true) : (0 ≤ d.dst ∧ d.dst ≤ 281474976710655) ∧ (0 ≤ d.src ∧ d.src ≤ 281474976710655) ∧ (-1 ≤ d.tag ∧ d.tag ≤ 4094) ∧ (1536 ≤ d.typ ∧ d.typ ≤ 65535) ∧ d.body.length ≤ 1500 := by
  unfold pkOk at h
  simp only [Bool.and_eq_true, decide_eq_true_eq, inB_iff] at h
  obtain ⟨h1, h2, h3, h4, h5⟩ := h
  refine ⟨h1, h2, h3, ?_, h5⟩
  unfold typeB at h4
  have := of_decide_eq_true h4
  omega
theorem bytes_app {a b : List Int} (h1 : Bytes a) (h2 : Bytes b) : Bytes (a ++ b) := fun x hx => (List.mem_append.1 hx).elim (h1 x) (h2 x)
theorem pbRest_bytes (d : PacketD) (h : Bytes d.body) : Bytes (pbRest d) := by
  have hh : Bytes (pbHead d) := bytes_app (bytes_app (fun x hx => by cases hx) (beBytes_bytes _ _)) (beBytes_bytes _ _)
  have ht : Bytes (pbTag d) := by
    unfold pbTag; split
    · exact hh
    · exact bytes_app (bytes_app hh (beBytes_bytes _ _)) (beBytes_bytes _ _)
  exact bytes_app (bytes_app ht (beBytes_bytes _ _)) h
theorem numOk6 {n : Int} (h0 : 0 ≤ n) (h1 : n ≤ 281474976710655) : numOkB n 6 = true := by
  have e : (256 : Int) ^ (6 : Int).toNat = 281474976710656 := by decide
  unfold numOkB; rw [e]; simp; omega
theorem numOk2' {n : Int} (h0 : 0 ≤ n) (h1 : n ≤ 65535) : numOkB n 2 = true := by
  have e : (256 : Int) ^ (2 : Int).toNat = 65536 := by decide
  unfold numOkB; rw [e]; simp; omega
theorem numOk4 {n : Int} (h0 : 0 ≤ n) (h1 : n < 4294967296) : numOkB n 4 = true := by
  have e : (256 : Int) ^ (4 : Int).toNat = 4294967296 := by decide
  unfold numOkB; rw [e]; simp; omega
--% PacketBytesI 26
theorem packetBytesI_any (w : World) (V : Value) (d : DatP) (h : RdP w V d) (b : WfP d) : Calls Try.prog 26 #[V] w (RetNew2 OwnB (pbF d).1 (.bool (pbF d).2) w) := by
  obtain ⟨v, rfl, hv⟩ := h
  obtain ⟨a, c, rfl, hlc, hm, -, -⟩ := Rd.ints hv
  have HV := Lib.hid hv
  have HP : Hid (RdP w _ d) := Lib.hid ⟨_, rfl, hv⟩
  have WB := Lib.hid b.2.2.2.2
  clear hv b
  unfold maxLen at hm
  cases hok : pkOk d
  · rw [pbF_no hok]
    go_enter Try.func26, Try.ntmps26
    go_wp2_with fail
    refine at_world (w := w) ?G (fun hG => (packetOkI _ _ d (HP.out.grow hG)).mono ?_)
    case G => ((repeat (first | with_reducible exact Grow.refl _ | (with_reducible refine Grow.alloc_ ?_ _) | (with_reducible refine Grow.setCell_ ?_ (by first | exact Nat.le_refl _ | (simp only [World.alloc, Array.size_push]; omega) | omega) _))))
    rintro e w1 ⟨rfl, hg⟩
    rw [hok]
    have HG := Lib.hid (hG.trans hg)
    clear hG hg
    go_wp2
    go_ret2
    exact ⟨_, [], rfl, ownB_nil _, by simp [Fresh], HG.out⟩
  rw [pbF_yes hok]
  obtain ⟨k1, k2, k3, k4, k5⟩ := pkOk_iff hok
  have N1 := Lib.hid k1; have N2 := Lib.hid k2
  have hhl := pbHead_len d
  have htl := pbTag_len d
  have hrl := pbRest_len d
  have HRB := Lib.hid (pbRest_bytes d WB.out)
  have hcb := crcOf_bd HRB.out
  have HPB : Hid (pbB d = pbRest d ++ beBytes (crcOf (pbRest d)) 4) := Lib.hid rfl
  have HPR : Hid (pbRest d = pbTag d ++ beBytes d.typ 2 ++ d.body) := Lib.hid rfl
  have HPH : Hid ([] ++ beBytes d.dst 6 ++ beBytes d.src 6 = pbHead d) := Lib.hid rfl
  have HPT : Hid (pbTag d = if d.tag = -1 then pbHead d else pbHead d ++ beBytes 33024 2 ++ beBytes d.tag 2) := Lib.hid rfl
  generalize pbRest d = zr at *
  have HCR : Hid (crcOf zr = crcOf zr) := Lib.hid rfl
  generalize pbTag d = zt at *
  generalize pbHead d = zh at *
  clear k1 k2
  by_cases ht : d.tag = -1
  · have htb : (d.tag != -1) = false := by simp [ht]
    have HT : Hid (zh = zt) := Lib.hid (by have := HPT.out; rw [if_pos ht] at this; exact this.symm)
    clear ht
    go_enter Try.func26, Try.ntmps26
    go_wp2_with fail
    refine at_world (w := w) ?G (fun hG => (packetOkI _ _ d (HP.out.grow hG)).mono ?_)
    case G => ((repeat (first | with_reducible exact Grow.refl _ | (with_reducible refine Grow.alloc_ ?_ _) | (with_reducible refine Grow.setCell_ ?_ (by first | exact Nat.le_refl _ | (simp only [World.alloc, Array.size_push]; omega) | omega) _))))
    rintro e w1 ⟨rfl, hg⟩
    rw [hok]
    have B0 := Lib.hid ((Box.alloc w _ _).grow hg)
    have G1 := Lib.hid (hG.trans hg)
    clear hG hg hok
    go_wp2_with fail
    have hne : Nonempty (Cl (Grow w1)) := ⟨⟨w1, Grow.refl _⟩⟩
    have ⟨c0, c1, c2, c3, c4⟩ := B0.out.five_
    refine wp_region_mix (Cls (Grow w1)) 7 #[false, false, false, false, false, false, false] (by kernel_rfl) (by kernel_rfl) ⟨⟨_, Grow.drewN _ 1⟩, rfl⟩ ?_
    refine anyC_seg [0, 1, 3, 4] #[true, true, false, true, true, false, false] (fuel := 3) rfl (by kernel_rfl) ⟨⟨_, Grow.drewN _ 1⟩, rfl⟩ ?_
    simp only [pickOps, List.getD_cons_succ, List.getD_cons_zero]
    repeat (go_big_quiet_step (fail))
    refine wpQuiet_nil ?_
    refine anyC_sole 2 #[true, true, true, true, true, false, false] (fuel := 2) (by kernel_rfl) ?_
    simp only [List.getD_cons_succ, List.getD_cons_zero]
    go_wp2_with fail
    refine (put_acc w1 _ _ [] d.dst 6 (Acc.nil (Grow.drewN _ 1)) (by simp) (by omega) N1.out).mono ?_
    rintro e wa ⟨vwa, rfl, ha⟩
    have A2 := Lib.hid ha; clear ha
    go_wp2
    refine ⟨⟨⟨_, A2.out.1⟩, rfl⟩, ?_⟩
    refine anyC_sole 5 #[true, true, true, true, true, true, false] (fuel := 1) (by kernel_rfl) ?_
    simp only [List.getD_cons_succ, List.getD_cons_zero]
    go_wp2_with fail
    refine (put_acc w1 _ _ _ d.src 6 A2.out (by simp [beBytes_length]) (by omega) N2.out).mono ?_
    rintro e wb ⟨vwb, rfl, ha⟩
    have A3 := Lib.hid ha; clear ha
    go_wp2
    refine ⟨⟨⟨_, A3.out.1⟩, rfl⟩, ?_⟩
    refine anyC_seg [6] #[true, true, true, true, true, true, true] (fuel := 0) rfl (by kernel_rfl) ⟨⟨_, A3.out.1⟩, rfl⟩ ?_
    simp only [pickOps, List.getD_cons_succ, List.getD_cons_zero]
    repeat (go_big_quiet_step (fail))
    refine wpQuiet_nil ?_
    refine anyC_done (by kernel_rfl) ?_
    have A4 : Hid (Acc w1 wb vwb zh) := Lib.hid (by rw [← HPH.out]; exact A3.out)
    clear A2 A3 c0 c1 c2 c3 c4
    have ⟨c0, c1, c2, c3, c4⟩ := (B0.out.grow A4.out.1).five
    have l0 := (B0.out.grow A4.out.1).1
    go_wp2_with fail
    clear c0 c1 c2 c3 c4 l0
    have ⟨c0, c1, c2, c3, c4⟩ := B0.out.five_
    have A7 : Hid (Acc w1 (wb.drewN 1) vwb zt) := Lib.hid (by rw [← HT.out]; exact A4.out.grow (Grow.drewN _ 1))
    refine wp_region_mix (Cls (Grow w1)) 8 #[false, false, false, false, false, false, false, false] (by kernel_rfl) (by kernel_rfl) ⟨⟨_, A7.out.1⟩, rfl⟩ ?_
    refine anyC_seg [0, 1, 2, 4, 5] #[true, true, true, false, true, true, false, false] (fuel := 3) rfl (by kernel_rfl) ⟨⟨_, A7.out.1⟩, rfl⟩ ?_
    simp only [pickOps, List.getD_cons_succ, List.getD_cons_zero]
    repeat (go_big_quiet_step (fail))
    refine wpQuiet_nil ?_
    refine anyC_sole 3 #[true, true, true, true, true, true, false, false] (fuel := 2) (by kernel_rfl) ?_
    simp only [List.getD_cons_succ, List.getD_cons_zero]
    go_wp2_with fail
    refine (put_acc w1 _ _ _ d.typ 2 A7.out (by omega) (by omega) (by omega)).mono ?_
    rintro e we ⟨vwe, rfl, ha⟩
    have A8 := Lib.hid ha; clear ha
    go_wp2
    refine ⟨⟨⟨_, A8.out.1⟩, rfl⟩, ?_⟩
    refine anyC_sole 6 #[true, true, true, true, true, true, true, false] (fuel := 1) (by kernel_rfl) ?_
    simp only [List.getD_cons_succ, List.getD_cons_zero]
    go_wp2_with (at_builtin; refine wpl_append Try.elemU8 rfl _ _ rfl w1.heap.size rfl A8.out.2 d.body.length rfl (HV.out.grow (G1.out.trans A8.out.1)) (by simp) (oneCell_ints _ _) (by simp [beBytes_length]; omega) (by unfold maxLen; simp [beBytes_length]; omega) A8.out.1.size ?_; intro v6 w6 hown hgr hmv)
    have A9 := Lib.hid (A8.out.onto hown hgr)
    clear hown hgr hmv
    refine ⟨⟨⟨_, A9.out.1⟩, rfl⟩, ?_⟩
    refine anyC_seg [7] #[true, true, true, true, true, true, true, true] (fuel := 0) rfl (by kernel_rfl) ⟨⟨_, A9.out.1⟩, rfl⟩ ?_
    simp only [pickOps, List.getD_cons_succ, List.getD_cons_zero]
    repeat (go_big_quiet_step (fail))
    refine wpQuiet_nil ?_
    refine anyC_done (by kernel_rfl) ?_
    have A10 : Hid (Acc w1 w6 v6 zr) := Lib.hid (by rw [HPR.out]; exact A9.out)
    clear c0 c1 c2 c3 c4 A7 A8 A9
    go_wp2_with fail
    refine (crcI_any _ _ _ A10.out.rd HRB.out (by omega)).mono ?_
    rintro e w' ⟨rfl, rfl⟩
    go_wp2_with fail
    refine (put_acc w1 _ _ zr (crcOf zr) 4 A10.out (by omega) (by omega) (by omega)).mono ?_
    rintro e w7 ⟨v7, rfl, ha⟩
    have A11 := Lib.hid ha; clear ha
    go_wp2
    go_ret2
    obtain ⟨fp, h1, h2, h3⟩ := A11.out.ret G1.out
    rw [← HPB.out] at h1
    exact ⟨_, fp, rfl, h1, h2, h3⟩
  · have htb : (d.tag != -1) = true := by simpa using ht
    have HT : Hid (zh ++ beBytes 33024 2 ++ beBytes d.tag 2 = zt) := Lib.hid (by have := HPT.out; rw [if_neg ht] at this; exact this.symm)
    have ht0 : 0 ≤ d.tag := by omega
    clear ht
    go_enter Try.func26, Try.ntmps26
    go_wp2_with fail
    refine at_world (w := w) ?G (fun hG => (packetOkI _ _ d (HP.out.grow hG)).mono ?_)
    case G => ((repeat (first | with_reducible exact Grow.refl _ | (with_reducible refine Grow.alloc_ ?_ _) | (with_reducible refine Grow.setCell_ ?_ (by first | exact Nat.le_refl _ | (simp only [World.alloc, Array.size_push]; omega) | omega) _))))
    rintro e w1 ⟨rfl, hg⟩
    rw [hok]
    have B0 := Lib.hid ((Box.alloc w _ _).grow hg)
    have G1 := Lib.hid (hG.trans hg)
    clear hG hg hok
    go_wp2_with fail
    have hne : Nonempty (Cl (Grow w1)) := ⟨⟨w1, Grow.refl _⟩⟩
    have ⟨c0, c1, c2, c3, c4⟩ := B0.out.five_
    refine wp_region_mix (Cls (Grow w1)) 7 #[false, false, false, false, false, false, false] (by kernel_rfl) (by kernel_rfl) ⟨⟨_, Grow.drewN _ 1⟩, rfl⟩ ?_
    refine anyC_seg [0, 1, 3, 4] #[true, true, false, true, true, false, false] (fuel := 3) rfl (by kernel_rfl) ⟨⟨_, Grow.drewN _ 1⟩, rfl⟩ ?_
    simp only [pickOps, List.getD_cons_succ, List.getD_cons_zero]
    repeat (go_big_quiet_step (fail))
    refine wpQuiet_nil ?_
    refine anyC_sole 2 #[true, true, true, true, true, false, false] (fuel := 2) (by kernel_rfl) ?_
    simp only [List.getD_cons_succ, List.getD_cons_zero]
    go_wp2_with fail
    refine (put_acc w1 _ _ [] d.dst 6 (Acc.nil (Grow.drewN _ 1)) (by simp) (by omega) N1.out).mono ?_
    rintro e wa ⟨vwa, rfl, ha⟩
    have A2 := Lib.hid ha; clear ha
    go_wp2
    refine ⟨⟨⟨_, A2.out.1⟩, rfl⟩, ?_⟩
    refine anyC_sole 5 #[true, true, true, true, true, true, false] (fuel := 1) (by kernel_rfl) ?_
    simp only [List.getD_cons_succ, List.getD_cons_zero]
    go_wp2_with fail
    refine (put_acc w1 _ _ _ d.src 6 A2.out (by simp [beBytes_length]) (by omega) N2.out).mono ?_
    rintro e wb ⟨vwb, rfl, ha⟩
    have A3 := Lib.hid ha; clear ha
    go_wp2
    refine ⟨⟨⟨_, A3.out.1⟩, rfl⟩, ?_⟩
    refine anyC_seg [6] #[true, true, true, true, true, true, true] (fuel := 0) rfl (by kernel_rfl) ⟨⟨_, A3.out.1⟩, rfl⟩ ?_
    simp only [pickOps, List.getD_cons_succ, List.getD_cons_zero]
    repeat (go_big_quiet_step (fail))
    refine wpQuiet_nil ?_
    refine anyC_done (by kernel_rfl) ?_
    have A4b : Hid (Acc w1 wb vwb zh) := Lib.hid (by rw [← HPH.out]; exact A3.out)
    clear A2 A3 c0 c1 c2 c3 c4
    have ⟨c0, c1, c2, c3, c4⟩ := (B0.out.grow A4b.out.1).five
    have l0 := (B0.out.grow A4b.out.1).1
    go_wp2_with fail
    clear c0 c1 c2 c3 c4 l0
    have ⟨c0, c1, c2, c3, c4⟩ := B0.out.five_
    have A4 : Hid (Acc w1 (wb.drewN 1) vwb zh) := Lib.hid (A4b.out.grow (Grow.drewN _ 1))
    refine wp_region_mix (Cls (Grow w1)) 6 #[false, false, false, false, false, false] (by kernel_rfl) (by kernel_rfl) ⟨⟨_, A4.out.1⟩, rfl⟩ ?_
    refine anyC_seg [0, 2, 3] #[true, false, true, true, false, false] (fuel := 3) rfl (by kernel_rfl) ⟨⟨_, A4.out.1⟩, rfl⟩ ?_
    simp only [pickOps, List.getD_cons_succ, List.getD_cons_zero]
    repeat (go_big_quiet_step (fail))
    refine wpQuiet_nil ?_
    refine anyC_sole 1 #[true, true, true, true, false, false] (fuel := 2) (by kernel_rfl) ?_
    simp only [List.getD_cons_succ, List.getD_cons_zero]
    go_wp2_with fail
    refine (put_acc w1 _ _ _ 33024 2 A4.out (by omega) (by omega) (by omega)).mono ?_
    rintro e wc ⟨vwc, rfl, ha⟩
    have A5 := Lib.hid ha; clear ha
    go_wp2
    refine ⟨⟨⟨_, A5.out.1⟩, rfl⟩, ?_⟩
    refine anyC_sole 4 #[true, true, true, true, true, false] (fuel := 1) (by kernel_rfl) ?_
    simp only [List.getD_cons_succ, List.getD_cons_zero]
    go_wp2_with fail
    refine (put_acc w1 _ _ _ d.tag 2 A5.out (by simp [beBytes_length]; omega) (by omega) (by omega)).mono ?_
    rintro e wd ⟨vwd, rfl, ha⟩
    have A6 := Lib.hid ha; clear ha
    go_wp2
    refine ⟨⟨⟨_, A6.out.1⟩, rfl⟩, ?_⟩
    refine anyC_seg [5] #[true, true, true, true, true, true] (fuel := 0) rfl (by kernel_rfl) ⟨⟨_, A6.out.1⟩, rfl⟩ ?_
    simp only [pickOps, List.getD_cons_succ, List.getD_cons_zero]
    repeat (go_big_quiet_step (fail))
    refine wpQuiet_nil ?_
    refine anyC_done (by kernel_rfl) ?_
    have A7b : Hid (Acc w1 wd vwd zt) := Lib.hid (by rw [← HT.out]; exact A6.out)
    clear A4 A4b A5 A6
    go_wp2_with fail
    have A7 : Hid (Acc w1 (wd.drewN 1) vwd zt) := Lib.hid (A7b.out.grow (Grow.drewN _ 1))
    refine wp_region_mix (Cls (Grow w1)) 8 #[false, false, false, false, false, false, false, false] (by kernel_rfl) (by kernel_rfl) ⟨⟨_, A7.out.1⟩, rfl⟩ ?_
    refine anyC_seg [0, 1, 2, 4, 5] #[true, true, true, false, true, true, false, false] (fuel := 3) rfl (by kernel_rfl) ⟨⟨_, A7.out.1⟩, rfl⟩ ?_
    simp only [pickOps, List.getD_cons_succ, List.getD_cons_zero]
    repeat (go_big_quiet_step (fail))
    refine wpQuiet_nil ?_
    refine anyC_sole 3 #[true, true, true, true, true, true, false, false] (fuel := 2) (by kernel_rfl) ?_
    simp only [List.getD_cons_succ, List.getD_cons_zero]
    go_wp2_with fail
    refine (put_acc w1 _ _ _ d.typ 2 A7.out (by omega) (by omega) (by omega)).mono ?_
    rintro e we ⟨vwe, rfl, ha⟩
    have A8 := Lib.hid ha; clear ha
    go_wp2
    refine ⟨⟨⟨_, A8.out.1⟩, rfl⟩, ?_⟩
    refine anyC_sole 6 #[true, true, true, true, true, true, true, false] (fuel := 1) (by kernel_rfl) ?_
    simp only [List.getD_cons_succ, List.getD_cons_zero]
    go_wp2_with (at_builtin; refine wpl_append Try.elemU8 rfl _ _ rfl w1.heap.size rfl A8.out.2 d.body.length rfl (HV.out.grow (G1.out.trans A8.out.1)) (by simp) (oneCell_ints _ _) (by simp [beBytes_length]; omega) (by unfold maxLen; simp [beBytes_length]; omega) A8.out.1.size ?_; intro v6 w6 hown hgr hmv)
    have A9 := Lib.hid (A8.out.onto hown hgr)
    clear hown hgr hmv
    refine ⟨⟨⟨_, A9.out.1⟩, rfl⟩, ?_⟩
    refine anyC_seg [7] #[true, true, true, true, true, true, true, true] (fuel := 0) rfl (by kernel_rfl) ⟨⟨_, A9.out.1⟩, rfl⟩ ?_
    simp only [pickOps, List.getD_cons_succ, List.getD_cons_zero]
    repeat (go_big_quiet_step (fail))
    refine wpQuiet_nil ?_
    refine anyC_done (by kernel_rfl) ?_
    have A10 : Hid (Acc w1 w6 v6 zr) := Lib.hid (by rw [HPR.out]; exact A9.out)
    clear c0 c1 c2 c3 c4 A7 A7b A8 A9
    go_wp2_with fail
    refine (crcI_any _ _ _ A10.out.rd HRB.out (by omega)).mono ?_
    rintro e w' ⟨rfl, rfl⟩
    go_wp2_with fail
    refine (put_acc w1 _ _ zr (crcOf zr) 4 A10.out (by omega) (by omega) (by omega)).mono ?_
    rintro e w7 ⟨v7, rfl, ha⟩
    have A11 := Lib.hid ha; clear ha
    go_wp2
    go_ret2
    obtain ⟨fp, h1, h2, h3⟩ := A11.out.ret G1.out
    rw [← HPB.out] at h1
    exact ⟨_, fp, rfl, h1, h2, h3⟩
--% PacketBytesS 25
theorem packetBytesS_any (w : World) (V : Value) (d : DatP) (h : RdP w V d) (b : WfP d) : Calls Try.prog 25 #[V] w (RetNew2 OwnB (pbF d).1 (.bool (pbF d).2) w) := by
  obtain ⟨v, rfl, hv⟩ := h
  obtain ⟨a, c, rfl, hlc, hm, -, -⟩ := Rd.ints hv
  have HV := Lib.hid hv
  have HP : Hid (RdP w _ d) := Lib.hid ⟨_, rfl, hv⟩
  have WB := Lib.hid b.2.2.2.2
  clear hv b
  unfold maxLen at hm
  cases hok : pkOk d
  · rw [pbF_no hok]
    go_enter Try.func25, Try.ntmps25
    go_wp2_with fail
    refine at_world (w := w) ?G (fun hG => (packetOkS _ _ d (HP.out.grow hG)).mono ?_)
    case G => ((repeat (first | with_reducible exact Grow.refl _ | (with_reducible refine Grow.alloc_ ?_ _) | (with_reducible refine Grow.setCell_ ?_ (by first | exact Nat.le_refl _ | (simp only [World.alloc, Array.size_push]; omega) | omega) _))))
    rintro e w1 ⟨rfl, hg⟩
    rw [hok]
    have HG := Lib.hid (hG.trans hg)
    clear hG hg
    go_wp2
    go_ret2
    exact ⟨_, [], rfl, ownB_nil _, by simp [Fresh], HG.out⟩
  rw [pbF_yes hok]
  obtain ⟨k1, k2, k3, k4, k5⟩ := pkOk_iff hok
  have hhl := pbHead_len d
  have htl := pbTag_len d
  have hrl := pbRest_len d
  have HRB := Lib.hid (pbRest_bytes d WB.out)
  have hcb := crcOf_bd HRB.out
  have HPB : Hid (pbB d = pbRest d ++ beBytes (crcOf (pbRest d)) 4) := Lib.hid rfl
  have HPR : Hid (pbRest d = pbTag d ++ beBytes d.typ 2 ++ d.body) := Lib.hid rfl
  have HPH : Hid ([] ++ beBytes d.dst 6 ++ beBytes d.src 6 = pbHead d) := Lib.hid rfl
  have HPT : Hid (pbTag d = if d.tag = -1 then pbHead d else pbHead d ++ beBytes 33024 2 ++ beBytes d.tag 2) := Lib.hid rfl
  generalize pbRest d = zr at *
  generalize pbTag d = zt at *
  generalize pbHead d = zh at *
  by_cases ht : 0 ≤ d.tag
  rotate_left
  · have HT : Hid (zh = zt) := Lib.hid (by have := HPT.out; rw [if_pos (by omega)] at this; exact this.symm)
    go_enter Try.func25, Try.ntmps25
    go_wp2_with fail
    refine at_world (w := w) ?G (fun hG => (packetOkS _ _ d (HP.out.grow hG)).mono ?_)
    case G => ((repeat (first | with_reducible exact Grow.refl _ | (with_reducible refine Grow.alloc_ ?_ _) | (with_reducible refine Grow.setCell_ ?_ (by first | exact Nat.le_refl _ | (simp only [World.alloc, Array.size_push]; omega) | omega) _))))
    rintro e w1 ⟨rfl, hg⟩
    rw [hok]
    have B0 := Lib.hid ((Box.alloc w _ _).grow hg)
    have G1 := Lib.hid (hG.trans hg)
    clear hG hg hok
    have ⟨c0, c1, c2, c3, c4⟩ := B0.out.five
    have l0 := B0.out.1
    go_wp2_with fail
    refine (putS_yes _ _ [] d.dst 6 (ownB_nil _).rd (numOk6 k1.1 k1.2) (by simp)).mono ?_
    rintro e w2 ⟨v2, fp2, rfl, ho, hf, hg⟩
    have R2 := Lib.hid ho.rd; have G2 := Lib.hid (G1.out.trans hg); have B0 := Lib.hid (B0.out.grow hg)
    clear ho hf hg c0 c1 c2 c3 c4 l0
    have ⟨c0, c1, c2, c3, c4⟩ := B0.out.five
    have l0 := B0.out.1
    go_wp2_with fail
    refine (putS_yes _ _ _ d.src 6 R2.out (numOk6 k2.1 k2.2) (by simp [beBytes_length])).mono ?_
    rintro e w3 ⟨v3, fp3, rfl, ho, hf, hg⟩
    have R3 := Lib.hid ho.rd; have G3 := Lib.hid (G2.out.trans hg); have B0 := Lib.hid (B0.out.grow hg)
    clear ho hf hg c0 c1 c2 c3 c4 l0
    have ⟨c0, c1, c2, c3, c4⟩ := B0.out.five
    have l0 := B0.out.1
    rw [HPH.out] at R3
    rw [HT.out] at R3
    go_wp2_with fail
    refine (putS_yes _ _ _ d.typ 2 R3.out (numOk2' (by omega) (by omega)) (by omega)).mono ?_
    rintro e w4 ⟨v4, fp4, rfl, ho, hf, hg⟩
    have R4 := Lib.hid ho.rd; have G4 := Lib.hid (G3.out.trans hg); have B0 := Lib.hid (B0.out.grow hg)
    have A1 := Lib.hid (Acc.of_own hg ho hf); have BP := Lib.hid (Nat.lt_of_lt_of_le B0.out.1 (Nat.le_refl _))
    clear ho hf hg c0 c1 c2 c3 c4 l0
    have ⟨c0, c1, c2, c3, c4⟩ := B0.out.five
    have l0 := B0.out.1
    have RD := Lib.hid (HV.out.grow G4.out)
    go_wp2_with (first | (at_builtin; refine wpl_append Try.elemU8 rfl _ _ rfl w3.heap.size rfl A1.out.2 d.body.length rfl RD.out (by simp) (oneCell_ints _ _) (by simp [beBytes_length]; omega) (by unfold maxLen; simp [beBytes_length]; omega) A1.out.1.size ?_; intro v8 w8 hown hgr hmv; have A9 := Lib.hid (A1.out.onto hown hgr); clear hown hgr hmv c0 c1 c2 c3 c4) | fail)
    have A10 : Hid (Acc w3 w8 v8 zr) := Lib.hid (by rw [HPR.out]; exact A9.out)
    refine (crcS_any _ _ _ A10.out.rd HRB.out (by omega)).mono ?_
    rintro e w' ⟨rfl, rfl⟩
    go_wp2_with fail
    refine (putS_yes _ _ zr (crcOf zr) 4 A10.out.rd (numOk4 hcb.1 hcb.2) (by omega)).mono ?_
    rintro e w9 ⟨v9, fp9, rfl, ho, hf, hg⟩
    have HO := Lib.hid ho; have HF := Lib.hid hf; have HG := Lib.hid hg
    clear ho hf hg
    go_wp2
    go_ret2
    have h1 := HO.out
    rw [← HPB.out] at h1
    have gk := G3.out.trans A10.out.1
    exact ⟨_, fp9, rfl, h1, HF.out.older gk, gk.trans HG.out⟩

  · have HT : Hid (zh ++ beBytes 33024 2 ++ beBytes d.tag 2 = zt) := Lib.hid (by have := HPT.out; rw [if_neg (by omega)] at this; exact this.symm)
    go_enter Try.func25, Try.ntmps25
    go_wp2_with fail
    refine at_world (w := w) ?G (fun hG => (packetOkS _ _ d (HP.out.grow hG)).mono ?_)
    case G => ((repeat (first | with_reducible exact Grow.refl _ | (with_reducible refine Grow.alloc_ ?_ _) | (with_reducible refine Grow.setCell_ ?_ (by first | exact Nat.le_refl _ | (simp only [World.alloc, Array.size_push]; omega) | omega) _))))
    rintro e w1 ⟨rfl, hg⟩
    rw [hok]
    have B0 := Lib.hid ((Box.alloc w _ _).grow hg)
    have G1 := Lib.hid (hG.trans hg)
    clear hG hg hok
    have ⟨c0, c1, c2, c3, c4⟩ := B0.out.five
    have l0 := B0.out.1
    go_wp2_with fail
    refine (putS_yes _ _ [] d.dst 6 (ownB_nil _).rd (numOk6 k1.1 k1.2) (by simp)).mono ?_
    rintro e w2 ⟨v2, fp2, rfl, ho, hf, hg⟩
    have R2 := Lib.hid ho.rd; have G2 := Lib.hid (G1.out.trans hg); have B0 := Lib.hid (B0.out.grow hg)
    clear ho hf hg c0 c1 c2 c3 c4 l0
    have ⟨c0, c1, c2, c3, c4⟩ := B0.out.five
    have l0 := B0.out.1
    go_wp2_with fail
    refine (putS_yes _ _ _ d.src 6 R2.out (numOk6 k2.1 k2.2) (by simp [beBytes_length])).mono ?_
    rintro e w3 ⟨v3, fp3, rfl, ho, hf, hg⟩
    have R3 := Lib.hid ho.rd; have G3 := Lib.hid (G2.out.trans hg); have B0 := Lib.hid (B0.out.grow hg)
    clear ho hf hg c0 c1 c2 c3 c4 l0
    have ⟨c0, c1, c2, c3, c4⟩ := B0.out.five
    have l0 := B0.out.1
    rw [HPH.out] at R3
    go_wp2_with fail
    refine (putS_yes _ _ _ 33024 2 R3.out (by decide) (by omega)).mono ?_
    rintro e w4 ⟨v4, fp4, rfl, ho, hf, hg⟩
    have R4 := Lib.hid ho.rd; have G4 := Lib.hid (G3.out.trans hg); have B0 := Lib.hid (B0.out.grow hg)
    clear ho hf hg c0 c1 c2 c3 c4 l0
    have ⟨c0, c1, c2, c3, c4⟩ := B0.out.five
    have l0 := B0.out.1
    go_wp2_with fail
    refine (putS_yes _ _ _ d.tag 2 R4.out (numOk2' (by omega) (by omega)) (by simp [beBytes_length]; omega)).mono ?_
    rintro e w5 ⟨v5, fp5, rfl, ho, hf, hg⟩
    have R5 := Lib.hid ho.rd; have G5 := Lib.hid (G4.out.trans hg); have B0 := Lib.hid (B0.out.grow hg)
    clear ho hf hg c0 c1 c2 c3 c4 l0
    have ⟨c0, c1, c2, c3, c4⟩ := B0.out.five
    have l0 := B0.out.1
    rw [HT.out] at R5
    go_wp2_with fail
    refine (putS_yes _ _ _ d.typ 2 R5.out (numOk2' (by omega) (by omega)) (by omega)).mono ?_
    rintro e w6 ⟨v6, fp6, rfl, ho, hf, hg⟩
    have R6 := Lib.hid ho.rd; have G6 := Lib.hid (G5.out.trans hg); have B0 := Lib.hid (B0.out.grow hg)
    have A1 := Lib.hid (Acc.of_own hg ho hf); have BP := Lib.hid (Nat.lt_of_lt_of_le B0.out.1 (Nat.le_refl _))
    clear ho hf hg c0 c1 c2 c3 c4 l0
    have ⟨c0, c1, c2, c3, c4⟩ := B0.out.five
    have l0 := B0.out.1
    have RD := Lib.hid (HV.out.grow G6.out)
    go_wp2_with (first | (at_builtin; refine wpl_append Try.elemU8 rfl _ _ rfl w5.heap.size rfl A1.out.2 d.body.length rfl RD.out (by simp) (oneCell_ints _ _) (by simp [beBytes_length]; omega) (by unfold maxLen; simp [beBytes_length]; omega) A1.out.1.size ?_; intro v8 w8 hown hgr hmv; have A9 := Lib.hid (A1.out.onto hown hgr); clear hown hgr hmv c0 c1 c2 c3 c4) | fail)
    have A10 : Hid (Acc w5 w8 v8 zr) := Lib.hid (by rw [HPR.out]; exact A9.out)
    refine (crcS_any _ _ _ A10.out.rd HRB.out (by omega)).mono ?_
    rintro e w' ⟨rfl, rfl⟩
    go_wp2_with fail
    refine (putS_yes _ _ zr (crcOf zr) 4 A10.out.rd (numOk4 hcb.1 hcb.2) (by omega)).mono ?_
    rintro e w9 ⟨v9, fp9, rfl, ho, hf, hg⟩
    have HO := Lib.hid ho; have HF := Lib.hid hf; have HG := Lib.hid hg
    clear ho hf hg
    go_wp2
    go_ret2
    have h1 := HO.out
    rw [← HPB.out] at h1
    have gk := G5.out.trans A10.out.1
    exact ⟨_, fp9, rfl, h1, HF.out.older gk, gk.trans HG.out⟩

--%
end Go.Proofs.Ytcldfodnblkeiaa
