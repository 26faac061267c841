/- UdpBytes: contracts of the code. -/
import Derived.Test.YtcldfodnblkeiaaAcc
import Derived.WalkKit
import Derived.ProofKit
import Derived.Deep.QuietTactic
import Derived.BigQuiet
import Derived.Outline
import Derived.WalkSpells
namespace Go.Proofs.Ytcldfodnblkeiaa
open Go.ChangeShapes Go.WideShapes Go.ChangeAt Go.RowKit
set_option linter.unusedVariables false
set_option linter.unusedSimpArgs false
--%
def udHead (d : UdpD) : List Int := [] ++ beBytes d.src 2 ++ beBytes d.dst 2 ++ beBytes (8 + d.data.length) 2
def udB (d : UdpD) : List Int := udHead d ++ [0, 0] ++ d.data
def udF (d : UdpD) : List Int × Bool := if udOk d = true then (udB d, true) else ([], false)
theorem udF_yes {d : UdpD} (h : udOk d = true) : udF d = (udB d, true) := by simp [udF, h]
theorem udF_no {d : UdpD} (h : udOk d = false) : udF d = ([], false) := by simp [udF, h]
theorem udHead_len (d : UdpD) : (udHead d).length = 6 := by simp [udHead, beBytes_length]
theorem udOk_iff {d : UdpD} (h : udOk d = true) : numOkB d.src 2 = true ∧ numOkB d.dst 2 = true ∧ d.data.length ≤ 1472 := by simpa [udOk] using h
theorem numOk2 {n : Int} (h0 : 0 ≤ n) (h1 : n ≤ 65535) : numOkB n 2 = true := by simp [numOkB]; omega
--% UdpBytesI 56
theorem udpBytesI_any (w : World) (V : Value) (d : UdpD) (h : RdU w V d) : Calls Try.prog 56 #[V] w (RetNew2 OwnB (udF d).1 (.bool (udF d).2) w) := by
  obtain ⟨v, rfl, hv⟩ := h
  obtain ⟨a, c, rfl, hlc, hm, -, -⟩ := Rd.ints hv
  have HV := Lib.hid hv
  have HP : Hid (RdU w _ d) := Lib.hid ⟨_, rfl, hv⟩
  clear hv
  unfold maxLen at hm
  cases hok : udOk d
  · rw [udF_no hok]
    go_enter Try.func56, Try.ntmps56
    go_wp2_with fail
    refine at_world (w := w) ?G (fun hG => (udOkI _ _ d (HP.out.grow hG)).mono ?_)
    case G => ((repeat (first | with_reducible exact Grow.refl _ | (with_reducible refine Grow.alloc_ ?_ _) | (with_reducible refine Grow.setCell_ ?_ (by first | exact Nat.le_refl _ | (simp only [World.alloc, Array.size_push]; omega) | omega) _))))
    rintro e w1 ⟨rfl, hg⟩
    rw [hok]
    have HG := Lib.hid (hG.trans hg)
    clear hG hg
    go_wp2
    go_ret2
    exact ⟨_, [], rfl, ownB_nil _, by simp [Fresh], HG.out⟩
  · rw [udF_yes hok]
    obtain ⟨k1, k2, k3⟩ := udOk_iff hok
    have N1 := Lib.hid (numOk_bd k1); have N2 := Lib.hid (numOk_bd k2)
    have hl := udHead_len d
    go_enter Try.func56, Try.ntmps56
    go_wp2_with fail
    refine at_world (w := w) ?G (fun hG => (udOkI _ _ d (HP.out.grow hG)).mono ?_)
    case G => ((repeat (first | with_reducible exact Grow.refl _ | (with_reducible refine Grow.alloc_ ?_ _) | (with_reducible refine Grow.setCell_ ?_ (by first | exact Nat.le_refl _ | (simp only [World.alloc, Array.size_push]; omega) | omega) _))))
    rintro e w1 ⟨rfl, hg⟩
    rw [hok]
    have B0 := Lib.hid ((Box.alloc w _ _).grow hg)
    have G1 := Lib.hid (hG.trans hg)
    clear hG hg k1 k2 hok
    go_wp2_with fail
    have hne : Nonempty (Cl (Grow w1)) := ⟨⟨w1, Grow.refl _⟩⟩
    have ⟨c0, c1, c2⟩ := B0.out.three_
    refine wp_region_mix (Cls (Grow w1)) 12 #[false, false, false, false, false, false, false, false, false, false, false, false] (by kernel_rfl) (by kernel_rfl) ⟨⟨_, Grow.drewN _ 1⟩, rfl⟩ ?_
    refine anyC_seg [0, 1, 3, 4, 6, 7, 8, 9] #[true, true, false, true, true, false, true, true, true, true, false, false] (fuel := 4) rfl (by kernel_rfl) ⟨⟨_, Grow.drewN _ 1⟩, rfl⟩ ?_
    simp only [pickOps, List.getD_cons_succ, List.getD_cons_zero]
    repeat (go_big_quiet_step (fail))
    refine wpQuiet_nil ?_
    refine anyC_sole 2 #[true, true, true, true, true, false, true, true, true, true, false, false] (fuel := 3) (by kernel_rfl) ?_
    (simp only [List.getD_cons_succ, List.getD_cons_zero])
    go_wp2_with fail
    refine (put_acc w1 _ _ [] d.src 2 (Acc.nil (Grow.drewN _ 1)) (by simp) (by omega) N1.out).mono ?_
    rintro e w2 ⟨v2, rfl, ha⟩
    have A2 := Lib.hid ha; clear ha
    go_wp2
    refine ⟨⟨⟨_, A2.out.1⟩, rfl⟩, ?_⟩
    refine anyC_sole 5 #[true, true, true, true, true, true, true, true, true, true, false, false] (fuel := 2) (by kernel_rfl) ?_
    (simp only [List.getD_cons_succ, List.getD_cons_zero])
    go_wp2_with fail
    refine (put_acc w1 _ _ _ d.dst 2 A2.out (by simp [beBytes_length]) (by omega) N2.out).mono ?_
    rintro e w3 ⟨v3, rfl, ha⟩
    have A3 := Lib.hid ha; clear ha A2
    go_wp2
    refine ⟨⟨⟨_, A3.out.1⟩, rfl⟩, ?_⟩
    refine anyC_sole 10 #[true, true, true, true, true, true, true, true, true, true, true, false] (fuel := 1) (by kernel_rfl) ?_
    (simp only [List.getD_cons_succ, List.getD_cons_zero])
    go_wp2_with fail
    refine (put_acc w1 _ _ _ (8 + d.data.length) 2 A3.out (by simp [beBytes_length]) (by omega) (by omega)).mono ?_
    rintro e w4 ⟨v4, rfl, ha⟩
    have A4 : Hid (Acc w1 w4 v4 (udHead d)) := Lib.hid ha
    clear ha A3
    go_wp2
    refine ⟨⟨⟨_, A4.out.1⟩, rfl⟩, ?_⟩
    refine anyC_seg [11] #[true, true, true, true, true, true, true, true, true, true, true, true] (fuel := 0) rfl (by kernel_rfl) ⟨⟨_, A4.out.1⟩, rfl⟩ ?_
    simp only [pickOps, List.getD_cons_succ, List.getD_cons_zero]
    repeat (go_big_quiet_step (fail))
    refine wpQuiet_nil ?_
    refine anyC_done (by kernel_rfl) ?_
    go_wp2_with fail
    have HU : Hid (udB d = udHead d ++ [0, 0] ++ d.data) := Lib.hid rfl
    generalize udHead d = z at *
    have D4 := Lib.hid (A4.out.1.trans (Grow.drewN w4 1))
    refine wp_region_mix (Cls (Grow w1)) 8 #[false, false, false, false, false, false, false, false] (by kernel_rfl) (by kernel_rfl) ⟨⟨_, D4.out⟩, rfl⟩ ?_
    refine anyC_seg [0, 3, 4] #[true, false, false, true, true, false, false, false] (fuel := 5) rfl (by kernel_rfl) ⟨⟨_, D4.out⟩, rfl⟩ ?_
    simp only [pickOps, List.getD_cons_succ, List.getD_cons_zero]
    repeat (go_big_quiet_step (fail))
    refine wpQuiet_nil ?_
    refine anyC_sole 1 #[true, true, false, true, true, false, false, false] (fuel := 4) (by kernel_rfl) ?_
    (simp only [List.getD_cons_succ, List.getD_cons_zero])
    go_wp2
    refine ⟨⟨⟨_, D4.out.trans (Grow.alloc _ _)⟩, rfl⟩, ?_⟩
    refine anyC_sole 2 #[true, true, true, true, true, false, false, false] (fuel := 3) (by kernel_rfl) ?_
    (simp only [List.getD_cons_succ, List.getD_cons_zero])
    have A5 := Lib.hid (A4.out.grow ((Grow.drewN w4 1).trans (Grow.alloc _ (.cells #[Value.int .u8 0, .int .u8 0] 5))))
    go_wp2_with (at_builtin; refine wpl_append Try.elemU8 rfl _ _ rfl w1.heap.size rfl A5.out.2 2 rfl (rd_built _ _ 1 2 [Value.int .u8 0, Value.int .u8 0] rfl (by decide)) rfl (oneCell_ints .u8 [_, _]) (by omega) (by unfold maxLen; omega) A5.out.1.size ?_; intro v5 w5 hown hgr hmv)
    have A6 : Hid (Acc w1 w5 v5 (z ++ [0, 0])) := Lib.hid (A5.out.onto hown hgr)
    clear hown hgr hmv A5 A4
    refine ⟨⟨⟨_, A6.out.1⟩, rfl⟩, ?_⟩
    refine anyC_sole 5 #[true, true, true, true, true, true, false, false] (fuel := 2) (by kernel_rfl) ?_
    (simp only [List.getD_cons_succ, List.getD_cons_zero])
    go_wp2_with (at_builtin; refine wpl_append Try.elemU8 rfl _ _ rfl w1.heap.size rfl A6.out.2 d.data.length rfl (HV.out.grow (G1.out.trans A6.out.1)) (by simp) (oneCell_ints _ _) (by simp; omega) (by unfold maxLen; simp; omega) A6.out.1.size ?_; intro v6 w6 hown hgr hmv)
    have A7 : Hid (Acc w1 w6 v6 (z ++ [0, 0] ++ d.data)) := Lib.hid (A6.out.onto hown hgr)
    clear hown hgr hmv A6
    refine ⟨⟨⟨_, A7.out.1⟩, rfl⟩, ?_⟩
    refine anyC_seg [6, 7] #[true, true, true, true, true, true, true, true] (fuel := 0) rfl (by kernel_rfl) ⟨⟨_, A7.out.1⟩, rfl⟩ ?_
    simp only [pickOps, List.getD_cons_succ, List.getD_cons_zero]
    repeat (go_big_quiet_step (fail))
    refine wpQuiet_nil ?_
    refine anyC_done (by kernel_rfl) ?_
    go_wp2
    go_ret2
    obtain ⟨fp, h1, h2, h3⟩ := A7.out.ret G1.out
    rw [← HU.out] at h1
    exact ⟨_, fp, rfl, h1, h2, h3⟩
--% UdpBytesS 55
theorem udpBytesS_any (w : World) (V : Value) (d : UdpD) (h : RdU w V d) : Calls Try.prog 55 #[V] w (RetNew2 OwnB (udF d).1 (.bool (udF d).2) w) := by
  obtain ⟨v, rfl, hv⟩ := h
  obtain ⟨a, c, rfl, hlc, hm, -, -⟩ := Rd.ints hv
  have HV := Lib.hid hv
  have HP : Hid (RdU w _ d) := Lib.hid ⟨_, rfl, hv⟩
  clear hv
  unfold maxLen at hm
  cases hok : udOk d
  · rw [udF_no hok]
    go_enter Try.func55, Try.ntmps55
    go_wp2_with fail
    refine at_world (w := w) ?G (fun hG => (udOkS _ _ d (HP.out.grow hG)).mono ?_)
    case G => ((repeat (first | with_reducible exact Grow.refl _ | (with_reducible refine Grow.alloc_ ?_ _) | (with_reducible refine Grow.setCell_ ?_ (by first | exact Nat.le_refl _ | (simp only [World.alloc, Array.size_push]; omega) | omega) _))))
    rintro e w1 ⟨rfl, hg⟩
    rw [hok]
    have HG := Lib.hid (hG.trans hg)
    clear hG hg
    go_wp2
    go_ret2
    exact ⟨_, [], rfl, ownB_nil _, by simp [Fresh], HG.out⟩
  · rw [udF_yes hok]
    obtain ⟨k1, k2, k3⟩ := udOk_iff hok
    have N1 := Lib.hid k1; have N2 := Lib.hid k2
    have hl := udHead_len d
    go_enter Try.func55, Try.ntmps55
    go_wp2_with fail
    refine at_world (w := w) ?G (fun hG => (udOkS _ _ d (HP.out.grow hG)).mono ?_)
    case G => ((repeat (first | with_reducible exact Grow.refl _ | (with_reducible refine Grow.alloc_ ?_ _) | (with_reducible refine Grow.setCell_ ?_ (by first | exact Nat.le_refl _ | (simp only [World.alloc, Array.size_push]; omega) | omega) _))))
    rintro e w1 ⟨rfl, hg⟩
    rw [hok]
    have B0 := Lib.hid ((Box.alloc w _ _).grow hg)
    have G1 := Lib.hid (hG.trans hg)
    clear hG hg k1 k2 hok
    have ⟨c0, c1, c2⟩ := B0.out.three
    go_wp2_with fail
    refine (putS_yes _ _ [] d.src 2 (ownB_nil _).rd N1.out (by simp)).mono ?_
    rintro e w2 ⟨v2, fp2, rfl, ho, hf, hg⟩
    have R2 := Lib.hid ho.rd; have G2 := Lib.hid (G1.out.trans hg); have B0 := Lib.hid (B0.out.grow hg)
    clear ho hf hg c0 c1 c2
    have ⟨c0, c1, c2⟩ := B0.out.three
    go_wp2_with fail
    refine (putS_yes _ _ _ d.dst 2 R2.out N2.out (by simp [beBytes_length])).mono ?_
    rintro e w3 ⟨v3, fp3, rfl, ho, hf, hg⟩
    have R3 := Lib.hid ho.rd; have G3 := Lib.hid (G2.out.trans hg); have B0 := Lib.hid (B0.out.grow hg)
    clear ho hf hg c0 c1 c2 R2
    have ⟨c0, c1, c2⟩ := B0.out.three
    go_wp2_with fail
    refine (putS_yes _ _ _ (8 + d.data.length) 2 R3.out (numOk2 (by omega) (by omega)) (by simp [beBytes_length])).mono ?_
    rintro e w4 ⟨v4, fp4, rfl, ho, hf, hg⟩
    have A4 : Hid (Acc w3 w4 v4 (udHead d)) := Lib.hid (Acc.of_own hg ho hf)
    have B3 := Lib.hid B0.out.1
    have B0 := Lib.hid (B0.out.grow hg)
    clear ho hf hg c0 c1 c2 R3
    have HU : Hid (udB d = udHead d ++ [0, 0] ++ d.data) := Lib.hid rfl
    generalize udHead d = z at *
    have ⟨c0, c1, c2⟩ := B0.out.three
    have A5 := Lib.hid (A4.out.grow (Grow.alloc w4 (.cells #[Value.int .u8 0, .int .u8 0] 5)))
    have RD := Lib.hid (HV.out.grow (G3.out.trans A4.out.1))
    go_wp2_with (first | (at_builtin; refine wpl_append Try.elemU8 rfl _ _ rfl w3.heap.size rfl A5.out.2 2 rfl (rd_built _ _ 1 2 [Value.int .u8 0, Value.int .u8 0] rfl (by decide)) rfl (oneCell_ints .u8 [_, _]) (by omega) (by unfold maxLen; omega) A5.out.1.size ?_; intro v5 w5 hown hgr hmv; clear c0 c1 c2; have A6 : Hid (Acc w3 w5 v5 (z ++ [0, 0])) := Lib.hid (A5.out.onto hown hgr); have ⟨c0, c1, c2⟩ := ((B0.out.grow (Grow.alloc _ _)).upd (Upd.of_grown hgr) (fun hm => by have h1 := A5.out.own.2 _ hm; have h2 := B3.out; omega)).three; clear hown hgr hmv A5) | (at_builtin; refine wpl_append Try.elemU8 rfl _ _ rfl w3.heap.size rfl A6.out.2 d.data.length rfl (HV.out.grow (G3.out.trans A6.out.1)) (by simp) (oneCell_ints _ _) (by simp; omega) (by unfold maxLen; simp; omega) A6.out.1.size ?_; intro v6 w6 hown hgr hmv; clear c0 c1 c2; have A7 : Hid (Acc w3 w6 v6 (z ++ [0, 0] ++ d.data)) := Lib.hid (A6.out.onto hown hgr); clear hown hgr hmv A6))
    go_ret2
    obtain ⟨fp, h1, h2, h3⟩ := A7.out.ret G3.out
    rw [← HU.out] at h1
    exact ⟨_, fp, rfl, h1, h2, h3⟩
--%
end Go.Proofs.Ytcldfodnblkeiaa
