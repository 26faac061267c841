/- IpBytes: contracts of the code, the reference's side (printed by gib.py). -/
import Derived.Test.YtcldfodnblkeiaaIb
import Derived.WalkKit
import Derived.ProofKit
import Derived.Deep.QuietTactic
import Derived.BigQuiet
import Derived.Outline
import Derived.WalkSpells
namespace Go.Proofs.Ytcldfodnblkeiaa
open Go.ChangeShapes Go.WideShapes Go.ChangeAt Go.RowKit
set_option linter.unusedVariables false
set_option linter.unusedSimpArgs false
--%
theorem s16_bd : ∀ (zs : List Int) (s : Int), Bytes zs → 0 ≤ s ∧ s ≤ 65535 → 0 ≤ s16 s zs ∧ s16 s zs ≤ 65535
  | [], s, _, h => by unfold s16; exact h
  | [x], s, hb, h => by have := hb x (by simp); unfold s16 redS; split <;> omega
  | x :: y :: r, s, hb, h => by
    unfold s16
    exact s16_bd r _ (fun z hz => hb z (by simp [hz])) (by have := hb x (by simp); have := hb y (by simp); unfold redS; split <;> omega)
theorem ihHead_bytes {d : IpD} (h1 : 0 ≤ d.ttl ∧ d.ttl ≤ 255) (h2 : 0 ≤ d.proto ∧ d.proto ≤ 255) (s : Int) : Bytes (ihHead d s) := by
  have hb : Bytes (ihBase d) := Bytes.app (fun x hx => by simp at hx; omega) (beBytes_bytes _ _)
  have hm : Bytes (ihMid d) := Bytes.app hb (fun x hx => by simp at hx; omega)
  exact Bytes.app (Bytes.app (Bytes.app hm (beBytes_bytes _ _)) (beBytes_bytes _ _)) (beBytes_bytes _ _)
--% IpBytesS 42
set_option maxHeartbeats 1000000 in
theorem ipBytesS_any (w : World) (V : Value) (d : IpD) (h : RdIp w V d) : Calls Try.prog 42 #[V] w (RetNew2 OwnB (ipF d).1 (.bool (ipF d).2) w) := by
  obtain ⟨v, rfl, hv⟩ := h
  obtain ⟨a, c, rfl, hlc, hm, -, -⟩ := Rd.ints hv
  have HV := Lib.hid hv
  have HP : Hid (RdIp w _ d) := Lib.hid ⟨_, rfl, hv⟩
  clear hv
  unfold maxLen at hm
  cases hok : ipOk d
  · rw [ipF_no hok]
    go_enter Try.func42, Try.ntmps42
    go_wp2_with fail
    refine at_world (w := w) ?G (fun hG => (ipOkS _ _ d (HP.out.grow hG)).mono ?_)
    case G => ((repeat (first | with_reducible exact Grow.refl _ | (with_reducible refine Grow.alloc_ ?_ _) | (with_reducible refine Grow.setCell_ ?_ (by first | exact Nat.le_refl _ | (simp only [World.alloc, Array.size_push]; omega) | omega) _))))
    rintro e w1 ⟨rfl, hg⟩
    rw [hok]
    have HG := Lib.hid (hG.trans hg)
    clear hG hg
    go_wp2
    go_ret2
    exact ⟨_, [], rfl, ownB_nil _, by simp [Fresh], HG.out⟩
  rw [ipF_yes hok]
  obtain ⟨k1, k2, k3, k4, k5⟩ := ipOk_iff hok
  have n1 := numOk1 k1; have n2 := numOk1 k2
  have N1 := Lib.hid n1; have N2 := Lib.hid n2; have N3 := Lib.hid k3; have N4 := Lib.hid k4
  have BH := Lib.hid (ihHead_bytes n1 n2 0)
  have SB := Lib.hid (s16_bd _ 0 BH.out (by decide))
  have hsb := SB.out
  have HIP : Hid (ipB d = ihHead d (65535 - s16 0 (ihHead d 0)) ++ d.data) := Lib.hid rfl
  have hL0 := ihHead_len d 0
  have hL1 := ihHead_len d (65535 - s16 0 (ihHead d 0))
  generalize ipB d = zr at *
  generalize hsm : 65535 - s16 0 (ihHead d 0) = sm at *
  have HSM := Lib.hid hsm
  have hsd : 0 ≤ sm ∧ sm ≤ 65535 := by omega
  have HSD := Lib.hid hsd
  clear k1 k2 k3 k4 n1 n2 hsm hsb
  go_enter Try.func42, Try.ntmps42
  go_wp2_with fail
  refine at_world (w := w) ?G (fun hG => (ipOkS _ _ d (HP.out.grow hG)).mono ?_)
  case G => ((repeat (first | with_reducible exact Grow.refl _ | (with_reducible refine Grow.alloc_ ?_ _) | (with_reducible refine Grow.setCell_ ?_ (by first | exact Nat.le_refl _ | (simp only [World.alloc, Array.size_push]; omega) | omega) _))))
  rintro e w1 ⟨rfl, hg⟩
  rw [hok]
  have B0 := Lib.hid ((Box.alloc w _ _).grow hg)
  have G1 := Lib.hid (hG.trans hg)
  clear hG hg hok
  go_wp2_with fail
  have hne : Nonempty (Cl (Grow w1)) := ⟨⟨w1, Grow.refl _⟩⟩
  have ⟨c0, c1, c2, c3, c4⟩ := B0.out.five_
  refine wp_region_mix (Cls (Grow w1)) 10 #[false, false, false, false, false, false, false, false, false, false] (by kernel_rfl) (by kernel_rfl) ⟨⟨_, Grow.drewN _ 1⟩, rfl⟩ ?_
  refine anyC_seg [0, 1, 5, 6] #[true, true, false, false, false, true, true, false, false, false] (fuel := 6) rfl (by kernel_rfl) ⟨⟨_, Grow.drewN _ 1⟩, rfl⟩ ?_
  simp only [pickOps, List.getD_cons_succ, List.getD_cons_zero]
  repeat (go_big_quiet_step (fail))
  refine wpQuiet_nil ?_
  refine anyC_sole 2 #[true, true, true, false, false, true, true, false, false, false] (fuel := 5) (by kernel_rfl) ?_
  simp only [List.getD_cons_succ, List.getD_cons_zero]
  go_wp2_with fail
  refine (l03Head_any _ _ d 0 (HP.out.grow (G1.out.trans (Grow.drewN _ 1))) (by omega) N1.out N2.out N3.out N4.out (by decide)).mono ?_
  rintro e wa ⟨va, fpa, rfl, ho, hf, hg⟩
  have RA := Lib.hid ho.rd; have D2 := Lib.hid ((Grow.drewN w1 1).trans hg)
  clear ho hf hg
  go_wp2
  refine ⟨⟨⟨_, D2.out⟩, rfl⟩, ?_⟩
  refine anyC_sole 3 #[true, true, true, true, false, true, true, false, false, false] (fuel := 4) (by kernel_rfl) ?_
  simp only [List.getD_cons_succ, List.getD_cons_zero]
  go_wp2_with fail
  refine (sum16S_any _ _ _ RA.out BH.out (by omega)).mono ?_
  rintro e wx ⟨rfl, rfl⟩
  rw [HSM.out]
  go_wp2
  refine ⟨⟨⟨_, D2.out⟩, rfl⟩, ?_⟩
  refine anyC_sole 4 #[true, true, true, true, true, true, true, false, false, false] (fuel := 3) (by kernel_rfl) ?_
  simp only [List.getD_cons_succ, List.getD_cons_zero]
  go_wp2_with fail
  refine (l03Head_any _ _ d sm (HP.out.grow (G1.out.trans D2.out)) (by omega) N1.out N2.out N3.out N4.out HSD.out).mono ?_
  rintro e wb ⟨vb, fpb, rfl, ho, hf, hg⟩
  have A4 := Lib.hid (Acc.of_own hg ho hf); have D4 := Lib.hid (D2.out.trans hg)
  clear ho hf hg
  go_wp2
  refine ⟨⟨⟨_, D4.out⟩, rfl⟩, ?_⟩
  refine anyC_sole 7 #[true, true, true, true, true, true, true, true, false, false] (fuel := 2) (by kernel_rfl) ?_
  simp only [List.getD_cons_succ, List.getD_cons_zero]
  go_wp2_with (at_builtin; refine wpl_append Try.elemU8 rfl _ _ rfl wa.heap.size rfl A4.out.2 d.data.length rfl (HV.out.grow (G1.out.trans D4.out)) (by simp) (oneCell_ints _ _) (by omega) (by unfold maxLen; omega) A4.out.1.size ?_; intro v6 w6 hown hgr hmv)
  have A9 := Lib.hid (A4.out.onto hown hgr)
  have D9 := Lib.hid (D2.out.trans A9.out.1)
  clear hown hgr hmv
  refine ⟨⟨⟨_, D9.out⟩, rfl⟩, ?_⟩
  refine anyC_seg [8, 9] #[true, true, true, true, true, true, true, true, true, true] (fuel := 0) rfl (by kernel_rfl) ⟨⟨_, D9.out⟩, rfl⟩ ?_
  simp only [pickOps, List.getD_cons_succ, List.getD_cons_zero]
  repeat (go_big_quiet_step (fail))
  refine wpQuiet_nil ?_
  refine anyC_done (by kernel_rfl) ?_
  clear c0 c1 c2 c3 c4
  go_wp2
  go_ret2
  obtain ⟨fp, h1, h2, h3⟩ := A9.out.ret (G1.out.trans D2.out)
  rw [← HIP.out] at h1
  exact ⟨_, fp, rfl, h1, h2, h3⟩
--%
end Go.Proofs.Ytcldfodnblkeiaa
