/- IpBytes: contracts of the code, the program's side (printed by gibi.py). -/
import Derived.Test.YtcldfodnblkeiaaIbs
import Derived.Laws.CopyOwn
import Derived.WalkKit
import Derived.ProofKit
import Derived.Deep.QuietTactic
import Derived.BigQuiet
import Derived.Outline
import Derived.WalkSpells
namespace Go.Proofs.Ytcldfodnblkeiaa
open Go.ChangeShapes Go.WideShapes Go.ChangeAt Go.RowKit
set_option linter.unusedVariables false
set_option linter.unusedSimpArgs false
--%
theorem Acc.shape {w1 w : World} {v : Value} {zs : List Int} (h : Acc w1 w v zs) (hn : 0 < zs.length) : ∃ g c, v = .slice (some ⟨g, 0, none⟩) zs.length c ∧ zs.length ≤ c := by
  obtain ⟨_, _, ⟨_, h0⟩ | ⟨g, cap, cur, rfl, _, _, hc, _⟩⟩ := h
  · omega
  · exact ⟨g, cap, rfl, hc⟩
/-- What is gathered is written over in part. -/
theorem Acc.over {w1 w : World} {g n c : Nat} {zs : List Int} (h : Acc w1 w (.slice (some ⟨g, 0, none⟩) n c) zs) :
    ∃ cur, w.heap[g]? = some (.cells cur 5 (0, 0)) ∧ n ≤ cur.size ∧ zs.length = n ∧ ∀ (ys : List Int) (off : Nat), off + ys.length ≤ n →
      Acc w1 (w.setRow g (cur.toList.take off ++ (ys.map (Value.int .u8) ++ cur.toList.drop (off + ys.length))).toArray) (.slice (some ⟨g, 0, none⟩) n c) (zs.take off ++ (ys ++ zs.drop (off + ys.length))) := by
  obtain ⟨hg, hl, ⟨h0, _⟩ | ⟨g', cap, cur, e, hb, hh, hc, hm, hs, ht⟩⟩ := h
  · cases h0
  · simp only [Value.slice.injEq, Option.some.injEq, Addr.mk.injEq, and_true] at e
    obtain ⟨rfl, rfl, rfl⟩ := e
    refine ⟨cur, hh, by omega, rfl, fun ys off hle => ?_⟩
    have hll : (zs.take off ++ (ys ++ zs.drop (off + ys.length))).length = zs.length := by simp only [List.length_append, List.length_take, List.length_drop]; omega
    refine ⟨below_setRow hg hb _, by rw [List.length_map, Nat.mul_one], .inr ⟨g, c, _, by rw [hll], hb, setRow_heap _ _ _ _ _ _ hh, by omega, hm, ?_, ?_⟩⟩
    · simp only [List.size_toArray, List.length_append, List.length_take, List.length_drop, List.length_map, Array.length_toList]; omega
    · rw [hll]
      have e : cur.toList = zs.map (Value.int .u8) ++ cur.toList.drop zs.length := by
        have := List.take_append_drop zs.length cur.toList
        rw [Nat.mul_one] at ht
        rw [ht] at this
        exact this.symm
      generalize cur.toList.drop zs.length = R at e
      simp only [e, Nat.mul_one, List.length_map]
      rw [List.take_append_of_le_length (l₁ := zs.map (Value.int .u8)) (l₂ := R) (i := off) (by rw [List.length_map]; omega), List.drop_append_of_le_length (l₁ := zs.map (Value.int .u8)) (l₂ := R) (by rw [List.length_map]; omega)]
      rw [← List.append_assoc, ← List.append_assoc, List.take_left' (by simp only [List.length_append, List.length_take, List.length_drop, List.length_map]; omega)]
      simp only [List.map_append, List.map_take, List.map_drop, List.append_assoc]
theorem ih_over (d : IpD) (s : Int) : (ihHead d 0).take 10 ++ (beBytes s 2 ++ (ihHead d 0).drop (10 + (beBytes s 2).length)) = ihHead d s := by
  have e : ihHead d 0 = ihMid d ++ (beBytes 0 2 ++ (beBytes d.src 4 ++ beBytes d.dst 4)) := by simp [ihHead]
  have e2 : ihHead d 0 = (ihMid d ++ beBytes 0 2) ++ (beBytes d.src 4 ++ beBytes d.dst 4) := by simp [ihHead]
  have h1 : (ihHead d 0).take 10 = ihMid d := by rw [e]; exact List.take_left' (ihMid_len d)
  have h2 : (ihHead d 0).drop (10 + (beBytes s 2).length) = beBytes d.src 4 ++ beBytes d.dst 4 := by rw [e2]; exact List.drop_left' (by simp [ihMid_len, beBytes_length])
  rw [h1, h2]; simp [ihHead]
theorem ih_zero (d : IpD) : ihBase d ++ [0, 0, 0, 0, d.ttl, d.proto, 0, 0] ++ beBytes d.src 4 ++ beBytes d.dst 4 = ihHead d 0 := by
  have e : beBytes 0 2 = [0, 0] := by decide
  simp [ihHead, ihMid, e]
theorem info_u8_one : (Try.prog.info? 5).map (·.size) = some 1 := by kernel_rfl
--% IpBytesI 43
set_option maxHeartbeats 1000000 in
theorem ipBytesI_any (w : World) (V : Value) (d : IpD) (h : RdIp w V d) : Calls Try.prog 43 #[V] w (RetNew2 OwnB (ipF d).1 (.bool (ipF d).2) w) := by
  obtain ⟨v, rfl, hv⟩ := h
  obtain ⟨a, c, rfl, hlc, hm, -, -⟩ := Rd.ints hv
  have HV := Lib.hid hv
  have HP : Hid (RdIp w _ d) := Lib.hid ⟨_, rfl, hv⟩
  clear hv
  unfold maxLen at hm
  cases hok : ipOk d
  · rw [ipF_no hok]
    go_enter Try.func43, Try.ntmps43
    go_wp2_with fail
    refine at_world (w := w) ?G (fun hG => (ipOkI _ _ d (HP.out.grow hG)).mono ?_)
    case G => ((repeat (first | with_reducible exact Grow.refl _ | (with_reducible refine Grow.alloc_ ?_ _) | (with_reducible refine Grow.setCell_ ?_ (by first | exact Nat.le_refl _ | (simp only [World.alloc, Array.size_push]; omega) | omega) _))))
    rintro e w1 ⟨rfl, hg⟩
    rw [hok]
    have HG := Lib.hid (hG.trans hg)
    clear hG hg
    go_wp2
    go_ret2
    exact ⟨_, [], rfl, ownB_nil _, by simp [Fresh], HG.out⟩
  rw [ipF_yes hok]
  obtain ⟨k1, k2, k3, k4, k5⟩ := ipOk_iff hok
  have n1 := numOk1 k1; have n2 := numOk1 k2
  have N1 := Lib.hid n1; have N2 := Lib.hid n2; have N3 := Lib.hid k3; have N4 := Lib.hid k4
  have BH := Lib.hid (ihHead_bytes n1 n2 0)
  have SB := Lib.hid (s16_bd _ 0 BH.out (by decide))
  have hsb := SB.out
  have HIP : Hid (ipB d = ihHead d (65535 - s16 0 (ihHead d 0)) ++ d.data) := Lib.hid rfl
  have hL0 := ihHead_len d 0
  have hLb := ihBase_len d
  have HBase : Hid ([69, 0] ++ beBytes (20 + d.data.length) 2 = ihBase d) := Lib.hid rfl
  have HZ := Lib.hid (ih_zero d)
  have HOV := Lib.hid (ih_over d (65535 - s16 0 (ihHead d 0)))
  have hL1 := ihHead_len d (65535 - s16 0 (ihHead d 0))
  have M3 := Lib.hid (numOk_bd k3); have M4 := Lib.hid (numOk_bd k4)
  generalize ipB d = zr at *
  generalize hsm : 65535 - s16 0 (ihHead d 0) = sm at *
  have HSM := Lib.hid hsm
  have hsd : 0 ≤ sm ∧ sm ≤ 65535 := by omega
  have HSD := Lib.hid hsd
  clear hsm
  generalize ihHead d sm = zq at *
  generalize ihHead d 0 = zh at *
  generalize ihBase d = zb at *
  clear k1 k2 k3 k4 hsb
  go_enter Try.func43, Try.ntmps43
  go_wp2_with fail
  refine at_world (w := w) ?G (fun hG => (ipOkI _ _ d (HP.out.grow hG)).mono ?_)
  case G => ((repeat (first | with_reducible exact Grow.refl _ | (with_reducible refine Grow.alloc_ ?_ _) | (with_reducible refine Grow.setCell_ ?_ (by first | exact Nat.le_refl _ | (simp only [World.alloc, Array.size_push]; omega) | omega) _))))
  rintro e w1 ⟨rfl, hg⟩
  rw [hok]
  have B0 := Lib.hid ((Box.alloc w _ _).grow hg)
  have G1 := Lib.hid (hG.trans hg)
  clear hG hg hok
  have ⟨c0, c1, c2, c3, c4⟩ := B0.out.five
  have l0 := B0.out.1
  go_wp2_with fail
  have AL : Acc w1 (w1.alloc (.cells #[.int .u8 69, .int .u8 0] 5)) (.slice (some ⟨w1.heap.size, 0, none⟩) 2 2) [69, 0] := ⟨Grow.alloc _ _, own_built w1 5 1 2 [.int .u8 69, .int .u8 0] rfl (by decide)⟩
  refine (put_acc w1 _ _ _ (20 + d.data.length) 2 AL (by simp) (by omega) (by omega)).mono ?_
  rintro e w4 ⟨v4, rfl, ha⟩
  have A4 : Hid (Acc w1 w4 v4 zb) := Lib.hid (by rw [← HBase.out]; exact ha)
  have A5 := Lib.hid (A4.out.grow (Grow.alloc w4 (.cells #[.int .u8 0, .int .u8 0, .int .u8 0, .int .u8 0, .int .u8 d.ttl, .int .u8 d.proto, .int .u8 0, .int .u8 0] 5)))
  clear ha AL c0 c1 c2 c3 c4 l0
  have ⟨c0, c1, c2, c3, c4⟩ := (B0.out.grow A4.out.1).five
  have n1 := N1.out; have n2 := N2.out
  go_wp2_with (first | (at_builtin; refine wpl_append Try.elemU8 rfl _ _ rfl w1.heap.size rfl A5.out.2 8 rfl (rd_built _ _ 1 8 [Value.int .u8 0, .int .u8 0, .int .u8 0, .int .u8 0, .int .u8 d.ttl, .int .u8 d.proto, .int .u8 0, .int .u8 0] rfl (by decide)) rfl (oneCell_ints .u8 [_, _, _, _, _, _, _, _]) (by omega) (by unfold maxLen; omega) A5.out.1.size ?_; intro v5 w5 hown hgr hmv; have A6 : Hid (Acc w1 w5 v5 (zb ++ [0, 0, 0, 0, d.ttl, d.proto, 0, 0])) := Lib.hid (A5.out.onto hown hgr); clear hown hgr hmv c0 c1 c2 c3 c4) | fail)
  have hne : Nonempty (Cl (Grow w1)) := ⟨⟨w1, Grow.refl _⟩⟩
  have ⟨c0, c1, c2, c3, c4⟩ := B0.out.five_
  have A6d := Lib.hid (A6.out.grow (Grow.drewN w5 1))
  refine wp_region_mix (Cls (Grow w1)) 8 #[false, false, false, false, false, false, false, false] (by kernel_rfl) (by kernel_rfl) ⟨⟨_, A6d.out.1⟩, rfl⟩ ?_
  refine anyC_seg [0, 1, 2, 4, 5] #[true, true, true, false, true, true, false, false] (fuel := 3) rfl (by kernel_rfl) ⟨⟨_, A6d.out.1⟩, rfl⟩ ?_
  simp only [pickOps, List.getD_cons_succ, List.getD_cons_zero]
  repeat (go_big_quiet_step (fail))
  refine wpQuiet_nil ?_
  refine anyC_sole 3 #[true, true, true, true, true, true, false, false] (fuel := 2) (by kernel_rfl) ?_
  simp only [List.getD_cons_succ, List.getD_cons_zero]
  go_wp2_with fail
  refine (put_acc w1 _ _ _ d.src 4 A6d.out (by simp [beBytes_length]; omega) (by omega) M3.out).mono ?_
  rintro e wa ⟨vwa, rfl, ha⟩
  have A7 := Lib.hid ha; clear ha
  go_wp2
  refine ⟨⟨⟨_, A7.out.1⟩, rfl⟩, ?_⟩
  refine anyC_sole 6 #[true, true, true, true, true, true, true, false] (fuel := 1) (by kernel_rfl) ?_
  simp only [List.getD_cons_succ, List.getD_cons_zero]
  go_wp2_with fail
  refine (put_acc w1 _ _ _ d.dst 4 A7.out (by simp [beBytes_length]; omega) (by omega) M4.out).mono ?_
  rintro e wb ⟨vwb, rfl, ha⟩
  have A8 := Lib.hid ha; clear ha
  go_wp2
  refine ⟨⟨⟨_, A8.out.1⟩, rfl⟩, ?_⟩
  refine anyC_seg [7] #[true, true, true, true, true, true, true, true] (fuel := 0) rfl (by kernel_rfl) ⟨⟨_, A8.out.1⟩, rfl⟩ ?_
  simp only [pickOps, List.getD_cons_succ, List.getD_cons_zero]
  repeat (go_big_quiet_step (fail))
  refine wpQuiet_nil ?_
  refine anyC_done (by kernel_rfl) ?_
  have A8 : Hid (Acc w1 wb vwb zh) := Lib.hid (by rw [← HZ.out]; exact A8.out)
  obtain ⟨g, cp, rfl, hcp⟩ := A8.out.shape (by omega)
  rw [hL0] at A8 ⊢
  rw [hL0] at hcp
  clear c0 c1 c2 c3 c4 A7
  go_wp2_with fail
  have ⟨c0, c1, c2, c3, c4⟩ := B0.out.five_
  have A8d := Lib.hid (A8.out.grow (Grow.drewN wb 1))
  refine wp_region_mix (Cls (Grow w1)) 6 #[false, false, false, false, false, false] (by kernel_rfl) (by kernel_rfl) ⟨⟨_, A8d.out.1⟩, rfl⟩ ?_
  refine anyC_seg [0, 1, 2] #[true, true, true, false, false, false] (fuel := 3) rfl (by kernel_rfl) ⟨⟨_, A8d.out.1⟩, rfl⟩ ?_
  simp only [pickOps, List.getD_cons_succ, List.getD_cons_zero]
  repeat (go_big_quiet_step (fail))
  refine wpQuiet_nil ?_
  refine anyC_sole 3 #[true, true, true, true, false, false] (fuel := 2) (by kernel_rfl) ?_
  simp only [List.getD_cons_succ, List.getD_cons_zero]
  go_wp2_with fail
  refine (sum16I_any _ _ _ A8d.out.rd BH.out (by omega)).mono ?_
  rintro e wx ⟨rfl, rfl⟩
  rw [HSM.out]
  go_wp2
  refine ⟨⟨⟨_, A8d.out.1⟩, rfl⟩, ?_⟩
  refine anyC_sole 4 #[true, true, true, true, true, false] (fuel := 1) (by kernel_rfl) ?_
  simp only [List.getD_cons_succ, List.getD_cons_zero]
  go_wp2_with fail
  refine (put_acc (wb.drewN 1) _ _ [] sm 2 (Acc.nil (Grow.refl _)) (by simp) (by omega) (by have := HSD.out; omega)).mono ?_
  rintro e wd ⟨vd, rfl, ha⟩
  obtain ⟨gs, cs, rfl, hcs⟩ := ha.shape (by simp [beBytes_length])
  have hl2 : ([] ++ beBytes sm 2 : List Int).length = 2 := by simp [beBytes_length]
  rw [hl2] at ha ⊢
  have AD := Lib.hid ha
  have A9 := Lib.hid (A8d.out.grow ha.1)
  clear ha hl2
  go_wp2
  refine ⟨⟨⟨_, A9.out.1⟩, rfl⟩, ?_⟩
  refine anyC_sole 5 #[true, true, true, true, true, true] (fuel := 0) (by kernel_rfl) ?_
  simp only [List.getD_cons_succ, List.getD_cons_zero]
  obtain ⟨cur, hcur, hcn, hzl, hov⟩ := A9.out.over
  have AX := Lib.hid (hov (beBytes sm 2) 10 (by simp [beBytes_length]))
  have HSRC := Lib.hid (rd_src AD.out.rd).2
  go_wp2_with (refine wpList_copy_own rfl _ _ _ _ rfl 5 Try.underlying22 info_u8_one g 10 2 (cp - 10) ⟨gs, 0, none⟩ 2 cs rfl rfl cur 5 hcur ((beBytes sm 2).map (Value.int .u8)) (by simp [beBytes_length]) HSRC.out (by simp [beBytes_length]; omega) (oneCell_ints _ _) ?_)
  refine ⟨⟨⟨_, AX.out.1⟩, rfl⟩, ?_⟩
  refine anyC_done (by kernel_rfl) ?_
  clear c0 c1 c2 c3 c4 hne hcur hov
  generalize (World.setRow wd g (cur.toList.take 10 ++ ((beBytes sm 2).map (Value.int .u8) ++ cur.toList.drop (10 + (beBytes sm 2).length))).toArray) = w9 at *
  have A10 : Hid (Acc w1 w9 (.slice (some ⟨g, 0, none⟩) 20 cp) zq) := Lib.hid (by rw [← HOV.out]; exact AX.out)
  have ⟨c0, c1, c2, c3, c4⟩ := (B0.out.grow A10.out.1).five
  clear hzl hcn
  go_wp2_with (first | (at_builtin; refine wpl_append Try.elemU8 rfl _ _ rfl w1.heap.size rfl A10.out.2 d.data.length rfl (HV.out.grow (G1.out.trans A10.out.1)) (by simp) (oneCell_ints _ _) (by omega) (by unfold maxLen; omega) A10.out.1.size ?_; intro v10 w10 hown hgr hmv; have A11 := Lib.hid (A10.out.onto hown hgr); clear hown hgr hmv c0 c1 c2 c3 c4) | fail)
  go_ret2
  obtain ⟨fp, h1, h2, h3⟩ := A11.out.ret G1.out
  rw [← HIP.out] at h1
  exact ⟨_, fp, rfl, h1, h2, h3⟩
--%
end Go.Proofs.Ytcldfodnblkeiaa
