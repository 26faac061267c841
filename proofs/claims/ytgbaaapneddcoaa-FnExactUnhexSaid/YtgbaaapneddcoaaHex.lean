/- Contracts: hexadecimal digits. -/
import Derived.Test.YtgbaaapneddcoaaPut
import Derived.Test.YtgbaaapneddcoaaTy
import Derived.Test.YtgbaaapneddcoaaApp2
import Derived.WalkKit
import Derived.ProofKit
import Derived.Deep.QuietTactic
import Derived.BigQuiet
import Derived.Outline
import Derived.WalkSpells
namespace Go.Proofs.Ytgbaaapneddcoaa
open Go.ChangeShapes Go.WideShapes Go.ChangeAt Go.RowKit
set_option linter.unusedVariables false
set_option linter.unusedSimpArgs false

/-- The digit that is written for d. -/
def hexd (d : Int) : Int := if d < 10 then 48 + d else 87 + d
def hexs : List Int → List Int
  | [] => []
  | x :: r => hexd (x / 16) :: hexd (x % 16) :: hexs r
theorem hexs_snoc (zs : List Int) (x : Int) : hexs (zs ++ [x]) = hexs zs ++ [hexd (x / 16), hexd (x % 16)] := by
  induction zs with
  | nil => rfl
  | cons y r ih => simp [hexs, ih]
theorem hexs_length (zs : List Int) : (hexs zs).length = 2 * zs.length := by
  induction zs with
  | nil => rfl
  | cons y r ih => simp [hexs, ih]; omega
theorem hexs_take {zs : List Int} {k : Nat} (h : k < zs.length) : hexs (zs.take (k + 1)) = hexs (zs.take k) ++ [hexd (zs[k] / 16), hexd (zs[k] % 16)] := by
  rw [List.take_succ_eq_append_getElem h, hexs_snoc]

--% digit 47
theorem digit_any (d : Int) (w : World) (h0 : 0 ≤ d) (h1 : d ≤ 16) :
    Calls Try.prog 47 #[.int .i64 d] w fun e w' => e = .returned (.int .u8 (hexd d)) ∧ w = w' := by
  by_cases h : d < 10
  · have HE : Hid (hexd d = 48 + d) := Lib.hid (by unfold hexd; rw [if_pos h])
    go_enter Try.func47, Try.ntmps47
    go_wp2
    go_ret
    exact ⟨ret_int (by rw [HE.out]; try omega), rfl⟩
  · have HE : Hid (hexd d = 87 + d) := Lib.hid (by unfold hexd; rw [if_neg h])
    go_enter Try.func47, Try.ntmps47
    go_wp2
    go_ret
    exact ⟨ret_int (by rw [HE.out]; try omega), rfl⟩
--% index
set_option maxRecDepth 20000 in
theorem hex_index (d : Int) (h0 : 0 ≤ d) (h1 : d < 16) (w : World) : (Instr.index 9 (.string { data := #[48, 49, 50, 51, 52, 53, 54, 55, 56, 57, 97, 98, 99, 100, 101, 102] }) (.int .u8 d)).run Try.prog w = .ok (.int .u8 (hexd d)) w := by
  obtain ⟨n, rfl⟩ := Int.eq_ofNat_of_zero_le h0
  have hn : n < 16 := by omega
  obtain rfl | rfl | rfl | rfl | rfl | rfl | rfl | rfl | rfl | rfl | rfl | rfl | rfl | rfl | rfl | rfl : n = 0 ∨ n = 1 ∨ n = 2 ∨ n = 3 ∨ n = 4 ∨ n = 5 ∨ n = 6 ∨ n = 7 ∨ n = 8 ∨ n = 9 ∨ n = 10 ∨ n = 11 ∨ n = 12 ∨ n = 13 ∨ n = 14 ∨ n = 15 := by omega
  all_goals rfl
--% HexOfI 25
theorem hexOfI_any (v : Value) (zs : List Int) (w : World) (h : RdB w v zs) (hb : WfB zs) (hm : zs.length ≤ 1048576) :
    Calls Try.prog 25 #[v] w (RetV (.string (txt (hexs zs))) w) := by
  obtain ⟨a, c, rfl, hlc, _, hn, hc⟩ := Rd.ints h
  clear h hn
  have H := Lib.hid hc; clear hc
  have HB : Hid (Bytes zs) := Lib.hid hb; clear hb
  go_enter Try.func25, Try.ntmps25
  go_wp2
  go_loopw [3, 9] (fun q i wr => ∃ (k : Nat), k ≤ zs.length ∧ i = .int .i64 k ∧ wr.ownsRow w.heap.size 5 1 q (2 * k) ((hexs (zs.take k)).map (Value.int .u8)) ∧ Grow w wr) (fun _ i _ => zs.length - (intOf i).toNat)
  case atStart => exact ⟨0, by omega, rfl, by simpa [hexs] using own_built w _ 1 0 [] rfl (by decide), Grow.alloc _ _⟩
  case round =>
    obtain ⟨k, hk, rfl, hown, hgr⟩ := hrel
    have HO := Lib.hid hown; clear hown
    have HG := Lib.hid hgr; clear hgr
    by_cases hlt : k < zs.length
    · obtain ⟨b, o, rfl, hcs⟩ := H.out k hlt
      have hcr := HG.out.cell hcs
      have hz := HB.out.at hlt
      have hi1 := hex_index (zs[k] / 16) (by omega) (by omega)
      have hi2 := hex_index (zs[k] % 16) (by omega) (by omega)
      have hne : Nonempty (Cl (Grow w)) := ⟨⟨w, Grow.refl _⟩⟩
      go_wp2
      refine wp_region_mix (Cls (Grow w)) 10 #[false, false, false, false, false, false, false, false, false, false] (by kernel_rfl) (by kernel_rfl) ⟨⟨_, HG.out.trans (Grow.drewN _ 1)⟩, rfl⟩ ?_
      refine anyC_seg [0, 1, 2, 3, 4, 5, 6] #[true, true, true, true, true, true, true, false, false, false] (fuel := 3) rfl (by kernel_rfl) ⟨⟨_, HG.out.trans (Grow.drewN _ 1)⟩, rfl⟩ ?_
      simp only [pickOps, List.getD_cons_succ, List.getD_cons_zero]
      repeat (go_big_quiet_step (fail))
      refine wpQuiet_nil ?_
      refine anyC_sole 7 #[true, true, true, true, true, true, true, true, false, false] (fuel := 2) (by kernel_rfl) ?_
      simp only [List.getD_cons_succ, List.getD_cons_zero]
      go_wp2
      refine ⟨⟨⟨_, HG.out.trans ((Grow.drewN _ 1).trans (Grow.alloc _ _))⟩, rfl⟩, ?_⟩
      refine anyC_sole 8 #[true, true, true, true, true, true, true, true, true, false] (fuel := 1) (by kernel_rfl) ?_
      simp only [List.getD_cons_succ, List.getD_cons_zero]
      go_wp2_with (at_builtin; refine wpl_append Try.elemU8 rfl _ _ rfl w.heap.size rfl (own_grow (own_drewN HO.out 1) (Grow.alloc _ _)) 2 rfl (rd_built _ _ 1 2 [Value.int .u8 (hexd (zs[k] / 16)), Value.int .u8 (hexd (zs[k] % 16))] rfl (by decide)) rfl (oneCell_ints .u8 [_, _]) (by omega) (by unfold maxLen; omega) (by have := HG.out.size; simp; omega) ?_; intro v2 w2 hown2 hgr2 hmv2)
      have HO2 := Lib.hid hown2; clear hown2
      have HG2 : Hid (Grow w w2) := Lib.hid (Grow.of_grown (grown_trans (HG.out.trans ((Grow.drewN _ 1).trans (Grow.alloc _ _))).grown hgr2 (fun g hg hlt => by have := (own_block HO.out hg).1; omega)))
      clear hgr2 hmv2
      refine ⟨⟨⟨_, HG2.out⟩, rfl⟩, ?_⟩
      refine anyC_seg [9] #[true, true, true, true, true, true, true, true, true, true] (fuel := 0) rfl (by kernel_rfl) ⟨⟨_, HG2.out⟩, rfl⟩ ?_
      simp only [pickOps, List.getD_cons_succ, List.getD_cons_zero]
      repeat (go_big_quiet_step (fail))
      refine wpQuiet_nil ?_
      refine anyC_done (by kernel_rfl) ?_
      go_wp2
      go_roundw
      case rel => exact ⟨k + 1, by omega, by go_num, by have := HO2.out; rw [hexs_take hlt, List.map_append]; exact this, HG2.out⟩
      case measure => simp [intOf]; omega
    · obtain rfl : k = zs.length := by omega
      have hcv := run_txt (P := Try.prog) Try.underlying28 Try.underlying5 Try.underlying9 (Rd.of_own HO.out)
      rw [List.take_of_length_le (Nat.le_refl _)] at hcv
      go_wp2
      go_ret
      exact ⟨rfl, HG.out⟩
--% HexOfS 23
theorem hexOfS_any (v : Value) (zs : List Int) (w : World) (h : RdB w v zs) (hb : WfB zs) (hm : zs.length ≤ 1048576) :
    Calls Try.prog 23 #[v] w (RetV (.string (txt (hexs zs))) w) := by
  obtain ⟨a, c, rfl, hlc, _, hn, hc⟩ := Rd.ints h
  clear h hn
  have H := Lib.hid hc; clear hc
  have HB : Hid (Bytes zs) := Lib.hid hb; clear hb
  go_enter Try.func23, Try.ntmps23
  go_wp2
  go_loopw [3, 4] (fun q i wr => ∃ (k : Nat), k ≤ zs.length ∧ i = .int .i64 k ∧ wr.ownsRow w.heap.size 5 1 q (2 * k) ((hexs (zs.take k)).map (Value.int .u8)) ∧ Grow w wr) (fun _ i _ => zs.length - (intOf i).toNat)
  case atStart => exact ⟨0, by omega, rfl, by simpa [hexs] using own_built w _ 1 0 [] rfl (by decide), Grow.alloc _ _⟩
  case round =>
    obtain ⟨k, hk, rfl, hown, hgr⟩ := hrel
    have HO := Lib.hid hown; clear hown
    have HG := Lib.hid hgr; clear hgr
    by_cases hlt : k < zs.length
    · obtain ⟨b, o, rfl, hcs⟩ := H.out k hlt
      have hz := HB.out.at hlt
      have hcx : ∀ x : Cl (Grow w), x.w.cell? ⟨b, o + k, none⟩ = some (.int .u8 zs[k]) := fun x => x.ok.cell hcs
      have hne : Nonempty (Cl (Grow w)) := ⟨⟨w, Grow.refl _⟩⟩
      go_wp2
      refine wp_region_mix (Cls (Grow w)) 18 #[false, false, false, false, false, false, false, false, false, false, false, false, false, false, false, false, false, false] (by kernel_rfl) (by kernel_rfl) ⟨⟨_, HG.out.trans (Grow.drewN _ 1)⟩, rfl⟩ ?_
      refine anyC_seg [0, 1, 2, 3, 4, 5, 6, 8, 9, 10, 11, 12, 13] #[true, true, true, true, true, true, true, false, true, true, true, true, true, true, false, false, false, false] (fuel := 5) rfl (by kernel_rfl) ⟨⟨_, HG.out.trans (Grow.drewN _ 1)⟩, rfl⟩ ?_
      simp only [pickOps, List.getD_cons_succ, List.getD_cons_zero]
      repeat (go_big_quiet_step (fail))
      refine wpQuiet_nil ?_
      refine anyC_sole 7 #[true, true, true, true, true, true, true, true, true, true, true, true, true, true, false, false, false, false] (fuel := 4) (by kernel_rfl) ?_
      simp only [List.getD_cons_succ, List.getD_cons_zero]
      go_wp2_with (go_at_call 47; refine (digit_any _ _ (by omega) (by omega)).mono ?_; rintro e w' ⟨rfl, rfl⟩)
      refine ⟨⟨⟨_, HG.out.trans (Grow.drewN _ 1)⟩, rfl⟩, ?_⟩
      refine anyC_sole 14 #[true, true, true, true, true, true, true, true, true, true, true, true, true, true, true, false, false, false] (fuel := 3) (by kernel_rfl) ?_
      simp only [List.getD_cons_succ, List.getD_cons_zero]
      go_wp2_with (go_at_call 47; refine (digit_any _ _ (by omega) (by omega)).mono ?_; rintro e w' ⟨rfl, rfl⟩)
      refine ⟨⟨⟨_, HG.out.trans (Grow.drewN _ 1)⟩, rfl⟩, ?_⟩
      refine anyC_sole 15 #[true, true, true, true, true, true, true, true, true, true, true, true, true, true, true, true, false, false] (fuel := 2) (by kernel_rfl) ?_
      simp only [List.getD_cons_succ, List.getD_cons_zero]
      go_wp2
      refine ⟨⟨⟨_, HG.out.trans ((Grow.drewN _ 1).trans (Grow.alloc _ _))⟩, rfl⟩, ?_⟩
      refine anyC_sole 16 #[true, true, true, true, true, true, true, true, true, true, true, true, true, true, true, true, true, false] (fuel := 1) (by kernel_rfl) ?_
      simp only [List.getD_cons_succ, List.getD_cons_zero]
      go_wp2_with (at_builtin; refine wpl_append Try.elemU8 rfl _ _ rfl w.heap.size rfl (own_grow (own_drewN HO.out 1) (Grow.alloc _ _)) 2 rfl (rd_built _ _ 1 2 [Value.int .u8 (hexd (zs[k] / 16)), Value.int .u8 (hexd (zs[k] % 16))] rfl (by decide)) rfl (oneCell_ints .u8 [_, _]) (by omega) (by unfold maxLen; omega) (by have := HG.out.size; simp; omega) ?_; intro v2 w2 hown2 hgr2 hmv2)
      have HO2 := Lib.hid hown2; clear hown2
      have HG2 : Hid (Grow w w2) := Lib.hid (Grow.of_grown (grown_trans (HG.out.trans ((Grow.drewN _ 1).trans (Grow.alloc _ _))).grown hgr2 (fun g hg hlt => by have := (own_block HO.out hg).1; omega)))
      clear hgr2 hmv2
      refine ⟨⟨⟨_, HG2.out⟩, rfl⟩, ?_⟩
      refine anyC_seg [17] #[true, true, true, true, true, true, true, true, true, true, true, true, true, true, true, true, true, true] (fuel := 0) rfl (by kernel_rfl) ⟨⟨_, HG2.out⟩, rfl⟩ ?_
      simp only [pickOps, List.getD_cons_succ, List.getD_cons_zero]
      repeat (go_big_quiet_step (fail))
      refine wpQuiet_nil ?_
      refine anyC_done (by kernel_rfl) ?_
      go_wp2
      go_roundw
      case rel => exact ⟨k + 1, by omega, by go_num, by have := HO2.out; rw [hexs_take hlt, List.map_append]; exact this, HG2.out⟩
      case measure => simp [intOf]; omega
    · obtain rfl : k = zs.length := by omega
      have hcv := run_txt (P := Try.prog) Try.underlying28 Try.underlying5 Try.underlying9 (Rd.of_own HO.out)
      rw [List.take_of_length_le (Nat.le_refl _)] at hcv
      go_wp2
      go_ret
      exact ⟨rfl, HG.out⟩
--%
end Go.Proofs.Ytgbaaapneddcoaa
