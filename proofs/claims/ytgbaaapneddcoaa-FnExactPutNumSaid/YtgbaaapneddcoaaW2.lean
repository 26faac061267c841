/- The walks of FnExactGetNum, FnExactSum16, FnExactPutNum. No condition. -/
import Derived.Test.YtgbaaapneddcoaaPut
import Derived.Test.YtgbaaapneddcoaaTy
import Derived.WalkKit
import Derived.ProofKit
import Derived.OpenShut
import Derived.ShutString
import Derived.ChangeOld
import Derived.Below
import Derived.SizedLaws
import Derived.WalkSpells
import Derived.Deep.QuietTactic
import Derived.BigQuiet
import Derived.Outline
namespace Go.Proofs.Ytgbaaapneddcoaa
open Go.ChangeShapes Go.WideShapes Go.ChangeAt Go.RowKit
open Go.ChangeMaps (open_string shut_string)
set_option linter.unusedVariables false
set_option linter.unusedSimpArgs false
--% GetNumAny 28 27
def getF (zs : List Int) (at_ size : Int) : Int × Bool := if 1 ≤ size ∧ size ≤ 6 ∧ 0 ≤ at_ ∧ at_ ≤ zs.length - size then (valBE ((zs.drop at_.toNat).take size.toNat), true) else (0, false)
--% each impl.GetNum;I
theorem getNumI_any (v : Value) (zs : List Int) (at_ size : Int) (w : World) (h : Rd w 1 v (zs.map (Value.int .u8))) (hb : Bytes zs) (hw : -9223372036854775808 ≤ size ∧ size ≤ 9223372036854775807) :
    Calls Try.prog 28 #[v, .int .i64 at_, .int .i64 size] w (Ret2Int (getF zs at_ size).1 (getF zs at_ size).2 w) := by
  by_cases hc : 1 ≤ size ∧ size ≤ 6 ∧ 0 ≤ at_ ∧ at_ ≤ zs.length - size
  · have e : getF zs at_ size = (valBE ((zs.drop at_.toNat).take size.toNat), true) := by unfold getF; rw [if_pos hc]
    rw [e]
    obtain ⟨k, rfl⟩ := Int.eq_ofNat_of_zero_le (show 0 ≤ size by omega)
    obtain ⟨j, rfl⟩ := Int.eq_ofNat_of_zero_le (show 0 ≤ at_ by omega)
    exact getNumI_yes v zs j k w h hb (by omega) (by omega) (by omega)
  · have e : getF zs at_ size = (0, false) := by unfold getF; rw [if_neg hc]
    rw [e]
    exact getNumI_no v zs at_ size w h hw hc
theorem getNumI_C (w : World) (v : Value) (d : DatB) (h : RdB w v d) (b : WfB d) (n1 : Int) (hn1 : -9223372036854775808 ≤ n1 ∧ n1 ≤ 9223372036854775807) (n2 : Int) (hn2 : -9223372036854775808 ≤ n2 ∧ n2 ≤ 9223372036854775807) (sm : SmB d) :
    Calls Try.prog 28 #[v, .int .i64 n1, .int .i64 n2] w (RetV (.tuple #[.int .i64 (getF d n1 n2).1, .bool (getF d n1 n2).2]) w) :=
  (getNumI_any v d n1 n2 w h b hn2).mono fun _ _ ⟨he, hw⟩ => ⟨he, hw ▸ Grow.refl _⟩
--% each spec.GetNum;S
theorem getNumS_any (v : Value) (zs : List Int) (at_ size : Int) (w : World) (h : Rd w 1 v (zs.map (Value.int .u8))) (hb : Bytes zs) (hw : -9223372036854775808 ≤ size ∧ size ≤ 9223372036854775807) :
    Calls Try.prog 27 #[v, .int .i64 at_, .int .i64 size] w (Ret2Int (getF zs at_ size).1 (getF zs at_ size).2 w) := by
  by_cases hc : 1 ≤ size ∧ size ≤ 6 ∧ 0 ≤ at_ ∧ at_ ≤ zs.length - size
  · have e : getF zs at_ size = (valBE ((zs.drop at_.toNat).take size.toNat), true) := by unfold getF; rw [if_pos hc]
    rw [e]
    obtain ⟨k, rfl⟩ := Int.eq_ofNat_of_zero_le (show 0 ≤ size by omega)
    obtain ⟨j, rfl⟩ := Int.eq_ofNat_of_zero_le (show 0 ≤ at_ by omega)
    exact getNumS_yes v zs j k w h hb (by omega) (by omega) (by omega)
  · have e : getF zs at_ size = (0, false) := by unfold getF; rw [if_neg hc]
    rw [e]
    exact getNumS_no v zs at_ size w h hw hc
theorem getNumS_C (w : World) (v : Value) (d : DatB) (h : RdB w v d) (b : WfB d) (n1 : Int) (hn1 : -9223372036854775808 ≤ n1 ∧ n1 ≤ 9223372036854775807) (n2 : Int) (hn2 : -9223372036854775808 ≤ n2 ∧ n2 ≤ 9223372036854775807) (sm : SmB d) :
    Calls Try.prog 27 #[v, .int .i64 n1, .int .i64 n2] w (RetV (.tuple #[.int .i64 (getF d n1 n2).1, .bool (getF d n1 n2).2]) w) :=
  (getNumS_any v d n1 n2 w h b hn2).mono fun _ _ ⟨he, hw⟩ => ⟨he, hw ▸ Grow.refl _⟩
--% each impl.PutNum;I
theorem putNumI_C (w : World) (v : Value) (d : DatB) (h : RdB w v d) (b : WfB d) (n1 : Int) (hn1 : -9223372036854775808 ≤ n1 ∧ n1 ≤ 9223372036854775807) (n2 : Int) (hn2 : -9223372036854775808 ≤ n2 ∧ n2 ≤ 9223372036854775807) (hl : d.length ≤ 1048576) :
    Calls Try.prog 40 #[v, .int .i64 n1, .int .i64 n2] w (RetNew2 OwnB (putF d n1 n2).1 (.bool (putF d n1 n2).2) w) :=
  (putNumI_any v d n1 n2 w h hn2.2 hl).mono fun _ _ h => RetNew2.of_row h
--% each spec.PutNum;S
theorem putNumS_C (w : World) (v : Value) (d : DatB) (h : RdB w v d) (b : WfB d) (n1 : Int) (hn1 : -9223372036854775808 ≤ n1 ∧ n1 ≤ 9223372036854775807) (n2 : Int) (hn2 : -9223372036854775808 ≤ n2 ∧ n2 ≤ 9223372036854775807) (hl : d.length ≤ 1048576) :
    Calls Try.prog 39 #[v, .int .i64 n1, .int .i64 n2] w (RetNew2 OwnB (putF d n1 n2).1 (.bool (putF d n1 n2).2) w) :=
  (putNumS_any v d n1 n2 w h hn2.2 hl).mono fun _ _ h => RetNew2.of_row h
--% each impl.Sum16;I
theorem sum16I_C (w : World) (v : Value) (d : DatB) (h : RdB w v d) (b : WfB d) (sm : SmB d) :
    Calls Try.prog 32 #[v] w (RetV (.int .i64 (65535 - s16 0 d)) w) :=
  (sum16I_any v d w h b (by unfold SmB at sm; omega)).mono fun _ _ ⟨he, hw⟩ => ⟨he, hw ▸ Grow.refl _⟩
--% each spec.Sum16;S
theorem sum16S_C (w : World) (v : Value) (d : DatB) (h : RdB w v d) (b : WfB d) (sm : SmB d) :
    Calls Try.prog 31 #[v] w (RetV (.int .i64 (65535 - s16 0 d)) w) :=
  (sum16S_any v d w h b (by unfold SmB at sm; omega)).mono fun _ _ ⟨he, hw⟩ => ⟨he, hw ▸ Grow.refl _⟩
--% walk PutNum
theorem walk_FnExactPutNum (w : World) (v0 : Value) (d0 : DatB) (h0 : RdB w v0 d0) (b0 : WfB d0) (n1 : Int) (hn1 : -9223372036854775808 ≤ n1 ∧ n1 ≤ 9223372036854775807) (n2 : Int) (hn2 : -9223372036854775808 ≤ n2 ∧ n2 ≤ 9223372036854775807) :
    Calls Try.prog 14 #[v0, .int .i64 n1, .int .i64 n2] w (RetV (.bool true) w) := by
  have H0 := Lib.hid h0
  have B0 := Lib.hid b0
  obtain ⟨a0, c0, rfl, hlc0, hm0, hn0', hc0'⟩ := Rd.ints h0
  clear hn0' hc0'
  unfold maxLen at hm0
  clear h0 b0
  by_cases hl0 : 1048576 < d0.length
  · skip
    go_enter Try.func14, Try.ntmps14
    go_wp2
    go_ret
    exact ⟨rfl, Grow.refl _⟩
  have sm0 : Hid (SmB d0) := Lib.hid (by unfold SmB; omega)
  have KS := Lib.hid (fun (w : World) (v0 : Value) (h0 : RdB w v0 d0) => putNumS_C w v0 d0 h0 B0.out n1 hn1 n2 hn2 sm0.out)
  have KI := Lib.hid (fun (w : World) (v0 : Value) (h0 : RdB w v0 d0) => putNumI_C w v0 d0 h0 B0.out n1 hn1 n2 hn2 sm0.out)
  have SG := Lib.hid ((by have := putF_len d0 n1 n2 (by omega); unfold SmB; omega : SmB (putF d0 n1 n2).1))
  generalize (putF d0 n1 n2).1 = D at *
  generalize (putF d0 n1 n2).2 = R at *
  go_enter Try.func14, Try.ntmps14
  go_wp2_with fail
  refine (to_B _ _ _ (H0.out.grow (Grow.refl _)) sm0.out).mono ?_
  rintro e w1 ⟨y0, fpy0, rfl, ho1, hf1, hg1⟩
  have Oy0 := Lib.hid ho1; have Ry0 := Lib.hid ho1.rd; have Fy0 := Lib.hid hf1; have Yy0 := Lib.hid ho1.here; clear ho1 hf1
  have G1_w := Lib.hid hg1
  clear hg1
  go_wp2_with fail
  refine (KS.out _ _ (Ry0.out.grow (Grow.refl _))).mono ?_
  rintro e w2 ⟨z, fpz, rfl, ho2, hf2, hg2⟩
  have Oz := Lib.hid ho2; have Rz := Lib.hid ho2.rd; have Fz := Lib.hid hf2; have Yz := Lib.hid ho2.here; clear ho2 hf2
  have G2_w := Lib.hid (G1_w.out.trans hg2)
  have G2_w1 := Lib.hid hg2
  clear hg2
  go_wp2_with fail
  refine (to_B _ _ _ (H0.out.grow G2_w.out) sm0.out).mono ?_
  rintro e w3 ⟨x0, fpx0, rfl, ho3, hf3, hg3⟩
  have Ox0 := Lib.hid ho3; have Rx0 := Lib.hid ho3.rd; have Fx0 := Lib.hid hf3; have Yx0 := Lib.hid ho3.here; clear ho3 hf3
  have G3_w := Lib.hid (G2_w.out.trans hg3)
  have G3_w2 := Lib.hid hg3
  clear hg3
  go_wp2_with fail
  refine (KI.out _ _ (Rx0.out.grow (Grow.refl _))).mono ?_
  rintro e w4 ⟨g, fpg, rfl, ho4, hf4, hg4⟩
  have Og := Lib.hid ho4; have Rg := Lib.hid ho4.rd; have Fg := Lib.hid hf4; have Yg := Lib.hid ho4.here; clear ho4 hf4
  have G4_w := Lib.hid (G3_w.out.trans hg4)
  have G4_w2 := Lib.hid (G3_w2.out.trans hg4)
  have G4_w3 := Lib.hid hg4
  clear hg4
  go_wp2_with fail
  refine (eq_B _ _ _ _ _ (Rg.out.grow (Grow.refl _)) (Rz.out.grow G4_w2.out)).mono ?_
  rintro e w5 ⟨rfl, hg5⟩
  have G5_w := Lib.hid (G4_w.out.trans hg5)
  have G5_w2 := Lib.hid (G4_w2.out.trans hg5)
  have G5_w3 := Lib.hid (G4_w3.out.trans hg5)
  have G5_w4 := Lib.hid hg5
  clear hg5
  go_wp2_with fail
  refine (to_B _ _ _ (H0.out.grow G5_w.out) sm0.out).mono ?_
  rintro e w6 ⟨t0, fpt0, rfl, ho6, hf6, hg6⟩
  have Ot0 := Lib.hid ho6; have Rt0 := Lib.hid ho6.rd; have Ft0 := Lib.hid hf6; have Yt0 := Lib.hid ho6.here; clear ho6 hf6
  have G6_w := Lib.hid (G5_w.out.trans hg6)
  have G6_w2 := Lib.hid (G5_w2.out.trans hg6)
  have G6_w3 := Lib.hid (G5_w3.out.trans hg6)
  have G6_w4 := Lib.hid (G5_w4.out.trans hg6)
  clear hg6
  go_wp2_with fail
  refine (eq_B _ _ _ _ _ (Rx0.out.grow G6_w3.out) (Rt0.out.grow (Grow.refl _))).mono ?_
  rintro e w7 ⟨rfl, hg7⟩
  have G7_w := Lib.hid (G6_w.out.trans hg7)
  have G7_w2 := Lib.hid (G6_w2.out.trans hg7)
  have G7_w3 := Lib.hid (G6_w3.out.trans hg7)
  have G7_w4 := Lib.hid (G6_w4.out.trans hg7)
  have G7_w6 := Lib.hid hg7
  clear hg7
  have P0 := Lib.hid (Ox0.out.grow G7_w3.out)
  have PG := Lib.hid (Og.out.grow G7_w4.out)
  have AG0 : Hid (∀ x ∈ fpg, x ∉ fpx0) := Lib.hid (fun x hx hm => by have h1 := Yx0.out x hm; have h2 := Fg.out x hx; have h3 := Nat.le_refl 0; omega)
  have kb0 := cntB_bd d0 sm0.out
  go_wp2_with fail
  refine (mark_B _ _ _ _ _ P0.out sm0.out (by omega)).mono ?_
  rintro e w8 ⟨rfl, ho8, hu8⟩
  have PG := Lib.hid (PG.out.upd hu8 AG0.out)
  have G8_w := Lib.hid (G7_w.out.then_upd hu8 (Fx0.out.older G2_w.out))
  have G8_w2 := Lib.hid (G7_w2.out.then_upd hu8 (Fx0.out.older (Grow.refl _)))
  clear ho8 hu8
  go_wp2_with fail
  refine (eq_B _ _ _ _ _ PG.out.rd (Rz.out.grow G8_w2.out)).mono ?_
  rintro e w9 ⟨rfl, hg9⟩
  have PG := Lib.hid (PG.out.grow hg9)
  have G9_w := Lib.hid (G8_w.out.trans hg9)
  have G9_w2 := Lib.hid (G8_w2.out.trans hg9)
  clear hg9
  have kbg := cntB_bd _ SG.out
  go_wp2_with fail
  refine (mark_B _ _ _ _ _ PG.out SG.out (by omega)).mono ?_
  rintro e w10 ⟨rfl, ho10, hu10⟩
  have QG := Lib.hid ho10.rd
  have G10_w := Lib.hid (G9_w.out.then_upd hu10 (Fg.out.older G3_w.out))
  have G10_w2 := Lib.hid (G9_w2.out.then_upd hu10 (Fg.out.older G3_w2.out))
  clear ho10 hu10
  go_wp2_with fail
  refine (held_B _ _ _ _ (QG.out.grow (Grow.refl _)) SG.out (by omega)).mono ?_
  rintro e w11 ⟨rfl, hg11⟩
  have G11_w := Lib.hid (G10_w.out.trans hg11)
  have G11_w2 := Lib.hid (G10_w2.out.trans hg11)
  have G11_w10 := Lib.hid hg11
  clear hg11
  go_wp2_with fail
  refine (to_B _ _ _ (H0.out.grow G11_w.out) sm0.out).mono ?_
  rintro e w12 ⟨u0, fpu0, rfl, ho12, hf12, hg12⟩
  have Ou0 := Lib.hid ho12; have Ru0 := Lib.hid ho12.rd; have Fu0 := Lib.hid hf12; have Yu0 := Lib.hid ho12.here; clear ho12 hf12
  have G12_w := Lib.hid (G11_w.out.trans hg12)
  have G12_w2 := Lib.hid (G11_w2.out.trans hg12)
  have G12_w10 := Lib.hid (G11_w10.out.trans hg12)
  clear hg12
  go_wp2_with fail
  refine (KI.out _ _ (Ru0.out.grow (Grow.refl _))).mono ?_
  rintro e w13 ⟨k, fpk, rfl, ho13, hf13, hg13⟩
  have Rk := Lib.hid ho13.rd; clear ho13 hf13
  have G13_w := Lib.hid (G12_w.out.trans hg13)
  have G13_w2 := Lib.hid (G12_w2.out.trans hg13)
  have G13_w10 := Lib.hid (G12_w10.out.trans hg13)
  have G13_w12 := Lib.hid hg13
  clear hg13
  go_wp2_with fail
  refine (eq_B _ _ _ _ _ (Rk.out.grow (Grow.refl _)) (Rz.out.grow G13_w2.out)).mono ?_
  rintro e w14 ⟨rfl, hg14⟩
  have G14_w := Lib.hid (G13_w.out.trans hg14)
  have G14_w2 := Lib.hid (G13_w2.out.trans hg14)
  have G14_w10 := Lib.hid (G13_w10.out.trans hg14)
  have G14_w12 := Lib.hid (G13_w12.out.trans hg14)
  have G14_w13 := Lib.hid hg14
  clear hg14
  go_wp2_with fail
  refine (held_B _ _ _ _ (QG.out.grow G14_w10.out) SG.out (by omega)).mono ?_
  rintro e w15 ⟨rfl, hg15⟩
  have G15_w := Lib.hid (G14_w.out.trans hg15)
  have G15_w2 := Lib.hid (G14_w2.out.trans hg15)
  have G15_w10 := Lib.hid (G14_w10.out.trans hg15)
  have G15_w12 := Lib.hid (G14_w12.out.trans hg15)
  have G15_w13 := Lib.hid (G14_w13.out.trans hg15)
  clear hg15
  go_wp2
  go_ret
  exact ⟨rfl, G15_w.out⟩
--% walk GetNum
theorem walk_FnExactGetNum (w : World) (v0 : Value) (d0 : DatB) (h0 : RdB w v0 d0) (b0 : WfB d0) (n1 : Int) (hn1 : -9223372036854775808 ≤ n1 ∧ n1 ≤ 9223372036854775807) (n2 : Int) (hn2 : -9223372036854775808 ≤ n2 ∧ n2 ≤ 9223372036854775807) :
    Calls Try.prog 9 #[v0, .int .i64 n1, .int .i64 n2] w (RetV (.bool true) w) := by
  have H0 := Lib.hid h0
  have B0 := Lib.hid b0
  obtain ⟨a0, c0, rfl, hlc0, hm0, hn0', hc0'⟩ := Rd.ints h0
  clear hn0' hc0'
  unfold maxLen at hm0
  clear h0 b0
  by_cases hl0 : 1048576 < d0.length
  · skip
    go_enter Try.func9, Try.ntmps9
    go_wp2
    go_ret
    exact ⟨rfl, Grow.refl _⟩
  have sm0 : Hid (SmB d0) := Lib.hid (by unfold SmB; omega)
  have KS := Lib.hid (fun (w : World) (v0 : Value) (h0 : RdB w v0 d0) => getNumS_C w v0 d0 h0 B0.out n1 hn1 n2 hn2 sm0.out)
  have KI := Lib.hid (fun (w : World) (v0 : Value) (h0 : RdB w v0 d0) => getNumI_C w v0 d0 h0 B0.out n1 hn1 n2 hn2 sm0.out)
  go_enter Try.func9, Try.ntmps9
  go_wp2_with fail
  refine (to_B _ _ _ (H0.out.grow (Grow.refl _)) sm0.out).mono ?_
  rintro e w1 ⟨y0, fpy0, rfl, ho1, hf1, hg1⟩
  have Oy0 := Lib.hid ho1; have Ry0 := Lib.hid ho1.rd; have Fy0 := Lib.hid hf1; have Yy0 := Lib.hid ho1.here; clear ho1 hf1
  have G1_w := Lib.hid hg1
  clear hg1
  go_wp2_with fail
  refine (KS.out _ _ (Ry0.out.grow (Grow.refl _))).mono ?_
  rintro e w2 ⟨rfl, hg2⟩
  have G2_w := Lib.hid (G1_w.out.trans hg2)
  have G2_w1 := Lib.hid hg2
  clear hg2
  go_wp2_with fail
  refine (to_B _ _ _ (H0.out.grow G2_w.out) sm0.out).mono ?_
  rintro e w3 ⟨x0, fpx0, rfl, ho3, hf3, hg3⟩
  have Ox0 := Lib.hid ho3; have Rx0 := Lib.hid ho3.rd; have Fx0 := Lib.hid hf3; have Yx0 := Lib.hid ho3.here; clear ho3 hf3
  have G3_w := Lib.hid (G2_w.out.trans hg3)
  clear hg3
  go_wp2_with fail
  refine (KI.out _ _ (Rx0.out.grow (Grow.refl _))).mono ?_
  rintro e w4 ⟨rfl, hg4⟩
  have G4_w := Lib.hid (G3_w.out.trans hg4)
  have G4_w3 := Lib.hid hg4
  clear hg4
  go_wp2_with fail
  refine (to_B _ _ _ (H0.out.grow G4_w.out) sm0.out).mono ?_
  rintro e w5 ⟨t0, fpt0, rfl, ho5, hf5, hg5⟩
  have Ot0 := Lib.hid ho5; have Rt0 := Lib.hid ho5.rd; have Ft0 := Lib.hid hf5; have Yt0 := Lib.hid ho5.here; clear ho5 hf5
  have G5_w := Lib.hid (G4_w.out.trans hg5)
  have G5_w3 := Lib.hid (G4_w3.out.trans hg5)
  clear hg5
  go_wp2_with fail
  refine (eq_B _ _ _ _ _ (Rx0.out.grow G5_w3.out) (Rt0.out.grow (Grow.refl _))).mono ?_
  rintro e w6 ⟨rfl, hg6⟩
  have G6_w := Lib.hid (G5_w.out.trans hg6)
  have G6_w3 := Lib.hid (G5_w3.out.trans hg6)
  have G6_w5 := Lib.hid hg6
  clear hg6
  go_wp2
  go_ret
  exact ⟨rfl, G6_w.out⟩
--% walk Sum16
theorem walk_FnExactSum16 (w : World) (v0 : Value) (d0 : DatB) (h0 : RdB w v0 d0) (b0 : WfB d0) :
    Calls Try.prog 11 #[v0] w (RetV (.bool true) w) := by
  have H0 := Lib.hid h0
  have B0 := Lib.hid b0
  obtain ⟨a0, c0, rfl, hlc0, hm0, hn0', hc0'⟩ := Rd.ints h0
  clear hn0' hc0'
  unfold maxLen at hm0
  clear h0 b0
  by_cases hl0 : 1048576 < d0.length
  · skip
    go_enter Try.func11, Try.ntmps11
    go_wp2
    go_ret
    exact ⟨rfl, Grow.refl _⟩
  have sm0 : Hid (SmB d0) := Lib.hid (by unfold SmB; omega)
  have KS := Lib.hid (fun (w : World) (v0 : Value) (h0 : RdB w v0 d0) => sum16S_C w v0 d0 h0 B0.out sm0.out)
  have KI := Lib.hid (fun (w : World) (v0 : Value) (h0 : RdB w v0 d0) => sum16I_C w v0 d0 h0 B0.out sm0.out)
  go_enter Try.func11, Try.ntmps11
  go_wp2_with fail
  refine (to_B _ _ _ (H0.out.grow (Grow.refl _)) sm0.out).mono ?_
  rintro e w1 ⟨y0, fpy0, rfl, ho1, hf1, hg1⟩
  have Oy0 := Lib.hid ho1; have Ry0 := Lib.hid ho1.rd; have Fy0 := Lib.hid hf1; have Yy0 := Lib.hid ho1.here; clear ho1 hf1
  have G1_w := Lib.hid hg1
  clear hg1
  go_wp2_with fail
  refine (KS.out _ _ (Ry0.out.grow (Grow.refl _))).mono ?_
  rintro e w2 ⟨rfl, hg2⟩
  have G2_w := Lib.hid (G1_w.out.trans hg2)
  have G2_w1 := Lib.hid hg2
  clear hg2
  go_wp2_with fail
  refine (to_B _ _ _ (H0.out.grow G2_w.out) sm0.out).mono ?_
  rintro e w3 ⟨x0, fpx0, rfl, ho3, hf3, hg3⟩
  have Ox0 := Lib.hid ho3; have Rx0 := Lib.hid ho3.rd; have Fx0 := Lib.hid hf3; have Yx0 := Lib.hid ho3.here; clear ho3 hf3
  have G3_w := Lib.hid (G2_w.out.trans hg3)
  clear hg3
  go_wp2_with fail
  refine (KI.out _ _ (Rx0.out.grow (Grow.refl _))).mono ?_
  rintro e w4 ⟨rfl, hg4⟩
  have G4_w := Lib.hid (G3_w.out.trans hg4)
  have G4_w3 := Lib.hid hg4
  clear hg4
  go_wp2_with fail
  refine (to_B _ _ _ (H0.out.grow G4_w.out) sm0.out).mono ?_
  rintro e w5 ⟨t0, fpt0, rfl, ho5, hf5, hg5⟩
  have Ot0 := Lib.hid ho5; have Rt0 := Lib.hid ho5.rd; have Ft0 := Lib.hid hf5; have Yt0 := Lib.hid ho5.here; clear ho5 hf5
  have G5_w := Lib.hid (G4_w.out.trans hg5)
  have G5_w3 := Lib.hid (G4_w3.out.trans hg5)
  clear hg5
  go_wp2_with fail
  refine (eq_B _ _ _ _ _ (Rx0.out.grow G5_w3.out) (Rt0.out.grow (Grow.refl _))).mono ?_
  rintro e w6 ⟨rfl, hg6⟩
  have G6_w := Lib.hid (G5_w.out.trans hg6)
  have G6_w3 := Lib.hid (G5_w3.out.trans hg6)
  have G6_w5 := Lib.hid hg6
  clear hg6
  go_wp2
  go_ret
  exact ⟨rfl, G6_w.out⟩
--%
end Go.Proofs.Ytgbaaapneddcoaa
