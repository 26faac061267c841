/- FnHex: the walk of the law. -/
import Derived.Test.YtcldfodnblkeiaaDw
import Derived.Test.YtcldfodnblkeiaaPut
import Derived.Test.YtcldfodnblkeiaaUnhex
import Derived.Test.YtcldfodnblkeiaaOpn
import Derived.WalkKit
import Derived.ProofKit
import Derived.OpenShut
import Derived.ShutString
import Derived.ChangeOld
import Derived.Below
import Derived.SizedLaws
import Derived.WalkSpells
import Derived.Deep.QuietTactic
import Derived.BigQuiet
import Derived.Outline
namespace Go.Proofs.Ytcldfodnblkeiaa
open Go.ChangeShapes Go.WideShapes Go.ChangeAt Go.RowKit
open Go.ChangeMaps (open_string shut_string)
set_option linter.unusedVariables false
set_option linter.unusedSimpArgs false
--%
theorem valBE_be {n : Int} {size : Nat} (h : numOkB n size = true) : valBE (beBytes n size) = n := by
  have h1 : 1 ≤ (size : Int) ∧ (size : Int) ≤ 6 ∧ 0 ≤ n ∧ n < 256 ^ (size : Int).toNat := by simpa [numOkB] using h
  obtain ⟨ha, hb, h0, h2⟩ := h1
  have e : size = 1 ∨ size = 2 ∨ size = 3 ∨ size = 4 ∨ size = 5 ∨ size = 6 := by omega
  rcases e with rfl | rfl | rfl | rfl | rfl | rfl
  all_goals
    simp only [Int.toNat_natCast] at h2
    simp [valBE, beBytes, dig, List.range_succ]
    omega
theorem hexs_at : ∀ (zs : List Int) (i : Nat) (h : i < zs.length), (hexs zs)[2 * i]? = some (hexd (zs[i] / 16)) ∧ (hexs zs)[2 * i + 1]? = some (hexd (zs[i] % 16))
  | [], i, h => absurd h (by simp)
  | x :: r, 0, h => by simp [hexs]
  | x :: r, i + 1, h => by
    have := hexs_at r i (by simpa using h)
    have e1 : 2 * (i + 1) = 2 * i + 1 + 1 := by omega
    rw [e1]
    simpa [hexs] using this
theorem chr_txt {zs : List Int} {i : Nat} {x : Int} (h : zs[i]? = some x) (hx : 0 ≤ x ∧ x < 256) : chr (txt zs) i = x := by
  have hi : i < zs.length := by
    cases Nat.lt_or_ge i zs.length with
    | inl h1 => exact h1
    | inr h1 => rw [List.getElem?_eq_none h1] at h; cases h
  have hz : zs[i] = x := by rw [List.getElem?_eq_getElem hi] at h; exact Option.some.inj h
  rw [chr_at _ _ (by rw [txt_size]; exact hi)]
  have e : (txt zs)[i]'(by rw [txt_size]; exact hi) = UInt8.ofNat x.toNat := by
    simp only [txt, strOfNums, ByteArray.getElem_eq_getElem_data, List.getElem_toArray, List.getElem_map, hz]
  rw [e, UInt8.toNat_ofNat']
  omega
theorem hexd_bd {k : Int} (h0 : 0 ≤ k) (h1 : k < 16) : 0 ≤ hexd k ∧ hexd k < 256 := by unfold hexd; split <;> omega
theorem unhexF_hexs (zs : List Int) (hb : Bytes zs) (hl : zs.length ≤ 1000) : unhexF (txt (hexs zs)) = (zs, true) := by
  have hsz : (txt (hexs zs)).size = 2 * zs.length := by rw [txt_size, hexs_length]
  have hn : ∀ i (h : i < zs.length), nb (txt (hexs zs)) (2 * i) = zs[i] / 16 ∧ nb (txt (hexs zs)) (2 * i + 1) = zs[i] % 16 := by
    intro i h
    have hz := hb.at h
    obtain ⟨g1, g2⟩ := hexs_at zs i h
    have a1 : 0 ≤ zs[i] / 16 ∧ zs[i] / 16 < 16 := by omega
    have a2 : 0 ≤ zs[i] % 16 ∧ zs[i] % 16 < 16 := by omega
    unfold nb
    rw [chr_txt g1 (hexd_bd a1.1 a1.2), chr_txt g2 (hexd_bd a2.1 a2.2)]
    exact ⟨nib_of a1.1 a1.2 rfl, nib_of a2.1 a2.2 rfl⟩
  have hp : HexP (txt (hexs zs)) := by
    refine ⟨by rw [hsz]; omega, by rw [hsz]; omega, fun i hi => ?_⟩
    rw [hsz] at hi
    have hz := hb.at (k := i / 2) (by omega)
    have := hn (i / 2) (by omega)
    rcases Nat.mod_two_eq_zero_or_one i with e | e
    · rw [show i = 2 * (i / 2) by omega, this.1]; omega
    · rw [show i = 2 * (i / 2) + 1 by omega, this.2]; omega
  rw [unhexF_yes hp, hsz, show 2 * zs.length / 2 = zs.length by omega]
  have e : unh (txt (hexs zs)) zs.length = zs := by
    apply List.ext_getElem
    · rw [unh_length]
    · intro i h1 h2
      have hz := hb.at h2
      have := hn i h2
      simp only [unh, List.getElem_map, List.getElem_range]
      rw [this.1, this.2]; omega
  rw [e]
/-- What GetNum tells. -/
def gnF (zs : List Int) (at_ size : Int) : Int × Bool := if 1 ≤ size ∧ size ≤ 6 ∧ 0 ≤ at_ ∧ at_ ≤ zs.length - size then (valBE ((zs.drop at_.toNat).take size.toNat), true) else (0, false)
--% gn 76
theorem gnI_any (v : Value) (zs : List Int) (at_ size : Int) (w : World) (h : Rd w 1 v (zs.map (Value.int .u8))) (hb : Bytes zs) (hw : I64 size) :
    Calls Try.prog 76 #[v, .int .i64 at_, .int .i64 size] w (Ret2Int (gnF zs at_ size).1 (gnF zs at_ size).2 w) := by
  by_cases hc : 1 ≤ size ∧ size ≤ 6 ∧ 0 ≤ at_ ∧ at_ ≤ zs.length - size
  · have e : gnF zs at_ size = (valBE ((zs.drop at_.toNat).take size.toNat), true) := by unfold gnF; rw [if_pos hc]
    rw [e]
    obtain ⟨k, rfl⟩ := Int.eq_ofNat_of_zero_le (show 0 ≤ size by omega)
    obtain ⟨j, rfl⟩ := Int.eq_ofNat_of_zero_le (show 0 ≤ at_ by omega)
    exact getNumI_yes v zs j k w h hb (by omega) (by omega) (by omega)
  · have e : gnF zs at_ size = (0, false) := by unfold gnF; rw [if_neg hc]
    rw [e]
    exact getNumI_no v zs at_ size w h hw hc
--% DrawPutNum 71
/-- A drawn row and two numbers. -/
def RetDPN (w : World) (e : Ending) (w' : World) : Prop := ∃ v zs fp n size, e = .returned (.tuple #[v, .int .i64 n, .int .i64 size]) ∧ OwnB w' v zs fp ∧ Fresh w fp ∧ Bytes zs ∧ zs.length ≤ 60000 ∧ I64 n ∧ I64 size ∧ Grow w w'
set_option maxRecDepth 20000 in
set_option maxHeartbeats 2000000 in
theorem drawPutNum_any (w : World) (v : Value) (cs : List Int) (h : RdB w v cs) (hb : Bytes cs) (hm : cs.length ≤ 1048576) : Calls Try.prog 71 #[v] w (RetDPN w) := by
  have HV := Lib.hid h; have HB : Hid (Bytes cs) := Lib.hid hb
  clear h hb
  go_enter Try.func71, Try.ntmps71
  go_wp2_with fail
  refine (l01New_any _ _ cs HV.out HB.out hm).mono ?_
  rintro e w1 ⟨p, rfl, hC, hp, hg⟩
  have C1 := Lib.hid hC; have P1 := Lib.hid hp; have G1 := Lib.hid hg; have L1 := Lib.hid hC.lt
  clear hC hp hg
  go_wp2_with fail
  refine (l01Bytes_any _ p 12 (by decide) C1.out).mono ?_
  rintro e w2 ⟨vb, zs, fp, rfl, ho, hf, hzb, hzl, hC, hU⟩
  obtain ⟨ab, cb, rfl⟩ := own_shape ho.1
  have C2 := Lib.hid hC; have U2 := Lib.hid hU; have O2 := Lib.hid ho; have ZB := Lib.hid hzb
  have F2 : Hid (∀ x ∈ fp, p < x) := Lib.hid (fun x hx => Nat.lt_of_lt_of_le L1.out (hf x hx))
  have ZL : Hid (zs.length ≤ 60000) := Lib.hid (by omega)
  clear hC hU ho hf hzb hzl
  go_wp2_with fail
  refine (l01Below_any _ p 20 (by decide) C2.out).mono ?_
  rintro e w3 ⟨x3, rfl, h3a, h3b, -, hC, hU⟩
  have h3b := h3b (by decide)
  have C3 := Lib.hid hC; have U3 := Lib.hid (U2.out.same hU); have O3 := Lib.hid (O2.out.upd hU (fun x hx hm => by have := F2.out x hx; simp only [List.mem_cons, List.not_mem_nil, or_false] at hm; omega))
  clear hC hU
  by_cases c3 : x3 = 0
  rotate_left
  · have hc3 : (x3 == 0) = false := by simpa using c3
    go_wp2_with fail
    refine (l01Raw_any _ p C3.out).mono ?_
    rintro e w4 ⟨x4, rfl, h4, hC, hU⟩
    have C4 := Lib.hid hC; have U4 := Lib.hid (U3.out.same hU); have O4 := Lib.hid (O3.out.upd hU (fun x hx hm => by have := F2.out x hx; simp only [List.mem_cons, List.not_mem_nil, or_false] at hm; omega)); have H4 := Lib.hid h4
    clear hC hU h4
    go_wp2_with fail
    refine (l01Below_any _ p 6 (by decide) C4.out).mono ?_
    rintro e w5 ⟨x5, rfl, h5a, h5b, -, hC, hU⟩
    have h5b := h5b (by decide)
    have C5 := Lib.hid hC; have U5 := Lib.hid (U4.out.same hU); have O5 := Lib.hid (O4.out.upd hU (fun x hx hm => by have := F2.out x hx; simp only [List.mem_cons, List.not_mem_nil, or_false] at hm; omega))
    clear hC hU
    go_wp2_with fail
    refine (l01Below_any _ p 9 (by decide) C5.out).mono ?_
    rintro e w6 ⟨x6, rfl, h6a, h6b, -, hC, hU⟩
    have h6b := h6b (by decide)
    have C6 := Lib.hid hC; have U6 := Lib.hid (U5.out.same hU); have O6 := Lib.hid (O5.out.upd hU (fun x hx hm => by have := F2.out x hx; simp only [List.mem_cons, List.not_mem_nil, or_false] at hm; omega))
    clear hC hU
    by_cases c0 : x6 = 0
    · subst c0
      go_wp2_with fail
      refine (l01Raw_any _ p C6.out).mono ?_
      rintro e w7 ⟨x7, rfl, h7, hC, hU⟩
      have C7 := Lib.hid hC; have U7 := Lib.hid (U6.out.same hU); have O7 := Lib.hid (O6.out.upd hU (fun x hx hm => by have := F2.out x hx; simp only [List.mem_cons, List.not_mem_nil, or_false] at hm; omega)); have H7 := Lib.hid h7
      clear hC hU h7
      go_wp2
      refine bodyPost_ret (v := .tuple #[.slice ab zs.length cb, .int .i64 x4, .int .i64 x7]) ?_ rfl ?_
      · simp [results, Try.results71, go_sem]
      exact ⟨_, zs, fp, _, _, rfl, O7.out, fun x hx => Nat.le_of_lt (Nat.lt_of_le_of_lt P1.out (F2.out x hx)), ZB.out, ZL.out, H4.out, H7.out, G1.out.then_upd U7.out (by intro x hx; have := P1.out; simp only [List.mem_cons, List.not_mem_nil, or_false] at hx; omega)⟩

    · have hc0 : (x6 == 0) = false := by simpa using c0
      go_wp2
      refine bodyPost_ret (v := .tuple #[.slice ab zs.length cb, .int .i64 x4, .int .i64 (1 + x5)]) ?_ rfl ?_
      · simp [results, Try.results71, go_sem]
      exact ⟨_, zs, fp, _, _, rfl, O6.out, fun x hx => Nat.le_of_lt (Nat.lt_of_le_of_lt P1.out (F2.out x hx)), ZB.out, ZL.out, H4.out, (by unfold I64; omega), G1.out.then_upd U6.out (by intro x hx; have := P1.out; simp only [List.mem_cons, List.not_mem_nil, or_false] at hx; omega)⟩

  subst c3
  go_wp2_with fail
  refine (l01Below_any _ p 8 (by decide) C3.out).mono ?_
  rintro e w4 ⟨x4, rfl, h4a, h4b, -, hC, hU⟩
  have h4b := h4b (by decide)
  have C4 := Lib.hid hC; have U4 := Lib.hid (U3.out.same hU); have O4 := Lib.hid (O3.out.upd hU (fun x hx hm => by have := F2.out x hx; simp only [List.mem_cons, List.not_mem_nil, or_false] at hm; omega))
  clear hC hU
  obtain ⟨m, hm4⟩ : ∃ m : Nat, (60000 : Int) - x4 = m := ⟨(60000 - x4).toNat, by omega⟩
  have hmb : m ≤ 60000 := by omega
  obtain ⟨i0, hi, hz0, hz1, hz2⟩ := info_parts Try.infoU8
  go_wp2_with (refine wpList_make_full _ rfl _ _ 22 rfl w4.heap.size 5 i0 (.int .u8 0) 1 Try.underlying22 hi hz0 hz1 .i64 .i64 _ _ m rfl rfl rfl rfl (by rw [hz2]; omega) (by unfold maxLen; omega) (Nat.le_refl _) ?_; intro w5 hown hgr)
  have hgw := Grow.of_grown hgr
  have ho5 : w5.ownsRow w4.heap.size 5 1 (.slice (some ⟨w4.heap.size, 0, none⟩) m m) m ((List.replicate m (0 : Int)).map (Value.int .u8)) := by
    rw [List.map_replicate, ← toList_madeCells_one]
    simpa [Value.cells] using hown
  have ho5 : OwnB w5 (.slice (some ⟨w4.heap.size, 0, none⟩) m m) (List.replicate m (0 : Int)) [w4.heap.size] := by
    have e : (List.replicate m (0 : Int)).length = m := by simp
    have := (OwnR.of ho5).1
    unfold OwnB
    rw [e]
    exact this
  have C5 := Lib.hid (C4.out.grow hgw); have U5 := Lib.hid (U4.out.grow_ hgw); have O5 := Lib.hid ho5
  have F2 : Hid (∀ x ∈ [w4.heap.size], p < x) := Lib.hid (fun x hx => by have := C4.out.lt; simp only [List.mem_cons, List.not_mem_nil, or_false] at hx; omega)
  have ZB : Hid (Bytes (List.replicate m (0 : Int))) := Lib.hid (fun x hx => by have := List.eq_of_mem_replicate hx; omega)
  have ZL : Hid ((List.replicate m (0 : Int)).length ≤ 60000) := Lib.hid (by simp; exact hmb)
  clear hown hgr hgw ho5
  go_wp2_with fail
  refine (l01Raw_any _ p C5.out).mono ?_
  rintro e w6 ⟨x6, rfl, h6, hC, hU⟩
  have C6 := Lib.hid hC; have U6 := Lib.hid (U5.out.same hU); have O6 := Lib.hid (O5.out.upd hU (fun x hx hm => by have := F2.out x hx; simp only [List.mem_cons, List.not_mem_nil, or_false] at hm; omega)); have H6 := Lib.hid h6
  clear hC hU h6
  go_wp2_with fail
  refine (l01Below_any _ p 6 (by decide) C6.out).mono ?_
  rintro e w7 ⟨x7, rfl, h7a, h7b, -, hC, hU⟩
  have h7b := h7b (by decide)
  have C7 := Lib.hid hC; have U7 := Lib.hid (U6.out.same hU); have O7 := Lib.hid (O6.out.upd hU (fun x hx hm => by have := F2.out x hx; simp only [List.mem_cons, List.not_mem_nil, or_false] at hm; omega))
  clear hC hU
  go_wp2_with fail
  refine (l01Below_any _ p 9 (by decide) C7.out).mono ?_
  rintro e w8 ⟨x8, rfl, h8a, h8b, -, hC, hU⟩
  have h8b := h8b (by decide)
  have C8 := Lib.hid hC; have U8 := Lib.hid (U7.out.same hU); have O8 := Lib.hid (O7.out.upd hU (fun x hx hm => by have := F2.out x hx; simp only [List.mem_cons, List.not_mem_nil, or_false] at hm; omega))
  clear hC hU
  by_cases c0 : x8 = 0
  · subst c0
    go_wp2_with fail
    refine (l01Raw_any _ p C8.out).mono ?_
    rintro e w9 ⟨x9, rfl, h9, hC, hU⟩
    have C9 := Lib.hid hC; have U9 := Lib.hid (U8.out.same hU); have O9 := Lib.hid (O8.out.upd hU (fun x hx hm => by have := F2.out x hx; simp only [List.mem_cons, List.not_mem_nil, or_false] at hm; omega)); have H9 := Lib.hid h9
    clear hC hU h9
    go_wp2
    refine bodyPost_ret (v := .tuple #[.slice (some ⟨w4.heap.size, 0, none⟩) m m, .int .i64 x6, .int .i64 x9]) ?_ rfl ?_
    · simp [results, Try.results71, go_sem]
    exact ⟨_, List.replicate m 0, [w4.heap.size], _, _, rfl, O9.out, fun x hx => Nat.le_of_lt (Nat.lt_of_le_of_lt P1.out (F2.out x hx)), ZB.out, ZL.out, H6.out, H9.out, G1.out.then_upd U9.out (by intro x hx; have := P1.out; simp only [List.mem_cons, List.not_mem_nil, or_false] at hx; omega)⟩

  · have hc0 : (x8 == 0) = false := by simpa using c0
    go_wp2
    refine bodyPost_ret (v := .tuple #[.slice (some ⟨w4.heap.size, 0, none⟩) m m, .int .i64 x6, .int .i64 (1 + x7)]) ?_ rfl ?_
    · simp [results, Try.results71, go_sem]
    exact ⟨_, List.replicate m 0, [w4.heap.size], _, _, rfl, O8.out, fun x hx => Nat.le_of_lt (Nat.lt_of_le_of_lt P1.out (F2.out x hx)), ZB.out, ZL.out, H6.out, (by unfold I64; omega), G1.out.then_upd U8.out (by intro x hx; have := P1.out; simp only [List.mem_cons, List.not_mem_nil, or_false] at hx; omega)⟩

--% walk FnHex 19
theorem gn_back {zs : List Int} {n : Int} {k : Nat} (h : numOkB n k = true) : gnF (zs ++ beBytes n k) zs.length k = (n, true) := by
  have h1 : 1 ≤ (k : Int) ∧ (k : Int) ≤ 6 ∧ 0 ≤ n ∧ n < 256 ^ (k : Int).toNat := by simpa [numOkB] using h
  unfold gnF
  rw [if_pos (by simp [beBytes_length]; omega)]
  simp only [Int.toNat_natCast, List.drop_left]
  rw [List.take_of_length_le (by rw [beBytes_length]; exact Nat.le_refl _), valBE_be h]
set_option maxRecDepth 20000 in
set_option maxHeartbeats 2000000 in
theorem walk_FnHex (w : World) (v0 : Value) (d0 : DatB) (h0 : RdB w v0 d0) (b0 : WfB d0) : Calls Try.prog 19 #[v0] w (RetV (.bool true) w) := by
  have H0 := Lib.hid h0; have B0 : Hid (Bytes d0) := Lib.hid b0
  obtain ⟨a0, c0, rfl, hlc0, hm0, hn0', hc0'⟩ := Rd.ints h0
  clear hn0' hc0' h0 b0
  unfold maxLen at hm0
  by_cases hl0 : 1048576 < d0.length
  · go_enter Try.func19, Try.ntmps19
    go_wp2
    go_ret
    exact ⟨rfl, Grow.refl _⟩
  go_enter Try.func19, Try.ntmps19
  go_wp2_with fail
  refine (drawPutNum_any _ _ d0 H0.out B0.out (by omega)).mono ?_
  rintro e w1 ⟨vb, zs, fp, n, size, rfl, ho, hf, hzb, hzl, hn, hs, hg⟩
  obtain ⟨ab, cb, rfl⟩ := own_shape ho.1
  have RB := Lib.hid ho.rd; have ZB := Lib.hid hzb; have G1 := Lib.hid hg; have NI := Lib.hid hn; have SI := Lib.hid hs
  clear ho hf hzb hn hs hg
  by_cases h100 : zs.length < 100
  rotate_left
  · have GG1 := Lib.hid (Grow.refl w1)
    by_cases hok : numOkB n size = true ∧ zs.length + size ≤ 60000
    · have h1 : 1 ≤ size ∧ size ≤ 6 ∧ 0 ≤ n ∧ n < 256 ^ size.toNat := by simpa [numOkB] using hok.1
      obtain ⟨k, rfl⟩ := Int.eq_ofNat_of_zero_le (show 0 ≤ size by omega)
      have e : putF zs n k = (zs ++ beBytes n k, true) := by unfold putF; rw [if_pos hok]; simp
      have eg := gn_back (zs := zs) hok.1
      have PI := Lib.hid (putNumI_any _ zs n k w1 (RB.out.grow (GG1.out)) SI.out.2 (by omega))
      rw [e] at PI
      have hbx : Bytes (zs ++ beBytes n k) := ZB.out.app (beBytes_bytes n k)
      have hlx : (zs ++ beBytes n k).length = zs.length + k := by simp [beBytes_length]
      have GX := Lib.hid (fun (v : Value) (w' : World) (hr : RdB w' v (zs ++ beBytes n k)) => gnI_any v _ zs.length k w' hr hbx SI.out)
      rw [eg] at GX
      have PS := Lib.hid (fun (w' : World) (g : Grow w1 w') => putNumS_any _ zs n k w' (RB.out.grow ((GG1.out).trans g)) SI.out.2 (by omega))
      simp only [e] at PS
      have HLX := Lib.hid hlx
      have hk6 : k ≤ 6 := by omega
      clear e eg hbx h1 hok hlx
      generalize zs ++ beBytes n k = X at *
      go_wp2_with fail
      refine PI.out.mono ?_
      rintro e wa ⟨vo, rfl, hown, hga⟩
      obtain ⟨ao, co, rfl⟩ := own_shape hown
      have RX : Hid (RdB wa (.slice ao X.length co) X) := Lib.hid (Rd.of_own hown)
      have GA := Lib.hid hga
      clear hown hga
      go_wp2_with fail
      refine (PS.out _ GA.out).mono ?_
      rintro e wb ⟨vo2, rfl, hown, hgb⟩
      have GB := Lib.hid hgb
      clear hown hgb
      go_wp2_with fail
      refine (GX.out _ _ (RX.out.grow GB.out)).mono ?_
      rintro e wc ⟨rfl, rfl⟩
      go_wp2
      go_ret
      exact ⟨ret_bool (by simp [HLX.out]), G1.out.trans ((GA.out.trans GB.out))⟩
    · have e : putF zs n size = ([], false) := by unfold putF; rw [if_neg hok]
      have PI := Lib.hid (putNumI_any _ zs n size w1 (RB.out.grow (GG1.out)) SI.out.2 (by omega))
      rw [e] at PI
      have GX := Lib.hid (fun (v : Value) (w' : World) (hr : RdB w' v []) => gnI_any v _ zs.length size w' hr (fun x hx => by cases hx) SI.out)
      obtain ⟨Y, hY⟩ : ∃ Y, gnF [] zs.length size = Y := ⟨_, rfl⟩
      rw [hY] at GX
      have PS := Lib.hid (fun (w' : World) (g : Grow w1 w') => putNumS_any _ zs n size w' (RB.out.grow ((GG1.out).trans g)) SI.out.2 (by omega))
      simp only [e] at PS
      clear e hok hY
      go_wp2_with fail
      refine PI.out.mono ?_
      rintro e wa ⟨vo, rfl, hown, hga⟩
      obtain ⟨ao, co, rfl⟩ := own_shape hown
      have RX : Hid (RdB wa (.slice ao 0 co) []) := Lib.hid (Rd.of_own hown)
      have GA := Lib.hid hga
      clear hown hga
      go_wp2_with fail
      refine (PS.out _ GA.out).mono ?_
      rintro e wb ⟨vo2, rfl, hown, hgb⟩
      have GB := Lib.hid hgb
      clear hown hgb
      go_wp2_with fail
      refine (GX.out _ _ (RX.out.grow GB.out)).mono ?_
      rintro e wc ⟨rfl, rfl⟩
      go_wp2
      go_ret
      exact ⟨ret_bool (by simp), G1.out.trans ((GA.out.trans GB.out))⟩

  go_wp2_with fail
  refine (hexOfI_any _ zs _ RB.out ZB.out (by omega)).mono ?_
  rintro e w2 ⟨rfl, hg⟩
  have G2 := Lib.hid hg; clear hg
  have hsz : (txt (hexs zs)).size ≤ 9223372036854775807 := by rw [txt_size, hexs_length]; omega
  have UH := Lib.hid (unhexI_any w2 (txt (hexs zs)) hsz)
  rw [unhexF_hexs zs ZB.out (by omega)] at UH
  clear hsz
  generalize txt (hexs zs) = S at *
  go_wp2_with fail
  refine UH.out.mono ?_
  rintro e w3 ⟨vk, fpk, rfl, hok, hfk, hg⟩
  obtain ⟨ak, ck, rfl⟩ := own_shape hok.1
  have GG3 := Lib.hid (G2.out.trans hg)
  have cv1 := run_txt (P := Try.prog) Try.underlying22 Try.underlying5 Try.underlying9 hok.rd
  have cv2 := run_txt (P := Try.prog) Try.underlying22 Try.underlying5 Try.underlying9 (RB.out.grow GG3.out)
  clear hok hfk hg UH
  generalize txt zs = S2 at *
  by_cases hok : numOkB n size = true ∧ zs.length + size ≤ 60000
  · have h1 : 1 ≤ size ∧ size ≤ 6 ∧ 0 ≤ n ∧ n < 256 ^ size.toNat := by simpa [numOkB] using hok.1
    obtain ⟨k, rfl⟩ := Int.eq_ofNat_of_zero_le (show 0 ≤ size by omega)
    have e : putF zs n k = (zs ++ beBytes n k, true) := by unfold putF; rw [if_pos hok]; simp
    have eg := gn_back (zs := zs) hok.1
    have PI := Lib.hid (putNumI_any _ zs n k w3 (RB.out.grow (GG3.out)) SI.out.2 (by omega))
    rw [e] at PI
    have hbx : Bytes (zs ++ beBytes n k) := ZB.out.app (beBytes_bytes n k)
    have hlx : (zs ++ beBytes n k).length = zs.length + k := by simp [beBytes_length]
    have GX := Lib.hid (fun (v : Value) (w' : World) (hr : RdB w' v (zs ++ beBytes n k)) => gnI_any v _ zs.length k w' hr hbx SI.out)
    rw [eg] at GX
    have PS := Lib.hid (fun (w' : World) (g : Grow w3 w') => putNumS_any _ zs n k w' (RB.out.grow ((GG3.out).trans g)) SI.out.2 (by omega))
    simp only [e] at PS
    have HLX := Lib.hid hlx
    have hk6 : k ≤ 6 := by omega
    clear e eg hbx h1 hok hlx
    generalize zs ++ beBytes n k = X at *
    go_wp2_with fail
    refine PI.out.mono ?_
    rintro e wa ⟨vo, rfl, hown, hga⟩
    obtain ⟨ao, co, rfl⟩ := own_shape hown
    have RX : Hid (RdB wa (.slice ao X.length co) X) := Lib.hid (Rd.of_own hown)
    have GA := Lib.hid hga
    clear hown hga
    go_wp2_with fail
    refine (PS.out _ GA.out).mono ?_
    rintro e wb ⟨vo2, rfl, hown, hgb⟩
    have GB := Lib.hid hgb
    clear hown hgb
    go_wp2_with fail
    refine (GX.out _ _ (RX.out.grow GB.out)).mono ?_
    rintro e wc ⟨rfl, rfl⟩
    go_wp2
    go_ret
    exact ⟨ret_bool (by simp [HLX.out]), G1.out.trans (GG3.out.trans (GA.out.trans GB.out))⟩
  · have e : putF zs n size = ([], false) := by unfold putF; rw [if_neg hok]
    have PI := Lib.hid (putNumI_any _ zs n size w3 (RB.out.grow (GG3.out)) SI.out.2 (by omega))
    rw [e] at PI
    have GX := Lib.hid (fun (v : Value) (w' : World) (hr : RdB w' v []) => gnI_any v _ zs.length size w' hr (fun x hx => by cases hx) SI.out)
    obtain ⟨Y, hY⟩ : ∃ Y, gnF [] zs.length size = Y := ⟨_, rfl⟩
    rw [hY] at GX
    have PS := Lib.hid (fun (w' : World) (g : Grow w3 w') => putNumS_any _ zs n size w' (RB.out.grow ((GG3.out).trans g)) SI.out.2 (by omega))
    simp only [e] at PS
    clear e hok hY
    go_wp2_with fail
    refine PI.out.mono ?_
    rintro e wa ⟨vo, rfl, hown, hga⟩
    obtain ⟨ao, co, rfl⟩ := own_shape hown
    have RX : Hid (RdB wa (.slice ao 0 co) []) := Lib.hid (Rd.of_own hown)
    have GA := Lib.hid hga
    clear hown hga
    go_wp2_with fail
    refine (PS.out _ GA.out).mono ?_
    rintro e wb ⟨vo2, rfl, hown, hgb⟩
    have GB := Lib.hid hgb
    clear hown hgb
    go_wp2_with fail
    refine (GX.out _ _ (RX.out.grow GB.out)).mono ?_
    rintro e wc ⟨rfl, rfl⟩
    go_wp2
    go_ret
    exact ⟨ret_bool (by simp), G1.out.trans (GG3.out.trans (GA.out.trans GB.out))⟩

--%
end Go.Proofs.Ytcldfodnblkeiaa
