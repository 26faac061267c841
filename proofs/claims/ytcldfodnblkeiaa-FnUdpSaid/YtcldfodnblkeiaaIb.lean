/- IpBytes: contracts of the code. -/
import Derived.Test.YtcldfodnblkeiaaUb
import Derived.Test.YtcldfodnblkeiaaPok
import Derived.WalkKit
import Derived.ProofKit
import Derived.Deep.QuietTactic
import Derived.BigQuiet
import Derived.Outline
import Derived.WalkSpells
namespace Go.Proofs.Ytcldfodnblkeiaa
open Go.ChangeShapes Go.WideShapes Go.ChangeAt Go.RowKit
set_option linter.unusedVariables false
set_option linter.unusedSimpArgs false
--%
def ihBase (d : IpD) : List Int := [69, 0] ++ beBytes (20 + d.data.length) 2
def ihMid (d : IpD) : List Int := ihBase d ++ [0, 0, 0, 0, d.ttl, d.proto]
def ihHead (d : IpD) (s : Int) : List Int := ihMid d ++ beBytes s 2 ++ beBytes d.src 4 ++ beBytes d.dst 4
def ipB (d : IpD) : List Int := ihHead d (65535 - s16 0 (ihHead d 0)) ++ d.data
def ipF (d : IpD) : List Int × Bool := if ipOk d = true then (ipB d, true) else ([], false)
theorem ipF_yes {d : IpD} (h : ipOk d = true) : ipF d = (ipB d, true) := by simp [ipF, h]
theorem ipF_no {d : IpD} (h : ipOk d = false) : ipF d = ([], false) := by simp [ipF, h]
theorem ihBase_len (d : IpD) : (ihBase d).length = 4 := by simp [ihBase, beBytes_length]
theorem ihMid_len (d : IpD) : (ihMid d).length = 10 := by simp [ihMid, ihBase_len]
theorem ihHead_len (d : IpD) (s : Int) : (ihHead d s).length = 20 := by simp [ihHead, ihMid_len, beBytes_length]
theorem numOk1 {n : Int} (h : numOkB n 1 = true) : 0 ≤ n ∧ n ≤ 255 := by
  have e : (256 : Int) ^ (1 : Int).toNat = 256 := by decide
  unfold numOkB at h; rw [e] at h; simp at h; omega
theorem ipOk_iff {d : IpD} (h : ipOk d = true) : numOkB d.ttl 1 = true ∧ numOkB d.proto 1 = true ∧ numOkB d.src 4 = true ∧ numOkB d.dst 4 = true ∧ d.data.length ≤ 1480 := by simpa [ipOk] using h
--% l03Head 90
set_option maxHeartbeats 1000000 in
theorem l03Head_any (w : World) (V : Value) (d : IpD) (s : Int) (h : RdIp w V d) (hd : d.data.length ≤ 1480) (h1 : 0 ≤ d.ttl ∧ d.ttl ≤ 255) (h2 : 0 ≤ d.proto ∧ d.proto ≤ 255) (h3 : numOkB d.src 4 = true) (h4 : numOkB d.dst 4 = true) (hs : 0 ≤ s ∧ s ≤ 65535) :
    Calls Try.prog 90 #[V, .int .i64 s] w (RetNew OwnB (ihHead d s) w) := by
  obtain ⟨v, rfl, hv⟩ := h
  obtain ⟨a, c, rfl, hlc, hm, -, -⟩ := Rd.ints hv
  clear hv
  unfold maxLen at hm
  have N1 := Lib.hid h3; have N2 := Lib.hid h4
  have hbl := ihBase_len d
  have HQ : Hid (ihHead d s = ihBase d ++ [0, 0, 0, 0, d.ttl, d.proto] ++ beBytes s 2 ++ beBytes d.src 4 ++ beBytes d.dst 4) := Lib.hid rfl
  have HBase : Hid ([69, 0] ++ beBytes (20 + d.data.length) 2 = ihBase d) := Lib.hid rfl
  clear h3 h4
  generalize ihHead d s = zr at *
  generalize ihBase d = zb at *
  go_enter Try.func90, Try.ntmps90
  go_wp2_with fail
  have RL : RdB ((w.alloc (.cells #[.int .i64 d.ttl, .int .i64 d.proto, .int .i64 d.src, .int .i64 d.dst, .slice a d.data.length c] 47)).alloc (.cells #[.int .u8 69, .int .u8 0] 5)) (.slice (some ⟨w.heap.size + 1, 0, none⟩) 2 2) [69, 0] := by
    have := rd_built (w.alloc (.cells #[.int .i64 d.ttl, .int .i64 d.proto, .int .i64 d.src, .int .i64 d.dst, .slice a d.data.length c] 47)) 5 1 2 [Value.int .u8 69, .int .u8 0] rfl (by decide)
    rw [show (w.alloc (.cells #[.int .i64 d.ttl, .int .i64 d.proto, .int .i64 d.src, .int .i64 d.dst, .slice a d.data.length c] 47)).heap.size = w.heap.size + 1 by simp only [World.alloc, Array.size_push]] at this
    exact this
  have RL := Lib.hid RL
  have GW := Lib.hid ((Grow.alloc w (.cells #[.int .i64 d.ttl, .int .i64 d.proto, .int .i64 d.src, .int .i64 d.dst, .slice a d.data.length c] 47)).trans (Grow.alloc _ (.cells #[.int .u8 69, .int .u8 0] 5)))
  have B0 := Lib.hid ((Box.alloc w [.int .i64 d.ttl, .int .i64 d.proto, .int .i64 d.src, .int .i64 d.dst, .slice a d.data.length c] 47).grow (Grow.alloc _ (.cells #[.int .u8 69, .int .u8 0] 5)))
  generalize (w.alloc (.cells #[.int .i64 d.ttl, .int .i64 d.proto, .int .i64 d.src, .int .i64 d.dst, .slice a d.data.length c] 47)).alloc (.cells #[.int .u8 69, .int .u8 0] 5) = W0 at *
  refine (putS_yes _ _ [69, 0] (20 + d.data.length) 2 RL.out (numOk2 (by omega) (by omega)) (by simp)).mono ?_
  rintro e w4 ⟨v4, fp4, rfl, ho, hf, hg⟩
  have A4 : Hid (Acc W0 w4 v4 zb) := Lib.hid (by rw [← HBase.out]; exact Acc.of_own hg ho hf)
  have B3 := Lib.hid B0.out.1
  have B0 := Lib.hid (B0.out.grow hg)
  clear ho hf hg RL
  have ⟨c0, c1, c2, c3, c4⟩ := B0.out.five
  have A5 := Lib.hid (A4.out.grow (Grow.alloc w4 (.cells #[.int .u8 0, .int .u8 0, .int .u8 0, .int .u8 0, .int .u8 d.ttl, .int .u8 d.proto] 5)))
  go_wp2_with (first | (at_builtin; refine wpl_append Try.elemU8 rfl _ _ rfl W0.heap.size rfl A5.out.2 6 rfl (rd_built _ _ 1 6 [Value.int .u8 0, .int .u8 0, .int .u8 0, .int .u8 0, .int .u8 d.ttl, .int .u8 d.proto] rfl (by decide)) rfl (oneCell_ints .u8 [_, _, _, _, _, _]) (by omega) (by unfold maxLen; omega) A5.out.1.size ?_; intro v5 w5 hown hgr hmv; clear c0 c1 c2 c3 c4; have A6 : Hid (Acc W0 w5 v5 (zb ++ [0, 0, 0, 0, d.ttl, d.proto])) := Lib.hid (A5.out.onto hown hgr); have BB := Lib.hid ((B0.out.grow (Grow.alloc _ _)).upd (Upd.of_grown hgr) (fun hm => by have h1 := A5.out.own.2 _ hm; have h2 := B3.out; omega)); have ⟨c0, c1, c2, c3, c4⟩ := BB.out.five; clear hown hgr hmv A5) | fail)
  refine (putS_yes _ _ _ s 2 A6.out.rd (numOk2 (by omega) (by omega)) (by simp; omega)).mono ?_
  rintro e w6 ⟨v6, fp6, rfl, ho, hf, hg⟩
  have R6 := Lib.hid ho.rd; have G6 := Lib.hid ((GW.out.trans A6.out.1).trans hg); have BB := Lib.hid (BB.out.grow hg)
  clear ho hf hg c0 c1 c2 c3 c4
  have ⟨c0, c1, c2, c3, c4⟩ := BB.out.five
  go_wp2_with fail
  refine (putS_yes _ _ _ d.src 4 R6.out N1.out (by simp [beBytes_length]; omega)).mono ?_
  rintro e w7 ⟨v7, fp7, rfl, ho, hf, hg⟩
  have R7 := Lib.hid ho.rd; have G7 := Lib.hid (G6.out.trans hg); have BB := Lib.hid (BB.out.grow hg)
  clear ho hf hg c0 c1 c2 c3 c4 R6
  have ⟨c0, c1, c2, c3, c4⟩ := BB.out.five
  go_wp2_with fail
  refine (putS_yes _ _ _ d.dst 4 R7.out N2.out (by simp [beBytes_length]; omega)).mono ?_
  rintro e w8 ⟨v8, fp8, rfl, ho, hf, hg⟩
  have HO := Lib.hid ho; have HF := Lib.hid (hf.older G7.out); have G8 := Lib.hid (G7.out.trans hg)
  clear ho hf hg c0 c1 c2 c3 c4 R7
  go_wp2
  go_ret
  exact ⟨_, fp8, rfl, by rw [HQ.out]; exact HO.out, HF.out, G8.out⟩
--%
end Go.Proofs.Ytcldfodnblkeiaa
