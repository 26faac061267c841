/- FnSum: the walk of the law; the sum of a head that holds its sum. -/
import Derived.Test.YtcldfodnblkeiaaDia
import Derived.Test.YtcldfodnblkeiaaIbs
import Derived.Test.YtcldfodnblkeiaaIbi
import Derived.Test.YtcldfodnblkeiaaUr
import Derived.Test.YtcldfodnblkeiaaOpn
import Derived.WalkKit
import Derived.ProofKit
import Derived.OpenShut
import Derived.ShutString
import Derived.ChangeOld
import Derived.Below
import Derived.SizedLaws
import Derived.WalkSpells
import Derived.Deep.QuietTactic
import Derived.BigQuiet
import Derived.Outline
namespace Go.Proofs.Ytcldfodnblkeiaa
open Go.ChangeShapes Go.WideShapes Go.ChangeAt Go.RowKit
open Go.ChangeMaps (open_string shut_string)
set_option linter.unusedVariables false
set_option linter.unusedSimpArgs false
--%
def wsum : List Int → Int
  | [] => 0
  | [x] => 256 * x
  | x :: y :: r => 256 * x + y + wsum r
theorem redS_k {x : Int} (h1 : 1 ≤ x) (h2 : x ≤ 131070) : ∃ k : Int, redS x = x - 65535 * k ∧ 1 ≤ redS x ∧ redS x ≤ 65535 := by
  by_cases h : 65535 < x
  · exact ⟨1, by rw [redS_hi h]; omega, by rw [redS_hi h]; omega, by rw [redS_hi h]; omega⟩
  · exact ⟨0, by rw [redS_lo h]; omega, by rw [redS_lo h]; omega, by rw [redS_lo h]; omega⟩
theorem s16_k : ∀ (zs : List Int) (s : Int), Bytes zs → 1 ≤ s → s ≤ 65535 → ∃ k : Int, s16 s zs = s + wsum zs - 65535 * k ∧ 1 ≤ s16 s zs ∧ s16 s zs ≤ 65535
  | [], s, _, h1, h2 => ⟨0, by simp [s16, wsum], h1, h2⟩
  | [x], s, hb, h1, h2 => by
    have hx := hb x (by simp)
    obtain ⟨k, e, a, b⟩ := redS_k (x := s + 256 * x) (by omega) (by omega)
    exact ⟨k, by simp only [s16, wsum]; omega, by simpa only [s16] using a, by simpa only [s16] using b⟩
  | x :: y :: r, s, hb, h1, h2 => by
    have hx := hb x (by simp); have hy := hb y (by simp)
    obtain ⟨k, e, a, b⟩ := redS_k (x := s + (256 * x + y)) (by omega) (by omega)
    obtain ⟨k2, e2, a2, b2⟩ := s16_k r (redS (s + (256 * x + y))) (fun z hz => hb z (by simp [hz])) a b
    exact ⟨k + k2, by simp only [s16, wsum]; omega, by simpa only [s16] using a2, by simpa only [s16] using b2⟩
theorem wsum_app : ∀ (a b : List Int), a.length % 2 = 0 → wsum (a ++ b) = wsum a + wsum b
  | [], b, _ => by simp [wsum]
  | [x], b, h => by simp at h
  | x :: y :: r, b, h => by
    have := wsum_app r b (by simp only [List.length_cons] at h; omega)
    simp only [List.cons_append, wsum, this]; omega
theorem wsum_be2 {s : Int} (h : 0 ≤ s ∧ s ≤ 65535) : wsum (beBytes s 2) = s := by
  simp [beBytes, dig, List.range_succ, wsum]
  omega
theorem ihHead_cut (d : IpD) (s : Int) : ihHead d s = 69 :: 0 :: ((beBytes (20 + d.data.length) 2 ++ [0, 0, 0, 0, d.ttl, d.proto]) ++ (beBytes s 2 ++ (beBytes d.src 4 ++ beBytes d.dst 4))) := by
  simp [ihHead, ihMid, ihBase, List.append_assoc]
theorem sum_head (d : IpD) (h : ipOk d = true) : s16 0 (ihHead d (65535 - s16 0 (ihHead d 0))) = 65535 := by
  obtain ⟨k1, k2, _, _, _⟩ := ipOk_iff h
  have h1 := numOk1 k1; have h2 := numOk1 k2
  have hB0 := ihHead_bytes h1 h2 0
  have hs := s16_bd _ 0 hB0 (by decide)
  have r1 : redS (0 + (256 * 69 + 0)) = 17664 := by decide
  have key : ∀ s : Int, 0 ≤ s → s ≤ 65535 → ∃ k : Int, s16 0 (ihHead d s) = 17664 + wsum (beBytes (20 + d.data.length) 2 ++ [0, 0, 0, 0, d.ttl, d.proto]) + s + wsum (beBytes d.src 4 ++ beBytes d.dst 4) - 65535 * k ∧ 1 ≤ s16 0 (ihHead d s) ∧ s16 0 (ihHead d s) ≤ 65535 := by
    intro s s0 s1
    have hB := ihHead_bytes h1 h2 s
    rw [ihHead_cut] at hB ⊢
    simp only [s16, r1]
    obtain ⟨k, e, a, b⟩ := s16_k _ 17664 (fun z hz => hB z (by simp only [List.mem_cons]; exact .inr (.inr hz))) (by decide) (by decide)
    refine ⟨k, ?_, a, b⟩
    rw [e, wsum_app _ _ (by simp [beBytes_length]), wsum_app (beBytes s 2) _ (by simp [beBytes_length]), wsum_be2 ⟨s0, s1⟩]
    omega
  obtain ⟨ka, ea, _, _⟩ := key 0 (by omega) (by omega)
  obtain ⟨kb, eb, b1, b2⟩ := key (65535 - s16 0 (ihHead d 0)) (by omega) (by omega)
  omega
--% walk FnSum 15
set_option maxRecDepth 20000 in
set_option maxHeartbeats 2000000 in
theorem walk_FnSum (w : World) (v0 : Value) (d0 : DatB) (h0 : RdB w v0 d0) (b0 : WfB d0) : Calls Try.prog 15 #[v0] w (RetV (.bool true) w) := by
  have H0 := Lib.hid h0; have B0 : Hid (Bytes d0) := Lib.hid b0
  obtain ⟨a0, c0, rfl, hlc0, hm0, hn0', hc0'⟩ := Rd.ints h0
  clear hn0' hc0' h0 b0
  unfold maxLen at hm0
  by_cases hl0 : 1048576 < d0.length
  · go_enter Try.func15, Try.ntmps15
    go_wp2
    go_ret
    exact ⟨rfl, Grow.refl _⟩
  go_enter Try.func15, Try.ntmps15
  go_wp2_with fail
  refine (drawIpBytes_any _ _ d0 H0.out B0.out (by omega)).mono ?_
  rintro e w1 ⟨V, d, fp, rfl, ⟨v1, rfl, ho⟩, hf, hw, hl, hg⟩
  obtain ⟨av, cv, rfl⟩ := own_shape ho.1
  have RI : Hid (RdIp w1 (.agg #[.int .i64 d.ttl, .int .i64 d.proto, .int .i64 d.src, .int .i64 d.dst, .slice av d.data.length cv]) d) := Lib.hid ⟨_, rfl, ho.rd⟩
  have G1 := Lib.hid hg
  clear ho hf hw hl hg
  go_wp2_with fail
  refine at_world (w := w1) ?G (fun hG => (ipBytesI_any _ _ d (RI.out.grow hG)).mono ?_)
  case G => ((repeat (first | with_reducible exact Grow.refl _ | (with_reducible refine Grow.alloc_ ?_ _) | (with_reducible refine Grow.setCell_ ?_ (by first | exact Nat.le_refl _ | (simp only [World.alloc, Array.size_push]; omega) | omega) _))))
  cases hok : ipOk d
  · rw [ipF_no hok]
    rintro e w2 ⟨vb, fpb, rfl, hb, hfb, hg⟩
    obtain ⟨ab, cb, rfl⟩ := own_shape hb.1
    have B1 := Lib.hid ((Box.alloc w1 _ _).grow hg)
    have G2 := Lib.hid (hG.trans hg)
    clear hb hfb hg hG
    have ⟨q0, q1, q2, q3, q4⟩ := B1.out.five
    have ql := B1.out.1
    go_wp2_with fail
    refine at_world (w := w2) ?G (fun hG => (ipOkS _ _ d (RI.out.grow (G2.out.trans hG))).mono ?_)
    case G => ((repeat (first | with_reducible exact Grow.refl _ | (with_reducible refine Grow.alloc_ ?_ _) | (with_reducible refine Grow.setCell_ ?_ (by first | exact Nat.le_refl _ | (simp only [World.alloc, Array.size_push]; omega) | omega) _))))
    rintro e w3 ⟨rfl, hg⟩
    rw [hok]
    have G3 := Lib.hid (hG.trans hg)
    clear hG hg
    go_wp2
    go_ret
    exact ⟨rfl, G1.out.trans (G2.out.trans G3.out)⟩
  · rw [ipF_yes hok]
    have hL := ihHead_len d (65535 - s16 0 (ihHead d 0))
    have hS := sum_head d hok
    have hBB : Bytes (ihHead d (65535 - s16 0 (ihHead d 0))) := by
      obtain ⟨k1, k2, _, _, _⟩ := ipOk_iff hok
      exact ihHead_bytes (numOk1 k1) (numOk1 k2) _
    have hX : (ipB d).length = 20 + d.data.length ∧ (ipB d).take 20 = ihHead d (65535 - s16 0 (ihHead d 0)) := by
      unfold ipB
      refine ⟨by simp [hL], ?_⟩
      rw [← hL, List.take_left]
    have HX := Lib.hid hX; have HS := Lib.hid hS; have HBB := Lib.hid hBB; have HL := Lib.hid hL
    have hn5 := (ipOk_iff hok).2.2.2.2
    clear hX hS hBB hL
    generalize ihHead d (65535 - s16 0 (ihHead d 0)) = Hd at *
    generalize ipB d = X at *
    rintro e w2 ⟨vb, fpb, rfl, hb, hfb, hg⟩
    change OwnB w2 vb X fpb at hb
    obtain ⟨ab, cb, rfl⟩ := own_shape hb.1
    have RX := Lib.hid hb.rd
    obtain ⟨gb, rfl⟩ := own_some hb.1 (by have := HX.out.1; omega)
    have hcap : 20 ≤ cb := by
      obtain ⟨a', c', e, h1, h2, _, _⟩ := Rd.ints RX.out
      have := HX.out.1
      simp only [Value.slice.injEq] at e
      omega
    have hxl : 20 ≤ X.length := by have := HX.out.1; omega
    have RT : Hid (RdB w2 (.slice (some ⟨gb, 0, none⟩) 20 cb) Hd) := Lib.hid (by
      rw [← HX.out.2]
      exact RdB.cut RX.out 0 20 (by omega) (by omega))
    have B1 := Lib.hid ((Box.alloc w1 _ _).grow hg)
    have G2 := Lib.hid (hG.trans hg)
    clear hb hfb hg hG
    have ⟨q0, q1, q2, q3, q4⟩ := B1.out.five
    have ql := B1.out.1
    go_wp2_with fail
    refine at_world (w := w2) ?G (fun hG => (ipOkS _ _ d (RI.out.grow (G2.out.trans hG))).mono ?_)
    case G => ((repeat (first | with_reducible exact Grow.refl _ | (with_reducible refine Grow.alloc_ ?_ _) | (with_reducible refine Grow.setCell_ ?_ (by first | exact Nat.le_refl _ | (simp only [World.alloc, Array.size_push]; omega) | omega) _))))
    rintro e w3 ⟨rfl, hg⟩
    rw [hok]
    have G3 := Lib.hid (hG.trans hg)
    clear hG hg
    go_wp2_with fail
    refine at_world (w := w3) ?G (fun hG => (sum16I_any _ Hd _ (RT.out.grow (G3.out.trans hG)) HBB.out (by have := HL.out; omega)).mono ?_)
    case G => ((repeat (first | with_reducible exact Grow.refl _ | (with_reducible refine Grow.alloc_ ?_ _) | (with_reducible refine Grow.setCell_ ?_ (by first | exact Nat.le_refl _ | (simp only [World.alloc, Array.size_push]; omega) | omega) _))))
    rintro e w4 ⟨rfl, rfl⟩
    rw [HS.out]
    clear hG
    go_wp2
    go_ret
    exact ⟨rfl, G1.out.trans (G2.out.trans G3.out)⟩
--%
end Go.Proofs.Ytcldfodnblkeiaa
