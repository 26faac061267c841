/- The draws of datagrams: contracts that tell only bounds, the second half (printed by gdi.py). -/
import Derived.Test.YtcldfodnblkeiaaDi
import Derived.Test.YtcldfodnblkeiaaFk
import Derived.WalkKit
import Derived.ProofKit
import Derived.Deep.QuietTactic
import Derived.BigQuiet
import Derived.Outline
import Derived.WalkSpells
namespace Go.Proofs.Ytcldfodnblkeiaa
open Go.ChangeShapes Go.WideShapes Go.ChangeAt Go.RowKit
set_option linter.unusedVariables false
set_option linter.unusedSimpArgs false
--% l03Any 97
set_option maxRecDepth 20000 in
set_option maxHeartbeats 4000000 in
theorem l03Any_any (w : World) (p : Nat) (hc : Cur w p) : Calls Try.prog 97 #[.pointer (some ⟨p, 0, none⟩)] w (RetIpD w p) := by
  have HC := Lib.hid hc; clear hc
  go_enter Try.func97, Try.ntmps97
  go_wp2_with fail
  have CW := Lib.hid (HC.out.grow (Grow.alloc w (.cells #[.int .i64 0, .int .i64 0, .int .i64 0, .int .i64 0, .slice none 0 0] 47)))
  have BR := Lib.hid (Box.alloc w [.int .i64 0, .int .i64 0, .int .i64 0, .int .i64 0, .slice none 0 0] 47)
  have U0 := Lib.hid ((Grow.alloc w (.cells #[.int .i64 0, .int .i64 0, .int .i64 0, .int .i64 0, .slice none 0 0] 47)).upd [p])
  have PW : Hid (p < w.heap.size) := Lib.hid HC.out.lt
  generalize w.alloc (.cells #[.int .i64 0, .int .i64 0, .int .i64 0, .int .i64 0, .slice none 0 0] 47) = w2 at *
  obtain ⟨R, hR⟩ : ∃ R, w.heap.size = R := ⟨_, rfl⟩
  rw [hR] at BR ⊢
  have HRR := Lib.hid hR
  have hpR : p < R := by have := PW.out; omega
  clear hR
  refine (l03Ip_any _ p CW.out).mono ?_
  rintro e w3 ⟨V, d, fp, rfl, ⟨v0, rfl, ho⟩, hf, hw, hl, hC, hU⟩
  obtain ⟨av, cv, rfl⟩ := own_shape ho.1
  have BR3 := Lib.hid (BR.out.upd hU (by simp; omega))
  have U3 := Lib.hid (U0.out.same hU)
  have F0 : Hid (FA w R w3.heap.size fp) := Lib.hid (fun x hx => by have h1 := hf x hx; have h2 := ho.here x hx; have h3 := BR.out.1; have h4 := HRR.out; exact ⟨by have := U0.out.size; omega, by omega, by omega⟩)
  have I := Lib.hid hw; have DL := Lib.hid hl
  have S3 : Hid (PS w (w3.alloc (.cells #[.int .i64 d.ttl, .int .i64 d.proto, .int .i64 d.src, .int .i64 d.dst, .slice av d.data.length cv] 47)) p R w3.heap.size [.int .i64 0, .int .i64 0, .int .i64 0, .int .i64 0, .slice none 0 0] [.int .i64 d.ttl, .int .i64 d.proto, .int .i64 d.src, .int .i64 d.dst, .slice av d.data.length cv]) := Lib.hid ⟨hC.grow (Grow.alloc _ _), BR3.out.grow (Grow.alloc _ _), Box.alloc w3 [.int .i64 d.ttl, .int .i64 d.proto, .int .i64 d.src, .int .i64 d.dst, .slice av d.data.length cv] 47, U3.out.grow_ (Grow.alloc _ _), Nat.le_of_eq HRR.out, BR3.out.1, PW.out⟩
  have O3 := Lib.hid (ho.grow (Grow.alloc w3 (.cells #[.int .i64 d.ttl, .int .i64 d.proto, .int .i64 d.src, .int .i64 d.dst, .slice av d.data.length cv] 47)))
  clear hw hl hC hU ho hf
  have x3 := BR3.out.1
  go_wp2_with fail
  generalize w3.alloc (.cells #[.int .i64 d.ttl, .int .i64 d.proto, .int .i64 d.src, .int .i64 d.dst, .slice av d.data.length cv] 47) = w4 at *
  generalize w3.heap.size = b at *
  clear x3
  refine (l01Below_any _ p 20 (by decide) S3.out.1).mono ?_
  rintro e w155 ⟨x155, rfl, h155a, h155b, -, hC, hU⟩
  have h155b := h155b (by decide)
  have S155 : Hid (PS w _ p R b [.int .i64 0, .int .i64 0, .int .i64 0, .int .i64 0, .slice none 0 0] [.int .i64 d.ttl, .int .i64 d.proto, .int .i64 d.src, .int .i64 d.dst, .slice av d.data.length cv]) := Lib.hid (S3.out.step hC hU)
  have O155 := Lib.hid (S3.out.keep O3.out F0.out hU)
  clear hC hU
  by_cases c0 : x155 = 0
  · subst c0
    have ⟨q0, q1, q2, q3, q4⟩ := S155.out.2.2.1.five; have qz := S155.out.2.2.1.2.2; have ql := S155.out.2.2.1.1
    have ⟨y0, y1, y2, y3, y4⟩ := S155.out.2.1.five; have yz := S155.out.2.1.2.2; have yl := S155.out.2.1.1
    have hne1 : ¬ b = R := by have := S155.out.2.2.2.2.2.1; omega
    have hne2 : ¬ R = b := by have := S155.out.2.2.2.2.2.1; omega
    go_wp2_with fail
    refine (l01Raw_any _ p S155.out.1).mono ?_
    rintro e w156 ⟨x156, rfl, h156, hC, hU⟩
    have I156 := Lib.hid h156
    clear h156
    clear q0 q1 q2 q3 q4 qz ql y0 y1 y2 y3 y4 yz yl hne1 hne2
    have S156 : Hid (PS w _ p R b [.int .i64 0, .int .i64 0, .int .i64 0, .int .i64 0, .slice none 0 0] [.int .i64 d.ttl, .int .i64 d.proto, .int .i64 d.src, .int .i64 d.dst, .slice av d.data.length cv]) := Lib.hid (S155.out.step hC hU)
    have O156 := Lib.hid (S155.out.keep O155.out F0.out hU)
    clear hC hU
    have S157 : Hid (PS w (w156.setCell ⟨b, 0, none⟩ (.int .i64 x156)) p R b [.int .i64 0, .int .i64 0, .int .i64 0, .int .i64 0, .slice none 0 0] [.int .i64 x156, .int .i64 d.proto, .int .i64 d.src, .int .i64 d.dst, .slice av d.data.length cv]) := Lib.hid (S156.out.set 0 (.int .i64 x156) (by simp))
    have O157 : Hid (OwnB (w156.setCell ⟨b, 0, none⟩ (.int .i64 x156)) _ _ _) := Lib.hid (S156.out.apart (W' := w156) O156.out F0.out (.int .i64 x156))
    have ⟨q0, q1, q2, q3, q4⟩ := S156.out.2.2.1.five; have qz := S156.out.2.2.1.2.2; have ql := S156.out.2.2.1.1
    have ⟨y0, y1, y2, y3, y4⟩ := S156.out.2.1.five; have yz := S156.out.2.1.2.2; have yl := S156.out.2.1.1
    have hne1 : ¬ b = R := by have := S156.out.2.2.2.2.2.1; omega
    have hne2 : ¬ R = b := by have := S156.out.2.2.2.2.2.1; omega
    go_wp2
    clear q0 q1 q2 q3 q4 qz ql y0 y1 y2 y3 y4 yz yl hne1 hne2
    generalize (w156.setCell ⟨b, 0, none⟩ (.int .i64 x156)) = WV at *
    have ⟨q0, q1, q2, q3, q4⟩ := S157.out.2.2.1.five; have qz := S157.out.2.2.1.2.2; have ql := S157.out.2.2.1.1
    have ⟨y0, y1, y2, y3, y4⟩ := S157.out.2.1.five; have yz := S157.out.2.1.2.2; have yl := S157.out.2.1.1
    have hne1 : ¬ b = R := by have := S157.out.2.2.2.2.2.1; omega
    have hne2 : ¬ R = b := by have := S157.out.2.2.2.2.2.1; omega
    have HR := Lib.hid (S157.out.retIp O157.out F0.out I.out.2.2.2.2 DL.out (x156) (d.proto) (d.src) (d.dst) I156.out I.out.2.1 I.out.2.2.1 I.out.2.2.2.1)
    refine bodyPost_ret (v := .agg #[.int .i64 x156, .int .i64 d.proto, .int .i64 d.src, .int .i64 d.dst, .slice av d.data.length cv]) ?_ rfl (HR.out _ ?_)
    · simp [results, Try.results97, go_sem, q0, q1, q2, q3, q4, qz, y0, y1, y2, y3, y4, yz, yl, hne1, hne2] <;> omega
    · ((repeat (first | (with_reducible refine Upd.setCell ?_ (by simp) _) | with_reducible exact Upd.refl _ _)))

  by_cases c1 : x155 = 1
  · subst c1
    have ⟨q0, q1, q2, q3, q4⟩ := S155.out.2.2.1.five; have qz := S155.out.2.2.1.2.2; have ql := S155.out.2.2.1.1
    have ⟨y0, y1, y2, y3, y4⟩ := S155.out.2.1.five; have yz := S155.out.2.1.2.2; have yl := S155.out.2.1.1
    have hne1 : ¬ b = R := by have := S155.out.2.2.2.2.2.1; omega
    have hne2 : ¬ R = b := by have := S155.out.2.2.2.2.2.1; omega
    go_wp2_with fail
    refine (l01Raw_any _ p S155.out.1).mono ?_
    rintro e w158 ⟨x158, rfl, h158, hC, hU⟩
    have I158 := Lib.hid h158
    clear h158
    clear q0 q1 q2 q3 q4 qz ql y0 y1 y2 y3 y4 yz yl hne1 hne2
    have S158 : Hid (PS w _ p R b [.int .i64 0, .int .i64 0, .int .i64 0, .int .i64 0, .slice none 0 0] [.int .i64 d.ttl, .int .i64 d.proto, .int .i64 d.src, .int .i64 d.dst, .slice av d.data.length cv]) := Lib.hid (S155.out.step hC hU)
    have O158 := Lib.hid (S155.out.keep O155.out F0.out hU)
    clear hC hU
    have S159 : Hid (PS w (w158.setCell ⟨b, 1, none⟩ (.int .i64 x158)) p R b [.int .i64 0, .int .i64 0, .int .i64 0, .int .i64 0, .slice none 0 0] [.int .i64 d.ttl, .int .i64 x158, .int .i64 d.src, .int .i64 d.dst, .slice av d.data.length cv]) := Lib.hid (S158.out.set 1 (.int .i64 x158) (by simp))
    have O159 : Hid (OwnB (w158.setCell ⟨b, 1, none⟩ (.int .i64 x158)) _ _ _) := Lib.hid (S158.out.apart (W' := w158) O158.out F0.out (.int .i64 x158))
    have ⟨q0, q1, q2, q3, q4⟩ := S158.out.2.2.1.five; have qz := S158.out.2.2.1.2.2; have ql := S158.out.2.2.1.1
    have ⟨y0, y1, y2, y3, y4⟩ := S158.out.2.1.five; have yz := S158.out.2.1.2.2; have yl := S158.out.2.1.1
    have hne1 : ¬ b = R := by have := S158.out.2.2.2.2.2.1; omega
    have hne2 : ¬ R = b := by have := S158.out.2.2.2.2.2.1; omega
    go_wp2
    clear q0 q1 q2 q3 q4 qz ql y0 y1 y2 y3 y4 yz yl hne1 hne2
    generalize (w158.setCell ⟨b, 1, none⟩ (.int .i64 x158)) = WV at *
    have ⟨q0, q1, q2, q3, q4⟩ := S159.out.2.2.1.five; have qz := S159.out.2.2.1.2.2; have ql := S159.out.2.2.1.1
    have ⟨y0, y1, y2, y3, y4⟩ := S159.out.2.1.five; have yz := S159.out.2.1.2.2; have yl := S159.out.2.1.1
    have hne1 : ¬ b = R := by have := S159.out.2.2.2.2.2.1; omega
    have hne2 : ¬ R = b := by have := S159.out.2.2.2.2.2.1; omega
    have HR := Lib.hid (S159.out.retIp O159.out F0.out I.out.2.2.2.2 DL.out (d.ttl) (x158) (d.src) (d.dst) I.out.1 I158.out I.out.2.2.1 I.out.2.2.2.1)
    refine bodyPost_ret (v := .agg #[.int .i64 d.ttl, .int .i64 x158, .int .i64 d.src, .int .i64 d.dst, .slice av d.data.length cv]) ?_ rfl (HR.out _ ?_)
    · simp [results, Try.results97, go_sem, q0, q1, q2, q3, q4, qz, y0, y1, y2, y3, y4, yz, yl, hne1, hne2] <;> omega
    · ((repeat (first | (with_reducible refine Upd.setCell ?_ (by simp) _) | with_reducible exact Upd.refl _ _)))

  by_cases c2 : x155 = 2
  · subst c2
    have ⟨q0, q1, q2, q3, q4⟩ := S155.out.2.2.1.five; have qz := S155.out.2.2.1.2.2; have ql := S155.out.2.2.1.1
    have ⟨y0, y1, y2, y3, y4⟩ := S155.out.2.1.five; have yz := S155.out.2.1.2.2; have yl := S155.out.2.1.1
    have hne1 : ¬ b = R := by have := S155.out.2.2.2.2.2.1; omega
    have hne2 : ¬ R = b := by have := S155.out.2.2.2.2.2.1; omega
    go_wp2_with fail
    refine (l01Raw_any _ p S155.out.1).mono ?_
    rintro e w160 ⟨x160, rfl, h160, hC, hU⟩
    have I160 := Lib.hid h160
    clear h160
    clear q0 q1 q2 q3 q4 qz ql y0 y1 y2 y3 y4 yz yl hne1 hne2
    have S160 : Hid (PS w _ p R b [.int .i64 0, .int .i64 0, .int .i64 0, .int .i64 0, .slice none 0 0] [.int .i64 d.ttl, .int .i64 d.proto, .int .i64 d.src, .int .i64 d.dst, .slice av d.data.length cv]) := Lib.hid (S155.out.step hC hU)
    have O160 := Lib.hid (S155.out.keep O155.out F0.out hU)
    clear hC hU
    have S161 : Hid (PS w (w160.setCell ⟨b, 2, none⟩ (.int .i64 x160)) p R b [.int .i64 0, .int .i64 0, .int .i64 0, .int .i64 0, .slice none 0 0] [.int .i64 d.ttl, .int .i64 d.proto, .int .i64 x160, .int .i64 d.dst, .slice av d.data.length cv]) := Lib.hid (S160.out.set 2 (.int .i64 x160) (by simp))
    have O161 : Hid (OwnB (w160.setCell ⟨b, 2, none⟩ (.int .i64 x160)) _ _ _) := Lib.hid (S160.out.apart (W' := w160) O160.out F0.out (.int .i64 x160))
    have ⟨q0, q1, q2, q3, q4⟩ := S160.out.2.2.1.five; have qz := S160.out.2.2.1.2.2; have ql := S160.out.2.2.1.1
    have ⟨y0, y1, y2, y3, y4⟩ := S160.out.2.1.five; have yz := S160.out.2.1.2.2; have yl := S160.out.2.1.1
    have hne1 : ¬ b = R := by have := S160.out.2.2.2.2.2.1; omega
    have hne2 : ¬ R = b := by have := S160.out.2.2.2.2.2.1; omega
    go_wp2
    clear q0 q1 q2 q3 q4 qz ql y0 y1 y2 y3 y4 yz yl hne1 hne2
    generalize (w160.setCell ⟨b, 2, none⟩ (.int .i64 x160)) = WV at *
    have ⟨q0, q1, q2, q3, q4⟩ := S161.out.2.2.1.five; have qz := S161.out.2.2.1.2.2; have ql := S161.out.2.2.1.1
    have ⟨y0, y1, y2, y3, y4⟩ := S161.out.2.1.five; have yz := S161.out.2.1.2.2; have yl := S161.out.2.1.1
    have hne1 : ¬ b = R := by have := S161.out.2.2.2.2.2.1; omega
    have hne2 : ¬ R = b := by have := S161.out.2.2.2.2.2.1; omega
    have HR := Lib.hid (S161.out.retIp O161.out F0.out I.out.2.2.2.2 DL.out (d.ttl) (d.proto) (x160) (d.dst) I.out.1 I.out.2.1 I160.out I.out.2.2.2.1)
    refine bodyPost_ret (v := .agg #[.int .i64 d.ttl, .int .i64 d.proto, .int .i64 x160, .int .i64 d.dst, .slice av d.data.length cv]) ?_ rfl (HR.out _ ?_)
    · simp [results, Try.results97, go_sem, q0, q1, q2, q3, q4, qz, y0, y1, y2, y3, y4, yz, yl, hne1, hne2] <;> omega
    · ((repeat (first | (with_reducible refine Upd.setCell ?_ (by simp) _) | with_reducible exact Upd.refl _ _)))

  by_cases c3 : x155 = 3
  · subst c3
    obtain ⟨i0, hi, hz0, hz1, hz2⟩ := info_parts Try.infoU8
    have ⟨q0, q1, q2, q3, q4⟩ := S155.out.2.2.1.five; have qz := S155.out.2.2.1.2.2; have ql := S155.out.2.2.1.1
    have ⟨y0, y1, y2, y3, y4⟩ := S155.out.2.1.five; have yz := S155.out.2.1.2.2; have yl := S155.out.2.1.1
    have hne1 : ¬ b = R := by have := S155.out.2.2.2.2.2.1; omega
    have hne2 : ¬ R = b := by have := S155.out.2.2.2.2.2.1; omega
    go_wp2_with (at_make; refine wpList_make_full _ rfl _ _ 22 rfl w155.heap.size 5 i0 (.int .u8 0) 1 Try.underlying22 hi hz0 hz1 .i64 .i64 _ _ 1481 rfl rfl rfl rfl (by rw [hz2]; omega) (by unfold maxLen; omega) (Nat.le_refl _) ?_; intro w162 hown hgr; have hgw := Grow.of_grown hgr; clear q0 q1 q2 q3 q4 qz ql y0 y1 y2 y3 y4 yz yl; have S162 : Hid (PS w w162 p R b [.int .i64 0, .int .i64 0, .int .i64 0, .int .i64 0, .slice none 0 0] [.int .i64 d.ttl, .int .i64 d.proto, .int .i64 d.src, .int .i64 d.dst, .slice av d.data.length cv]) := Lib.hid (S155.out.grow hgw); have ⟨q0, q1, q2, q3, q4⟩ := S162.out.2.2.1.five; have qz := S162.out.2.2.1.2.2; have ql := S162.out.2.2.1.1; have ⟨y0, y1, y2, y3, y4⟩ := S162.out.2.1.five; have yz := S162.out.2.1.2.2; have yl := S162.out.2.1.1)
    have O162 : Hid (OwnB w162 (.slice (some ⟨w155.heap.size, 0, none⟩) 1481 1481) (List.replicate 1481 0) [w155.heap.size]) := Lib.hid (by
      have ho : w162.ownsRow w155.heap.size 5 1 (.slice (some ⟨w155.heap.size, 0, none⟩) 1481 1481) 1481 ((List.replicate 1481 (0 : Int)).map (Value.int .u8)) := by
        rw [List.map_replicate, ← toList_madeCells_one]
        simpa [Value.cells] using hown
      have e : (List.replicate 1481 (0 : Int)).length = 1481 := by simp
      have := (OwnR.of ho).1
      unfold OwnB
      rw [e]
      exact this)
    have F162 : Hid (FA w R b [w155.heap.size]) := Lib.hid (fun x hx => by have h1 := S155.out.2.2.1.1; have h2 := S155.out.2.2.2.2.1; have h3 := S155.out.2.2.2.2.2.1; simp only [List.mem_cons, List.not_mem_nil, or_false] at hx; exact ⟨by omega, by omega, by omega⟩)
    clear hown hgr hgw
    have S163 : Hid (PS w (w162.setCell ⟨b, 4, none⟩ (.slice (some ⟨w155.heap.size, 0, none⟩) 1481 1481)) p R b [.int .i64 0, .int .i64 0, .int .i64 0, .int .i64 0, .slice none 0 0] [.int .i64 d.ttl, .int .i64 d.proto, .int .i64 d.src, .int .i64 d.dst, .slice (some ⟨w155.heap.size, 0, none⟩) 1481 1481]) := Lib.hid (S162.out.set 4 (.slice (some ⟨w155.heap.size, 0, none⟩) 1481 1481) (by simp))
    have O163 : Hid (OwnB (w162.setCell ⟨b, 4, none⟩ (.slice (some ⟨w155.heap.size, 0, none⟩) 1481 1481)) _ _ _) := Lib.hid (S162.out.apart (W' := w162) O162.out F162.out (.slice (some ⟨w155.heap.size, 0, none⟩) 1481 1481))
    clear q0 q1 q2 q3 q4 qz ql y0 y1 y2 y3 y4 yz yl hne1 hne2
    generalize (w162.setCell ⟨b, 4, none⟩ (.slice (some ⟨w155.heap.size, 0, none⟩) 1481 1481)) = WV at *
    have ⟨q0, q1, q2, q3, q4⟩ := S163.out.2.2.1.five; have qz := S163.out.2.2.1.2.2; have ql := S163.out.2.2.1.1
    have ⟨y0, y1, y2, y3, y4⟩ := S163.out.2.1.five; have yz := S163.out.2.1.2.2; have yl := S163.out.2.1.1
    have hne1 : ¬ b = R := by have := S163.out.2.2.2.2.2.1; omega
    have hne2 : ¬ R = b := by have := S163.out.2.2.2.2.2.1; omega
    have HR := Lib.hid (S163.out.retIp O163.out F162.out (fun x hx => by have := List.eq_of_mem_replicate hx; omega) (by simp <;> omega) (d.ttl) (d.proto) (d.src) (d.dst) I.out.1 I.out.2.1 I.out.2.2.1 I.out.2.2.2.1)
    refine bodyPost_ret (v := .agg #[.int .i64 d.ttl, .int .i64 d.proto, .int .i64 d.src, .int .i64 d.dst, .slice (some ⟨w155.heap.size, 0, none⟩) 1481 1481]) ?_ rfl (HR.out _ ?_)
    · simp [results, Try.results97, go_sem, q0, q1, q2, q3, q4, qz, y0, y1, y2, y3, y4, yz, yl, hne1, hne2] <;> omega
    · ((repeat (first | (with_reducible refine Upd.setCell ?_ (by simp) _) | with_reducible exact Upd.refl _ _)))

  by_cases c4 : x155 = 4
  · subst c4
    have S164 : Hid (PS w (w155.alloc (.cells #[.int .i64 (-1), .int .i64 4294967296] 3)) p R b [.int .i64 0, .int .i64 0, .int .i64 0, .int .i64 0, .slice none 0 0] [.int .i64 d.ttl, .int .i64 d.proto, .int .i64 d.src, .int .i64 d.dst, .slice av d.data.length cv]) := Lib.hid (S155.out.grow (Grow.alloc _ _))
    have L164 := Lib.hid (Box.alloc w155 [.int .i64 (-1), .int .i64 4294967296] 3)
    have O164 := Lib.hid (O155.out.grow (Grow.alloc _ (.cells #[.int .i64 (-1), .int .i64 4294967296] 3)))
    have ⟨q0, q1, q2, q3, q4⟩ := S155.out.2.2.1.five; have qz := S155.out.2.2.1.2.2; have ql := S155.out.2.2.1.1
    have ⟨y0, y1, y2, y3, y4⟩ := S155.out.2.1.five; have yz := S155.out.2.1.2.2; have yl := S155.out.2.1.1
    have hne1 : ¬ b = R := by have := S155.out.2.2.2.2.2.1; omega
    have hne2 : ¬ R = b := by have := S155.out.2.2.2.2.2.1; omega
    go_wp2_with fail
    refine (l01Below_any _ p 2 (by decide) S164.out.1).mono ?_
    rintro e w165 ⟨x165, rfl, h165a, h165b, -, hC, hU⟩
    have h165b := h165b (by decide)
    clear q0 q1 q2 q3 q4 qz ql y0 y1 y2 y3 y4 yz yl hne1 hne2
    have S165 : Hid (PS w _ p R b [.int .i64 0, .int .i64 0, .int .i64 0, .int .i64 0, .slice none 0 0] [.int .i64 d.ttl, .int .i64 d.proto, .int .i64 d.src, .int .i64 d.dst, .slice av d.data.length cv]) := Lib.hid (S164.out.step hC hU)
    have O165 := Lib.hid (S164.out.keep O164.out F0.out hU)
    have M164 := Lib.hid (L164.out.upd hU (by have := S155.out.1.lt; simp; omega))
    clear hC hU
    have ⟨l0, l1⟩ := M164.out.two
    obtain kx165 | kx165 : x165 = 0 ∨ x165 = 1 := by omega
    · subst kx165
      have S166 : Hid (PS w (w165.setCell ⟨b, 3, none⟩ (.int .i64 (-1))) p R b [.int .i64 0, .int .i64 0, .int .i64 0, .int .i64 0, .slice none 0 0] [.int .i64 d.ttl, .int .i64 d.proto, .int .i64 d.src, .int .i64 (-1), .slice av d.data.length cv]) := Lib.hid (S165.out.set 3 (.int .i64 (-1)) (by simp))
      have O166 : Hid (OwnB (w165.setCell ⟨b, 3, none⟩ (.int .i64 (-1))) _ _ _) := Lib.hid (S165.out.apart (W' := w165) O165.out F0.out (.int .i64 (-1)))
      have ⟨q0, q1, q2, q3, q4⟩ := S165.out.2.2.1.five; have qz := S165.out.2.2.1.2.2; have ql := S165.out.2.2.1.1
      have ⟨y0, y1, y2, y3, y4⟩ := S165.out.2.1.five; have yz := S165.out.2.1.2.2; have yl := S165.out.2.1.1
      have hne1 : ¬ b = R := by have := S165.out.2.2.2.2.2.1; omega
      have hne2 : ¬ R = b := by have := S165.out.2.2.2.2.2.1; omega
      go_wp2
      clear q0 q1 q2 q3 q4 qz ql y0 y1 y2 y3 y4 yz yl hne1 hne2
      generalize (w165.setCell ⟨b, 3, none⟩ (.int .i64 (-1))) = WV at *
      have ⟨q0, q1, q2, q3, q4⟩ := S166.out.2.2.1.five; have qz := S166.out.2.2.1.2.2; have ql := S166.out.2.2.1.1
      have ⟨y0, y1, y2, y3, y4⟩ := S166.out.2.1.five; have yz := S166.out.2.1.2.2; have yl := S166.out.2.1.1
      have hne1 : ¬ b = R := by have := S166.out.2.2.2.2.2.1; omega
      have hne2 : ¬ R = b := by have := S166.out.2.2.2.2.2.1; omega
      have HR := Lib.hid (S166.out.retIp O166.out F0.out I.out.2.2.2.2 DL.out (d.ttl) (d.proto) (d.src) ((-1)) I.out.1 I.out.2.1 I.out.2.2.1 (by unfold I64; omega))
      refine bodyPost_ret (v := .agg #[.int .i64 d.ttl, .int .i64 d.proto, .int .i64 d.src, .int .i64 (-1), .slice av d.data.length cv]) ?_ rfl (HR.out _ ?_)
      · simp [results, Try.results97, go_sem, q0, q1, q2, q3, q4, qz, y0, y1, y2, y3, y4, yz, yl, hne1, hne2] <;> omega
      · ((repeat (first | (with_reducible refine Upd.setCell ?_ (by simp) _) | with_reducible exact Upd.refl _ _)))
    · subst kx165
      have S167 : Hid (PS w (w165.setCell ⟨b, 3, none⟩ (.int .i64 4294967296)) p R b [.int .i64 0, .int .i64 0, .int .i64 0, .int .i64 0, .slice none 0 0] [.int .i64 d.ttl, .int .i64 d.proto, .int .i64 d.src, .int .i64 4294967296, .slice av d.data.length cv]) := Lib.hid (S165.out.set 3 (.int .i64 4294967296) (by simp))
      have O167 : Hid (OwnB (w165.setCell ⟨b, 3, none⟩ (.int .i64 4294967296)) _ _ _) := Lib.hid (S165.out.apart (W' := w165) O165.out F0.out (.int .i64 4294967296))
      have ⟨q0, q1, q2, q3, q4⟩ := S165.out.2.2.1.five; have qz := S165.out.2.2.1.2.2; have ql := S165.out.2.2.1.1
      have ⟨y0, y1, y2, y3, y4⟩ := S165.out.2.1.five; have yz := S165.out.2.1.2.2; have yl := S165.out.2.1.1
      have hne1 : ¬ b = R := by have := S165.out.2.2.2.2.2.1; omega
      have hne2 : ¬ R = b := by have := S165.out.2.2.2.2.2.1; omega
      go_wp2
      clear q0 q1 q2 q3 q4 qz ql y0 y1 y2 y3 y4 yz yl hne1 hne2
      generalize (w165.setCell ⟨b, 3, none⟩ (.int .i64 4294967296)) = WV at *
      have ⟨q0, q1, q2, q3, q4⟩ := S167.out.2.2.1.five; have qz := S167.out.2.2.1.2.2; have ql := S167.out.2.2.1.1
      have ⟨y0, y1, y2, y3, y4⟩ := S167.out.2.1.five; have yz := S167.out.2.1.2.2; have yl := S167.out.2.1.1
      have hne1 : ¬ b = R := by have := S167.out.2.2.2.2.2.1; omega
      have hne2 : ¬ R = b := by have := S167.out.2.2.2.2.2.1; omega
      have HR := Lib.hid (S167.out.retIp O167.out F0.out I.out.2.2.2.2 DL.out (d.ttl) (d.proto) (d.src) (4294967296) I.out.1 I.out.2.1 I.out.2.2.1 (by unfold I64; omega))
      refine bodyPost_ret (v := .agg #[.int .i64 d.ttl, .int .i64 d.proto, .int .i64 d.src, .int .i64 4294967296, .slice av d.data.length cv]) ?_ rfl (HR.out _ ?_)
      · simp [results, Try.results97, go_sem, q0, q1, q2, q3, q4, qz, y0, y1, y2, y3, y4, yz, yl, hne1, hne2] <;> omega
      · ((repeat (first | (with_reducible refine Upd.setCell ?_ (by simp) _) | with_reducible exact Upd.refl _ _)))

  by_cases c5 : x155 = 5
  · subst c5
    have ⟨q0, q1, q2, q3, q4⟩ := S155.out.2.2.1.five; have qz := S155.out.2.2.1.2.2; have ql := S155.out.2.2.1.1
    have ⟨y0, y1, y2, y3, y4⟩ := S155.out.2.1.five; have yz := S155.out.2.1.2.2; have yl := S155.out.2.1.1
    have hne1 : ¬ b = R := by have := S155.out.2.2.2.2.2.1; omega
    have hne2 : ¬ R = b := by have := S155.out.2.2.2.2.2.1; omega
    go_wp2_with fail
    refine (l01Below_any _ p 3 (by decide) S155.out.1).mono ?_
    rintro e w168 ⟨x168, rfl, h168a, h168b, -, hC, hU⟩
    have h168b := h168b (by decide)
    clear q0 q1 q2 q3 q4 qz ql y0 y1 y2 y3 y4 yz yl hne1 hne2
    have S168 : Hid (PS w _ p R b [.int .i64 0, .int .i64 0, .int .i64 0, .int .i64 0, .slice none 0 0] [.int .i64 d.ttl, .int .i64 d.proto, .int .i64 d.src, .int .i64 d.dst, .slice av d.data.length cv]) := Lib.hid (S155.out.step hC hU)
    have O168 := Lib.hid (S155.out.keep O155.out F0.out hU)
    clear hC hU
    have S169 : Hid (PS w (w168.setCell ⟨b, 0, none⟩ (.int .i64 x168)) p R b [.int .i64 0, .int .i64 0, .int .i64 0, .int .i64 0, .slice none 0 0] [.int .i64 x168, .int .i64 d.proto, .int .i64 d.src, .int .i64 d.dst, .slice av d.data.length cv]) := Lib.hid (S168.out.set 0 (.int .i64 x168) (by simp))
    have O169 : Hid (OwnB (w168.setCell ⟨b, 0, none⟩ (.int .i64 x168)) _ _ _) := Lib.hid (S168.out.apart (W' := w168) O168.out F0.out (.int .i64 x168))
    have ⟨q0, q1, q2, q3, q4⟩ := S168.out.2.2.1.five; have qz := S168.out.2.2.1.2.2; have ql := S168.out.2.2.1.1
    have ⟨y0, y1, y2, y3, y4⟩ := S168.out.2.1.five; have yz := S168.out.2.1.2.2; have yl := S168.out.2.1.1
    have hne1 : ¬ b = R := by have := S168.out.2.2.2.2.2.1; omega
    have hne2 : ¬ R = b := by have := S168.out.2.2.2.2.2.1; omega
    go_wp2
    clear q0 q1 q2 q3 q4 qz ql y0 y1 y2 y3 y4 yz yl hne1 hne2
    generalize (w168.setCell ⟨b, 0, none⟩ (.int .i64 x168)) = WV at *
    have ⟨q0, q1, q2, q3, q4⟩ := S169.out.2.2.1.five; have qz := S169.out.2.2.1.2.2; have ql := S169.out.2.2.1.1
    have ⟨y0, y1, y2, y3, y4⟩ := S169.out.2.1.five; have yz := S169.out.2.1.2.2; have yl := S169.out.2.1.1
    have hne1 : ¬ b = R := by have := S169.out.2.2.2.2.2.1; omega
    have hne2 : ¬ R = b := by have := S169.out.2.2.2.2.2.1; omega
    have HR := Lib.hid (S169.out.retIp O169.out F0.out I.out.2.2.2.2 DL.out (x168) (d.proto) (d.src) (d.dst) (by unfold I64; omega) I.out.2.1 I.out.2.2.1 I.out.2.2.2.1)
    refine bodyPost_ret (v := .agg #[.int .i64 x168, .int .i64 d.proto, .int .i64 d.src, .int .i64 d.dst, .slice av d.data.length cv]) ?_ rfl (HR.out _ ?_)
    · simp [results, Try.results97, go_sem, q0, q1, q2, q3, q4, qz, y0, y1, y2, y3, y4, yz, yl, hne1, hne2] <;> omega
    · ((repeat (first | (with_reducible refine Upd.setCell ?_ (by simp) _) | with_reducible exact Upd.refl _ _)))

  have hk0 : (x155 == 0) = false := by simpa using c0
  have hk1 : (x155 == 1) = false := by simpa using c1
  have hk2 : (x155 == 2) = false := by simpa using c2
  have hk3 : (x155 == 3) = false := by simpa using c3
  have hk4 : (x155 == 4) = false := by simpa using c4
  have hk5 : (x155 == 5) = false := by simpa using c5
  have ⟨q0, q1, q2, q3, q4⟩ := S155.out.2.2.1.five; have qz := S155.out.2.2.1.2.2; have ql := S155.out.2.2.1.1
  have ⟨y0, y1, y2, y3, y4⟩ := S155.out.2.1.five; have yz := S155.out.2.1.2.2; have yl := S155.out.2.1.1
  have hne1 : ¬ b = R := by have := S155.out.2.2.2.2.2.1; omega
  have hne2 : ¬ R = b := by have := S155.out.2.2.2.2.2.1; omega
  go_wp2
  clear q0 q1 q2 q3 q4 qz ql y0 y1 y2 y3 y4 yz yl hne1 hne2
  have ⟨q0, q1, q2, q3, q4⟩ := S155.out.2.2.1.five; have qz := S155.out.2.2.1.2.2; have ql := S155.out.2.2.1.1
  have ⟨y0, y1, y2, y3, y4⟩ := S155.out.2.1.five; have yz := S155.out.2.1.2.2; have yl := S155.out.2.1.1
  have hne1 : ¬ b = R := by have := S155.out.2.2.2.2.2.1; omega
  have hne2 : ¬ R = b := by have := S155.out.2.2.2.2.2.1; omega
  have HR := Lib.hid (S155.out.retIp O155.out F0.out I.out.2.2.2.2 DL.out (d.ttl) (d.proto) (d.src) (d.dst) I.out.1 I.out.2.1 I.out.2.2.1 I.out.2.2.2.1)
  refine bodyPost_ret (v := .agg #[.int .i64 d.ttl, .int .i64 d.proto, .int .i64 d.src, .int .i64 d.dst, .slice av d.data.length cv]) ?_ rfl (HR.out _ ?_)
  · simp [results, Try.results97, go_sem, q0, q1, q2, q3, q4, qz, y0, y1, y2, y3, y4, yz, yl, hne1, hne2] <;> omega
  · ((repeat (first | (with_reducible refine Upd.setCell ?_ (by simp) _) | with_reducible exact Upd.refl _ _)))

--%
def RetIpN (w : World) (e : Ending) (w' : World) : Prop := ∃ v d fp, e = .returned v ∧ OwnIp w' v d fp ∧ Fresh w fp ∧ WfIp d ∧ d.data.length ≤ 1481 ∧ Grow w w'
--% DrawIpBytes 66
set_option maxRecDepth 20000 in
set_option maxHeartbeats 4000000 in
theorem drawIpBytes_any (w : World) (v : Value) (cs : List Int) (h : RdB w v cs) (hb : Bytes cs) (hm : cs.length ≤ 1048576) : Calls Try.prog 66 #[v] w (RetIpN w) := by
  have HV := Lib.hid h; have HB : Hid (Bytes cs) := Lib.hid hb
  clear h hb
  go_enter Try.func66, Try.ntmps66
  go_wp2_with fail
  refine at_world (w := w) ?G (fun hG => (l01New_any _ _ cs (HV.out.grow hG) HB.out hm).mono ?_)
  case G => ((repeat (first | with_reducible exact Grow.refl _ | (with_reducible refine Grow.alloc_ ?_ _) | (with_reducible refine Grow.setCell_ ?_ (by first | exact Nat.le_refl _ | (simp only [World.alloc, Array.size_push]; omega) | omega) _))))
  rintro e w1 ⟨p, rfl, hC, hp, hg⟩
  have G1 := Lib.hid (hG.trans hg); have P1 := Lib.hid hp
  have B0 := Lib.hid ((Box.alloc w [.int .i64 0, .int .i64 0, .int .i64 0, .int .i64 0, .slice none 0 0] 47).grow hg)
  have C1 := Lib.hid hC
  have PP : Hid (w.heap.size < p) := Lib.hid (by have := hp; simp only [World.alloc, Array.size_push] at this; omega)
  clear hC hp hg hG
  go_wp2_with fail
  refine (l03Any_any _ p C1.out).mono ?_
  rintro e w2 ⟨V, d, fp, rfl, ⟨v0, rfl, ho⟩, hf, hw, hl, hC, hU⟩
  obtain ⟨av, cv, rfl⟩ := own_shape ho.1
  have B2 := Lib.hid (B0.out.upd hU (by have := PP.out; simp; omega))
  have G2 := Lib.hid (G1.out.then_upd hU (by intro x hx; have := PP.out; simp only [List.mem_cons, List.not_mem_nil, or_false] at hx; omega))
  have HR : Hid (∀ W', Upd [w.heap.size] w2 W' → RetIpN w (.returned (.agg #[.int .i64 d.ttl, .int .i64 d.proto, .int .i64 d.src, .int .i64 d.dst, .slice av d.data.length cv])) (W'.alloc (.cells #[.int .i64 d.ttl, .int .i64 d.proto, .int .i64 d.src, .int .i64 d.dst, .slice av d.data.length cv] 47))) := Lib.hid (fun W' hu => by
    refine ⟨_, d, fp, rfl, ⟨_, rfl, (ho.upd hu (fun x hx hm => by have h1 := hf x hx; have h2 := B0.out.1; simp only [List.mem_cons, List.not_mem_nil, or_false] at hm; omega)).grow (Grow.alloc W' (.cells #[.int .i64 d.ttl, .int .i64 d.proto, .int .i64 d.src, .int .i64 d.dst, .slice av d.data.length cv] 47))⟩, hf.older G1.out, hw, hl, ?_⟩
    exact (G2.out.then_upd hu (by intro x hx; simp only [List.mem_cons, List.not_mem_nil, or_false] at hx; omega)).trans (Grow.alloc W' _))
  clear ho hf hw hl hC hU
  have ⟨y0, y1, y2, y3, y4⟩ := B2.out.five; have yz := B2.out.2.2; have yl := B2.out.1
  go_wp2
  refine bodyPost_ret (v := .agg #[.int .i64 d.ttl, .int .i64 d.proto, .int .i64 d.src, .int .i64 d.dst, .slice av d.data.length cv]) ?_ rfl (HR.out _ ?_)
  · simp [results, Try.results66, go_sem, y0, y1, y2, y3, y4, yz, yl] <;> omega
  · ((repeat (first | (with_reducible refine Upd.setCell ?_ (by simp) _) | with_reducible exact Upd.refl _ _)))
--% DrawHop 68
set_option maxRecDepth 20000 in
set_option maxHeartbeats 4000000 in
theorem drawHop_any (w : World) (v : Value) (cs : List Int) (h : RdB w v cs) (hb : Bytes cs) (hm : cs.length ≤ 1048576) : Calls Try.prog 68 #[v] w (RetIpN w) := by
  have HV := Lib.hid h; have HB : Hid (Bytes cs) := Lib.hid hb
  clear h hb
  go_enter Try.func68, Try.ntmps68
  go_wp2_with fail
  refine at_world (w := w) ?G (fun hG => (l01New_any _ _ cs (HV.out.grow hG) HB.out hm).mono ?_)
  case G => ((repeat (first | with_reducible exact Grow.refl _ | (with_reducible refine Grow.alloc_ ?_ _) | (with_reducible refine Grow.setCell_ ?_ (by first | exact Nat.le_refl _ | (simp only [World.alloc, Array.size_push]; omega) | omega) _))))
  rintro e w1 ⟨p, rfl, hC, hp, hg⟩
  have G1 := Lib.hid (hG.trans hg); have P1 := Lib.hid hp
  have B0 := Lib.hid ((Box.alloc w [.int .i64 0, .int .i64 0, .int .i64 0, .int .i64 0, .slice none 0 0] 47).grow hg)
  have C1 := Lib.hid hC
  have PP : Hid (w.heap.size < p) := Lib.hid (by have := hp; simp only [World.alloc, Array.size_push] at this; omega)
  clear hC hp hg hG
  go_wp2_with fail
  refine (l03Any_any _ p C1.out).mono ?_
  rintro e w2 ⟨V, d, fp, rfl, ⟨v0, rfl, ho⟩, hf, hw, hl, hC, hU⟩
  obtain ⟨av, cv, rfl⟩ := own_shape ho.1
  have B2 := Lib.hid (B0.out.upd hU (by have := PP.out; simp; omega))
  have G2 := Lib.hid (G1.out.then_upd hU (by intro x hx; have := PP.out; simp only [List.mem_cons, List.not_mem_nil, or_false] at hx; omega))
  have HR : Hid (∀ W', Upd [w.heap.size] w2 W' → RetIpN w (.returned (.agg #[.int .i64 d.ttl, .int .i64 d.proto, .int .i64 d.src, .int .i64 d.dst, .slice av d.data.length cv])) (W'.alloc (.cells #[.int .i64 d.ttl, .int .i64 d.proto, .int .i64 d.src, .int .i64 d.dst, .slice av d.data.length cv] 47))) := Lib.hid (fun W' hu => by
    refine ⟨_, d, fp, rfl, ⟨_, rfl, (ho.upd hu (fun x hx hm => by have h1 := hf x hx; have h2 := B0.out.1; simp only [List.mem_cons, List.not_mem_nil, or_false] at hm; omega)).grow (Grow.alloc W' (.cells #[.int .i64 d.ttl, .int .i64 d.proto, .int .i64 d.src, .int .i64 d.dst, .slice av d.data.length cv] 47))⟩, hf.older G1.out, hw, hl, ?_⟩
    exact (G2.out.then_upd hu (by intro x hx; simp only [List.mem_cons, List.not_mem_nil, or_false] at hx; omega)).trans (Grow.alloc W' _))
  clear ho hf hw hl hC hU
  have ⟨y0, y1, y2, y3, y4⟩ := B2.out.five; have yz := B2.out.2.2; have yl := B2.out.1
  go_wp2
  refine bodyPost_ret (v := .agg #[.int .i64 d.ttl, .int .i64 d.proto, .int .i64 d.src, .int .i64 d.dst, .slice av d.data.length cv]) ?_ rfl (HR.out _ ?_)
  · simp [results, Try.results68, go_sem, y0, y1, y2, y3, y4, yz, yl] <;> omega
  · ((repeat (first | (with_reducible refine Upd.setCell ?_ (by simp) _) | with_reducible exact Upd.refl _ _)))
--%
end Go.Proofs.Ytcldfodnblkeiaa
