/- The draws of heads: contracts that tell only bounds (printed by gdh.py). -/
import Derived.Test.YtgigdpdmdldhnaaDrb
import Derived.Test.YtgigdpdmdldhnaaHs
import Derived.Test.YtgigdpdmdldhnaaReg2
import Derived.WalkKit
import Derived.ProofKit
import Derived.Deep.QuietTactic
import Derived.BigQuiet
import Derived.Outline
import Derived.WalkSpells
namespace Go.Proofs.Ytgigdpdmdldhnaa
open Go.ChangeShapes Go.WideShapes Go.ChangeAt Go.RowKit
set_option linter.unusedVariables false
set_option linter.unusedSimpArgs false
--%
theorem ON.new {w W : World} {p : Nat} (d : DS w W p) (zs : List Int) (h : zs.length ≤ 1000) : ON w (W.alloc (.cells (zs.map (Value.int .i64)).toArray 3)) (.slice (some ⟨W.heap.size, 0, none⟩) zs.length zs.length) zs :=
  own_mono (own_built W _ 1 zs.length (zs.map (Value.int .i64)) (by simp) (by unfold maxLen; omega)) d.size
theorem fb_bd (f : Int) : 0 ≤ fieldBits f ∧ fieldBits f ≤ 48 := by rcases bits_full f with h | h | h | h | h <;> omega
theorem on_app {w W W' : World} {p R b : Nat} {v v' : Value} {zs ys : List Int} {cr cb : List Value} {cs : Array Value} {t : TypeId} (D : DS w W p) (BR : Bx w W R cr) (BH : Bx w W b cb) (O : ON w W v zs) (nb : ∀ x ∈ fpOf v, x ≠ R ∧ x ≠ b)
    (hown : W'.ownsRow w.heap.size 3 1 v' (zs.length + ys.length) (zs.map (Value.int .i64) ++ ys.map (Value.int .i64))) (hgr : (W.alloc (.cells cs t)).grownBy W' v.ownBlock) (hmv : Moved (W.alloc (.cells cs t)) v v') :
    DS w W' p ∧ Bx w W' R cr ∧ Bx w W' b cb ∧ ON w W' v' (zs ++ ys) ∧ ∀ x ∈ fpOf v', x ≠ R ∧ x ≠ b := by
  have u := Upd.of_grown hgr
  have g := Grow.alloc W (.cells cs t)
  refine ⟨(D.grow g).own u (fun x hx => (own_new_ O x hx).1), (BR.grow g).own u (fun hx => (nb _ hx).1 rfl), (BH.grow g).own u (fun hx => (nb _ hx).2 rfl), ?_, fun x hx => ?_⟩
  · unfold ON
    rw [List.length_append, List.map_append]
    exact hown
  · rcases hmv x (by simpa [fpOf] using hx) with h | h
    · exact nb x (by simpa [fpOf] using h)
    · have h1 := (BH.grow g).1.1; have h2 := (BR.grow g).1.1
      exact ⟨by omega, by omega⟩
/-- A drawn head: its numbers, of at most n. -/
def RetHd (n : Nat) (w : World) (p : Nat) (e : Ending) (w' : World) : Prop := ∃ v zs, e = .returned (.agg #[v]) ∧ ON w w' v zs ∧ WfN zs ∧ zs.length ≤ n ∧ (n = 8 → zs.length = 8) ∧ Cur w' p ∧ Upd [p] w w'
theorem retHd {w W W' : World} {p n R : Nat} {v : Value} {zs : List Int} {cs : List Value} (D : DS w W p) (BR : Bx w W R cs) (O : ON w W v zs) (ne : ∀ x ∈ fpOf v, x ≠ R) (hw : WfN zs) (hl : zs.length ≤ n) (h8 : n = 8 → zs.length = 8) (u : Upd [R] W W') : RetHd n w p (.returned (.agg #[v])) W' := by
  have d := D.own u (fun x hx => by simp only [List.mem_cons, List.not_mem_nil, or_false] at hx; subst hx; exact BR.2)
  exact ⟨v, zs, rfl, own_apart O u (fun x hx hm => by simp only [List.mem_cons, List.not_mem_nil, or_false] at hm; exact ne x hx hm), hw, hl, h8, d.cur, d.upd⟩
--% l04Head 127
set_option maxRecDepth 20000 in
set_option maxHeartbeats 4000000 in
theorem l04Head_any (w : World) (p : Nat) (hc : Cur w p) : Calls Try.prog 127 #[.pointer (some ⟨p, 0, none⟩)] w (RetHd 8 w p) := by
  have D0 := Lib.hid (DS.start hc); clear hc
  go_enter Try.func127, Try.ntmps127
  go_wp2_with fail
  have D := Lib.hid (D0.out.grow (Grow.alloc w (.cells #[.slice none 0 0] 42)))
  have BR : Hid (Bx w (w.alloc (.cells #[.slice none 0 0] 42)) w.heap.size [.slice none 0 0]) := Lib.hid (Bx.new D0.out [.slice none 0 0] 42)
  clear D0
  generalize w.alloc (.cells #[.slice none 0 0] 42) = W0 at *
  refine (l01Below_any _ p 4 (by decide) D.out.cur).mono ?_
  rintro e w1 ⟨x1, rfl, h1a, h1b, -, hC, hU⟩
  have h1b := h1b (by decide)
  replace BR := Lib.hid (BR.out.call D.out hU)
  replace D := Lib.hid (D.out.call hC hU)
  clear hC hU
  go_wp2_with fail
  refine (l01Below_any _ p 5 (by decide) D.out.cur).mono ?_
  rintro e w2 ⟨x2, rfl, h2a, h2b, -, hC, hU⟩
  have h2b := h2b (by decide)
  replace BR := Lib.hid (BR.out.call D.out hU)
  replace D := Lib.hid (D.out.call hC hU)
  clear hC hU
  go_wp2_with fail
  refine (l01Below_any _ p 5 (by decide) D.out.cur).mono ?_
  rintro e w3 ⟨x3, rfl, h3a, h3b, -, hC, hU⟩
  have h3b := h3b (by decide)
  replace BR := Lib.hid (BR.out.call D.out hU)
  replace D := Lib.hid (D.out.call hC hU)
  clear hC hU
  go_wp2_with fail
  refine (l01Below_any _ p 3 (by decide) D.out.cur).mono ?_
  rintro e w4 ⟨x4, rfl, h4a, h4b, -, hC, hU⟩
  have h4b := h4b (by decide)
  replace BR := Lib.hid (BR.out.call D.out hU)
  replace D := Lib.hid (D.out.call hC hU)
  clear hC hU
  go_wp2_with fail
  refine (l01Below_any _ p 4 (by decide) D.out.cur).mono ?_
  rintro e w5 ⟨x5, rfl, h5a, h5b, -, hC, hU⟩
  have h5b := h5b (by decide)
  replace BR := Lib.hid (BR.out.call D.out hU)
  replace D := Lib.hid (D.out.call hC hU)
  clear hC hU
  go_wp2_with fail
  refine (l01Below_any _ p 4 (by decide) D.out.cur).mono ?_
  rintro e w6 ⟨x6, rfl, h6a, h6b, -, hC, hU⟩
  have h6b := h6b (by decide)
  replace BR := Lib.hid (BR.out.call D.out hU)
  replace D := Lib.hid (D.out.call hC hU)
  clear hC hU
  go_wp2_with fail
  have WF : Hid (WfN [1 + x1, x2, x3, 2048, x4, x5, x6, 17]) := Lib.hid (wf_row8 (by unfold I64; omega) (by unfold I64; omega) (by unfold I64; omega) (by unfold I64; omega) (by unfold I64; omega) (by unfold I64; omega) (by unfold I64; omega) (by unfold I64; omega))
  have O : Hid (ON w (w6.alloc (.cells #[.int .i64 (1 + x1), .int .i64 x2, .int .i64 x3, .int .i64 2048, .int .i64 x4, .int .i64 x5, .int .i64 x6, .int .i64 17] 3)) (.slice (some ⟨w6.heap.size, 0, none⟩) 8 8) [1 + x1, x2, x3, 2048, x4, x5, x6, 17]) := Lib.hid (ON.new D.out [1 + x1, x2, x3, 2048, x4, x5, x6, 17] (by simp))
  replace O : Hid (ON w ((w6.alloc (.cells #[.int .i64 (1 + x1), .int .i64 x2, .int .i64 x3, .int .i64 2048, .int .i64 x4, .int .i64 x5, .int .i64 x6, .int .i64 17] 3)).alloc (.cells #[.slice (some ⟨w6.heap.size, 0, none⟩) 8 8] 42)) (.slice (some ⟨w6.heap.size, 0, none⟩) 8 8) [1 + x1, x2, x3, 2048, x4, x5, x6, 17]) := Lib.hid (O.out.grow (Grow.alloc _ _))
  have BH : Hid (Bx w ((w6.alloc (.cells #[.int .i64 (1 + x1), .int .i64 x2, .int .i64 x3, .int .i64 2048, .int .i64 x4, .int .i64 x5, .int .i64 x6, .int .i64 17] 3)).alloc (.cells #[.slice (some ⟨w6.heap.size, 0, none⟩) 8 8] 42)) (w6.heap.size + 1) [.slice (some ⟨w6.heap.size, 0, none⟩) 8 8]) := Lib.hid ⟨(Box.alloc (w6.alloc (.cells #[.int .i64 (1 + x1), .int .i64 x2, .int .i64 x3, .int .i64 2048, .int .i64 x4, .int .i64 x5, .int .i64 x6, .int .i64 17] 3)) [.slice (some ⟨w6.heap.size, 0, none⟩) 8 8] 42).at_ (by simp only [World.alloc, Array.size_push]), by have := D.out.size; omega⟩
  have nR : Hid (w.heap.size < w6.heap.size) := Lib.hid BR.out.1.1
  replace BR := Lib.hid (BR.out.grow ((Grow.alloc w6 (.cells #[.int .i64 (1 + x1), .int .i64 x2, .int .i64 x3, .int .i64 2048, .int .i64 x4, .int .i64 x5, .int .i64 x6, .int .i64 17] 3)).trans (Grow.alloc _ (.cells #[.slice (some ⟨w6.heap.size, 0, none⟩) 8 8] 42))))
  replace D := Lib.hid (D.out.grow ((Grow.alloc w6 (.cells #[.int .i64 (1 + x1), .int .i64 x2, .int .i64 x3, .int .i64 2048, .int .i64 x4, .int .i64 x5, .int .i64 x6, .int .i64 17] 3)).trans (Grow.alloc _ (.cells #[.slice (some ⟨w6.heap.size, 0, none⟩) 8 8] 42))))
  generalize (w6.alloc (.cells #[.int .i64 (1 + x1), .int .i64 x2, .int .i64 x3, .int .i64 2048, .int .i64 x4, .int .i64 x5, .int .i64 x6, .int .i64 17] 3)).alloc (.cells #[.slice (some ⟨w6.heap.size, 0, none⟩) 8 8] 42) = W7 at *
  generalize w6.heap.size = g at *
  generalize [1 + x1, x2, x3, 2048, x4, x5, x6, 17] = zs at *
  have hz8 : Hid (zs.length = 8) := Lib.hid O.out.len.symm
  have n1 : ¬ g = w.heap.size := by have := nR.out; omega
  have n2 : ¬ g + 1 = w.heap.size := by have := nR.out; omega
  have n3 : ¬ w.heap.size = g + 1 := by have := nR.out; omega
  refine (l01Below_any _ p 4 (by decide) D.out.cur).mono ?_
  rintro e w7 ⟨x7, rfl, h7a, h7b, -, hC, hU⟩
  have h7b := h7b (by decide)
  replace BR := Lib.hid (BR.out.call D.out hU)
  replace BH := Lib.hid (BH.out.call D.out hU)
  replace O := Lib.hid (O.out.call D.out hU)
  replace D := Lib.hid (D.out.call hC hU)
  clear hC hU
  have q0 := BH.out.1.one; have qz := BH.out.1.2.2; have ql := BH.out.1.1; have r0 := BR.out.1.one; have rz := BR.out.1.2.2; have rl := BR.out.1.1
  by_cases k7 : x7 = 0
  rotate_left
  · have hk7 : (x7 == 0) = false := by simpa using k7
    go_wp2
    have HR : Hid (∀ W, Upd [w.heap.size] w7 W → RetHd 8 w p (.returned (.agg #[.slice (some ⟨g, 0, none⟩) 8 8])) W) := Lib.hid (fun W hu => retHd D.out BR.out O.out (fun x hx => by simp only [fpOf, Value.ownBlock, Option.map_some, Option.toList_some, List.mem_cons, List.not_mem_nil, or_false] at hx; omega) WF.out (by have := hz8.out; omega) (fun _ => hz8.out) hu)
    refine bodyPost_ret (v := .agg #[.slice (some ⟨g, 0, none⟩) 8 8]) ?_ rfl (HR.out _ ?_)
    · simp [results, Try.results127, go_sem, q0, qz, ql, r0, rz, rl] <;> omega
    · ((repeat (first | (with_reducible refine Upd.setCell ?_ (by simp) _) | with_reducible exact Upd.refl _ _)))

  subst k7
  go_wp2_with fail
  clear q0 qz ql r0 rz rl
  refine (l01Below_any _ p 8 (by decide) D.out.cur).mono ?_
  rintro e w8 ⟨x8, rfl, h8a, h8b, -, hC, hU⟩
  have h8b := h8b (by decide)
  replace BR := Lib.hid (BR.out.call D.out hU)
  replace BH := Lib.hid (BH.out.call D.out hU)
  replace O := Lib.hid (O.out.call D.out hU)
  replace D := Lib.hid (D.out.call hC hU)
  clear hC hU
  obtain ⟨k, rfl⟩ := Int.eq_ofNat_of_zero_le h8a
  have q0 := BH.out.1.one; have qz := BH.out.1.2.2; have ql := BH.out.1.1; have r0 := BR.out.1.one; have rz := BR.out.1.2.2; have rl := BR.out.1.1
  go_wp2_with fail
  clear q0 qz ql r0 rz rl
  obtain ⟨C, hC⟩ : ∃ C : World → Prop, C = fun W => Box W (g + 1) [.slice (some ⟨g, 0, none⟩) 8 8] := ⟨_, rfl⟩
  have CC : Hid (∀ W, C W → Box W (g + 1) [.slice (some ⟨g, 0, none⟩) 8 8]) := Lib.hid (fun W h => by rw [hC] at h; exact h)
  have MK : Hid (∀ W, Box W (g + 1) [.slice (some ⟨g, 0, none⟩) 8 8] → C W) := Lib.hid (fun W h => by rw [hC]; exact h)
  clear hC
  have g0 := Grow.drewN w8 1
  replace BR := Lib.hid (BR.out.grow g0); replace BH := Lib.hid (BH.out.grow g0); replace O := Lib.hid (O.out.grow g0); replace D := Lib.hid (D.out.grow g0)
  clear g0
  have c0 : Hid (C (w8.drewN 1)) := Lib.hid (MK.out _ BH.out.1)
  have hne : Nonempty (Cl C) := ⟨⟨_, c0.out⟩⟩
  have p0 : ∀ x : Cl C, x.w.cell? ⟨g + 1, 0, none⟩ = some (.slice (some ⟨g, 0, none⟩) 8 8) := fun x => (CC.out x.w x.ok).one
  have pz : ∀ x : Cl C, ∀ o, x.w.frozen? ⟨g + 1, o, none⟩ = false := fun x => (CC.out x.w x.ok).2.2
  have pl : ∀ x : Cl C, g + 1 < x.w.heap.size := fun x => (CC.out x.w x.ok).1
  refine wp_region_mix (Cls C) 13 #[false, false, false, false, false, false, false, false, false, false, false, false, false] (by kernel_rfl) (by kernel_rfl) ⟨⟨_, c0.out⟩, rfl⟩ ?_
  refine anyC_seg [0, 1, 2, 3, 8] #[true, true, true, true, false, false, false, false, true, false, false, false, false] (fuel := 8) rfl (by kernel_rfl) ⟨⟨_, c0.out⟩, rfl⟩ ?_
  simp only [pickOps, List.getD_cons_succ, List.getD_cons_zero]
  repeat (go_big_quiet_step (fail))
  refine wpQuiet_nil ?_
  refine anyC_sole 4 #[true, true, true, true, true, false, false, false, true, false, false, false, false] (fuel := 7) (by kernel_rfl) ?_
  simp only [List.getD_cons_succ, List.getD_cons_zero]
  go_wp2_with fail
  refine (fieldBitsS_any _ _).mono ?_
  rintro e w9 ⟨rfl, hg⟩
  have hfb := fb_bd ((k : Int))
  generalize fieldBits ((k : Int)) = fb at *
  replace BR := Lib.hid (BR.out.grow hg); replace BH := Lib.hid (BH.out.grow hg); replace O := Lib.hid (O.out.grow hg); replace D := Lib.hid (D.out.grow hg)
  clear hg
  have c9 : Hid (C w9) := Lib.hid (MK.out _ BH.out.1)
  go_wp2
  refine ⟨⟨⟨_, c9.out⟩, rfl⟩, ?_⟩
  refine anyC_seg [5] #[true, true, true, true, true, true, false, false, true, false, false, false, false] (fuel := 6) rfl (by kernel_rfl) ⟨⟨_, c9.out⟩, rfl⟩ ?_
  simp only [pickOps, List.getD_cons_succ, List.getD_cons_zero]
  repeat (go_big_quiet_step (fail))
  refine wpQuiet_nil ?_
  refine anyC_sole 6 #[true, true, true, true, true, true, true, false, true, false, false, false, false] (fuel := 5) (by kernel_rfl) ?_
  simp only [List.getD_cons_succ, List.getD_cons_zero]
  go_wp2_with fail
  refine (l01Pow_I _ _ (by omega) (by omega)).mono ?_
  rintro e w10 ⟨x10, rfl, h10, rfl⟩
  have I10 := Lib.hid h10
  clear h10
  go_wp2
  refine ⟨⟨⟨_, c9.out⟩, rfl⟩, ?_⟩
  refine anyC_seg [7] #[true, true, true, true, true, true, true, true, true, false, false, false, false] (fuel := 4) rfl (by kernel_rfl) ⟨⟨_, c9.out⟩, rfl⟩ ?_
  simp only [pickOps, List.getD_cons_succ, List.getD_cons_zero]
  repeat (go_big_quiet_step (fail))
  refine wpQuiet_nil ?_
  refine anyC_sole 9 #[true, true, true, true, true, true, true, true, true, true, false, false, false] (fuel := 3) (by kernel_rfl) ?_
  simp only [List.getD_cons_succ, List.getD_cons_zero]
  go_wp2_with fail
  refine (l01Below_any _ p 2 (by decide) D.out.cur).mono ?_
  rintro e w11 ⟨x11, rfl, h11a, h11b, -, hC, hU⟩
  have h11b := h11b (by decide)
  replace BR := Lib.hid (BR.out.call D.out hU); replace BH := Lib.hid (BH.out.call D.out hU); replace O := Lib.hid (O.out.call D.out hU); replace D := Lib.hid (D.out.call hC hU)
  clear hC hU
  have c11 : Hid (C w11) := Lib.hid (MK.out _ BH.out.1)
  go_wp2
  refine ⟨⟨⟨_, c11.out⟩, rfl⟩, ?_⟩
  refine anyC_seg [10, 11] #[true, true, true, true, true, true, true, true, true, true, true, true, false] (fuel := 1) rfl (by kernel_rfl) ⟨⟨_, c11.out⟩, rfl⟩ ?_
  simp only [pickOps, List.getD_cons_succ, List.getD_cons_zero]
  repeat (go_big_quiet_step (fail))
  refine wpQuiet_nil ?_
  refine anyC_sole 12 #[true, true, true, true, true, true, true, true, true, true, true, true, true] (fuel := 0) (by kernel_rfl) ?_
  simp only [List.getD_cons_succ, List.getD_cons_zero]
  have og := O.out.cell k (by have := hz8.out; omega); have of := O.out.frz (by have := hz8.out; omega); have ol : g < w11.heap.size := (own_new_ O.out g (by simp [fpOf, Value.ownBlock])).2
  have US : Hid (Upd [g] w11 (w11.setCell ⟨g, k, none⟩ (.int .i64 (wrap64 (wrap64 (x10 - 1) - x11))))) := Lib.hid (Upd.setCell (p := ⟨g, k, none⟩) (Upd.refl [g] w11) (by simp) _)
  go_wp2
  replace D := Lib.hid (ON.set_ D.out O.out k (.int .i64 (wrap64 (wrap64 (x10 - 1) - x11)))); replace O := Lib.hid (O.out.put k (by have := hz8.out; omega) (wrap64 (wrap64 (x10 - 1) - x11))); replace BH := Lib.hid (BH.out.own US.out (by simp <;> omega)); replace BR := Lib.hid (BR.out.own US.out (by simp; omega))
  clear og of ol US
  generalize w11.setCell ⟨g, k, none⟩ (.int .i64 (wrap64 (wrap64 (x10 - 1) - x11))) = WS at *
  have cS : Hid (C WS) := Lib.hid (MK.out _ BH.out.1)
  refine ⟨⟨⟨_, cS.out⟩, rfl⟩, ?_⟩
  refine anyC_done (by kernel_rfl) ?_
  clear p0 pz pl
  replace WF := Lib.hid (WfN.set (k := k) WF.out (wrap64_bd (wrap64 (x10 - 1) - x11)))
  replace hz8 : Hid ((zs.set k (wrap64 (wrap64 (x10 - 1) - x11))).length = 8) := Lib.hid (by rw [List.length_set]; exact hz8.out)
  generalize zs.set k (wrap64 (wrap64 (x10 - 1) - x11)) = zt at *
  have q0 := BH.out.1.one; have qz := BH.out.1.2.2; have ql := BH.out.1.1; have r0 := BR.out.1.one; have rz := BR.out.1.2.2; have rl := BR.out.1.1
  go_wp2
  have HR : Hid (∀ W, Upd [w.heap.size] WS W → RetHd 8 w p (.returned (.agg #[.slice (some ⟨g, 0, none⟩) 8 8])) W) := Lib.hid (fun W hu => retHd D.out BR.out O.out (fun x hx => by simp only [fpOf, Value.ownBlock, Option.map_some, Option.toList_some, List.mem_cons, List.not_mem_nil, or_false] at hx; omega) WF.out (by have := hz8.out; omega) (fun _ => hz8.out) hu)
  refine bodyPost_ret (v := .agg #[.slice (some ⟨g, 0, none⟩) 8 8]) ?_ rfl (HR.out _ ?_)
  · simp [results, Try.results127, go_sem, q0, qz, ql, r0, rz, rl] <;> omega
  · ((repeat (first | (with_reducible refine Upd.setCell ?_ (by simp) _) | with_reducible exact Upd.refl _ _)))
--% l04Any 87
set_option maxRecDepth 20000 in
set_option maxHeartbeats 4000000 in
theorem l04Any_any (w : World) (p : Nat) (hc : Cur w p) : Calls Try.prog 87 #[.pointer (some ⟨p, 0, none⟩)] w (RetHd 9 w p) := by
  have D0 := Lib.hid (DS.start hc); clear hc
  go_enter Try.func87, Try.ntmps87
  go_wp2_with fail
  have D := Lib.hid (D0.out.grow (Grow.alloc w (.cells #[.slice none 0 0] 42)))
  have BR : Hid (Bx w (w.alloc (.cells #[.slice none 0 0] 42)) w.heap.size [.slice none 0 0]) := Lib.hid (Bx.new D0.out [.slice none 0 0] 42)
  clear D0
  generalize w.alloc (.cells #[.slice none 0 0] 42) = W0 at *
  refine (l04Head_any _ p D.out.cur).mono ?_
  rintro e w1 ⟨v, zs, rfl, ho, hw, -, h8, hC, hU⟩
  obtain ⟨a, c, rfl⟩ := own_shape ho
  have hz8 : Hid (zs.length = 8) := Lib.hid (h8 rfl)
  obtain ⟨g, rfl⟩ := own_some ho (by have := hz8.out; omega)
  rw [hz8.out] at ho ⊢
  have nR : Hid (w.heap.size < g ∧ g < w1.heap.size) := Lib.hid (by have h1 := own_new_ ho g (by simp [fpOf, Value.ownBlock]); have h2 := BR.out.1.1; exact ⟨by omega, h1.2⟩)
  have WF := Lib.hid hw
  have hcb : 8 ≤ c ∧ c ≤ maxLen := by
    obtain ⟨a', n', c', e', -, h1, h2, -⟩ := (OwnR.of ho).1.rd
    simp only [Value.slice.injEq] at e'
    obtain ⟨-, rfl, rfl⟩ := e'
    exact ⟨h1, h2⟩
  unfold maxLen at hcb
  have O : Hid (ON w (w1.alloc (.cells #[.slice (some ⟨g, 0, none⟩) 8 c] 42)) (.slice (some ⟨g, 0, none⟩) 8 c) zs) := Lib.hid (own_grow (own_mono ho D.out.size) (Grow.alloc _ _))
  have BH : Hid (Bx w (w1.alloc (.cells #[.slice (some ⟨g, 0, none⟩) 8 c] 42)) w1.heap.size [.slice (some ⟨g, 0, none⟩) 8 c]) := Lib.hid ⟨Box.alloc w1 [.slice (some ⟨g, 0, none⟩) 8 c] 42, Nat.le_trans D.out.size hU.size⟩
  replace BR := Lib.hid ((BR.out.call D.out hU).grow (Grow.alloc w1 (.cells #[.slice (some ⟨g, 0, none⟩) 8 c] 42)))
  replace D := Lib.hid ((D.out.call hC hU).grow (Grow.alloc w1 (.cells #[.slice (some ⟨g, 0, none⟩) 8 c] 42)))
  clear ho hw h8 hC hU
  go_wp2_with fail
  generalize w1.alloc (.cells #[.slice (some ⟨g, 0, none⟩) 8 c] 42) = W2 at *
  generalize w1.heap.size = b at *
  have n1 : ¬ g = w.heap.size := by have := nR.out; omega
  have n2 : ¬ b = w.heap.size := by have := nR.out; omega
  have n3 : ¬ w.heap.size = b := by have := nR.out; omega
  have n4 : ¬ g = b := by have := nR.out; omega
  have n5 : ¬ b = g := by have := nR.out; omega
  refine (l01Below_any _ p 12 (by decide) D.out.cur).mono ?_
  rintro e w3 ⟨x3, rfl, h3a, h3b, -, hC, hU⟩
  have h3b := h3b (by decide)
  replace BR := Lib.hid (BR.out.call D.out hU)
  replace BH := Lib.hid (BH.out.call D.out hU)
  replace O := Lib.hid (O.out.call D.out hU)
  replace D := Lib.hid (D.out.call hC hU)
  clear hC hU
  by_cases c0 : x3 = 0
  · subst c0
    have q0 := BH.out.1.one; have qz := BH.out.1.2.2; have ql := BH.out.1.1; have r0 := BR.out.1.one; have rz := BR.out.1.2.2; have rl := BR.out.1.1
    go_wp2_with fail
    clear q0 qz ql r0 rz rl
    obtain ⟨C, hC⟩ : ∃ C : World → Prop, C = fun W => Box W (b) [.slice (some ⟨g, 0, none⟩) 8 c] := ⟨_, rfl⟩
    have CC : Hid (∀ W, C W → Box W (b) [.slice (some ⟨g, 0, none⟩) 8 c]) := Lib.hid (fun W h => by rw [hC] at h; exact h)
    have MK : Hid (∀ W, Box W (b) [.slice (some ⟨g, 0, none⟩) 8 c] → C W) := Lib.hid (fun W h => by rw [hC]; exact h)
    clear hC
    have g0 := Grow.drewN w3 1
    replace BR := Lib.hid (BR.out.grow g0); replace BH := Lib.hid (BH.out.grow g0); replace O := Lib.hid (O.out.grow g0); replace D := Lib.hid (D.out.grow g0)
    clear g0
    have c0 : Hid (C (w3.drewN 1)) := Lib.hid (MK.out _ BH.out.1)
    have hne : Nonempty (Cl C) := ⟨⟨_, c0.out⟩⟩
    have p0 : ∀ x : Cl C, x.w.cell? ⟨b, 0, none⟩ = some (.slice (some ⟨g, 0, none⟩) 8 c) := fun x => (CC.out x.w x.ok).one
    have pz : ∀ x : Cl C, ∀ o, x.w.frozen? ⟨b, o, none⟩ = false := fun x => (CC.out x.w x.ok).2.2
    have pl : ∀ x : Cl C, b < x.w.heap.size := fun x => (CC.out x.w x.ok).1
    refine wp_region_mix (Cls C) 8 #[false, false, false, false, false, false, false, false] (by kernel_rfl) (by kernel_rfl) ⟨⟨_, c0.out⟩, rfl⟩ ?_
    refine anyC_seg [0, 1, 2, 4] #[true, true, true, false, true, false, false, false] (fuel := 4) rfl (by kernel_rfl) ⟨⟨_, c0.out⟩, rfl⟩ ?_
    simp only [pickOps, List.getD_cons_succ, List.getD_cons_zero]
    repeat (go_big_quiet_step (fail))
    refine wpQuiet_nil ?_
    refine anyC_sole 3 #[true, true, true, true, true, false, false, false] (fuel := 3) (by kernel_rfl) ?_
    simp only [List.getD_cons_succ, List.getD_cons_zero]
    go_wp2_with fail
    refine (l01Below_any _ p 8 (by decide) D.out.cur).mono ?_
    rintro e w4 ⟨x4, rfl, h4a, h4b, -, hC, hU⟩
    have h4b := h4b (by decide)
    obtain ⟨k, rfl⟩ := Int.eq_ofNat_of_zero_le h4a
    replace BR := Lib.hid (BR.out.call D.out hU); replace BH := Lib.hid (BH.out.call D.out hU); replace O := Lib.hid (O.out.call D.out hU); replace D := Lib.hid (D.out.call hC hU)
    clear hC hU
    have c4 : Hid (C w4) := Lib.hid (MK.out _ BH.out.1)
    go_wp2
    refine ⟨⟨⟨_, c4.out⟩, rfl⟩, ?_⟩
    refine anyC_sole 5 #[true, true, true, true, true, true, false, false] (fuel := 2) (by kernel_rfl) ?_
    simp only [List.getD_cons_succ, List.getD_cons_zero]
    go_wp2_with fail
    refine (l01Raw_any _ p D.out.cur).mono ?_
    rintro e w5 ⟨x5, rfl, h5, hC, hU⟩
    have I5 := Lib.hid h5
    clear h5
    replace BR := Lib.hid (BR.out.call D.out hU); replace BH := Lib.hid (BH.out.call D.out hU); replace O := Lib.hid (O.out.call D.out hU); replace D := Lib.hid (D.out.call hC hU)
    clear hC hU
    have c5 : Hid (C w5) := Lib.hid (MK.out _ BH.out.1)
    go_wp2
    refine ⟨⟨⟨_, c5.out⟩, rfl⟩, ?_⟩
    refine anyC_seg [6] #[true, true, true, true, true, true, true, false] (fuel := 1) rfl (by kernel_rfl) ⟨⟨_, c5.out⟩, rfl⟩ ?_
    simp only [pickOps, List.getD_cons_succ, List.getD_cons_zero]
    repeat (go_big_quiet_step (fail))
    refine wpQuiet_nil ?_
    refine anyC_sole 7 #[true, true, true, true, true, true, true, true] (fuel := 0) (by kernel_rfl) ?_
    simp only [List.getD_cons_succ, List.getD_cons_zero]
    have og := O.out.cell k (by have := hz8.out; omega); have of := O.out.frz (by have := hz8.out; omega); have ol : g < w5.heap.size := (own_new_ O.out g (by simp [fpOf, Value.ownBlock])).2
    have US : Hid (Upd [g] w5 (w5.setCell ⟨g, k, none⟩ (.int .i64 (x5)))) := Lib.hid (Upd.setCell (p := ⟨g, k, none⟩) (Upd.refl [g] w5) (by simp) _)
    go_wp2
    replace D := Lib.hid (ON.set_ D.out O.out k (.int .i64 (x5))); replace O := Lib.hid (O.out.put k (by have := hz8.out; omega) (x5)); replace BH := Lib.hid (BH.out.own US.out (by simp <;> omega)); replace BR := Lib.hid (BR.out.own US.out (by simp; omega))
    clear og of ol US
    generalize w5.setCell ⟨g, k, none⟩ (.int .i64 (x5)) = WS at *
    have cS : Hid (C WS) := Lib.hid (MK.out _ BH.out.1)
    refine ⟨⟨⟨_, cS.out⟩, rfl⟩, ?_⟩
    refine anyC_done (by kernel_rfl) ?_
    clear p0 pz pl
    replace WF := Lib.hid (WfN.set (k := k) WF.out I5.out)
    replace hz8 : Hid ((zs.set k x5).length = 8) := Lib.hid (by rw [List.length_set]; exact hz8.out)
    generalize zs.set k x5 = zt at *
    have q0 := BH.out.1.one; have qz := BH.out.1.2.2; have ql := BH.out.1.1; have r0 := BR.out.1.one; have rz := BR.out.1.2.2; have rl := BR.out.1.1
    go_wp2
    have HR : Hid (∀ W, Upd [w.heap.size] WS W → RetHd 9 w p (.returned (.agg #[.slice (some ⟨g, 0, none⟩) 8 c])) W) := Lib.hid (fun W hu => retHd D.out BR.out O.out (fun x hx => by simp only [fpOf, Value.ownBlock, Option.map_some, Option.toList_some, List.mem_cons, List.not_mem_nil, or_false] at hx; omega) WF.out (by have := hz8.out; omega) (by omega) hu)
    refine bodyPost_ret (v := .agg #[.slice (some ⟨g, 0, none⟩) 8 c]) ?_ rfl (HR.out _ ?_)
    · simp [results, Try.results87, go_sem, q0, qz, ql, r0, rz, rl] <;> omega
    · ((repeat (first | (with_reducible refine Upd.setCell ?_ (by simp) _) | with_reducible exact Upd.refl _ _)))
  by_cases c1 : x3 = 1
  · subst c1
    have q0 := BH.out.1.one; have qz := BH.out.1.2.2; have ql := BH.out.1.1; have r0 := BR.out.1.one; have rz := BR.out.1.2.2; have rl := BR.out.1.1
    go_wp2_with fail
    clear q0 qz ql r0 rz rl
    obtain ⟨C, hC⟩ : ∃ C : World → Prop, C = fun W => Box W (b) [.slice (some ⟨g, 0, none⟩) 8 c] := ⟨_, rfl⟩
    have CC : Hid (∀ W, C W → Box W (b) [.slice (some ⟨g, 0, none⟩) 8 c]) := Lib.hid (fun W h => by rw [hC] at h; exact h)
    have MK : Hid (∀ W, Box W (b) [.slice (some ⟨g, 0, none⟩) 8 c] → C W) := Lib.hid (fun W h => by rw [hC]; exact h)
    clear hC
    have g0 := Grow.drewN w3 1
    replace BR := Lib.hid (BR.out.grow g0); replace BH := Lib.hid (BH.out.grow g0); replace O := Lib.hid (O.out.grow g0); replace D := Lib.hid (D.out.grow g0)
    clear g0
    have c0 : Hid (C (w3.drewN 1)) := Lib.hid (MK.out _ BH.out.1)
    have hne : Nonempty (Cl C) := ⟨⟨_, c0.out⟩⟩
    have p0 : ∀ x : Cl C, x.w.cell? ⟨b, 0, none⟩ = some (.slice (some ⟨g, 0, none⟩) 8 c) := fun x => (CC.out x.w x.ok).one
    have pz : ∀ x : Cl C, ∀ o, x.w.frozen? ⟨b, o, none⟩ = false := fun x => (CC.out x.w x.ok).2.2
    have pl : ∀ x : Cl C, b < x.w.heap.size := fun x => (CC.out x.w x.ok).1
    refine wp_region_last (Cls C) 6 7 #[false, false, false, false, false, false, false] (by kernel_rfl) (by kernel_rfl) ?_
    refine anyL_seg [0, 1, 2] #[true, true, true, false, false, false, false] (fuel := 4) rfl (by kernel_rfl) ⟨⟨_, c0.out⟩, rfl⟩ ?_
    simp only [pickOps, List.getD_cons_succ, List.getD_cons_zero]
    repeat (go_big_quiet_step (fail))
    refine wpQuiet_nil ?_
    refine anyL_sole 3 #[true, true, true, true, false, false, false] (fuel := 3) (by kernel_rfl) ?_
    simp only [List.getD_cons_succ, List.getD_cons_zero]
    go_wp2_with fail
    refine (l01Below_any _ p 8 (by decide) D.out.cur).mono ?_
    rintro e w4 ⟨x4, rfl, h4a, h4b, -, hC, hU⟩
    have h4b := h4b (by decide)
    obtain ⟨k, rfl⟩ := Int.eq_ofNat_of_zero_le h4a
    replace BR := Lib.hid (BR.out.call D.out hU); replace BH := Lib.hid (BH.out.call D.out hU); replace O := Lib.hid (O.out.call D.out hU); replace D := Lib.hid (D.out.call hC hU)
    clear hC hU
    have c4 : Hid (C w4) := Lib.hid (MK.out _ BH.out.1)
    go_wp2
    refine ⟨⟨⟨_, c4.out⟩, rfl⟩, ?_⟩
    refine anyL_seg [4, 5] #[true, true, true, true, true, true, false] (fuel := 1) rfl (by kernel_rfl) ⟨⟨_, c4.out⟩, rfl⟩ ?_
    simp only [pickOps, List.getD_cons_succ, List.getD_cons_zero]
    repeat (go_big_quiet_step (fail))
    refine wpQuiet_nil ?_
    refine anyL_last (by kernel_rfl) ?_
    simp only [List.getD_cons_succ, List.getD_cons_zero]
    replace O : Hid (ON w w4 (.slice (some ⟨g, 0, none⟩) k c) (zs.take k)) := Lib.hid (O.out.take (by have := hz8.out; omega) (by have := hz8.out; omega))
    have bh := BH.out.1.one
    have bz := BH.out.1.2.2
    have bl := BH.out.1.1
    go_wp2
    replace D := Lib.hid (D.out.box (j := 0) BH.out (.slice (some ⟨g, 0, none⟩) k c)); replace O := Lib.hid (O.out.box (b := b) (j := 0) (x := .slice (some ⟨g, 0, none⟩) k c) (fun x hx => by simp only [fpOf, Value.ownBlock, Option.map_some, Option.toList_some, List.mem_cons, List.not_mem_nil, or_false] at hx; omega)); replace BR := Lib.hid (BR.out.apart (c := b) (j := 0) (by omega) (.slice (some ⟨g, 0, none⟩) k c)); replace BH := Lib.hid (BH.out.set 0 (.slice (some ⟨g, 0, none⟩) k c) (by simp))
    clear bh bz bl p0 pz pl
    generalize w4.setCell ⟨b, 0, none⟩ (.slice (some ⟨g, 0, none⟩) k c) = WS at *
    refine ⟨trivial, ?_⟩
    replace WF := Lib.hid (WfN.take (k := k) WF.out)
    replace hz8 : Hid ((zs.take k).length ≤ 8) := Lib.hid (by rw [List.length_take]; have := hz8.out; omega)
    generalize zs.take k = zt at *
    have q0 := BH.out.1.one; have qz := BH.out.1.2.2; have ql := BH.out.1.1; have r0 := BR.out.1.one; have rz := BR.out.1.2.2; have rl := BR.out.1.1
    go_wp2
    have HR : Hid (∀ W, Upd [w.heap.size] WS W → RetHd 9 w p (.returned (.agg #[.slice (some ⟨g, 0, none⟩) k c])) W) := Lib.hid (fun W hu => retHd D.out BR.out O.out (fun x hx => by simp only [fpOf, Value.ownBlock, Option.map_some, Option.toList_some, List.mem_cons, List.not_mem_nil, or_false] at hx; omega) WF.out (by have := hz8.out; omega) (by omega) hu)
    refine bodyPost_ret (v := .agg #[.slice (some ⟨g, 0, none⟩) k c]) ?_ rfl (HR.out _ ?_)
    · simp [results, Try.results87, go_sem, q0, qz, ql, r0, rz, rl] <;> omega
    · ((repeat (first | (with_reducible refine Upd.setCell ?_ (by simp) _) | with_reducible exact Upd.refl _ _)))
  by_cases c3 : x3 = 3
  · subst c3
    have q0 := BH.out.1.one; have qz := BH.out.1.2.2; have ql := BH.out.1.1; have r0 := BR.out.1.one; have rz := BR.out.1.2.2; have rl := BR.out.1.1
    go_wp2_with fail
    clear q0 qz ql r0 rz rl
    refine (l01Below_any _ p 8 (by decide) D.out.cur).mono ?_
    rintro e w4 ⟨x4, rfl, h4a, h4b, -, hC, hU⟩
    have h4b := h4b (by decide)
    replace BR := Lib.hid (BR.out.call D.out hU)
    replace BH := Lib.hid (BH.out.call D.out hU)
    replace O := Lib.hid (O.out.call D.out hU)
    replace D := Lib.hid (D.out.call hC hU)
    clear hC hU
    obtain ⟨k, rfl⟩ := Int.eq_ofNat_of_zero_le h4a
    have q0 := BH.out.1.one; have qz := BH.out.1.2.2; have ql := BH.out.1.1; have r0 := BR.out.1.one; have rz := BR.out.1.2.2; have rl := BR.out.1.1
    go_wp2_with fail
    clear q0 qz ql r0 rz rl
    obtain ⟨C, hC⟩ : ∃ C : World → Prop, C = fun W => Box W (b) [.slice (some ⟨g, 0, none⟩) 8 c] := ⟨_, rfl⟩
    have CC : Hid (∀ W, C W → Box W (b) [.slice (some ⟨g, 0, none⟩) 8 c]) := Lib.hid (fun W h => by rw [hC] at h; exact h)
    have MK : Hid (∀ W, Box W (b) [.slice (some ⟨g, 0, none⟩) 8 c] → C W) := Lib.hid (fun W h => by rw [hC]; exact h)
    clear hC
    have g0 := Grow.drewN w4 1
    replace BR := Lib.hid (BR.out.grow g0); replace BH := Lib.hid (BH.out.grow g0); replace O := Lib.hid (O.out.grow g0); replace D := Lib.hid (D.out.grow g0)
    clear g0
    have c0 : Hid (C (w4.drewN 1)) := Lib.hid (MK.out _ BH.out.1)
    have hne : Nonempty (Cl C) := ⟨⟨_, c0.out⟩⟩
    have p0 : ∀ x : Cl C, x.w.cell? ⟨b, 0, none⟩ = some (.slice (some ⟨g, 0, none⟩) 8 c) := fun x => (CC.out x.w x.ok).one
    have pz : ∀ x : Cl C, ∀ o, x.w.frozen? ⟨b, o, none⟩ = false := fun x => (CC.out x.w x.ok).2.2
    have pl : ∀ x : Cl C, b < x.w.heap.size := fun x => (CC.out x.w x.ok).1
    refine wp_region_mix (Cls C) 9 #[false, false, false, false, false, false, false, false, false] (by kernel_rfl) (by kernel_rfl) ⟨⟨_, c0.out⟩, rfl⟩ ?_
    refine anyC_seg [0, 1, 2, 3] #[true, true, true, true, false, false, false, false, false] (fuel := 5) rfl (by kernel_rfl) ⟨⟨_, c0.out⟩, rfl⟩ ?_
    simp only [pickOps, List.getD_cons_succ, List.getD_cons_zero]
    repeat (go_big_quiet_step (fail))
    refine wpQuiet_nil ?_
    refine anyC_sole 4 #[true, true, true, true, true, false, false, false, false] (fuel := 4) (by kernel_rfl) ?_
    simp only [List.getD_cons_succ, List.getD_cons_zero]
    go_wp2_with fail
    refine (fieldBitsS_any _ _).mono ?_
    rintro e w5 ⟨rfl, hg⟩
    have hfb := fb_bd ((k : Int))
    generalize fieldBits ((k : Int)) = fb at *
    replace BR := Lib.hid (BR.out.grow hg); replace BH := Lib.hid (BH.out.grow hg); replace O := Lib.hid (O.out.grow hg); replace D := Lib.hid (D.out.grow hg)
    clear hg
    have c5 : Hid (C w5) := Lib.hid (MK.out _ BH.out.1)
    go_wp2
    refine ⟨⟨⟨_, c5.out⟩, rfl⟩, ?_⟩
    refine anyC_seg [5] #[true, true, true, true, true, true, false, false, false] (fuel := 3) rfl (by kernel_rfl) ⟨⟨_, c5.out⟩, rfl⟩ ?_
    simp only [pickOps, List.getD_cons_succ, List.getD_cons_zero]
    repeat (go_big_quiet_step (fail))
    refine wpQuiet_nil ?_
    refine anyC_sole 6 #[true, true, true, true, true, true, true, false, false] (fuel := 2) (by kernel_rfl) ?_
    simp only [List.getD_cons_succ, List.getD_cons_zero]
    go_wp2_with fail
    refine (l01Pow_I _ _ (by omega) (by omega)).mono ?_
    rintro e w6 ⟨x6, rfl, h6, rfl⟩
    have I6 := Lib.hid h6
    clear h6
    go_wp2
    refine ⟨⟨⟨_, c5.out⟩, rfl⟩, ?_⟩
    refine anyC_seg [7] #[true, true, true, true, true, true, true, true, false] (fuel := 1) rfl (by kernel_rfl) ⟨⟨_, c5.out⟩, rfl⟩ ?_
    simp only [pickOps, List.getD_cons_succ, List.getD_cons_zero]
    repeat (go_big_quiet_step (fail))
    refine wpQuiet_nil ?_
    refine anyC_sole 8 #[true, true, true, true, true, true, true, true, true] (fuel := 0) (by kernel_rfl) ?_
    simp only [List.getD_cons_succ, List.getD_cons_zero]
    have og := O.out.cell k (by have := hz8.out; omega); have of := O.out.frz (by have := hz8.out; omega); have ol : g < w5.heap.size := (own_new_ O.out g (by simp [fpOf, Value.ownBlock])).2
    have US : Hid (Upd [g] w5 (w5.setCell ⟨g, k, none⟩ (.int .i64 (x6)))) := Lib.hid (Upd.setCell (p := ⟨g, k, none⟩) (Upd.refl [g] w5) (by simp) _)
    go_wp2
    replace D := Lib.hid (ON.set_ D.out O.out k (.int .i64 (x6))); replace O := Lib.hid (O.out.put k (by have := hz8.out; omega) (x6)); replace BH := Lib.hid (BH.out.own US.out (by simp <;> omega)); replace BR := Lib.hid (BR.out.own US.out (by simp; omega))
    clear og of ol US
    generalize w5.setCell ⟨g, k, none⟩ (.int .i64 (x6)) = WS at *
    have cS : Hid (C WS) := Lib.hid (MK.out _ BH.out.1)
    refine ⟨⟨⟨_, cS.out⟩, rfl⟩, ?_⟩
    refine anyC_done (by kernel_rfl) ?_
    clear p0 pz pl
    replace WF := Lib.hid (WfN.set (k := k) WF.out I6.out)
    replace hz8 : Hid ((zs.set k x6).length = 8) := Lib.hid (by rw [List.length_set]; exact hz8.out)
    generalize zs.set k x6 = zt at *
    have q0 := BH.out.1.one; have qz := BH.out.1.2.2; have ql := BH.out.1.1; have r0 := BR.out.1.one; have rz := BR.out.1.2.2; have rl := BR.out.1.1
    go_wp2
    have HR : Hid (∀ W, Upd [w.heap.size] WS W → RetHd 9 w p (.returned (.agg #[.slice (some ⟨g, 0, none⟩) 8 c])) W) := Lib.hid (fun W hu => retHd D.out BR.out O.out (fun x hx => by simp only [fpOf, Value.ownBlock, Option.map_some, Option.toList_some, List.mem_cons, List.not_mem_nil, or_false] at hx; omega) WF.out (by have := hz8.out; omega) (by omega) hu)
    refine bodyPost_ret (v := .agg #[.slice (some ⟨g, 0, none⟩) 8 c]) ?_ rfl (HR.out _ ?_)
    · simp [results, Try.results87, go_sem, q0, qz, ql, r0, rz, rl] <;> omega
    · ((repeat (first | (with_reducible refine Upd.setCell ?_ (by simp) _) | with_reducible exact Upd.refl _ _)))
  by_cases c2 : x3 = 2
  rotate_left
  · have hk0 : (x3 == 0) = false := by simpa using c0
    have hk1 : (x3 == 1) = false := by simpa using c1
    have hk2 : (x3 == 2) = false := by simpa using c2
    have hk3 : (x3 == 3) = false := by simpa using c3
    have q0 := BH.out.1.one; have qz := BH.out.1.2.2; have ql := BH.out.1.1; have r0 := BR.out.1.one; have rz := BR.out.1.2.2; have rl := BR.out.1.1
    go_wp2
    have HR : Hid (∀ W, Upd [w.heap.size] w3 W → RetHd 9 w p (.returned (.agg #[.slice (some ⟨g, 0, none⟩) 8 c])) W) := Lib.hid (fun W hu => retHd D.out BR.out O.out (fun x hx => by simp only [fpOf, Value.ownBlock, Option.map_some, Option.toList_some, List.mem_cons, List.not_mem_nil, or_false] at hx; omega) WF.out (by have := hz8.out; omega) (by omega) hu)
    refine bodyPost_ret (v := .agg #[.slice (some ⟨g, 0, none⟩) 8 c]) ?_ rfl (HR.out _ ?_)
    · simp [results, Try.results87, go_sem, q0, qz, ql, r0, rz, rl] <;> omega
    · ((repeat (first | (with_reducible refine Upd.setCell ?_ (by simp) _) | with_reducible exact Upd.refl _ _)))
  subst c2
  have n6 : Hid (∀ x ∈ fpOf (.slice (some ⟨g, 0, none⟩) 8 c), x ≠ w.heap.size ∧ x ≠ b) := Lib.hid (fun x hx => by simp only [fpOf, Value.ownBlock, Option.map_some, Option.toList_some, List.mem_cons, List.not_mem_nil, or_false] at hx; subst hx; exact ⟨n1, n4⟩)
  have q0 := BH.out.1.one; have qz := BH.out.1.2.2; have ql := BH.out.1.1; have r0 := BR.out.1.one; have rz := BR.out.1.2.2; have rl := BR.out.1.1
  go_wp2_with (at_builtin; refine wpl_append Try.elemI64 rfl _ _ rfl w.heap.size rfl (own_grow O.out (Grow.alloc _ _)) 1 rfl (rd_built w3 _ 1 1 [Value.int .i64 0] rfl (by decide)) rfl (oneCell_ints .i64 [0]) (by have := hz8.out; omega) (by have := hz8.out; unfold maxLen; omega) (by have := D.out.size; simp; omega) ?_; intro v4 w4 hown hgr hmv; obtain ⟨D4, BR4, BH4, O4, nb⟩ := on_app (ys := [0]) D.out BR.out BH.out O.out n6.out hown hgr hmv; clear D BR BH O hown hgr hmv q0 qz ql r0 rz rl; obtain ⟨a4, c4, rfl⟩ := own_shape O4; generalize (zs ++ [0]).length = n4 at *; have D := Lib.hid D4; have BR := Lib.hid BR4; have BH := Lib.hid BH4; have O := Lib.hid O4; have NB := Lib.hid nb; clear D4 BR4 BH4 O4 nb; have q0 := BH.out.1.one; have qz := BH.out.1.2.2; have ql := BH.out.1.1; have r0 := BR.out.1.one; have rz := BR.out.1.2.2; have rl := BR.out.1.1)
  have BH := Lib.hid (BH.out.set 0 (.slice a4 n4 c4) (by simp))
  have HR : Hid (∀ W, Upd [w.heap.size] (w4.setCell ⟨b, 0, none⟩ (.slice a4 n4 c4)) W → RetHd 9 w p (.returned (.agg #[.slice a4 n4 c4])) W) := Lib.hid (fun W hu => by
    have B2 : Bx w w4 b [.slice (some ⟨g, 0, none⟩) 8 c] := ⟨⟨ql, fun j v hj => by (match j, hj with | 0, hj => (simp at hj; subst hj; exact q0)), qz⟩, by have := D.out.size; have := nR.out; omega⟩
    exact retHd (D.out.box (j := 0) B2 _) (BR.out.apart (c := b) (j := 0) (by omega) _) (O.out.box (fun x hx => (NB.out x hx).2)) (fun x hx => (NB.out x hx).1) (WfN.onto WF.out (by unfold I64; omega)) (by have := hz8.out; simp; omega) (by omega) hu)
  refine bodyPost_ret (v := .agg #[.slice a4 n4 c4]) ?_ rfl (HR.out _ ?_)
  · simp [results, Try.results87, go_sem, q0, qz, ql, r0, rz, rl] <;> omega
  · ((repeat (first | with_reducible exact Upd.refl _ _ | (with_reducible refine Upd.setCell ?_ (by simp) _))))
--%
end Go.Proofs.Ytgigdpdmdldhnaa
