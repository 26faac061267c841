/- UdpRead: contracts of the code. -/
import Derived.Test.YtcldfodnblkeiaaAcc
import Derived.WalkKit
import Derived.ProofKit
import Derived.Deep.QuietTactic
import Derived.BigQuiet
import Derived.Outline
import Derived.WalkSpells
namespace Go.Proofs.Ytcldfodnblkeiaa
open Go.ChangeShapes Go.WideShapes Go.ChangeAt Go.RowKit
set_option linter.unusedVariables false
set_option linter.unusedSimpArgs false
--%
def zeroU : UdpD := ⟨0, 0, []⟩
def fld (b : List Int) (lo m : Nat) : Int := valBE ((b.drop lo).take m)
def urD (b : List Int) : UdpD := ⟨fld b 0 2, fld b 2 2, b.drop 8⟩
def urF (b : List Int) : UdpD × Int :=
  if 8 ≤ b.length ∧ b.length ≤ 1480 then if fld b 4 2 = b.length then if fld b 6 2 = 0 then (urD b, 0) else (zeroU, 3) else (zeroU, 2) else (zeroU, 1)
theorem urF_0 {b : List Int} (h : 8 ≤ b.length ∧ b.length ≤ 1480) (h1 : fld b 4 2 = b.length) (h2 : fld b 6 2 = 0) : urF b = (urD b, 0) := by simp [urF, h, h1, h2]
theorem urF_1 {b : List Int} (h : ¬ (8 ≤ b.length ∧ b.length ≤ 1480)) : urF b = (zeroU, 1) := by unfold urF; rw [if_neg h]
theorem urF_2 {b : List Int} (h : 8 ≤ b.length ∧ b.length ≤ 1480) (h1 : ¬ fld b 4 2 = b.length) : urF b = (zeroU, 2) := by simp [urF, h, h1]
theorem urF_3 {b : List Int} (h : 8 ≤ b.length ∧ b.length ≤ 1480) (h1 : fld b 4 2 = b.length) (h2 : ¬ fld b 6 2 = 0) : urF b = (zeroU, 3) := by simp [urF, h, h1, h2]
theorem fld_le {b : List Int} (h : Bytes b) (lo m : Nat) (hm : m ≤ 6) : 0 ≤ fld b lo m ∧ fld b lo m ≤ 281474976710655 := valBE_le _ ((h.drop _).take _) (by simp; omega)
theorem RdB.at_ {w : World} {a : Option Addr} {n c : Nat} {zs : List Int} (h : RdB w (.slice a n c) zs) (hp : 0 < zs.length) : ∃ b o, a = some ⟨b, o, none⟩ := by
  obtain ⟨a', n', c', e, h1, h2, h3, h4, h5⟩ := h
  simp only [Value.slice.injEq] at e
  obtain ⟨rfl, rfl, rfl⟩ := e
  obtain ⟨b, o, e, _⟩ := h5 0 (.int .u8 zs[0]) (by rw [List.getElem?_map, List.getElem?_eq_getElem hp]; rfl)
  exact ⟨b, o, e⟩
theorem RdB.cut {w : World} {b o n cap : Nat} {zs : List Int} (h : RdB w (.slice (some ⟨b, o, none⟩) n cap) zs) (lo m : Nat) (hhn : lo + m ≤ n) (hc : lo < cap) : RdB w (.slice (some ⟨b, o + lo, none⟩) m (cap - lo)) ((zs.drop lo).take m) := by
  have := Rd.cut h lo m hhn hc
  by_cases e : lo = 0
  · subst e; simpa [Addr.add, RdB] using this
  · simpa [Addr.add, RdB, e] using this
theorem RdB.tail {w : World} {b o n cap : Nat} {zs : List Int} (h : RdB w (.slice (some ⟨b, o, none⟩) n cap) zs) (hz : zs.length = n) (lo : Nat) (hl : lo ≤ n) (e : lo ≠ 0) : RdB w (.slice (if cap = lo then some ⟨b, o, none⟩ else some ⟨b, o + lo, none⟩) (n - lo) (cap - lo)) (zs.drop lo) := by
  have := Rd.sub h (lo := lo) (hi := n) hl (Nat.le_refl _)
  rw [List.take_of_length_le (by simp; omega)] at this
  simpa [Addr.add, RdB, e] using this
theorem RdB.tail_eq {w : World} {b o n lo : Nat} {zs : List Int} (h : RdB w (.slice (some ⟨b, o, none⟩) n lo) zs) (hz : zs.length = n) (hl : lo ≤ n) (e : lo ≠ 0) : RdB w (.slice (some ⟨b, o, none⟩) (n - lo) 0) (zs.drop lo) := by
  have := h.tail hz lo hl e
  rwa [if_pos rfl, Nat.sub_self] at this
theorem RdB.tail_0 {w : World} {b o n lo : Nat} {zs : List Int} (h : RdB w (.slice (some ⟨b, o, none⟩) n lo) zs) (hz : zs.length = n) (hl : lo ≤ n) (hh : n ≤ lo) (e : lo ≠ 0) : RdB w (.slice (some ⟨b, o, none⟩) 0 0) (zs.drop lo) := by
  have := h.tail_eq hz hl e
  rwa [show n - lo = 0 by omega] at this
theorem RdB.tail_ne {w : World} {b o n cap : Nat} {zs : List Int} (h : RdB w (.slice (some ⟨b, o, none⟩) n cap) zs) (hz : zs.length = n) (lo : Nat) (hl : lo ≤ n) (e : lo ≠ 0) (hc : cap ≠ lo) : RdB w (.slice (some ⟨b, o + lo, none⟩) (n - lo) (cap - lo)) (zs.drop lo) := by
  have := h.tail hz lo hl e
  rwa [if_neg hc] at this
--% 86
theorem get_cut {w : World} {b o n cap : Nat} {zs : List Int} (h : RdB w (.slice (some ⟨b, o, none⟩) n cap) zs) (hb : Bytes zs) (lo m : Nat) (hhn : lo + m ≤ n) (hc : lo < cap) (hm : m ≤ 6) :
    Calls Try.prog 86 #[.slice (some ⟨b, o + lo, none⟩) m (cap - lo)] w (RetV (.int .i64 (fld zs lo m)) w) :=
  (get_any _ ((zs.drop lo).take m) w (h.cut lo m hhn hc) ((hb.drop _).take _) (by simp; omega)).mono fun _ _ ⟨he, hw⟩ => ⟨he, hw ▸ Grow.refl _⟩
--% 86
theorem get_head {w : World} {b o n cap : Nat} {zs : List Int} (h : RdB w (.slice (some ⟨b, o, none⟩) n cap) zs) (hb : Bytes zs) (m : Nat) (hhn : m ≤ n) (hc : 0 < cap) (hm : m ≤ 6) :
    Calls Try.prog 86 #[.slice (some ⟨b, o, none⟩) m cap] w (RetV (.int .i64 (fld zs 0 m)) w) := get_cut h hb 0 m (by omega) hc hm
--% UdpReadI 59
theorem udpReadI_any (w : World) (v : Value) (d : DatB) (h : RdB w v d) (b : WfB d) (sm : SmB d) : Calls Try.prog 59 #[v] w (RetNew2 OwnU (urF d).1 (.int .i64 (urF d).2) w) := by
  obtain ⟨a, c, rfl, hlc, hm, -, -⟩ := Rd.ints h
  unfold maxLen at hm
  have HZ : ∀ (w1 : World), Grow w w1 → ∀ k, RetNew2 OwnU zeroU (.int .i64 k) w (.returned (.tuple #[.agg #[.int .i64 0, .int .i64 0, .slice none 0 0], .int .i64 k])) w1 := fun w1 hg k => ⟨_, [], rfl, ⟨_, rfl, ownB_nil _⟩, by simp [Fresh], hg⟩
  have HZ := Lib.hid HZ
  by_cases h8 : 8 ≤ d.length
  rotate_left
  · rw [urF_1 (by omega)]
    clear h b sm
    go_enter Try.func59, Try.ntmps59
    go_wp2
    refine bodyPost_ret (v := .tuple #[.agg #[.int .i64 0, .int .i64 0, .slice none 0 0], .int .i64 1]) ?_ rfl (HZ.out _ ?_ _)
    · simp [results, Try.results59, go_sem]
    · ((repeat (first | with_reducible exact Grow.refl _ | (with_reducible refine Grow.alloc_ ?_ _) | (with_reducible refine Grow.setCell_ ?_ (by first | exact Nat.le_refl _ | (simp only [World.alloc, Array.size_push]; omega) | omega) _))))
  obtain ⟨b0, o0, rfl⟩ := RdB.at_ h (by omega)
  have HV := Lib.hid h; have HB := Lib.hid b; have HS := Lib.hid sm
  clear h b sm
  by_cases h14 : d.length ≤ 1480
  rotate_left
  · rw [urF_1 (by omega)]
    go_enter Try.func59, Try.ntmps59
    go_wp2
    refine bodyPost_ret (v := .tuple #[.agg #[.int .i64 0, .int .i64 0, .slice none 0 0], .int .i64 1]) ?_ rfl (HZ.out _ ?_ _)
    · simp [results, Try.results59, go_sem]
    · ((repeat (first | with_reducible exact Grow.refl _ | (with_reducible refine Grow.alloc_ ?_ _) | (with_reducible refine Grow.setCell_ ?_ (by first | exact Nat.le_refl _ | (simp only [World.alloc, Array.size_push]; omega) | omega) _))))
  by_cases e1 : fld d 4 2 = d.length
  rotate_left
  · rw [urF_2 ⟨h8, h14⟩ e1]
    have hb1 : (fld d 4 2 != (d.length : Int)) = true := by simpa using e1
    have HE := Lib.hid e1; clear e1
    go_enter Try.func59, Try.ntmps59
    go_wp2_with fail
    refine at_world (w := w) ?G (fun hG => (get_cut (HV.out.grow hG) HB.out 4 2 (by omega) (by omega) (by omega)).mono ?_)
    case G => ((repeat (first | with_reducible exact Grow.refl _ | (with_reducible refine Grow.alloc_ ?_ _) | (with_reducible refine Grow.setCell_ ?_ (by first | exact Nat.le_refl _ | (simp only [World.alloc, Array.size_push]; omega) | omega) _))))
    rintro e w1 ⟨rfl, hg⟩
    have HG := Lib.hid (hG.trans hg)
    have BX := (Box.alloc w _ _).grow hg
    have ⟨q0, q1, q2⟩ := BX.three
    have z0 := BX.2.2
    clear hG hg BX
    go_wp2
    refine bodyPost_ret (v := .tuple #[.agg #[.int .i64 0, .int .i64 0, .slice none 0 0], .int .i64 2]) ?_ rfl (HZ.out _ (HG.out.box_end (fq := [w.heap.size]) ?_ (by simp)) _)
    · simp [results, Try.results59, go_sem, q0, q1, q2, z0] <;> omega
    · ((repeat (first | (with_reducible refine Upd.setCell ?_ (by simp) _) | with_reducible exact Upd.refl _ _)))
  have hb1 : (fld d 4 2 != (d.length : Int)) = false := by simp [e1]
  by_cases e2 : fld d 6 2 = 0
  rotate_left
  · rw [urF_3 ⟨h8, h14⟩ e1 e2]
    have hb2 : (fld d 6 2 != 0) = true := by simpa using e2
    have HE := Lib.hid e1; have HE2 := Lib.hid e2; clear e1 e2
    go_enter Try.func59, Try.ntmps59
    go_wp2_with fail
    refine at_world (w := w) ?G (fun hG => (get_cut (HV.out.grow hG) HB.out 4 2 (by omega) (by omega) (by omega)).mono ?_)
    case G => ((repeat (first | with_reducible exact Grow.refl _ | (with_reducible refine Grow.alloc_ ?_ _) | (with_reducible refine Grow.setCell_ ?_ (by first | exact Nat.le_refl _ | (simp only [World.alloc, Array.size_push]; omega) | omega) _))))
    rintro e w1 ⟨rfl, hg⟩
    have G1 := Lib.hid (hG.trans hg)
    have BX := Lib.hid ((Box.alloc w _ _).grow hg)
    clear hG hg
    go_wp2_with fail
    refine (get_cut (HV.out.grow G1.out) HB.out 6 2 (by omega) (by omega) (by omega)).mono ?_
    rintro e w2 ⟨rfl, hg⟩
    have HG := Lib.hid (G1.out.trans hg)
    have BX := BX.out.grow hg
    have ⟨q0, q1, q2⟩ := BX.three
    have z0 := BX.2.2
    clear hg BX
    go_wp2
    refine bodyPost_ret (v := .tuple #[.agg #[.int .i64 0, .int .i64 0, .slice none 0 0], .int .i64 3]) ?_ rfl (HZ.out _ (HG.out.box_end (fq := [w.heap.size]) ?_ (by simp)) _)
    · simp [results, Try.results59, go_sem, q0, q1, q2, z0] <;> omega
    · ((repeat (first | (with_reducible refine Upd.setCell ?_ (by simp) _) | with_reducible exact Upd.refl _ _)))
  have hb2 : (fld d 6 2 != 0) = false := by simp [e2]
  rw [urF_0 ⟨h8, h14⟩ e1 e2]
  have HE := Lib.hid e1; have HE2 := Lib.hid e2; clear e1 e2
  by_cases hc8 : c = 8
  · subst hc8
    go_enter Try.func59, Try.ntmps59
    go_wp2_with fail
    refine at_world (w := w) ?G (fun hG => (get_cut (HV.out.grow hG) HB.out 4 2 (by omega) (by omega) (by omega)).mono ?_)
    case G => ((repeat (first | with_reducible exact Grow.refl _ | (with_reducible refine Grow.alloc_ ?_ _) | (with_reducible refine Grow.setCell_ ?_ (by first | exact Nat.le_refl _ | (simp only [World.alloc, Array.size_push]; omega) | omega) _))))
    rintro e w1 ⟨rfl, hg⟩
    have G1 := Lib.hid (hG.trans hg)
    have BX := Lib.hid ((Box.alloc w _ _).grow hg)
    clear hG hg
    go_wp2_with fail
    refine (get_cut (HV.out.grow G1.out) HB.out 6 2 (by omega) (by omega) (by omega)).mono ?_
    rintro e w2 ⟨rfl, hg⟩
    have G2 := Lib.hid (G1.out.trans hg)
    have BX := Lib.hid (BX.out.grow hg)
    have BX0 := Lib.hid BX.out.1
    clear hg G1
    go_wp2_with fail
    have hne : Nonempty (Cl (Grow w)) := ⟨⟨w, Grow.refl _⟩⟩
    have G2' := Lib.hid (G2.out.trans (Grow.drewN w2 1))
    refine wp_region_mix (Cls (Grow w)) 12 #[false, false, false, false, false, false, false, false, false, false, false, false] (by kernel_rfl) (by kernel_rfl) ⟨⟨_, G2'.out⟩, rfl⟩ ?_
    refine anyC_seg [0, 1, 3, 4, 6, 7] #[true, true, false, true, true, false, true, true, false, false, false, false] (fuel := 6) rfl (by kernel_rfl) ⟨⟨_, G2'.out⟩, rfl⟩ ?_
    simp only [pickOps, List.getD_cons_succ, List.getD_cons_zero]
    repeat (go_big_quiet_step (fail))
    refine wpQuiet_nil ?_
    refine anyC_sole 2 #[true, true, true, true, true, false, true, true, false, false, false, false] (fuel := 5) (by kernel_rfl) ?_
    simp only [List.getD_cons_succ, List.getD_cons_zero]
    go_wp2_with fail
    refine (get_head (HV.out.grow G2'.out) HB.out 2 (by omega) (by omega) (by omega)).mono ?_
    rintro e w3 ⟨rfl, hg⟩
    have D3 := Lib.hid ((Grow.drewN w2 1).trans hg); clear hg
    go_wp2
    refine ⟨⟨⟨_, G2.out.trans D3.out⟩, rfl⟩, ?_⟩
    refine anyC_sole 5 #[true, true, true, true, true, true, true, true, false, false, false, false] (fuel := 4) (by kernel_rfl) ?_
    simp only [List.getD_cons_succ, List.getD_cons_zero]
    go_wp2_with fail
    refine (get_cut (HV.out.grow (G2.out.trans D3.out)) HB.out 2 2 (by omega) (by omega) (by omega)).mono ?_
    rintro e w4 ⟨rfl, hg⟩
    have D4 := Lib.hid (D3.out.trans hg); clear hg D3
    go_wp2
    refine ⟨⟨⟨_, G2.out.trans D4.out⟩, rfl⟩, ?_⟩
    refine anyC_sole 8 #[true, true, true, true, true, true, true, true, true, false, false, false] (fuel := 3) (by kernel_rfl) ?_
    simp only [List.getD_cons_succ, List.getD_cons_zero]
    go_wp2_with fail
    have hs8 : SmB (d.drop 8) := by have := HS.out; unfold SmB at *; simp; omega
    refine (clone_B _ _ (d.drop 8) ((HV.out.tail_0 rfl h8 hlc (by decide)).grow (G2.out.trans D4.out)) hs8).mono ?_
    rintro e w5 ⟨v5, fp5, rfl, ho, hf, hg⟩
    obtain ⟨a5, c5, rfl⟩ := own_shape ho.1
    have D5 := Lib.hid (D4.out.trans hg)
    have G5 := Lib.hid (G2.out.trans D5.out)
    have BX := BX.out.grow D5.out
    have ⟨q0, q1, q2⟩ := BX.three
    have z0 := BX.2.2
    have hl5 : (d.drop 8).length = d.length - 8 := by simp
    have HE : Hid (∀ w6, Upd [w.heap.size] w5 w6 → RetNew2 OwnU (urD d) (.int .i64 0) w (.returned (.tuple #[.agg #[.int .i64 (fld d 0 2), .int .i64 (fld d 2 2), .slice a5 (d.drop 8).length c5], .int .i64 0])) w6) := Lib.hid (fun w6 hu => by
      obtain ⟨h1, h2, h3⟩ := Grow.boxes G2.out D5.out hu (hf.older D4.out) (by intro b hb; simp only [List.mem_cons, List.not_mem_nil, or_false] at hb; have := BX0.out; omega)
      exact ⟨_, fp5, rfl, ⟨_, rfl, ho.upd hu h3⟩, h2, h1⟩)
    clear ho hf hg D4 BX
    go_wp2
    refine ⟨⟨⟨_, G5.out⟩, rfl⟩, ?_⟩
    refine anyC_seg [9] #[true, true, true, true, true, true, true, true, true, true, false, false] (fuel := 2) rfl (by kernel_rfl) ⟨⟨_, G5.out⟩, rfl⟩ ?_
    simp only [pickOps, List.getD_cons_succ, List.getD_cons_zero]
    repeat (go_big_quiet_step (fail))
    refine wpQuiet_nil ?_
    refine anyC_sole 10 #[true, true, true, true, true, true, true, true, true, true, true, false] (fuel := 1) (by kernel_rfl) ?_
    simp only [List.getD_cons_succ, List.getD_cons_zero]
    go_wp2
    have hcls : ∀ W : World, Grow w W → Cls (Grow w) W := fun W h => ⟨⟨W, h⟩, rfl⟩
    refine ⟨hcls _ ?_, ?_⟩
    · ((repeat (first | with_reducible exact Grow.refl _ | (with_reducible refine Grow.alloc_ ?_ _) | (with_reducible refine Grow.setCell_ ?_ (by first | exact Nat.le_refl _ | (simp only [World.alloc, Array.size_push]; omega) | omega) _))))
      exact G5.out
    refine anyC_seg [11] #[true, true, true, true, true, true, true, true, true, true, true, true] (fuel := 0) rfl (by kernel_rfl) (hcls _ ?_) ?_
    · ((repeat (first | with_reducible exact Grow.refl _ | (with_reducible refine Grow.alloc_ ?_ _) | (with_reducible refine Grow.setCell_ ?_ (by first | exact Nat.le_refl _ | (simp only [World.alloc, Array.size_push]; omega) | omega) _))))
      exact G5.out
    simp only [pickOps, List.getD_cons_succ, List.getD_cons_zero]
    repeat (go_big_quiet_step (fail))
    refine wpQuiet_nil ?_
    refine anyC_done (by kernel_rfl) ?_
    go_wp2
    refine bodyPost_ret (v := .tuple #[.agg #[.int .i64 (fld d 0 2), .int .i64 (fld d 2 2), .slice a5 (d.drop 8).length c5], .int .i64 0]) ?_ rfl (HE.out _ ?_)
    · simp [results, Try.results59, go_sem, q0, q1, q2, z0] <;> omega
    · ((repeat (first | (with_reducible refine Upd.setCell ?_ (by simp) _) | with_reducible exact Upd.refl _ _)))
  · have HC8 := Lib.hid hc8
    go_enter Try.func59, Try.ntmps59
    go_wp2_with fail
    refine at_world (w := w) ?G (fun hG => (get_cut (HV.out.grow hG) HB.out 4 2 (by omega) (by omega) (by omega)).mono ?_)
    case G => ((repeat (first | with_reducible exact Grow.refl _ | (with_reducible refine Grow.alloc_ ?_ _) | (with_reducible refine Grow.setCell_ ?_ (by first | exact Nat.le_refl _ | (simp only [World.alloc, Array.size_push]; omega) | omega) _))))
    rintro e w1 ⟨rfl, hg⟩
    have G1 := Lib.hid (hG.trans hg)
    have BX := Lib.hid ((Box.alloc w _ _).grow hg)
    clear hG hg
    go_wp2_with fail
    refine (get_cut (HV.out.grow G1.out) HB.out 6 2 (by omega) (by omega) (by omega)).mono ?_
    rintro e w2 ⟨rfl, hg⟩
    have G2 := Lib.hid (G1.out.trans hg)
    have BX := Lib.hid (BX.out.grow hg)
    have BX0 := Lib.hid BX.out.1
    clear hg G1
    go_wp2_with fail
    have hne : Nonempty (Cl (Grow w)) := ⟨⟨w, Grow.refl _⟩⟩
    have G2' := Lib.hid (G2.out.trans (Grow.drewN w2 1))
    refine wp_region_mix (Cls (Grow w)) 12 #[false, false, false, false, false, false, false, false, false, false, false, false] (by kernel_rfl) (by kernel_rfl) ⟨⟨_, G2'.out⟩, rfl⟩ ?_
    refine anyC_seg [0, 1, 3, 4, 6, 7] #[true, true, false, true, true, false, true, true, false, false, false, false] (fuel := 6) rfl (by kernel_rfl) ⟨⟨_, G2'.out⟩, rfl⟩ ?_
    simp only [pickOps, List.getD_cons_succ, List.getD_cons_zero]
    repeat (go_big_quiet_step (fail))
    refine wpQuiet_nil ?_
    refine anyC_sole 2 #[true, true, true, true, true, false, true, true, false, false, false, false] (fuel := 5) (by kernel_rfl) ?_
    simp only [List.getD_cons_succ, List.getD_cons_zero]
    go_wp2_with fail
    refine (get_head (HV.out.grow G2'.out) HB.out 2 (by omega) (by omega) (by omega)).mono ?_
    rintro e w3 ⟨rfl, hg⟩
    have D3 := Lib.hid ((Grow.drewN w2 1).trans hg); clear hg
    go_wp2
    refine ⟨⟨⟨_, G2.out.trans D3.out⟩, rfl⟩, ?_⟩
    refine anyC_sole 5 #[true, true, true, true, true, true, true, true, false, false, false, false] (fuel := 4) (by kernel_rfl) ?_
    simp only [List.getD_cons_succ, List.getD_cons_zero]
    go_wp2_with fail
    refine (get_cut (HV.out.grow (G2.out.trans D3.out)) HB.out 2 2 (by omega) (by omega) (by omega)).mono ?_
    rintro e w4 ⟨rfl, hg⟩
    have D4 := Lib.hid (D3.out.trans hg); clear hg D3
    go_wp2
    refine ⟨⟨⟨_, G2.out.trans D4.out⟩, rfl⟩, ?_⟩
    refine anyC_sole 8 #[true, true, true, true, true, true, true, true, true, false, false, false] (fuel := 3) (by kernel_rfl) ?_
    simp only [List.getD_cons_succ, List.getD_cons_zero]
    go_wp2_with fail
    have hs8 : SmB (d.drop 8) := by have := HS.out; unfold SmB at *; simp; omega
    refine (clone_B _ _ (d.drop 8) ((HV.out.tail_ne rfl 8 h8 (by decide) HC8.out).grow (G2.out.trans D4.out)) hs8).mono ?_
    rintro e w5 ⟨v5, fp5, rfl, ho, hf, hg⟩
    obtain ⟨a5, c5, rfl⟩ := own_shape ho.1
    have D5 := Lib.hid (D4.out.trans hg)
    have G5 := Lib.hid (G2.out.trans D5.out)
    have BX := BX.out.grow D5.out
    have ⟨q0, q1, q2⟩ := BX.three
    have z0 := BX.2.2
    have hl5 : (d.drop 8).length = d.length - 8 := by simp
    have HE : Hid (∀ w6, Upd [w.heap.size] w5 w6 → RetNew2 OwnU (urD d) (.int .i64 0) w (.returned (.tuple #[.agg #[.int .i64 (fld d 0 2), .int .i64 (fld d 2 2), .slice a5 (d.drop 8).length c5], .int .i64 0])) w6) := Lib.hid (fun w6 hu => by
      obtain ⟨h1, h2, h3⟩ := Grow.boxes G2.out D5.out hu (hf.older D4.out) (by intro b hb; simp only [List.mem_cons, List.not_mem_nil, or_false] at hb; have := BX0.out; omega)
      exact ⟨_, fp5, rfl, ⟨_, rfl, ho.upd hu h3⟩, h2, h1⟩)
    clear ho hf hg D4 BX
    go_wp2
    refine ⟨⟨⟨_, G5.out⟩, rfl⟩, ?_⟩
    refine anyC_seg [9] #[true, true, true, true, true, true, true, true, true, true, false, false] (fuel := 2) rfl (by kernel_rfl) ⟨⟨_, G5.out⟩, rfl⟩ ?_
    simp only [pickOps, List.getD_cons_succ, List.getD_cons_zero]
    repeat (go_big_quiet_step (fail))
    refine wpQuiet_nil ?_
    refine anyC_sole 10 #[true, true, true, true, true, true, true, true, true, true, true, false] (fuel := 1) (by kernel_rfl) ?_
    simp only [List.getD_cons_succ, List.getD_cons_zero]
    go_wp2
    have hcls : ∀ W : World, Grow w W → Cls (Grow w) W := fun W h => ⟨⟨W, h⟩, rfl⟩
    refine ⟨hcls _ ?_, ?_⟩
    · ((repeat (first | with_reducible exact Grow.refl _ | (with_reducible refine Grow.alloc_ ?_ _) | (with_reducible refine Grow.setCell_ ?_ (by first | exact Nat.le_refl _ | (simp only [World.alloc, Array.size_push]; omega) | omega) _))))
      exact G5.out
    refine anyC_seg [11] #[true, true, true, true, true, true, true, true, true, true, true, true] (fuel := 0) rfl (by kernel_rfl) (hcls _ ?_) ?_
    · ((repeat (first | with_reducible exact Grow.refl _ | (with_reducible refine Grow.alloc_ ?_ _) | (with_reducible refine Grow.setCell_ ?_ (by first | exact Nat.le_refl _ | (simp only [World.alloc, Array.size_push]; omega) | omega) _))))
      exact G5.out
    simp only [pickOps, List.getD_cons_succ, List.getD_cons_zero]
    repeat (go_big_quiet_step (fail))
    refine wpQuiet_nil ?_
    refine anyC_done (by kernel_rfl) ?_
    go_wp2
    refine bodyPost_ret (v := .tuple #[.agg #[.int .i64 (fld d 0 2), .int .i64 (fld d 2 2), .slice a5 (d.drop 8).length c5], .int .i64 0]) ?_ rfl (HE.out _ ?_)
    · simp [results, Try.results59, go_sem, q0, q1, q2, z0] <;> omega
    · ((repeat (first | (with_reducible refine Upd.setCell ?_ (by simp) _) | with_reducible exact Upd.refl _ _)))
--% UdpReadS 58
theorem ownB_lit (w : World) (o : Obj) : OwnB ((w.alloc (.cells #[] 5)).alloc o) (.slice (some ⟨w.heap.size, 0, none⟩) 0 0) [] [w.heap.size] :=
  ⟨own_mono (own_grow (World.ownsRow_lit w #[] 0 (Nat.le_refl _) (by decide) rfl) (Grow.alloc _ _)) (Nat.zero_le _), rfl⟩
theorem getS_fld {w : World} {v : Value} {zs : List Int} (h : RdB w v zs) (hb : Bytes zs) (lo m : Nat) (h1 : 1 ≤ m) (h6 : m ≤ 6) (hl : lo + m ≤ zs.length) :
    Calls Try.prog 85 #[v, .int .i64 lo, .int .i64 m] w (Ret2Int (fld zs lo m) true w) := getNumS_yes v zs lo m w h hb h1 h6 hl
theorem fld_two {b : List Int} (lo : Nat) (h : lo + 1 < b.length) : fld b lo 2 = 256 * b[lo] + b[lo + 1] := by
  have e : (b.drop lo).take 2 = [b[lo], b[lo + 1]] := by
    rw [List.drop_eq_getElem_cons (by omega), List.drop_eq_getElem_cons (by omega)]; rfl
  unfold fld; rw [e]; simp [valBE]
theorem udpReadS_any (w : World) (v : Value) (d : DatB) (h : RdB w v d) (b : WfB d) (sm : SmB d) : Calls Try.prog 58 #[v] w (RetNew2 OwnU (urF d).1 (.int .i64 (urF d).2) w) := by
  obtain ⟨a, c, rfl, hlc, hm, -, hcell⟩ := Rd.ints h
  unfold maxLen at hm
  have HZ : ∀ (w1 : World), Grow w w1 → ∀ k, RetNew2 OwnU zeroU (.int .i64 k) w (.returned (.tuple #[.agg #[.int .i64 0, .int .i64 0, .slice none 0 0], .int .i64 k])) w1 := fun w1 hg k => ⟨_, [], rfl, ⟨_, rfl, ownB_nil _⟩, by simp [Fresh], hg⟩
  have HZ := Lib.hid HZ
  by_cases h8 : 8 ≤ d.length
  rotate_left
  · rw [urF_1 (by omega)]
    clear h b sm hcell
    go_enter Try.func58, Try.ntmps58
    go_wp2
    refine bodyPost_ret (v := .tuple #[.agg #[.int .i64 0, .int .i64 0, .slice none 0 0], .int .i64 1]) ?_ rfl (HZ.out _ ?_ _)
    · simp [results, Try.results58, go_sem]
    · ((repeat (first | with_reducible exact Grow.refl _ | (with_reducible refine Grow.alloc_ ?_ _) | (with_reducible refine Grow.setCell_ ?_ (by first | exact Nat.le_refl _ | (simp only [World.alloc, Array.size_push]; omega) | omega) _))))
  obtain ⟨b0, o0, rfl⟩ := RdB.at_ h (by omega)
  have hx6 : w.cell? ⟨b0, o0 + 6, none⟩ = some (.int .u8 d[6]) := by obtain ⟨_, _, e, hc⟩ := hcell 6 (by omega); obtain ⟨rfl, rfl⟩ : b0 = _ ∧ o0 = _ := by simpa using e
                                                                     exact hc
  have hx7 : w.cell? ⟨b0, o0 + 7, none⟩ = some (.int .u8 d[7]) := by obtain ⟨_, _, e, hc⟩ := hcell 7 (by omega); obtain ⟨rfl, rfl⟩ : b0 = _ ∧ o0 = _ := by simpa using e
                                                                     exact hc
  have HX6 := Lib.hid hx6; have HX7 := Lib.hid hx7
  have HV := Lib.hid h; have HB := Lib.hid b; have HS := Lib.hid sm
  have hd6 := b d[6] (List.getElem_mem _); have hd7 := b d[7] (List.getElem_mem _)
  have hf6 : fld d 6 2 = 256 * d[6] + d[7] := fld_two 6 (by omega)
  clear h b sm hcell hx6 hx7
  by_cases h14 : d.length ≤ 1480
  rotate_left
  · rw [urF_1 (by omega)]
    go_enter Try.func58, Try.ntmps58
    go_wp2
    refine bodyPost_ret (v := .tuple #[.agg #[.int .i64 0, .int .i64 0, .slice none 0 0], .int .i64 1]) ?_ rfl (HZ.out _ ?_ _)
    · simp [results, Try.results58, go_sem]
    · ((repeat (first | with_reducible exact Grow.refl _ | (with_reducible refine Grow.alloc_ ?_ _) | (with_reducible refine Grow.setCell_ ?_ (by first | exact Nat.le_refl _ | (simp only [World.alloc, Array.size_push]; omega) | omega) _))))
  by_cases e1 : fld d 4 2 = d.length
  rotate_left
  · rw [urF_2 ⟨h8, h14⟩ e1]
    have hb1 : (fld d 4 2 != (d.length : Int)) = true := by simpa using e1
    have HE := Lib.hid e1; clear e1
    go_enter Try.func58, Try.ntmps58
    go_wp2_with fail
    refine at_world (w := w) ?G (fun hG => (getS_fld (HV.out.grow hG) HB.out 4 2 (by omega) (by omega) (by omega)).mono ?_)
    case G => ((repeat (first | with_reducible exact Grow.refl _ | (with_reducible refine Grow.alloc_ ?_ _) | (with_reducible refine Grow.setCell_ ?_ (by first | exact Nat.le_refl _ | (simp only [World.alloc, Array.size_push]; omega) | omega) _))))
    rintro e w1 ⟨rfl, rfl⟩
    have HG := Lib.hid hG; clear hG
    go_wp2
    refine bodyPost_ret (v := .tuple #[.agg #[.int .i64 0, .int .i64 0, .slice none 0 0], .int .i64 2]) ?_ rfl (HZ.out _ ?_ _)
    · simp [results, Try.results58, go_sem]
    · ((repeat (first | with_reducible exact Grow.refl _ | (with_reducible refine Grow.alloc_ ?_ _) | (with_reducible refine Grow.setCell_ ?_ (by first | exact Nat.le_refl _ | (simp only [World.alloc, Array.size_push]; omega) | omega) _))))
  have hb1 : (fld d 4 2 != (d.length : Int)) = false := by simp [e1]
  by_cases e2 : fld d 6 2 = 0
  rotate_left
  · rw [urF_3 ⟨h8, h14⟩ e1 e2]
    have HE := Lib.hid e1; clear e1
    have hor : ¬ d[6] = 0 ∨ (d[6] = 0 ∧ ¬ d[7] = 0) := by omega
    have HD := Lib.hid (And.intro hd6 hd7)
    clear hf6 e2 hd6 hd7
    generalize d[6] = x6 at *
    generalize d[7] = x7 at *
    rcases hor with h6 | ⟨rfl, h7⟩
    · have hb6 : (x6 != 0) = true := by simpa using h6
      clear h6
      go_enter Try.func58, Try.ntmps58
      go_wp2_with fail
      refine at_world (w := w) ?G (fun hG => (getS_fld (HV.out.grow hG) HB.out 4 2 (by omega) (by omega) (by omega)).mono ?_)
      case G => ((repeat (first | with_reducible exact Grow.refl _ | (with_reducible refine Grow.alloc_ ?_ _) | (with_reducible refine Grow.setCell_ ?_ (by first | exact Nat.le_refl _ | (simp only [World.alloc, Array.size_push]; omega) | omega) _))))
      rintro e w1 ⟨rfl, rfl⟩
      have HG := Lib.hid hG; clear hG
      have c6 := HG.out.cell HX6.out
      go_wp2
      refine bodyPost_ret (v := .tuple #[.agg #[.int .i64 0, .int .i64 0, .slice none 0 0], .int .i64 3]) ?_ rfl (HZ.out _ ?_ _)
      · simp [results, Try.results58, go_sem]
      · ((repeat (first | with_reducible exact Grow.refl _ | (with_reducible refine Grow.alloc_ ?_ _) | (with_reducible refine Grow.setCell_ ?_ (by first | exact Nat.le_refl _ | (simp only [World.alloc, Array.size_push]; omega) | omega) _))))
    · have hb7 : (x7 != 0) = true := by simpa using h7
      clear h7
      go_enter Try.func58, Try.ntmps58
      go_wp2_with fail
      refine at_world (w := w) ?G (fun hG => (getS_fld (HV.out.grow hG) HB.out 4 2 (by omega) (by omega) (by omega)).mono ?_)
      case G => ((repeat (first | with_reducible exact Grow.refl _ | (with_reducible refine Grow.alloc_ ?_ _) | (with_reducible refine Grow.setCell_ ?_ (by first | exact Nat.le_refl _ | (simp only [World.alloc, Array.size_push]; omega) | omega) _))))
      rintro e w1 ⟨rfl, rfl⟩
      have HG := Lib.hid hG; clear hG
      have c6 := HG.out.cell HX6.out
      have c7 := HG.out.cell HX7.out
      go_wp2
      refine bodyPost_ret (v := .tuple #[.agg #[.int .i64 0, .int .i64 0, .slice none 0 0], .int .i64 3]) ?_ rfl (HZ.out _ ?_ _)
      · simp [results, Try.results58, go_sem]
      · ((repeat (first | with_reducible exact Grow.refl _ | (with_reducible refine Grow.alloc_ ?_ _) | (with_reducible refine Grow.setCell_ ?_ (by first | exact Nat.le_refl _ | (simp only [World.alloc, Array.size_push]; omega) | omega) _))))
  rw [urF_0 ⟨h8, h14⟩ e1 e2]
  have h60 : d[6] = 0 := by omega
  have h70 : d[7] = 0 := by omega
  rw [h60] at HX6
  rw [h70] at HX7
  have HE := Lib.hid e1; clear e1 e2 hf6 hd6 hd7 h60 h70
  have hs8 : SmB (d.drop 8) := by have := HS.out; unfold SmB at *; simp; omega
  by_cases hc8 : c = 8
  · subst hc8
    go_enter Try.func58, Try.ntmps58
    go_wp2_with fail
    refine at_world (w := w) ?G (fun hG => (getS_fld (HV.out.grow hG) HB.out 4 2 (by omega) (by omega) (by omega)).mono ?_)
    case G => ((repeat (first | with_reducible exact Grow.refl _ | (with_reducible refine Grow.alloc_ ?_ _) | (with_reducible refine Grow.setCell_ ?_ (by first | exact Nat.le_refl _ | (simp only [World.alloc, Array.size_push]; omega) | omega) _))))
    rintro e w1 ⟨rfl, rfl⟩
    have HG := Lib.hid hG; clear hG
    have B0 := Lib.hid (Box.alloc w [Value.int .i64 0, .int .i64 0, .slice none 0 0] 61)
    have c6 := HG.out.cell HX6.out
    have c7 := HG.out.cell HX7.out
    generalize w.alloc (Obj.cells #[Value.int .i64 0, Value.int .i64 0, Value.slice none 0 0] 61) = W1 at *
    have B0 : Hid (Box W1 w.heap.size [Value.int .i64 0, .int .i64 0, .slice none 0 0]) := B0
    have S0 := Lib.hid B0.out.1
    have HV1 := Lib.hid (HV.out.grow HG.out)
    have HE8 : Hid (d.drop 8 = []) := Lib.hid (List.drop_eq_nil_of_le hlc)
    have HR : Hid (∀ V Y, V.heap.size = W1.heap.size → Upd [w.heap.size] W1 V → RetNew2 OwnU (urD d) (.int .i64 0) w (.returned (.tuple #[.agg #[.int .i64 (fld d 0 2), .int .i64 (fld d 2 2), .slice (some ⟨W1.heap.size, 0, none⟩) 0 0], .int .i64 0])) ((V.alloc (.cells #[] 5)).alloc Y)) := Lib.hid (fun V Y hs hu => by
      refine ⟨_, [W1.heap.size], rfl, ⟨_, rfl, ?_⟩, ?_, ?_⟩
      · show OwnB _ _ (d.drop 8) _
        rw [HE8.out, ← hs]
        exact ownB_lit V Y
      · have := S0.out; intro x hx; simp only [List.mem_cons, List.not_mem_nil, or_false] at hx; omega
      · exact ((HG.out.then_upd hu (by intro x hx; simp only [List.mem_cons, List.not_mem_nil, or_false] at hx; omega)).trans (Grow.alloc V _)).trans (Grow.alloc _ Y))
    have ⟨q0, q1, q2⟩ := B0.out.three
    have z0 := B0.out.2.2
    have s0 := S0.out
    go_wp2_with fail
    refine at_world (w := W1) ?G (fun hG => (getS_fld (HV1.out.grow hG) HB.out 0 2 (by omega) (by omega) (by omega)).mono ?_)
    case G => ((repeat (first | with_reducible exact Grow.refl _ | (with_reducible refine Grow.alloc_ ?_ _) | (with_reducible refine Grow.setCell_ ?_ (by first | exact Nat.le_refl _ | (simp only [World.alloc, Array.size_push]; omega) | omega) _))))
    rintro e w1 ⟨rfl, rfl⟩
    clear hG
    go_wp2_with fail
    refine at_world (w := W1) ?G (fun hG => (getS_fld (HV1.out.grow hG) HB.out 2 2 (by omega) (by omega) (by omega)).mono ?_)
    case G => ((repeat (first | with_reducible exact Grow.refl _ | (with_reducible refine Grow.alloc_ ?_ _) | (with_reducible refine Grow.setCell_ ?_ (by first | exact Nat.le_refl _ | (simp only [World.alloc, Array.size_push]; omega) | omega) _))))
    rintro e w1 ⟨rfl, rfl⟩
    clear hG
    go_wp2
    refine bodyPost_ret (v := .tuple #[.agg #[.int .i64 (fld d 0 2), .int .i64 (fld d 2 2), .slice (some ⟨W1.heap.size, 0, none⟩) 0 0], .int .i64 0]) ?_ rfl (HR.out _ _ ?_ ?_)
    · simp [results, Try.results58, go_sem, q0, q1, q2, z0, s0]
    · simp only [size_set]
    · ((repeat (first | (with_reducible refine Upd.setCell ?_ (by simp) _) | with_reducible exact Upd.refl _ _)))
  · have HC8 := Lib.hid hc8
    go_enter Try.func58, Try.ntmps58
    go_wp2_with fail
    refine at_world (w := w) ?G (fun hG => (getS_fld (HV.out.grow hG) HB.out 4 2 (by omega) (by omega) (by omega)).mono ?_)
    case G => ((repeat (first | with_reducible exact Grow.refl _ | (with_reducible refine Grow.alloc_ ?_ _) | (with_reducible refine Grow.setCell_ ?_ (by first | exact Nat.le_refl _ | (simp only [World.alloc, Array.size_push]; omega) | omega) _))))
    rintro e w1 ⟨rfl, rfl⟩
    have HG := Lib.hid hG; clear hG
    have B0 := Lib.hid (Box.alloc w [Value.int .i64 0, .int .i64 0, .slice none 0 0] 61)
    have c6 := HG.out.cell HX6.out
    have c7 := HG.out.cell HX7.out
    generalize w.alloc (Obj.cells #[Value.int .i64 0, Value.int .i64 0, Value.slice none 0 0] 61) = W1 at *
    have B0 : Hid (Box W1 w.heap.size [Value.int .i64 0, .int .i64 0, .slice none 0 0]) := B0
    have S0 := Lib.hid B0.out.1
    have HV1 := Lib.hid (HV.out.grow HG.out)
    have RD := Lib.hid (HV1.out.tail_ne rfl 8 h8 (by decide) HC8.out)
    have hl8 : (d.drop 8).length = d.length - 8 := by simp
    go_wp2_with (first | (at_builtin; refine wpl_append Try.elemU8 rfl _ _ rfl W1.heap.size rfl (World.ownsRow_lit W1 #[] 0 (Nat.le_refl _) (by decide) rfl) (d.drop 8).length rfl (RD.out.grow (Grow.alloc _ _)) (by simp) (oneCell_ints _ _) (by omega) (by unfold maxLen; omega) (by simp) ?_; intro v2 w2 hown hgr hmv; obtain ⟨fp2, ho, hf, hg2⟩ := copied hown hgr; clear hown hgr hmv; obtain ⟨a2, c2, rfl⟩ := own_shape ho.1; have HO := Lib.hid ho; have HF := Lib.hid hf; have G2 := Lib.hid hg2; clear ho hf hg2) | fail)
    have BG := Lib.hid (B0.out.grow G2.out)
    have S1 := Lib.hid BG.out.1
    have HR : Hid (∀ V Y, Upd [w.heap.size] w2 V → RetNew2 OwnU (urD d) (.int .i64 0) w (.returned (.tuple #[.agg #[.int .i64 (fld d 0 2), .int .i64 (fld d 2 2), .slice a2 (d.drop 8).length c2], .int .i64 0])) (V.alloc Y)) := Lib.hid (fun V Y hu => by
      refine ⟨_, fp2, rfl, ⟨_, rfl, ?_⟩, ?_, ?_⟩
      · exact (HO.out.upd hu (by have h0 := S0.out; intro x hx hm; have h1 := HF.out x hx; simp only [List.mem_cons, List.not_mem_nil, or_false] at hm; omega)).grow (Grow.alloc _ _)
      · exact HF.out.older HG.out
      · exact ((HG.out.trans G2.out).then_upd hu (by intro x hx; simp only [List.mem_cons, List.not_mem_nil, or_false] at hx; omega)).trans (Grow.alloc _ _))
    have ⟨q0, q1, q2⟩ := BG.out.three
    have z0 := BG.out.2.2
    have s1 := S1.out
    refine at_world (w := W1) ?G (fun hG => (getS_fld (HV1.out.grow hG) HB.out 0 2 (by omega) (by omega) (by omega)).mono ?_)
    case G => (((repeat (first | with_reducible exact Grow.refl _ | (with_reducible refine Grow.alloc_ ?_ _) | (with_reducible refine Grow.setCell_ ?_ (by first | exact Nat.le_refl _ | (simp only [World.alloc, Array.size_push]; omega) | omega) _)))); exact G2.out)
    rintro e w1 ⟨rfl, rfl⟩
    clear hG
    go_wp2_with fail
    refine at_world (w := W1) ?G (fun hG => (getS_fld (HV1.out.grow hG) HB.out 2 2 (by omega) (by omega) (by omega)).mono ?_)
    case G => (have := G2.out.size; ((repeat (first | with_reducible exact Grow.refl _ | (with_reducible refine Grow.alloc_ ?_ _) | (with_reducible refine Grow.setCell_ ?_ (by first | exact Nat.le_refl _ | (simp only [World.alloc, Array.size_push]; omega) | omega) _)))); exact G2.out)
    rintro e w1 ⟨rfl, rfl⟩
    clear hG
    go_wp2
    refine bodyPost_ret (v := .tuple #[.agg #[.int .i64 (fld d 0 2), .int .i64 (fld d 2 2), .slice a2 (d.drop 8).length c2], .int .i64 0]) ?_ rfl (HR.out _ _ ?_)
    · simp [results, Try.results58, go_sem, q0, q1, q2, z0, s1]
    · ((repeat (first | (with_reducible refine Upd.setCell ?_ (by simp) _) | with_reducible exact Upd.refl _ _)))
--%
end Go.Proofs.Ytcldfodnblkeiaa
