/- Slices of sends: the laws' helpers. -/
import Derived.Test.YtgigdpdmdldhnaaSnt
import Derived.Test.YtgigdpdmdldhnaaReg
import Derived.WalkKit
import Derived.ProofKit
import Derived.Deep.QuietTactic
import Derived.BigQuiet
import Derived.Outline
import Derived.WalkSpells
namespace Go.Proofs.Ytgigdpdmdldhnaa
open Go.ChangeShapes Go.WideShapes Go.ChangeAt Go.RowKit
set_option linter.unusedVariables false
set_option linter.unusedSimpArgs false
--% eqSent 81
theorem RdN.sh2 {w : World} {v : Value} {zs : List Int} (h : RdN w v zs) : ∃ a c, v = .slice a zs.length c := by
  obtain ⟨a, c, rfl, -⟩ := Rd.ints h; exact ⟨a, c, rfl⟩
theorem eq_Se (w : World) (x y : SentD) (a1 a2 : Option Addr) (c1 c2 : Nat) (h1 : RdN w (.slice a1 x.vs.length c1) x.vs) (h2 : RdN w (.slice a2 y.vs.length c2) y.vs) :
    Calls Try.prog 81 #[.agg #[.int .i64 x.port, .slice a1 x.vs.length c1], .agg #[.int .i64 y.port, .slice a2 y.vs.length c2]] w (RetV (.bool (decide (x = y))) w) := by
  have H1 : Hid (RdH w (.agg #[.slice a1 x.vs.length c1]) ⟨x.vs⟩) := Lib.hid ⟨_, rfl, h1⟩
  have H2 : Hid (RdH w (.agg #[.slice a2 y.vs.length c2]) ⟨y.vs⟩) := Lib.hid ⟨_, rfl, h2⟩
  clear h1 h2
  by_cases hc : x.port = y.port
  rotate_left
  · have hb : (x.port != y.port) = true := by simpa using hc
    have HN := Lib.hid hc; clear hc
    go_enter Try.func81, Try.ntmps81
    go_wp2
    go_ret
    refine ⟨ret_bool (decide_eq_false (fun h => HN.out (by rw [h]))).symm, ?_⟩
    ((repeat (first | with_reducible exact Grow.refl _ | (with_reducible refine Grow.alloc_ ?_ _) | (with_reducible refine Grow.setCell_ ?_ (by first | exact Nat.le_refl _ | (simp only [World.alloc, Array.size_push]; omega) | omega) _))))
  have hb : (x.port != y.port) = false := by simp [hc]
  by_cases he : x.vs = y.vs
  rotate_left
  · have hd : decide ((⟨x.vs⟩ : HeadD) = ⟨y.vs⟩) = false := decide_eq_false (fun h => he (congrArg HeadD.vs h))
    have HN := Lib.hid he; clear he hc
    go_enter Try.func81, Try.ntmps81
    go_wp2_with fail
    refine at_world (w := w) ?G (fun hG => (eq_H _ _ _ ⟨x.vs⟩ ⟨y.vs⟩ (H1.out.grow hG) (H2.out.grow hG)).mono ?_)
    case G => ((repeat (first | with_reducible exact Grow.refl _ | (with_reducible refine Grow.alloc_ ?_ _) | (with_reducible refine Grow.setCell_ ?_ (by first | exact Nat.le_refl _ | (simp only [World.alloc, Array.size_push]; omega) | omega) _))))
    rintro e w1 ⟨rfl, hg⟩
    rw [hd]
    have HG := Lib.hid (hG.trans hg); clear hg hG
    go_wp2
    go_ret
    exact ⟨ret_bool (decide_eq_false (fun h => HN.out (by rw [h]))).symm, HG.out⟩
  have hd : decide ((⟨x.vs⟩ : HeadD) = ⟨y.vs⟩) = true := decide_eq_true (by rw [he])
  have HE : Hid (x = y) := Lib.hid (by cases x; cases y; simp_all)
  clear he hc
  go_enter Try.func81, Try.ntmps81
  go_wp2_with fail
  refine at_world (w := w) ?G (fun hG => (eq_H _ _ _ ⟨x.vs⟩ ⟨y.vs⟩ (H1.out.grow hG) (H2.out.grow hG)).mono ?_)
  case G => ((repeat (first | with_reducible exact Grow.refl _ | (with_reducible refine Grow.alloc_ ?_ _) | (with_reducible refine Grow.setCell_ ?_ (by first | exact Nat.le_refl _ | (simp only [World.alloc, Array.size_push]; omega) | omega) _))))
  rintro e w1 ⟨rfl, hg⟩
  rw [hd]
  have HG := Lib.hid (hG.trans hg); clear hg hG
  go_wp2
  go_ret
  exact ⟨ret_bool (decide_eq_true HE.out).symm, HG.out⟩
--% eqSentS 34
theorem ne_at2 {xs ys : List SentD} {k : Nat} (h1 : k < xs.length) (h2 : k < ys.length) (h : xs[k] ≠ ys[k]) : xs ≠ ys := fun e => h (by subst e; rfl)
set_option maxHeartbeats 1000000 in
theorem eq_S (w : World) (v1 v2 : Value) (xs ys : List SentD) (h1 : RdS w v1 xs) (h2 : RdS w v2 ys) : Calls Try.prog 34 #[v1, v2] w (RetV (.bool (decide (xs = ys))) w) := by
  obtain ⟨a1, c1, rfl, hlc1, hm1, hn1, hc1⟩ := h1
  obtain ⟨a2, c2, rfl, hlc2, hm2, hn2, hc2⟩ := h2
  clear hn1 hn2
  have H1 := Lib.hid hc1; clear hc1
  have H2 := Lib.hid hc2; clear hc2
  unfold maxLen at hm1 hm2
  by_cases hl : xs.length = ys.length
  rotate_left
  · have hb : ((xs.length : Int) != (ys.length : Int)) = true := by simp; omega
    have hne : xs ≠ ys := fun h => hl (by rw [h])
    have HN := Lib.hid hne; clear hne
    go_enter Try.func34, Try.ntmps34
    go_wp2
    go_ret
    exact ⟨ret_bool (decide_eq_false HN.out).symm, Grow.refl _⟩
  have hb : ((xs.length : Int) != (ys.length : Int)) = false := by simp [hl]
  have HL := Lib.hid hl; clear hl
  go_enter Try.func34, Try.ntmps34
  go_wp2
  go_loopw [5] (fun i wr => ∃ k : Nat, k ≤ xs.length ∧ i = .int .i64 k ∧ xs.take k = ys.take k ∧ Grow w wr) (fun i _ => xs.length - (intOf i).toNat)
  case atStart => exact ⟨0, Nat.zero_le _, rfl, by simp, Grow.refl _⟩
  case round =>
    obtain ⟨k, hk, rfl, htk, hgr⟩ := hrel
    have HT := Lib.hid htk; clear htk
    have HG := Lib.hid hgr; clear hgr
    by_cases hlt : k < xs.length
    · have hlt2 : k < ys.length := by rw [← HL.out]; exact hlt
      obtain ⟨b1, o1, u0, rfl, he1⟩ := H1.out k hlt
      obtain ⟨b2, o2, t0, rfl, he2⟩ := H2.out k hlt2
      obtain ⟨aa0, k0, rfl⟩ := he1.2.2.sh2
      obtain ⟨ab0, m0, rfl⟩ := he2.2.2.sh2
      have E1 := Lib.hid (he1.grow HG.out); have E2 := Lib.hid (he2.grow HG.out)
      clear he1 he2
      by_cases he : xs[k] = ys[k]
      · have hd := decide_eq_true he
        have HE := Lib.hid he; clear he
        go_wp2_with fail
        have hne : Nonempty (Cl (Grow wr)) := ⟨⟨wr, Grow.refl _⟩⟩
        have p0 : ∀ x : Cl (Grow wr), x.w.cell? ⟨b1, o1 + k * 2, none⟩ = some (.int .i64 xs[k].port) := fun x => x.ok.cell E1.out.1
        have p1 : ∀ x : Cl (Grow wr), x.w.cell? ⟨b1, o1 + k * 2 + 1, none⟩ = some (.slice aa0 xs[k].vs.length k0) := fun x => x.ok.cell E1.out.2.1
        have q0 : ∀ x : Cl (Grow wr), x.w.cell? ⟨b2, o2 + k * 2, none⟩ = some (.int .i64 ys[k].port) := fun x => x.ok.cell E2.out.1
        have q1 : ∀ x : Cl (Grow wr), x.w.cell? ⟨b2, o2 + k * 2 + 1, none⟩ = some (.slice ab0 ys[k].vs.length m0) := fun x => x.ok.cell E2.out.2.1
        refine wp_region_mix (Cls (Grow wr)) 10 #[false, false, false, false, false, false, false, false, false, false] (by kernel_rfl) (by kernel_rfl) ⟨⟨_, Grow.drewN _ 1⟩, rfl⟩ ?_
        refine anyC_seg [0, 1, 2, 3, 4, 5, 6, 7] #[true, true, true, true, true, true, true, true, false, false] (fuel := 2) rfl (by kernel_rfl) ⟨⟨_, Grow.drewN _ 1⟩, rfl⟩ ?_
        simp only [pickOps, List.getD_cons_succ, List.getD_cons_zero]
        repeat (go_big_quiet_step (fail))
        refine wpQuiet_nil ?_
        clear p0 p1 q0 q1
        refine anyC_sole 8 #[true, true, true, true, true, true, true, true, true, false] (fuel := 1) (by kernel_rfl) ?_
        simp only [List.getD_cons_succ, List.getD_cons_zero]
        go_wp2_with fail
        refine (eq_Se _ xs[k] ys[k] _ _ _ _ (E1.out.grow (Grow.drewN _ 1)).2.2 (E2.out.grow (Grow.drewN _ 1)).2.2).mono ?_
        rintro e w1 ⟨rfl, hg⟩
        rw [hd]
        have D1 := Lib.hid ((Grow.drewN _ 1).trans hg); clear hg
        go_wp2
        refine ⟨⟨⟨_, D1.out⟩, rfl⟩, ?_⟩
        refine anyC_seg [9] #[true, true, true, true, true, true, true, true, true, true] (fuel := 0) rfl (by kernel_rfl) ⟨⟨_, D1.out⟩, rfl⟩ ?_
        simp only [pickOps, List.getD_cons_succ, List.getD_cons_zero]
        repeat (go_big_quiet_step (fail))
        refine wpQuiet_nil ?_
        refine anyC_done (by kernel_rfl) ?_
        go_wp2
        go_roundw
        case rel => exact ⟨k + 1, by omega, by go_num, take_succ_eq hlt hlt2 HT.out HE.out, HG.out.trans D1.out⟩
        case measure => simp [intOf]; omega
      · have hd := decide_eq_false he
        have HE := Lib.hid he; clear he
        go_wp2_with fail
        have hne : Nonempty (Cl (Grow wr)) := ⟨⟨wr, Grow.refl _⟩⟩
        have p0 : ∀ x : Cl (Grow wr), x.w.cell? ⟨b1, o1 + k * 2, none⟩ = some (.int .i64 xs[k].port) := fun x => x.ok.cell E1.out.1
        have p1 : ∀ x : Cl (Grow wr), x.w.cell? ⟨b1, o1 + k * 2 + 1, none⟩ = some (.slice aa0 xs[k].vs.length k0) := fun x => x.ok.cell E1.out.2.1
        have q0 : ∀ x : Cl (Grow wr), x.w.cell? ⟨b2, o2 + k * 2, none⟩ = some (.int .i64 ys[k].port) := fun x => x.ok.cell E2.out.1
        have q1 : ∀ x : Cl (Grow wr), x.w.cell? ⟨b2, o2 + k * 2 + 1, none⟩ = some (.slice ab0 ys[k].vs.length m0) := fun x => x.ok.cell E2.out.2.1
        refine wp_region_mix (Cls (Grow wr)) 10 #[false, false, false, false, false, false, false, false, false, false] (by kernel_rfl) (by kernel_rfl) ⟨⟨_, Grow.drewN _ 1⟩, rfl⟩ ?_
        refine anyC_seg [0, 1, 2, 3, 4, 5, 6, 7] #[true, true, true, true, true, true, true, true, false, false] (fuel := 2) rfl (by kernel_rfl) ⟨⟨_, Grow.drewN _ 1⟩, rfl⟩ ?_
        simp only [pickOps, List.getD_cons_succ, List.getD_cons_zero]
        repeat (go_big_quiet_step (fail))
        refine wpQuiet_nil ?_
        clear p0 p1 q0 q1
        refine anyC_sole 8 #[true, true, true, true, true, true, true, true, true, false] (fuel := 1) (by kernel_rfl) ?_
        simp only [List.getD_cons_succ, List.getD_cons_zero]
        go_wp2_with fail
        refine (eq_Se _ xs[k] ys[k] _ _ _ _ (E1.out.grow (Grow.drewN _ 1)).2.2 (E2.out.grow (Grow.drewN _ 1)).2.2).mono ?_
        rintro e w1 ⟨rfl, hg⟩
        rw [hd]
        have D1 := Lib.hid ((Grow.drewN _ 1).trans hg); clear hg
        go_wp2
        refine ⟨⟨⟨_, D1.out⟩, rfl⟩, ?_⟩
        refine anyC_seg [9] #[true, true, true, true, true, true, true, true, true, true] (fuel := 0) rfl (by kernel_rfl) ⟨⟨_, D1.out⟩, rfl⟩ ?_
        simp only [pickOps, List.getD_cons_succ, List.getD_cons_zero]
        repeat (go_big_quiet_step (fail))
        refine wpQuiet_nil ?_
        refine anyC_done (by kernel_rfl) ?_
        go_wp2
        go_ret
        exact ⟨ret_bool (decide_eq_false (ne_at2 hlt hlt2 HE.out)).symm, HG.out.trans D1.out⟩
    · go_wp2
      go_ret
      exact ⟨ret_bool (decide_eq_true (by have := HT.out; rwa [List.take_of_length_le (by omega), List.take_of_length_le (by rw [← HL.out]; omega)] at this)).symm, HG.out⟩
--% markSentS 39
theorem set1h (cs : List Value) (p : Nat) (x0 : Value) (h : p + 1 < cs.length) :
    let r := cs.set p x0
    r[p]? = some x0 ∧ r[p + 1]? = cs[p + 1]? ∧ ∀ i, (i < p ∨ p + 1 < i) → r[i]? = cs[i]? := by
  intro r
  refine ⟨?_, ?_, fun i hi => ?_⟩
  all_goals simp only [r, List.getElem?_set, List.length_set]
  all_goals (repeat (first | rw [if_neg (by omega)] | rw [if_pos (by omega)] | rw [if_pos rfl] | rw [if_pos trivial]))
set_option maxHeartbeats 1000000 in
theorem mark_S (w : World) (v : Value) (es : List SentD) (fp : List Nat) (k0 : Int) (h : OwnS w v es fp) (hs : SmS es) (hk : 0 ≤ k0 ∧ k0 ≤ 100000000) : Calls Try.prog 39 #[v, .int .i64 k0] w (RetMark OwnS v (mkS es k0) fp (k0 + cntS es) w) := by
  obtain ⟨cs0, F, ⟨hr, he, hgf, hff⟩, rfl⟩ := h
  obtain ⟨a, cap, rfl⟩ := own_shape hr
  have H := Lib.hid (And.intro hr he); have GF := Lib.hid hgf; have FF := Lib.hid hff
  have HS := Lib.hid hs
  have hdl : (es.length : Int) ≤ 1048576 := by have := hs.1; omega
  clear hr he hgf hff hs
  go_enter Try.func39, Try.ntmps39
  go_wp2
  go_loopw [1, 5] (fun q i wr => ∃ (k : Nat) (z : Int) (cs : List Value), k ≤ es.length ∧ i = .int .i64 k ∧ q = .int .i64 z ∧ z = k0 + cntS (es.take k) ∧ wr.ownsRow 0 56 2 (.slice a es.length cap) es.length cs ∧ (∀ j (hj : j < es.length), j < k → SntF wr cs j (mkSe es[j] (k0 + cntS (es.take j))) (F j)) ∧ (∀ j (hj : j < es.length), k ≤ j → SntF wr cs j es[j] (F j)) ∧ Upd (allS (.slice a es.length cap) F es.length) w wr) (fun _ i _ => es.length - (intOf i).toNat)
  case atStart => exact ⟨0, _, cs0, Nat.zero_le _, rfl, rfl, by simp [cntS], H.out.1, (fun j hj h => absurd h (Nat.not_lt_zero _)), (fun j hj _ => H.out.2 j hj), Upd.refl _ _⟩
  case round =>
    obtain ⟨k, z, cs, hk', rfl, rfl, hz, hown, hdone, htodo, hu0⟩ := hrel
    have HU := Lib.hid hu0; have HD := Lib.hid hdone; have HT := Lib.hid htodo; have HZ := Lib.hid hz
    have hzb : 0 ≤ z ∧ z ≤ 103145728 := by
      have h1 := cntS_le es k; have h2 := cntS_bd es HS.out; omega
    have HO := Lib.hid hown
    clear hu0 hdone htodo hz hown
    by_cases hlt : k < es.length
    · obtain ⟨g, rfl⟩ := own_some HO.out (by omega)
      have SM := Lib.hid (HS.out.at hlt)
      have HNX := Lib.hid (cntS_take hlt)
      have HN0 : Hid (mkSe es[k] z = mkSe es[k] (k0 + cntS (es.take k))) := Lib.hid (by rw [HZ.out])
      obtain ⟨v0, c0, c1, o0⟩ := HT.out k hlt (Nat.le_refl _)
      generalize hek : es[k] = e at *
      obtain ⟨a0, m0, rfl⟩ := own_shape o0.1
      have hlen : cs.length = es.length * 2 := HO.out.1
      have hgF : ∀ x ∈ F k, x ∉ [g] := fun x hx hm => by
        simp only [List.mem_cons, List.not_mem_nil, or_false] at hm
        exact GF.out k hlt g (by simp [fpOf, Value.ownBlock]) (hm ▸ hx)
      have hgF' : ∀ x ∈ fpOf (.slice (some ⟨g, 0, none⟩) es.length cap), x ∉ F k := fun x hx hm => GF.out k hlt x hx hm
      have s3 := set1h cs (k * 2) (.int .i64 z) (by omega)
      have SS := Lib.hid s3
      have hr1 := (HO.out.stored (k * 2) (.int .i64 z)).1
      have ua : Upd [g] wr (wr.setCell ⟨g, k * 2, none⟩ (.int .i64 z)) := Upd.setCell (Upd.refl [g] wr) (by simp) _
      have e0 : wr.cell? ⟨g, k * 2, none⟩ = some (.int .i64 e.port) := by rw [HO.out.cellAt _ (by omega)]; exact c0
      have e1 : wr.cell? ⟨g, k * 2 + 1, none⟩ = some (.slice a0 e.vs.length m0) := by rw [HO.out.cellAt _ (by omega)]; exact c1
      have hfz : ∀ o, wr.frozen? ⟨g, o, none⟩ = false := fun o => HO.out.frozenAt o
      have RW := Lib.hid (OwnR.of hr1).1
      have P0 := Lib.hid (o0.upd ua hgF)
      have UA := Lib.hid ua
      have CS := Lib.hid c1
      have GG := Lib.hid hgF; have GG' := Lib.hid hgF'
      have hgl : g < wr.heap.size := (own_block HO.out (b := g) rfl).2
      have hb0 := cntN_bd _ SM.out
      clear o0 ua hr1 c0 c1 s3 hgF hgF' HNX
      go_wp2_with fail
      generalize wr.setCell ⟨g, k * 2, none⟩ (.int .i64 z) = wA at *
      clear e0 e1 hfz
      refine (mark_N _ _ _ _ _ P0.out SM.out (by omega)).mono ?_
      rintro _ wB ⟨rfl, ho, hu⟩
      have Q0 := Lib.hid ho
      have RW := Lib.hid (RW.out.upd hu (fun x hx => GG'.out x hx))
      have UA := Lib.hid (UA.out.trans hu)
      clear ho hu
      have HNX := Lib.hid (cntS_take hlt)
      go_wp2
      go_roundw
      case rel =>
        have hnx : cntS (es.take (k + 1)) = cntS (es.take k) + cntSe e := by have := HNX.out; rw [hek] at this; exact this
        obtain ⟨t0, t1, t6⟩ := SS.out
        have hall : ∀ x ∈ [g] ++ F k, x ∈ allS (.slice (some ⟨g, 0, none⟩) es.length cap) F es.length := fun x hx => by
          rw [mem_allS]
          simp only [List.mem_append, List.mem_cons, List.not_mem_nil, or_false] at hx
          rcases hx with rfl | h
          · exact .inl (by simp [fpOf, Value.ownBlock])
          · exact .inr ⟨k, hlt, h⟩
        have hap : ∀ j, j < es.length → j ≠ k → ∀ x ∈ F j, x ∉ [g] ++ F k := fun j hj hjk x hx hm => by
          simp only [List.mem_append, List.mem_cons, List.not_mem_nil, or_false] at hm
          rcases hm with rfl | h
          · exact GF.out j hj x (by simp [fpOf, Value.ownBlock]) hx
          · rcases Nat.lt_or_ge j k with h' | h'
            · exact FF.out j k h' hlt x hx h
            · exact FF.out k j (by omega) hj x h hx
        refine ⟨k + 1, _, _, by omega, by go_num, rfl, by rw [hnx, HZ.out]; unfold cntSe; omega, RW.out.1, fun j hj hjk => ?_, fun j hj hjk => ?_, (HU.out.trans UA.out).mono (fun x hx _ => ?_)⟩
        · by_cases hjl : j = k
          · subst hjl
            rw [hek, ← HZ.out]
            refine ⟨_, t0, by rw [t1]; exact CS.out, ?_⟩
            have := Q0.out
            simp only [mkSe, mkN, upFrom_length]
            simpa [mkN, upFrom_length] using this
          · exact (HD.out j hj (by omega)).upd UA.out (hap j hj hjl) (fun i hi => t6 _ (by omega))
        · exact (HT.out j hj (by omega)).upd UA.out (hap j hj (by omega)) (fun i hi => t6 _ (by omega))
        · rcases List.mem_append.1 hx with h | h
          · exact h
          · exact hall x h
      case measure => simp [intOf]; omega
    · obtain rfl : k = es.length := by omega
      go_wp2
      go_ret
      refine ⟨ret_int (by rw [HZ.out, List.take_of_length_le (Nat.le_refl _)]), ⟨cs, F, ⟨?_, ?_, ?_, ?_⟩, by rw [mkS_len]⟩, HU.out⟩
      · rw [mkS_len]; exact HO.out
      · intro j hj
        rw [mkS_len] at hj
        rw [mkS_at es k0 j hj]
        exact HD.out j hj hj
      · intro j hj; rw [mkS_len] at hj; exact GF.out j hj
      · intro i j hij hj; rw [mkS_len] at hj; exact FF.out i j hij hj
--% heldSentS 40
set_option maxHeartbeats 1000000 in
theorem held_S (w : World) (v : Value) (es : List SentD) (k0 : Int) (h : RdS w v (mkS es k0)) (hs : SmS es) (hk : 0 ≤ k0 ∧ k0 ≤ 100000000) : Calls Try.prog 40 #[v, .int .i64 k0] w (RetV (.int .i64 (k0 + cntS es)) w) := by
  obtain ⟨a, c, rfl, hlc, hm, hn, hc⟩ := h
  have H : Hid (∀ j (hj : j < es.length), ∃ b off v0, a = some ⟨b, off, none⟩ ∧ SntAt w b (off + j * 2) v0 (mkSe es[j] (k0 + cntS (es.take j)))) := Lib.hid (fun j hj => by
    have := hc j (by rw [mkS_len]; exact hj)
    rwa [mkS_at es k0 j hj] at this)
  rw [mkS_len] at hlc ⊢
  have HS := Lib.hid hs
  have hdl : (es.length : Int) ≤ 1048576 := by have := hs.1; omega
  unfold maxLen at hm
  clear hc hn hs
  go_enter Try.func40, Try.ntmps40
  go_wp2
  go_loopw [1, 5] (fun q i wr => ∃ (k : Nat) (z : Int), k ≤ es.length ∧ i = .int .i64 k ∧ q = .int .i64 z ∧ z = k0 + cntS (es.take k) ∧ Grow w wr) (fun _ i _ => es.length - (intOf i).toNat)
  case atStart => exact ⟨0, _, Nat.zero_le _, rfl, rfl, by simp [cntS], Grow.refl _⟩
  case round =>
    obtain ⟨k, z, hk', rfl, rfl, hz, hgr⟩ := hrel
    have HG := Lib.hid hgr; have HZ := Lib.hid hz
    have hzb : 0 ≤ z ∧ z ≤ 103145728 := by
      have h1 := cntS_le es k; have h2 := cntS_bd es HS.out; omega
    clear hgr
    by_cases hlt : k < es.length
    · obtain ⟨b, off, v0, rfl, he⟩ := H.out k hlt
      have SM := Lib.hid (HS.out.at hlt)
      have HNX := Lib.hid (cntS_take hlt)
      rw [← hz] at he
      generalize hek : es[k] = e at *
      have HEK := Lib.hid hek
      have HE := Lib.hid (he.grow HG.out)
      obtain ⟨a0, m0, e0⟩ := he.2.2.sh2
      subst e0
      obtain ⟨c0, c1, -⟩ := HE.out
      have hb0 := cntN_bd _ SM.out
      simp only [mkSe] at c0 c1
      clear he hz hek
      go_wp2_with fail
      refine (held_N _ _ _ _ HE.out.2.2 SM.out (by omega)).mono ?_
      rintro _ wB ⟨rfl, hg⟩
      have HG := Lib.hid (HG.out.trans hg); have HE := Lib.hid (HE.out.grow hg)
      clear hg c0 c1
      go_wp2
      go_roundw
      case rel => exact ⟨k + 1, _, by omega, by go_num, rfl, by rw [HNX.out, HZ.out]; unfold cntSe; omega, HG.out⟩
      case measure => simp [intOf]; omega
    · obtain rfl : k = es.length := by omega
      clear hz
      go_wp2
      go_ret
      exact ⟨ret_int (by rw [HZ.out, List.take_of_length_le (Nat.le_refl _)]), HG.out⟩
--%
end Go.Proofs.Ytgigdpdmdldhnaa
