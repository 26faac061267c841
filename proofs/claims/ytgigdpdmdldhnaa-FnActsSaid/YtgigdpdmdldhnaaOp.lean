/- OutPorts: contracts of the code. -/
import Derived.Test.YtgigdpdmdldhnaaPf
import Derived.Test.YtgigdpdmdldhnaaPfs
import Derived.Test.YtgigdpdmdldhnaaCpt
import Derived.Test.YtgigdpdmdldhnaaSrt
import Derived.Test.YtgigdpdmdldhnaaHdn
import Derived.WalkKit
import Derived.ProofKit
import Derived.Deep.QuietTactic
import Derived.BigQuiet
import Derived.Outline
import Derived.WalkSpells
namespace Go.Proofs.Ytgigdpdmdldhnaa
open Go.ChangeShapes Go.WideShapes Go.ChangeAt Go.RowKit
set_option linter.unusedVariables false
set_option linter.unusedSimpArgs false
--%
theorem portsL_take {es : List SentD} {k : Nat} (h : k < es.length) : portsL (es.take (k + 1)) = portsL (es.take k) ++ [es[k].port] := by
  unfold portsL; rw [List.take_succ_eq_append_getElem h, List.map_append]; rfl
theorem portsL_all (es : List SentD) : portsL (es.take es.length) = portsL es := by rw [List.take_of_length_le (Nat.le_refl _)]
theorem portsL_len (es : List SentD) : (portsL es).length = es.length := by simp [portsL]
theorem mem_at {zs : List Int} {p : Int} {k : Nat} (h : k < zs.length) (e : zs[k] = p) : p ∈ zs := e ▸ List.getElem_mem h
theorem mem_none {zs : List Int} {p : Int} (h : ∀ j (hj : j < zs.length), ¬ zs[j] = p) : ¬ p ∈ zs := fun hm => by
  obtain ⟨j, hj, e⟩ := List.getElem_of_mem hm; exact h j hj e
theorem rd_built_at {W : World} {n : Nat} (h : W.heap.size = n) (t : TypeId) (size k : Nat) (xs : List Value) (hl : xs.length = k * size) (hk : k ≤ maxLen) : Rd (W.alloc (.cells xs.toArray t)) size (.slice (some ⟨n, 0, none⟩) k k) xs := by
  subst h; exact rd_built _ _ _ _ _ hl hk
--% each spec.l06In;l06In
theorem l06In_any (w : World) (v : Value) (zs : List Int) (p : Int) (h : RdN w v zs) : Calls Try.prog 82 #[v, .int .i64 p] w (RetV (.bool (decide (p ∈ zs))) w) := by
  obtain ⟨a, c, rfl, hlc, hm, hn, hc⟩ := Rd.ints h
  have H := Lib.hid hc; clear h hn hc
  unfold maxLen at hm
  go_enter Try.func82, Try.ntmps82
  go_wp2
  go_loopw [9] (fun i wr => ∃ k : Nat, k ≤ zs.length ∧ i = .int .i64 k ∧ (∀ j (hj : j < zs.length), j < k → ¬ zs[j] = p) ∧ Grow w wr) (fun i _ => zs.length - (intOf i).toNat)
  case atStart => exact ⟨0, Nat.zero_le _, rfl, fun j _ hj => absurd hj (Nat.not_lt_zero _), Grow.refl _⟩
  case round =>
    obtain ⟨k, hk, rfl, hal, hgr⟩ := hrel
    have HA := Lib.hid hal; have HG := Lib.hid hgr; clear hal hgr
    by_cases hlt : k < zs.length
    · obtain ⟨b, o, rfl, hc⟩ := H.out k hlt
      have hc := HG.out.cell hc
      have HE : Hid (∀ x, zs[k] = x → (p ∈ zs ↔ True) ∨ ¬ x = p) := Lib.hid (fun x hx => by
        by_cases e : x = p
        · exact .inl ⟨fun _ => trivial, fun _ => mem_at hlt (hx.trans e)⟩
        · exact .inr e)
      by_cases hkd : zs[k] = p
      · have hd : (zs[k] == p) = true := by simpa using hkd
        have HK : Hid (decide (p ∈ zs) = true) := Lib.hid (decide_eq_true (mem_at hlt hkd))
        clear hkd HE
        go_wp2
        go_ret
        exact ⟨ret_bool HK.out.symm, HG.out⟩
      · have hd : (zs[k] == p) = false := by simpa using hkd
        have HK := Lib.hid hkd; clear hkd HE
        go_wp2
        go_roundw
        case rel =>
          refine ⟨k + 1, by omega, by go_num, fun j hj hjk => ?_, HG.out⟩
          by_cases e : j = k
          · subst e; exact HK.out
          · exact HA.out j hj (by omega)
        case measure => simp [intOf]; omega
    · obtain rfl : k = zs.length := by omega
      have HK : Hid (decide (p ∈ zs) = false) := Lib.hid (decide_eq_false (mem_none (fun j hj => HA.out j hj hj)))
      go_wp2
      go_ret
      exact ⟨ret_bool HK.out.symm, HG.out⟩
--% each laws.hasInt;hasInt
theorem hasInt_any (w : World) (v : Value) (zs : List Int) (p : Int) (h : RdN w v zs) : Calls Try.prog 45 #[v, .int .i64 p] w (RetV (.bool (decide (p ∈ zs))) w) := by
  obtain ⟨a, c, rfl, hlc, hm, hn, hc⟩ := Rd.ints h
  have H := Lib.hid hc; clear h hn hc
  unfold maxLen at hm
  go_enter Try.func45, Try.ntmps45
  go_wp2
  go_loopw [9] (fun i wr => ∃ k : Nat, k ≤ zs.length ∧ i = .int .i64 k ∧ (∀ j (hj : j < zs.length), j < k → ¬ zs[j] = p) ∧ Grow w wr) (fun i _ => zs.length - (intOf i).toNat)
  case atStart => exact ⟨0, Nat.zero_le _, rfl, fun j _ hj => absurd hj (Nat.not_lt_zero _), Grow.refl _⟩
  case round =>
    obtain ⟨k, hk, rfl, hal, hgr⟩ := hrel
    have HA := Lib.hid hal; have HG := Lib.hid hgr; clear hal hgr
    by_cases hlt : k < zs.length
    · obtain ⟨b, o, rfl, hc⟩ := H.out k hlt
      have hc := HG.out.cell hc
      have HE : Hid (∀ x, zs[k] = x → (p ∈ zs ↔ True) ∨ ¬ x = p) := Lib.hid (fun x hx => by
        by_cases e : x = p
        · exact .inl ⟨fun _ => trivial, fun _ => mem_at hlt (hx.trans e)⟩
        · exact .inr e)
      by_cases hkd : zs[k] = p
      · have hd : (zs[k] == p) = true := by simpa using hkd
        have HK : Hid (decide (p ∈ zs) = true) := Lib.hid (decide_eq_true (mem_at hlt hkd))
        clear hkd HE
        go_wp2
        go_ret
        exact ⟨ret_bool HK.out.symm, HG.out⟩
      · have hd : (zs[k] == p) = false := by simpa using hkd
        have HK := Lib.hid hkd; clear hkd HE
        go_wp2
        go_roundw
        case rel =>
          refine ⟨k + 1, by omega, by go_num, fun j hj hjk => ?_, HG.out⟩
          by_cases e : j = k
          · subst e; exact HK.out
          · exact HA.out j hj (by omega)
        case measure => simp [intOf]; omega
    · obtain rfl : k = zs.length := by omega
      have HK : Hid (decide (p ∈ zs) = false) := Lib.hid (decide_eq_false (mem_none (fun j hj => HA.out j hj hj)))
      go_wp2
      go_ret
      exact ⟨ret_bool HK.out.symm, HG.out⟩
--% outPortsI 42
set_option maxHeartbeats 1000000 in
theorem outPortsI_any (w : World) (V v1 v2 : Value) (d : HeadD) (ps : List Int) (ac : List ActD) (h : RdH w V d) (h1 : RdN w v1 ps) (h2 : RdA w v2 ac) :
    Calls Try.prog 42 #[V, v1, v2] w (RetNew OwnN (opF d.vs ps ac) w) := by
  have HV := Lib.hid h; have H1 := Lib.hid h1; have H2 := Lib.hid h2
  obtain ⟨v0, rfl, hv⟩ := h
  obtain ⟨a0, c0, rfl⟩ := RdN.sh hv
  obtain ⟨a1, c1, rfl⟩ := RdN.sh h1
  obtain ⟨a2, c2, rfl⟩ := RdA.sh h2
  clear hv h1 h2
  have BD := Lib.hid (fun x (hx : x ∈ portsL (pfF d.vs ps ac)) => portsL_bd hx)
  have SM := Lib.hid (pfF_sm d.vs ps ac).1
  have HX : Hid (opF d.vs ps ac = opL (portsL (pfF d.vs ps ac)) 255) := Lib.hid rfl
  go_enter Try.func42, Try.ntmps42
  go_wp2_with fail
  have GB := Lib.hid (Grow.alloc w (.cells #[.slice a0 d.vs.length c0] 42))
  have hsz : (w.alloc (.cells #[.slice a0 d.vs.length c0] 42)).heap.size = w.heap.size + 1 := by simp only [World.alloc, Array.size_push]
  generalize w.alloc (.cells #[.slice a0 d.vs.length c0] 42) = wB at *
  have AC0 : Hid (AccN wB (wB.alloc (.cells #[] 3)) (.slice (some ⟨w.heap.size + 1, 0, none⟩) 0 0) []) := Lib.hid (accN_lit hsz)
  refine (performI_any _ _ _ _ d ps ac (HV.out.grow (GB.out.trans (Grow.alloc _ _))) (H1.out.grow (GB.out.trans (Grow.alloc _ _))) (H2.out.grow (GB.out.trans (Grow.alloc _ _)))).mono ?_
  rintro e w1 ⟨vs, fps, rfl, ho, hf, hg⟩
  have AC := Lib.hid (AC0.out.grow hg)
  have OS := Lib.hid ho
  have LB : Hid (∀ x ∈ fpOf (.slice (some ⟨w.heap.size + 1, 0, none⟩) 0 0), x ∉ fps) := Lib.hid (fun x hx hm => by
    have h1 := hf x hm
    have h2 : x = w.heap.size + 1 := by simpa [fpOf, Value.ownBlock] using hx
    have h3 : (wB.alloc (.cells #[] 3)).heap.size = wB.heap.size + 1 := by simp only [World.alloc, Array.size_push]
    omega)
  have hr := ho.rd
  clear AC0 ho hf hg hsz
  generalize pfF d.vs ps ac = es at *
  generalize pfB d.vs ps ac = b at *
  obtain ⟨sa, sc, rfl, hlc, hm, -, -⟩ := hr
  unfold maxLen at hm
  have hsm := SM.out
  go_wp2
  go_loopw [7, 22] (fun q i wr => ∃ k : Nat, k ≤ es.length ∧ i = .int .i64 k ∧ AccN wB wr q (portsL (es.take k)) ∧ OwnS wr (.slice sa es.length sc) es fps ∧ ∀ x ∈ fpOf q, x ∉ fps) (fun _ i _ => es.length - (intOf i).toNat)
  case atStart => exact ⟨0, Nat.zero_le _, rfl, AC.out, OS.out, LB.out⟩
  case round =>
    obtain ⟨k, hk, rfl, hacc, hos, hdj⟩ := hrel
    rename World => wr
    rename Value => qv
    have AC := Lib.hid hacc; have OS := Lib.hid hos; have DJ := Lib.hid hdj
    have hzl : (portsL (es.take k)).length ≤ 1000 := by rw [portsL_len]; simp; omega
    by_cases hlt : k < es.length
    · obtain ⟨sa', sc', e', -, -, -, hel⟩ := hos.rd
      simp only [Value.slice.injEq] at e'
      obtain ⟨rfl, -, rfl⟩ := e'
      obtain ⟨bb, off, x0, rfl, he⟩ := hel k hlt
      have HP := Lib.hid (portsL_take hlt)
      obtain ⟨xa, xc, rfl⟩ := RdN.sh he.2.2
      have q0 := he.1; have q1 := he.2.1
      clear he hel
      generalize es[k] = e at *
      generalize portsL (es.take k) = zs at *
      obtain ⟨oa, oc, rfl⟩ := own_shape hacc.2
      clear hacc hos hdj
      have GA := Lib.hid ((Grow.alloc wr (.cells #[Value.int .i64 e.port, .slice xa e.vs.length xc] 56)).trans (Grow.alloc _ (.cells #[Value.int .i64 e.port] 3)))
      have KEEP : ∀ (v5 : Value) (w5 : World), w5.ownsRow wB.heap.size 3 1 v5 (zs.length + [e.port].length) (zs.map (Value.int .i64) ++ [e.port].map (Value.int .i64)) → World.grownBy ((wr.alloc (.cells #[Value.int .i64 e.port, .slice xa e.vs.length xc] 56)).alloc (.cells #[Value.int .i64 e.port] 3)) w5 (Value.slice oa zs.length oc).ownBlock → Moved ((wr.alloc (.cells #[Value.int .i64 e.port, .slice xa e.vs.length xc] 56)).alloc (.cells #[Value.int .i64 e.port] 3)) (Value.slice oa zs.length oc) v5 →
          AccN wB w5 v5 (zs ++ [e.port]) ∧ OwnS w5 (.slice (some ⟨bb, off, none⟩) es.length sc) es fps ∧ ∀ x ∈ fpOf v5, x ∉ fps := fun v5 w5 hown hgr hmv =>
        ⟨(AC.out.grow GA.out).onto (ys := [e.port]) hown hgr, (OS.out.grow GA.out).upd (Upd.of_grown hgr) (fun x hx hm => DJ.out x hm hx), fun x hx hm => by
          rcases hmv x (by simpa [fpOf] using hx) with h | h
          · exact DJ.out x (by simp [fpOf, h]) hm
          · have := (OS.out.grow GA.out).here x hm; omega⟩
      have KEEP := Lib.hid KEEP
      go_wp2_with (at_builtin; go_loud (refine wpl_append Try.elemI64 rfl _ _ rfl wB.heap.size rfl (AC.out.grow GA.out).2 1 rfl (rd_built_at (by simp only [World.alloc, Array.size_push]) _ 1 1 [Value.int .i64 e.port] rfl (by decide)) rfl (oneCell_ints .i64 [_]) (by omega) (by unfold maxLen; omega) (AC.out.grow GA.out).1.size ?_); intro v5 w5 hown hgr hmv; have A3 := Lib.hid (KEEP.out v5 w5 hown hgr hmv); clear hown hgr hmv)
      go_roundw
      case rel => exact ⟨k + 1, by omega, by go_num, by rw [HP.out]; exact A3.out.1, A3.out.2⟩
      case measure => simp [intOf]; omega
    · obtain rfl : k = es.length := by omega
      rw [portsL_all] at AC hzl hacc
      obtain ⟨oa, oc, rfl⟩ := own_shape hacc.2
      clear hacc hos hdj
      go_wp2_with fail
      refine (sort_N _ _ _ _ AC.out.own.1 (by omega)).mono ?_
      rintro e2 w2 ⟨rfl, ho2, hu2⟩
      have O2 := Lib.hid ho2; have U2 := Lib.hid hu2
      have hml : ((portsL es).mergeSort fun x y => decide (x ≤ y)).length ≤ 1000 := by rw [List.length_mergeSort]; exact hzl
      clear ho2 hu2
      go_wp2_with fail
      refine (compact_N _ _ _ _ O2.out (by omega)).mono ?_
      rintro e3 w3 ⟨v3, rfl, ho3, hu3⟩
      have O3 := Lib.hid ho3; have U3 := Lib.hid hu3
      obtain ⟨za, zc, rfl⟩ := own_shape ho3.1
      clear ho3 hu3
      go_wp2
      go_ret
      rw [HX.out, ← sortCompact BD.out]
      exact ⟨_, _, rfl, O3.out, AC.out.own.2.older GB.out, GB.out.trans ((AC.out.1.then_upd U2.out AC.out.own.2).then_upd U3.out AC.out.own.2)⟩
--% outPortsS 41 l06In
def opI (ps : List Int) (n k : Nat) : List Int := if ((n + 1 : Nat) : Int) ∈ ps.take k then opL ps n ++ [((n + 1 : Nat) : Int)] else opL ps n
theorem opI_0 (ps : List Int) (n : Nat) : opI ps n 0 = opL ps n := by simp [opI]
theorem opI_end (ps : List Int) (n : Nat) : opI ps n ps.length = opL ps (n + 1) := by unfold opI; rw [List.take_of_length_le (Nat.le_refl _)]; rfl
theorem opI_len (ps : List Int) (n k : Nat) : (opI ps n k).length ≤ n + 1 := by
  have := opL_len ps n
  unfold opI; split
  · simp; omega
  · omega
theorem opI_step {ps : List Int} {n k : Nat} (h : (((n + 1 : Nat) : Int) ∈ ps.take (k + 1)) ↔ ((n + 1 : Nat) : Int) ∈ ps.take k) : opI ps n (k + 1) = opI ps n k := by
  unfold opI
  by_cases hm : ((n + 1 : Nat) : Int) ∈ ps.take k
  · rw [if_pos hm, if_pos (h.2 hm)]
  · rw [if_neg hm, if_neg (fun h' => hm (h.1 h'))]
theorem opI_skip {ps : List Int} {n k : Nat} (h : k < ps.length) (e : ¬ ps[k] = ((n + 1 : Nat) : Int)) : opI ps n (k + 1) = opI ps n k := by
  refine opI_step ?_
  rw [List.take_succ_eq_append_getElem h, List.mem_append]
  have : ¬ ((n + 1 : Nat) : Int) ∈ [ps[k]] := by simp only [List.mem_cons, List.not_mem_nil, or_false]; exact fun h => e h.symm
  simp only [this, or_false]
theorem opI_had {ps : List Int} {n k : Nat} (h : k < ps.length) (e : ((n + 1 : Nat) : Int) ∈ opI ps n k) : opI ps n (k + 1) = opI ps n k := by
  have hm : ((n + 1 : Nat) : Int) ∈ ps.take k := by
    unfold opI at e; split at e
    · assumption
    · have := (opL_mem.1 e).2.2; omega
  refine opI_step ?_
  rw [List.take_succ_eq_append_getElem h, List.mem_append]
  exact ⟨fun _ => hm, fun _ => .inl hm⟩
theorem opI_new {ps : List Int} {n k : Nat} (h : k < ps.length) (e : ps[k] = ((n + 1 : Nat) : Int)) (hn : ¬ ((n + 1 : Nat) : Int) ∈ opI ps n k) : opI ps n (k + 1) = opI ps n k ++ [((n + 1 : Nat) : Int)] := by
  have hm : ¬ ((n + 1 : Nat) : Int) ∈ ps.take k := fun hm => hn (by unfold opI; rw [if_pos hm]; simp)
  unfold opI
  rw [if_neg hm, if_pos]
  rw [List.take_succ_eq_append_getElem h, e]; simp
set_option maxHeartbeats 1000000 in
theorem outPortsS_any (w : World) (V v1 v2 : Value) (d : HeadD) (ps : List Int) (ac : List ActD) (h : RdH w V d) (h1 : RdN w v1 ps) (h2 : RdA w v2 ac) :
    Calls Try.prog 41 #[V, v1, v2] w (RetNew OwnN (opF d.vs ps ac) w) := by
  have HV := Lib.hid h; have H1 := Lib.hid h1; have H2 := Lib.hid h2
  obtain ⟨v0, rfl, hv⟩ := h
  obtain ⟨a0, c0, rfl⟩ := RdN.sh hv
  obtain ⟨a1, c1, rfl⟩ := RdN.sh h1
  obtain ⟨a2, c2, rfl⟩ := RdA.sh h2
  clear hv h1 h2
  have SM := Lib.hid (pfF_sm d.vs ps ac).1
  have HX : Hid (opF d.vs ps ac = opL (portsL (pfF d.vs ps ac)) 255) := Lib.hid rfl
  go_enter Try.func41, Try.ntmps41
  go_wp2_with fail
  have GB := Lib.hid (Grow.alloc w (.cells #[.slice a0 d.vs.length c0] 42))
  generalize w.alloc (.cells #[.slice a0 d.vs.length c0] 42) = wB at *
  refine (performS_any _ _ _ _ d ps ac (HV.out.grow GB.out) (H1.out.grow GB.out) (H2.out.grow GB.out)).mono ?_
  rintro e w1 ⟨vs, fps, rfl, ho, hf, hg⟩
  have hr := ho.rd
  have G1 := Lib.hid (GB.out.trans hg)
  clear ho hf hg
  generalize pfF d.vs ps ac = es at *
  generalize pfB d.vs ps ac = b at *
  obtain ⟨sa, sc, rfl, hlc, hm, -, hel⟩ := hr
  have H := Lib.hid hel; clear hel
  unfold maxLen at hm
  have hsm := SM.out
  have HPL := Lib.hid (portsL_len es)
  have AC := Lib.hid (accN_lit (W := w1) (n := w1.heap.size) rfl)
  go_wp2
  go_loopw [9, 10] (fun q i wr => ∃ (n : Nat) (z : Int), n ≤ 255 ∧ i = .int .i64 z ∧ z = (n : Int) + 1 ∧ AccN w1 wr q (opL (portsL es) n)) (fun _ i _ => 257 - (intOf i).toNat)
  case atStart => exact ⟨0, 1, by omega, rfl, by omega, AC.out⟩
  case round =>
    obtain ⟨n, z, hn, rfl, hz, hacc⟩ := hrel
    rename World => wr
    rename Value => qv
    have AC := Lib.hid hacc
    obtain ⟨oa, oc, rfl⟩ := own_shape hacc.2
    clear hacc
    have hz1 : 1 ≤ z ∧ z ≤ 256 := by omega
    have HZN := Lib.hid hz
    clear hz
    by_cases hn2 : z ≤ 255
    · have AC2 : Hid (AccN w1 wr (.slice oa (opL (portsL es) n).length oc) (opI (portsL es) n 0)) := Lib.hid (by rw [opI_0]; exact AC.out)
      go_wp2
      go_loopw [9, 26] (fun q i wi => ∃ k : Nat, k ≤ es.length ∧ i = .int .i64 k ∧ AccN w1 wi q (opI (portsL es) n k)) (fun _ i _ => es.length - (intOf i).toNat)
      case atStart => exact ⟨0, Nat.zero_le _, rfl, AC2.out⟩
      case round =>
        obtain ⟨k, hk, rfl, hacc⟩ := hrel
        rename World => wi
        rename Value => qi
        have AI := Lib.hid hacc
        have hil := opI_len (portsL es) n k
        by_cases hlt : k < es.length
        · obtain ⟨bb, off, x0, rfl, he⟩ := H.out k hlt
          have hlp : k < (portsL es).length := by have := HPL.out; omega
          have HE : Hid ((portsL es)[k] = es[k].port) := Lib.hid (by simp [portsL])
          have HS := Lib.hid (opI_skip (n := n) hlp); have HD := Lib.hid (opI_had (n := n) hlp); have HN := Lib.hid (opI_new (n := n) hlp)
          rw [HE.out] at HS HN
          obtain ⟨xa, xc, rfl⟩ := RdN.sh he.2.2
          have q0 := hacc.1.cell he.1; have q1 := hacc.1.cell he.2.1
          have hcast : ((n + 1 : Nat) : Int) = z := by have := HZN.out; omega
          rw [hcast] at HS HD HN
          clear he HE hcast
          generalize es[k].port = pt at *
          generalize opI (portsL es) n k = zs at *
          obtain ⟨oa2, oc2, rfl⟩ := own_shape hacc.2
          clear hacc
          by_cases hpt : pt = z
          · have hb1 : (pt == z) = true := by simp [hpt]
            by_cases hin : z ∈ zs
            · have hd := decide_eq_true hin
              have HZ := Lib.hid (HD.out hin)
              clear HD HN HS hin hpt
              go_wp2_with fail
              refine (l06In_any _ _ _ _ AI.out.own.1.rd).mono ?_
              rintro e2 w2 ⟨rfl, hg⟩
              rw [hd]
              have A2 := Lib.hid (AI.out.grow hg); clear hg
              go_wp2
              go_roundw
              case rel => exact ⟨k + 1, by omega, by go_num, by rw [HZ.out]; exact A2.out⟩
              case measure => simp [intOf]; omega
            · have hd := decide_eq_false hin
              have HZ := Lib.hid (HN.out hpt hin)
              clear HD HN HS hin hpt
              go_wp2_with fail
              refine (l06In_any _ _ _ _ AI.out.own.1.rd).mono ?_
              rintro e2 w2 ⟨rfl, hg⟩
              rw [hd]
              have A2 := Lib.hid (AI.out.grow hg); clear hg
              go_wp2_with (at_builtin; refine wpl_append Try.elemI64 rfl _ _ rfl w1.heap.size rfl (A2.out.grow (Grow.alloc _ (.cells #[Value.int .i64 z] 3))).2 1 rfl (rd_built _ _ 1 1 [Value.int .i64 z] rfl (by decide)) rfl (oneCell_ints .i64 [_]) (by omega) (by unfold maxLen; omega) (A2.out.grow (Grow.alloc _ (.cells #[Value.int .i64 z] 3))).1.size ?_; intro v5 w5 hown hgr hmv; have A3 := Lib.hid ((A2.out.grow (Grow.alloc _ (.cells #[Value.int .i64 z] 3))).onto (ys := [z]) hown hgr); clear hown hgr hmv)
              go_roundw
              case rel => exact ⟨k + 1, by omega, by go_num, by rw [HZ.out]; exact A3.out⟩
              case measure => simp [intOf]; omega
          · have hb1 : (pt == z) = false := by simpa using hpt
            have HZ := Lib.hid (HS.out hpt)
            clear HD HN HS hpt
            go_wp2
            go_roundw
            case rel => exact ⟨k + 1, by omega, by go_num, by rw [HZ.out]; exact AI.out⟩
            case measure => simp [intOf]; omega
        · obtain rfl : k = es.length := by omega
          have HZ : Hid (opI (portsL es) n es.length = opL (portsL es) (n + 1)) := Lib.hid (by rw [← HPL.out]; exact opI_end _ _)
          obtain ⟨oa2, oc2, rfl⟩ := own_shape hacc.2
          clear hacc
          go_wp2
          go_roundw
          case rel => exact ⟨n + 1, z + 1, by have := HZN.out; omega, by go_num, by have := HZN.out; omega, by rw [← HZ.out]; exact AI.out⟩
          case measure => have := HZN.out; simp [intOf]; omega
    · obtain rfl : n = 255 := by have := HZN.out; omega
      clear HZN
      go_wp2
      go_ret
      rw [HX.out]
      exact ⟨_, _, rfl, AC.out.own.1, AC.out.own.2.older G1.out, G1.out.trans AC.out.1⟩
--%
end Go.Proofs.Ytgigdpdmdldhnaa
