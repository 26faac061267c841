/- Perform: contract of the reference (printed by gpfs.py). -/
import Derived.Test.YtgigdpdmdldhnaaPfi
import Derived.WalkKit
import Derived.ProofKit
import Derived.Deep.QuietTactic
import Derived.BigQuiet
import Derived.Outline
import Derived.WalkSpells
namespace Go.Proofs.Ytgigdpdmdldhnaa
open Go.ChangeShapes Go.WideShapes Go.ChangeAt Go.RowKit
set_option linter.unusedVariables false
set_option linter.unusedSimpArgs false
--% performS 31
set_option maxHeartbeats 4000000 in
theorem performS_any (w : World) (V v1 v2 : Value) (d : HeadD) (ps : List Int) (ac : List ActD) (h : RdH w V d) (h1 : RdN w v1 ps) (h2 : RdA w v2 ac) :
    Calls Try.prog 31 #[V, v1, v2] w (RetNew2 OwnS (pfF d.vs ps ac) (.bool (pfB d.vs ps ac)) w) := by
  obtain ⟨v0, rfl, hv⟩ := h
  have HV := Lib.hid hv; have H1 := Lib.hid h1; have H2 := Lib.hid h2
  obtain ⟨a0, c0, rfl, hlc0, hm0, hn0, hc0⟩ := Rd.ints hv
  obtain ⟨a1, c1, rfl, hlc1, hm1, hn1, hc1⟩ := Rd.ints h1
  obtain ⟨a2, c2, rfl, hlc2, hm2, hn2, hc2⟩ := RdA.acts h2
  have C0 := Lib.hid hc0; have C1 := Lib.hid hc1; have C2 := Lib.hid hc2
  unfold maxLen at hm0 hm1 hm2
  clear hv h1 h2 hn0 hn1 hn2 hc0 hc1 hc2
  cases hb0 : hdOk d.vs
  · have HX := Lib.hid (pfF_none (hs := d.vs) (ps := ps) (ac := ac) (by simp [pfB, hb0]))
    go_enter Try.func31, Try.ntmps31
    go_wp2_with fail
    have B0 := Lib.hid (Box.alloc w [.slice a0 d.vs.length c0] 42)
    have GB := Lib.hid (Grow.alloc w (.cells #[.slice a0 d.vs.length c0] 42))
    generalize w.alloc (.cells #[.slice a0 d.vs.length c0] 42) = wB at *
    have B0 : Hid (Box wB w.heap.size [.slice a0 d.vs.length c0]) := B0
    refine (headOkS_any _ _ d ⟨_, rfl, HV.out.grow GB.out⟩).mono ?_
    rintro e w1 ⟨rfl, hg⟩
    rw [hb0]
    have G1 := Lib.hid (GB.out.trans hg)
    have B0 := Lib.hid (B0.out.grow hg)
    clear hg
    go_wp2
    go_ret2
    rw [HX.out.1, HX.out.2]
    exact ⟨_, _, rfl, OwnS.nil _, by simp [Fresh], G1.out⟩
  cases hb1 : ptOk ps
  · have HX := Lib.hid (pfF_none (hs := d.vs) (ps := ps) (ac := ac) (by simp [pfB, hb0, hb1]))
    go_enter Try.func31, Try.ntmps31
    go_wp2_with fail
    have B0 := Lib.hid (Box.alloc w [.slice a0 d.vs.length c0] 42)
    have GB := Lib.hid (Grow.alloc w (.cells #[.slice a0 d.vs.length c0] 42))
    generalize w.alloc (.cells #[.slice a0 d.vs.length c0] 42) = wB at *
    have B0 : Hid (Box wB w.heap.size [.slice a0 d.vs.length c0]) := B0
    refine (headOkS_any _ _ d ⟨_, rfl, HV.out.grow GB.out⟩).mono ?_
    rintro e w1 ⟨rfl, hg⟩
    rw [hb0]
    have G1 := Lib.hid (GB.out.trans hg)
    have B0 := Lib.hid (B0.out.grow hg)
    clear hg
    go_wp2_with fail
    refine (portsOkS_any _ _ ps (H1.out.grow G1.out)).mono ?_
    rintro e w2 ⟨rfl, hg⟩
    rw [hb1]
    have G1 := Lib.hid (G1.out.trans hg)
    have B0 := Lib.hid (B0.out.grow hg)
    clear hg
    go_wp2
    go_ret2
    rw [HX.out.1, HX.out.2]
    exact ⟨_, _, rfl, OwnS.nil _, by simp [Fresh], G1.out⟩
  cases hb2 : acOk ac
  · have HX := Lib.hid (pfF_none (hs := d.vs) (ps := ps) (ac := ac) (by simp [pfB, hb0, hb1, hb2]))
    go_enter Try.func31, Try.ntmps31
    go_wp2_with fail
    have B0 := Lib.hid (Box.alloc w [.slice a0 d.vs.length c0] 42)
    have GB := Lib.hid (Grow.alloc w (.cells #[.slice a0 d.vs.length c0] 42))
    generalize w.alloc (.cells #[.slice a0 d.vs.length c0] 42) = wB at *
    have B0 : Hid (Box wB w.heap.size [.slice a0 d.vs.length c0]) := B0
    refine (headOkS_any _ _ d ⟨_, rfl, HV.out.grow GB.out⟩).mono ?_
    rintro e w1 ⟨rfl, hg⟩
    rw [hb0]
    have G1 := Lib.hid (GB.out.trans hg)
    have B0 := Lib.hid (B0.out.grow hg)
    clear hg
    go_wp2_with fail
    refine (portsOkS_any _ _ ps (H1.out.grow G1.out)).mono ?_
    rintro e w2 ⟨rfl, hg⟩
    rw [hb1]
    have G1 := Lib.hid (G1.out.trans hg)
    have B0 := Lib.hid (B0.out.grow hg)
    clear hg
    go_wp2_with fail
    refine (actsOkS_any _ _ ac (H2.out.grow G1.out)).mono ?_
    rintro e w3 ⟨rfl, hg⟩
    rw [hb2]
    have G1 := Lib.hid (G1.out.trans hg)
    have B0 := Lib.hid (B0.out.grow hg)
    clear hg
    go_wp2
    go_ret2
    rw [HX.out.1, HX.out.2]
    exact ⟨_, _, rfl, OwnS.nil _, by simp [Fresh], G1.out⟩
  have hB : pfB d.vs ps ac = true := by simp [pfB, hb0, hb1, hb2]
  have HX : Hid (pfF d.vs ps ac = pfO d.vs ps ac ac.length ∧ pfB d.vs ps ac = true) := Lib.hid ⟨pfF_yes hB, hB⟩
  clear hB
  have NK := Lib.hid (pfN_ok (ac := ac) hb0 hb2)
  have LN := Lib.hid (fun k (hk : k ≤ ac.length) => pfO_len96 (hs := d.vs) hb1 hb2 (k := k) hk)
  have AT := Lib.hid (acOk_iff.1 hb2).2
  have hlp := (pt_bd hb1).1
  have hla := (acOk_iff.1 hb2).1
  have L8 := Lib.hid (hdOk_at hb0).1
  go_enter Try.func31, Try.ntmps31
  go_wp2_with fail
  have B0 := Lib.hid (Box.alloc w [.slice a0 d.vs.length c0] 42)
  have GB := Lib.hid (Grow.alloc w (.cells #[.slice a0 d.vs.length c0] 42))
  generalize w.alloc (.cells #[.slice a0 d.vs.length c0] 42) = wB at *
  have B0 : Hid (Box wB w.heap.size [.slice a0 d.vs.length c0]) := B0
  refine (headOkS_any _ _ d ⟨_, rfl, HV.out.grow GB.out⟩).mono ?_
  rintro e w1 ⟨rfl, hg⟩
  rw [hb0]
  have G1 := Lib.hid (GB.out.trans hg)
  have B0 := Lib.hid (B0.out.grow hg)
  clear hg
  go_wp2_with fail
  refine (portsOkS_any _ _ ps (H1.out.grow G1.out)).mono ?_
  rintro e w2 ⟨rfl, hg⟩
  rw [hb1]
  have G1 := Lib.hid (G1.out.trans hg)
  have B0 := Lib.hid (B0.out.grow hg)
  clear hg
  go_wp2_with fail
  refine (actsOkS_any _ _ ac (H2.out.grow G1.out)).mono ?_
  rintro e w3 ⟨rfl, hg⟩
  rw [hb2]
  have G1 := Lib.hid (G1.out.trans hg)
  have B0 := Lib.hid (B0.out.grow hg)
  clear hg
  have R3 := Lib.hid (HV.out.grow G1.out)
  have t0 := B0.out.one
  have tl := B0.out.1
  go_wp2_with (at_builtin; refine wpl_append Try.elemI64 rfl _ _ rfl (w3.heap.size + 1) rfl (lit_at _ 1 (by simp only [World.alloc, Array.size_push])) d.vs.length rfl (R3.out.grow ((Grow.alloc _ _).trans (Grow.alloc _ _))) (by simp) (oneCell_ints _ _) (by have := L8.out; omega) (by have := L8.out; unfold maxLen; omega) (by simp only [World.alloc, Array.size_push]; omega) ?_; intro v4 w4 hown hgr hmv)
  obtain ⟨fn0, hon, hfn, hgn⟩ := copiedN_at (w := w3.alloc (.cells #[] 56)) (by simp only [World.alloc, Array.size_push]) hown hgr
  have ST : Hid (∃ cs F fn, PfT w w4 v4 (.slice (some ⟨w3.heap.size, 0, none⟩) 0 0) d.vs [] cs F fn ∧ w.heap.size ∉ allS (.slice (some ⟨w3.heap.size, 0, none⟩) 0 0) F 0 ∧ w.heap.size ∉ fn) := Lib.hid (by
    obtain ⟨cs, F, ha⟩ := accS_lit G1.out (n := w3.heap.size) rfl
    have hall : ∀ x ∈ allS (.slice (some ⟨w3.heap.size, 0, none⟩) 0 0) F 0, x = w3.heap.size := fun x hx => by
      rcases mem_allS.1 hx with hx | ⟨j, hj, _⟩
      · simpa [fpOf, Value.ownBlock] using hx
      · omega
    have hb := B0.out.1
    have hsz : (w3.alloc (.cells #[] 56)).heap.size = w3.heap.size + 1 := by simp only [World.alloc, Array.size_push]
    have g1s := G1.out.size
    exact ⟨cs, F, fn0, ⟨ha.grow hgn, hon, fun x hx => by have := hfn x hx; omega, fun x hx hm => by have h1 := hfn x hx; have h2 := hall x hm; omega⟩, fun hx => by have := hall _ hx; omega, fun hx => by have := hfn _ hx; omega⟩)
  obtain ⟨na0, nc0, rfl⟩ := own_shape hon.1
  have GW : Hid (Grow w3 w4) := Lib.hid ((Grow.alloc w3 _).trans hgn)
  have BX := Lib.hid (B0.out.grow GW.out)
  have OZ : Hid (∃ b o, a0 = some ⟨b, o, none⟩ ∧ w.cell? ⟨b, o, none⟩ = some (.int .i64 (d.vs.getD 0 0))) := Lib.hid (by
    obtain ⟨b, o, e, hc⟩ := C0.out 0 (by have := L8.out; omega)
    exact ⟨b, o, e, by rw [getD_at (by have := L8.out; omega)]; simpa using hc⟩)
  have h8 : 0 < d.vs.length := by have := L8.out; omega
  clear hown hgr hmv hon hfn hgn t0 tl
  go_loopw [8, 34] (fun q i wr => ∃ (k : Nat) (cs : List Value) (G : Nat → List Nat) (fn : List Nat), k ≤ ac.length ∧ i = .int .i64 k ∧ PfT w wr (.slice na0 d.vs.length nc0) q (pfN d.vs ac k) (pfO d.vs ps ac k) cs G fn ∧ Away wr w.heap.size [.slice a0 d.vs.length c0] q G (pfO d.vs ps ac k).length fn) (fun _ i _ => ac.length - (intOf i).toNat)
  case atStart => obtain ⟨cs, G, fn, h, h2, h3⟩ := ST.out; exact ⟨0, cs, G, fn, Nat.zero_le _, rfl, h, BX.out, h2, h3⟩
  case round =>
    obtain ⟨k, cs, G, fn, hk, rfl, hst, haw⟩ := hrel
    rename World => wr
    rename_i q _
    have ST := Lib.hid hst; have AW := Lib.hid haw
    obtain ⟨qa, qc, rfl⟩ := own_shape hst.acc.2.2.2
    have hGR := Lib.hid hst.acc.1
    have LK := Lib.hid (LN.out k hk)
    have NO := Lib.hid (NK.out k hk)
    clear hst haw
    by_cases hlt : k < ac.length
    · obtain ⟨b, off, rfl, e0, e1, e2⟩ := C2.out k hlt
      have e0 := hGR.out.cell e0; have e1 := hGR.out.cell e1; have e2 := hGR.out.cell e2
      have hak : ac.getD k default = ac[k] := getA_at hlt
      have AK := Lib.hid (AT.out k hlt)
      have N1 := Lib.hid (NK.out (k + 1) hlt)
      have HS1 : Hid (pfN d.vs ac (k + 1) = nowOf (pfN d.vs ac k) ac[k]) := Lib.hid (by rw [← hak]; rfl)
      have HO1 : Hid (pfO d.vs ps ac (k + 1) = pfO d.vs ps ac k ++ pfP (nowOf (pfN d.vs ac k) ac[k]) ps ac[k] ps.length) := Lib.hid (by rw [← hak]; rfl)
      rw [hak] at AK
      clear hak
      generalize ac[k] = a at *
      obtain ⟨kind, aa, ab⟩ := a
      simp only at e0 e1 e2
      have HZ1 : Hid ((nowOf (pfN d.vs ac k) ⟨kind, aa, ab⟩).getD 0 0 = d.vs.getD 0 0) := Lib.hid (by rw [← HS1.out]; exact N1.out.2)
      have HL1 : Hid ((nowOf (pfN d.vs ac k) ⟨kind, aa, ab⟩).length = 8) := Lib.hid (by rw [← HS1.out]; exact (hdOk_at N1.out.1).1)
      have HL0 : Hid ((pfN d.vs ac k).length = 8) := Lib.hid (hdOk_at NO.out.1).1
      generalize pfN d.vs ac k = zs at *
      generalize pfO d.vs ps ac k = es at *
      by_cases hk3 : kind = 3
      · have HA := Lib.hid (acAt_set AK.out hk3)
        have HE : Hid (nowOf zs ⟨kind, aa, ab⟩ = zs.set aa.toNat ab) := Lib.hid (by unfold nowOf; rw [if_pos hk3])
        have hb3 : (kind == 3) = true := by simp [hk3]
        have hk2 : (kind == 2) = false := by simp; omega
        have hk1 : (kind == 1) = false := by simp; omega
        have HG0 : Hid (∀ p, goesB (nowOf zs ⟨kind, aa, ab⟩) ⟨kind, aa, ab⟩ p = false) := Lib.hid (fun p => by unfold goesB; simp; omega)
        simp only at HA
        clear hk3
        have haa : 0 ≤ aa ∧ aa < 8 := by have := HA.out.1; omega
        obtain ⟨f, rfl⟩ := Int.eq_ofNat_of_zero_le haa.1
        obtain ⟨gn, cn, en, ef, hcc, hfz, -⟩ := ST.out.own.set f (by have := HL0.out; omega) ab
        simp only [Value.slice.injEq] at en
        obtain ⟨rfl, -, rfl⟩ := en
        have hdl : f < d.vs.length := by have := L8.out; omega
        have hgl : gn < wr.heap.size := ST.out.own.here gn (by rw [ef]; simp)
        have SP := Lib.hid (ST.out.put f (by have := HL0.out; omega) ab)
        have UP : Hid (Upd fn wr (wr.setCell ⟨gn, f, none⟩ (.int .i64 ab))) := Lib.hid (Upd.setCell (p := ⟨gn, f, none⟩) (Upd.refl fn wr) (by rw [ef]; simp) (.int .i64 ab))
        have hgfn0 : gn ∈ fn := by rw [ef]; simp
        have BXA := Lib.hid ((AW.out.1.upd UP.out AW.out.2.2).grow (Grow.alloc (wr.setCell ⟨gn, f, none⟩ (.int .i64 ab)) (.cells #[.int .i64 kind, .int .i64 f, .int .i64 ab] 96)))
        have BAA : Hid (Box _ wr.heap.size _) := Lib.hid ((Box.alloc (wr.setCell ⟨gn, f, none⟩ (.int .i64 ab)) [.int .i64 kind, .int .i64 f, .int .i64 ab] 96).at_ (b' := wr.heap.size) (size_set _ _ _))
        have SPA := Lib.hid (SP.out.grow (Grow.alloc (wr.setCell ⟨gn, f, none⟩ (.int .i64 ab)) (.cells #[.int .i64 kind, .int .i64 f, .int .i64 ab] 96)))
        have hgfn : gn ∈ fn := by rw [ef]; simp
        have NEX : Hid (w.heap.size ∉ [gn]) := Lib.hid (fun hm => AW.out.2.2 (by simp only [List.mem_cons, List.not_mem_nil, or_false] at hm; rw [hm]; exact hgfn))
        have NEB : Hid (wr.heap.size ∉ [gn]) := Lib.hid (fun hm => by simp only [List.mem_cons, List.not_mem_nil, or_false] at hm; omega)
        have NBQ : Hid (wr.heap.size ∉ allS (.slice qa es.length qc) G es.length ∧ wr.heap.size ∉ fn) := Lib.hid ⟨fun hm => Nat.lt_irrefl _ (allS_lt ST.out.acc hm), fun hm => Nat.lt_irrefl _ (ST.out.own.here _ hm)⟩
        clear hgfn ef
        go_wp2
        generalize World.alloc (wr.setCell _ _) _ = wA at *
        have SA : Hid (PfT w wA (.slice (some ⟨gn, 0, none⟩) d.vs.length nc0) (.slice qa es.length qc) (zs.set f ab) es cs G fn) := SPA
        have AX : Hid (Away wA w.heap.size [.slice a0 d.vs.length c0] (.slice qa es.length qc) G es.length fn) := Lib.hid ⟨BXA.out, AW.out.2⟩
        have AB : Hid (Away wA wr.heap.size [.int .i64 kind, .int .i64 f, .int .i64 ab] (.slice qa es.length qc) G es.length fn) := Lib.hid ⟨BAA.out, NBQ.out⟩
        have HE2 : Hid (nowOf zs ⟨kind, f, ab⟩ = zs.set f ab) := Lib.hid (by rw [HE.out]; simp)
        rw [HE2.out] at HO1 HS1 HZ1 HL1 HG0
        clear hcc hfz
        generalize zs.set f ab = zs2 at *
        generalize wr.heap.size = ba at *
        have RZL : Hid (zs2.length = d.vs.length) := Lib.hid (by rw [HL1.out, L8.out])
        go_loopw [8, 49] (fun q i wi => ∃ (m : Nat) (cs : List Value) (G : Nat → List Nat), m ≤ ps.length ∧ i = .int .i64 m ∧ PfT w wi (.slice (some ⟨gn, 0, none⟩) d.vs.length nc0) q zs2 (es ++ pfP zs2 ps ⟨kind, f, ab⟩ m) cs G fn ∧ Away wi w.heap.size [.slice a0 d.vs.length c0] q G (es ++ pfP zs2 ps ⟨kind, f, ab⟩ m).length fn ∧ Away wi ba [.int .i64 kind, .int .i64 f, .int .i64 ab] q G (es ++ pfP zs2 ps ⟨kind, f, ab⟩ m).length fn) (fun _ i _ => ps.length - (intOf i).toNat)
        case atStart => exact ⟨0, cs, G, Nat.zero_le _, rfl, by simpa [pfP] using SA.out, by simpa [pfP] using AX.out, by simpa [pfP] using AB.out⟩
        case round =>
          obtain ⟨m, cs2, G2, hm, rfl, hsi, hax, hab⟩ := hrel
          rename World => wi
          rename_i q2 _
          have hpl := pfP_len zs2 ps ⟨kind, f, ab⟩ m
          have hlen : (es ++ pfP zs2 ps ⟨kind, f, ab⟩ m).length ≤ 104 := by rw [List.length_append]; have := LK.out; omega
          have HP1 : Hid (pfP zs2 ps ⟨kind, f, ab⟩ (m + 1) = pfP zs2 ps ⟨kind, f, ab⟩ m ++ if goesB zs2 ⟨kind, f, ab⟩ (ps.getD m 0) then [⟨ps.getD m 0, zs2⟩] else []) := Lib.hid rfl
          clear hpl
          generalize hes : es ++ pfP zs2 ps ⟨kind, f, ab⟩ m = es2 at *
          have HES := Lib.hid hes
          clear hes
          obtain ⟨qa2, qc2, rfl⟩ := own_shape hsi.acc.2.2.2
          have SI := Lib.hid hsi; have AXI := Lib.hid hax; have ABI := Lib.hid hab
          have hGI := Lib.hid hsi.acc.1
          have ⟨s0, s1, s2⟩ := hab.1.three
          have sl := hab.1.1
          have t0 := hax.1.one
          have tl := hax.1.1
          clear hsi hax hab
          by_cases hml : m < ps.length
          · obtain ⟨bp, op, rfl, hcp⟩ := C1.out m hml
            have HCP := Lib.hid hcp
            have hcp := hGI.out.cell hcp
            have hpd : ps.getD m 0 = ps[m] := getD_at hml
            rw [hpd] at HP1
            generalize ps[m] = p at *
            obtain ⟨bh, oh, rfl, hc0⟩ := OZ.out
            have hc0 := hGI.out.cell hc0
            have HZ0 := Lib.hid HZ1.out
            clear hpd
            generalize d.vs.getD 0 0 = z0 at *
            by_cases hpz : p = z0
            · have hb1 : (p != z0) = false := by simp [hpz]
              have HN : Hid (goesB zs2 ⟨kind, f, ab⟩ p = false) := Lib.hid (by unfold goesB; rw [HZ0.out, hpz]; simp)
              go_wp2
              go_roundw
              case rel =>
                have hes : es2 = es ++ pfP zs2 ps ⟨kind, f, ab⟩ (m + 1) := by rw [HP1.out, HN.out, ← HES.out]; simp
                exact ⟨m + 1, cs2, G2, by omega, by go_num, hes ▸ SI.out, hes ▸ AXI.out, hes ▸ ABI.out⟩
              case measure => simp [intOf]; omega
            have hb1 : (p != z0) = true := by simpa using hpz
            have HN : Hid (goesB zs2 ⟨kind, f, ab⟩ p = false) := Lib.hid (HG0.out p)
            go_wp2
            go_roundw
            case rel =>
              have hes : es2 = es ++ pfP zs2 ps ⟨kind, f, ab⟩ (m + 1) := by rw [HP1.out, HN.out, ← HES.out]; simp
              exact ⟨m + 1, cs2, G2, by omega, by go_num, hes ▸ SI.out, hes ▸ AXI.out, hes ▸ ABI.out⟩
            case measure => simp [intOf]; omega
          · obtain rfl : m = ps.length := by omega
            go_wp2
            go_roundw
            case rel =>
              refine ⟨k + 1, cs2, G2, fn, by omega, by go_num, ?_, ?_⟩
              · rw [HS1.out, HO1.out, HES.out]; exact SI.out
              · rw [HO1.out, HES.out]; exact AXI.out
            case measure => simp [intOf]; omega
      · have hb3 : (kind == 3) = false := by simpa using hk3
        have HE : Hid (nowOf zs ⟨kind, aa, ab⟩ = zs) := Lib.hid (by unfold nowOf; rw [if_neg hk3])
        rw [HE.out] at HO1 HS1 HZ1 HL1
        clear hk3
        go_wp2
        generalize hwA : wr.alloc _ = wA at *
        have GA : Hid (Grow wr wA) := Lib.hid (by rw [← hwA]; exact Grow.alloc _ _)
        have BAA : Hid (Box wA wr.heap.size [.int .i64 kind, .int .i64 aa, .int .i64 ab]) := Lib.hid (by rw [← hwA]; exact Box.alloc wr [.int .i64 kind, .int .i64 aa, .int .i64 ab] 96)
        have NBQ : Hid (wr.heap.size ∉ allS (.slice qa es.length qc) G es.length ∧ wr.heap.size ∉ fn) := Lib.hid ⟨fun hm => Nat.lt_irrefl _ (allS_lt ST.out.acc hm), fun hm => Nat.lt_irrefl _ (ST.out.own.here _ hm)⟩
        have SA := Lib.hid (ST.out.grow GA.out)
        have AX : Hid (Away wA w.heap.size [.slice a0 d.vs.length c0] (.slice qa es.length qc) G es.length fn) := Lib.hid ⟨AW.out.1.grow GA.out, AW.out.2⟩
        have AB : Hid (Away wA wr.heap.size [.int .i64 kind, .int .i64 aa, .int .i64 ab] (.slice qa es.length qc) G es.length fn) := Lib.hid ⟨BAA.out, NBQ.out⟩
        clear hwA
        generalize zs = zs2 at *
        generalize wr.heap.size = ba at *
        have RZL : Hid (zs2.length = d.vs.length) := Lib.hid (by rw [HL1.out, L8.out])
        go_loopw [8, 49] (fun q i wi => ∃ (m : Nat) (cs : List Value) (G : Nat → List Nat), m ≤ ps.length ∧ i = .int .i64 m ∧ PfT w wi (.slice na0 d.vs.length nc0) q zs2 (es ++ pfP zs2 ps ⟨kind, aa, ab⟩ m) cs G fn ∧ Away wi w.heap.size [.slice a0 d.vs.length c0] q G (es ++ pfP zs2 ps ⟨kind, aa, ab⟩ m).length fn ∧ Away wi ba [.int .i64 kind, .int .i64 aa, .int .i64 ab] q G (es ++ pfP zs2 ps ⟨kind, aa, ab⟩ m).length fn) (fun _ i _ => ps.length - (intOf i).toNat)
        case atStart => exact ⟨0, cs, G, Nat.zero_le _, rfl, by simpa [pfP] using SA.out, by simpa [pfP] using AX.out, by simpa [pfP] using AB.out⟩
        case round =>
          obtain ⟨m, cs2, G2, hm, rfl, hsi, hax, hab⟩ := hrel
          rename World => wi
          rename_i q2 _
          have hpl := pfP_len zs2 ps ⟨kind, aa, ab⟩ m
          have hlen : (es ++ pfP zs2 ps ⟨kind, aa, ab⟩ m).length ≤ 104 := by rw [List.length_append]; have := LK.out; omega
          have HP1 : Hid (pfP zs2 ps ⟨kind, aa, ab⟩ (m + 1) = pfP zs2 ps ⟨kind, aa, ab⟩ m ++ if goesB zs2 ⟨kind, aa, ab⟩ (ps.getD m 0) then [⟨ps.getD m 0, zs2⟩] else []) := Lib.hid rfl
          clear hpl
          generalize hes : es ++ pfP zs2 ps ⟨kind, aa, ab⟩ m = es2 at *
          have HES := Lib.hid hes
          clear hes
          obtain ⟨qa2, qc2, rfl⟩ := own_shape hsi.acc.2.2.2
          have SI := Lib.hid hsi; have AXI := Lib.hid hax; have ABI := Lib.hid hab
          have hGI := Lib.hid hsi.acc.1
          have ⟨s0, s1, s2⟩ := hab.1.three
          have sl := hab.1.1
          have t0 := hax.1.one
          have tl := hax.1.1
          clear hsi hax hab
          by_cases hml : m < ps.length
          · obtain ⟨bp, op, rfl, hcp⟩ := C1.out m hml
            have HCP := Lib.hid hcp
            have hcp := hGI.out.cell hcp
            have hpd : ps.getD m 0 = ps[m] := getD_at hml
            rw [hpd] at HP1
            generalize ps[m] = p at *
            obtain ⟨bh, oh, rfl, hc0⟩ := OZ.out
            have hc0 := hGI.out.cell hc0
            have HZ0 := Lib.hid HZ1.out
            clear hpd
            generalize d.vs.getD 0 0 = z0 at *
            by_cases hpz : p = z0
            · have hb1 : (p != z0) = false := by simp [hpz]
              have HN : Hid (goesB zs2 ⟨kind, aa, ab⟩ p = false) := Lib.hid (by unfold goesB; rw [HZ0.out, hpz]; simp)
              go_wp2
              go_roundw
              case rel =>
                have hes : es2 = es ++ pfP zs2 ps ⟨kind, aa, ab⟩ (m + 1) := by rw [HP1.out, HN.out, ← HES.out]; simp
                exact ⟨m + 1, cs2, G2, by omega, by go_num, hes ▸ SI.out, hes ▸ AXI.out, hes ▸ ABI.out⟩
              case measure => simp [intOf]; omega
            have hb1 : (p != z0) = true := by simpa using hpz
            by_cases hk2 : kind = 2
            · have hb2 : (kind == 2) = true := by simp [hk2]
              have HN : Hid (goesB zs2 ⟨kind, aa, ab⟩ p = true) := Lib.hid (by unfold goesB; rw [HZ0.out]; simp [hpz, hk2])
              clear hk2
              have RZ := Lib.hid SI.out.own.rd
              have h8 : zs2.length ≤ 8 := by have := HL1.out; omega
              go_wp2_with (first
                | (at_builtin; refine wpl_append Try.elemI64 rfl _ _ rfl wi.heap.size rfl (lit_at _ 1 rfl) zs2.length rfl (RZ.out.grow (Grow.alloc _ _)) (by simp) (oneCell_ints _ _) (by omega) (by unfold maxLen; omega) (by simp only [World.alloc, Array.size_push]; omega) ?_; intro vx wx hown hgr hmv; have HC := Lib.hid (copiedN_at (w := wi) rfl hown hgr); clear hown hgr hmv; obtain ⟨fe, hon, hfe, hge⟩ := HC.out; obtain ⟨xa, xc, rfl⟩ := own_shape hon.1; have HON := Lib.hid hon; have HFE := Lib.hid hfe; have HGE := Lib.hid hge; clear hon hfe hge HC)
                | (at_builtin; refine wpl_append Try.elemSnt rfl _ _ rfl w.heap.size rfl (SI.out.acc.grow (HGE.out.trans (Grow.alloc _ (.cells #[.int .i64 p, .slice xa zs2.length xc] 56)))).2.2.2 1 rfl (rd_built _ _ 2 1 [Value.int .i64 p, .slice xa zs2.length xc] rfl (by decide)) rfl (snt_one _ _ _ _) (by omega) (by unfold maxLen; omega) (SI.out.acc.grow (HGE.out.trans (Grow.alloc _ (.cells #[.int .i64 p, .slice xa zs2.length xc] 56)))).1.size ?_; intro v5 w5 hown hgr hmv))
              have GL := Lib.hid (HGE.out.trans (Grow.alloc wx (.cells #[.int .i64 p, .slice xa zs2.length xc] 56)))
              have OE := Lib.hid (HON.out.grow (Grow.alloc wx (.cells #[.int .i64 p, .slice xa zs2.length xc] 56)))
              have SN := Lib.hid ((SI.out.grow GL.out).onto (e := ⟨p, zs2⟩) OE.out (fun x hx => Nat.le_trans SI.out.acc.1.size (HFE.out x hx)) (fun x hx hm => by have h1 := HFE.out x hx; have h2 := allS_lt SI.out.acc hm; omega) (fun x hx hm => by have h1 := HFE.out x hx; have h2 := SI.out.own.here x hm; omega) hown hgr hmv)
              have keep : ∀ (b : Nat) (cl : List Value), Away wi b cl (.slice qa2 es2.length qc2) G2 es2.length fn → Away w5 b cl v5 (fun j => if j = es2.length then fe else G2 j) (es2.length + 1) fn := fun b cl h =>
                ⟨(h.1.grow GL.out).upd (Upd.of_grown hgr) (fun hm => h.2.1 (mem_allS.2 (.inl hm))), not_onto hmv h.2.1 (fun hm => by have h1 := HFE.out _ hm; have h2 := h.1.1; omega) (h.1.grow GL.out).1, h.2.2⟩
              have AXN := Lib.hid (keep _ _ AXI.out); have ABN := Lib.hid (keep _ _ ABI.out)
              clear hown hgr hmv keep
              go_roundw
              case rel =>
                have hes : es2 ++ [⟨p, zs2⟩] = es ++ pfP zs2 ps ⟨kind, aa, ab⟩ (m + 1) := by rw [HP1.out, HN.out, ← HES.out]; simp
                have hlen2 : (es2 ++ [(⟨p, zs2⟩ : SentD)]).length = es2.length + 1 := by simp
                refine ⟨m + 1, _, _, by omega, by go_num, hes ▸ SN.out, ?_, ?_⟩
                · rw [← hes, hlen2]; exact AXN.out
                · rw [← hes, hlen2]; exact ABN.out
              case measure => simp [intOf]; omega
            have hb2 : (kind == 2) = false := by simpa using hk2
            by_cases hk1 : kind = 1
            rotate_left
            · have hb4 : (kind == 1) = false := by simpa using hk1
              have HN : Hid (goesB zs2 ⟨kind, aa, ab⟩ p = false) := Lib.hid (by unfold goesB; simp [hk1, hk2])
              go_wp2
              go_roundw
              case rel =>
                have hes : es2 = es ++ pfP zs2 ps ⟨kind, aa, ab⟩ (m + 1) := by rw [HP1.out, HN.out, ← HES.out]; simp
                exact ⟨m + 1, cs2, G2, by omega, by go_num, hes ▸ SI.out, hes ▸ AXI.out, hes ▸ ABI.out⟩
              case measure => simp [intOf]; omega
            have hb4 : (kind == 1) = true := by simp [hk1]
            by_cases hap : aa = p
            · have hb5 : (aa == p) = true := by simp [hap]
              have HN : Hid (goesB zs2 ⟨kind, aa, ab⟩ p = true) := Lib.hid (by unfold goesB; rw [HZ0.out]; simp [hpz, hk1, hap])
              clear hk1 hap hk2
              have RZ := Lib.hid SI.out.own.rd
              have h8 : zs2.length ≤ 8 := by have := HL1.out; omega
              go_wp2_with (first
                | (at_builtin; refine wpl_append Try.elemI64 rfl _ _ rfl wi.heap.size rfl (lit_at _ 1 rfl) zs2.length rfl (RZ.out.grow (Grow.alloc _ _)) (by simp) (oneCell_ints _ _) (by omega) (by unfold maxLen; omega) (by simp only [World.alloc, Array.size_push]; omega) ?_; intro vx wx hown hgr hmv; have HC := Lib.hid (copiedN_at (w := wi) rfl hown hgr); clear hown hgr hmv; obtain ⟨fe, hon, hfe, hge⟩ := HC.out; obtain ⟨xa, xc, rfl⟩ := own_shape hon.1; have HON := Lib.hid hon; have HFE := Lib.hid hfe; have HGE := Lib.hid hge; clear hon hfe hge HC)
                | (at_builtin; refine wpl_append Try.elemSnt rfl _ _ rfl w.heap.size rfl (SI.out.acc.grow (HGE.out.trans (Grow.alloc _ (.cells #[.int .i64 p, .slice xa zs2.length xc] 56)))).2.2.2 1 rfl (rd_built _ _ 2 1 [Value.int .i64 p, .slice xa zs2.length xc] rfl (by decide)) rfl (snt_one _ _ _ _) (by omega) (by unfold maxLen; omega) (SI.out.acc.grow (HGE.out.trans (Grow.alloc _ (.cells #[.int .i64 p, .slice xa zs2.length xc] 56)))).1.size ?_; intro v5 w5 hown hgr hmv))
              have GL := Lib.hid (HGE.out.trans (Grow.alloc wx (.cells #[.int .i64 p, .slice xa zs2.length xc] 56)))
              have OE := Lib.hid (HON.out.grow (Grow.alloc wx (.cells #[.int .i64 p, .slice xa zs2.length xc] 56)))
              have SN := Lib.hid ((SI.out.grow GL.out).onto (e := ⟨p, zs2⟩) OE.out (fun x hx => Nat.le_trans SI.out.acc.1.size (HFE.out x hx)) (fun x hx hm => by have h1 := HFE.out x hx; have h2 := allS_lt SI.out.acc hm; omega) (fun x hx hm => by have h1 := HFE.out x hx; have h2 := SI.out.own.here x hm; omega) hown hgr hmv)
              have keep : ∀ (b : Nat) (cl : List Value), Away wi b cl (.slice qa2 es2.length qc2) G2 es2.length fn → Away w5 b cl v5 (fun j => if j = es2.length then fe else G2 j) (es2.length + 1) fn := fun b cl h =>
                ⟨(h.1.grow GL.out).upd (Upd.of_grown hgr) (fun hm => h.2.1 (mem_allS.2 (.inl hm))), not_onto hmv h.2.1 (fun hm => by have h1 := HFE.out _ hm; have h2 := h.1.1; omega) (h.1.grow GL.out).1, h.2.2⟩
              have AXN := Lib.hid (keep _ _ AXI.out); have ABN := Lib.hid (keep _ _ ABI.out)
              clear hown hgr hmv keep
              go_roundw
              case rel =>
                have hes : es2 ++ [⟨p, zs2⟩] = es ++ pfP zs2 ps ⟨kind, aa, ab⟩ (m + 1) := by rw [HP1.out, HN.out, ← HES.out]; simp
                have hlen2 : (es2 ++ [(⟨p, zs2⟩ : SentD)]).length = es2.length + 1 := by simp
                refine ⟨m + 1, _, _, by omega, by go_num, hes ▸ SN.out, ?_, ?_⟩
                · rw [← hes, hlen2]; exact AXN.out
                · rw [← hes, hlen2]; exact ABN.out
              case measure => simp [intOf]; omega
            · have hb5 : (aa == p) = false := by simpa using hap
              have HN : Hid (goesB zs2 ⟨kind, aa, ab⟩ p = false) := Lib.hid (by unfold goesB; simp [hk2, hap])
              clear hk1 hap hk2
              go_wp2
              go_roundw
              case rel =>
                have hes : es2 = es ++ pfP zs2 ps ⟨kind, aa, ab⟩ (m + 1) := by rw [HP1.out, HN.out, ← HES.out]; simp
                exact ⟨m + 1, cs2, G2, by omega, by go_num, hes ▸ SI.out, hes ▸ AXI.out, hes ▸ ABI.out⟩
              case measure => simp [intOf]; omega
          · obtain rfl : m = ps.length := by omega
            go_wp2
            go_roundw
            case rel =>
              refine ⟨k + 1, cs2, G2, fn, by omega, by go_num, ?_, ?_⟩
              · rw [HS1.out, HO1.out, HES.out]; exact SI.out
              · rw [HO1.out, HES.out]; exact AXI.out
            case measure => simp [intOf]; omega
    · obtain rfl : k = ac.length := by omega
      go_wp2
      go_ret2
      rw [HX.out.1, HX.out.2]
      obtain ⟨fp, r1, r2, r3⟩ := ST.out.ret
      exact ⟨_, fp, rfl, r1, r2, r3⟩
--%
end Go.Proofs.Ytgigdpdmdldhnaa
