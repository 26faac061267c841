/- Perform: contract of the program's code (printed by gpf.py). -/
import Derived.Test.YtgigdpdmdldhnaaPfi
import Derived.WalkKit
import Derived.ProofKit
import Derived.Deep.QuietTactic
import Derived.BigQuiet
import Derived.Outline
import Derived.WalkSpells
namespace Go.Proofs.Ytgigdpdmdldhnaa
open Go.ChangeShapes Go.WideShapes Go.ChangeAt Go.RowKit
set_option linter.unusedVariables false
set_option linter.unusedSimpArgs false
--% performI 33
set_option maxHeartbeats 4000000 in
theorem performI_any (w : World) (V v1 v2 : Value) (d : HeadD) (ps : List Int) (ac : List ActD) (h : RdH w V d) (h1 : RdN w v1 ps) (h2 : RdA w v2 ac) :
    Calls Try.prog 33 #[V, v1, v2] w (RetNew2 OwnS (pfF d.vs ps ac) (.bool (pfB d.vs ps ac)) w) := by
  obtain ⟨v0, rfl, hv⟩ := h
  have HV := Lib.hid hv; have H1 := Lib.hid h1; have H2 := Lib.hid h2
  obtain ⟨a0, c0, rfl, hlc0, hm0, hn0, hc0⟩ := Rd.ints hv
  obtain ⟨a1, c1, rfl, hlc1, hm1, hn1, hc1⟩ := Rd.ints h1
  obtain ⟨a2, c2, rfl, hlc2, hm2, hn2, hc2⟩ := RdA.acts h2
  have C0 := Lib.hid hc0; have C1 := Lib.hid hc1; have C2 := Lib.hid hc2
  unfold maxLen at hm0 hm1 hm2
  clear hv h1 h2 hn0 hn1 hn2 hc0 hc1 hc2
  cases hb0 : hdOk d.vs
  · have HX := Lib.hid (pfF_none (hs := d.vs) (ps := ps) (ac := ac) (by simp [pfB, hb0]))
    go_enter Try.func33, Try.ntmps33
    go_wp2_with fail
    have B0 := Lib.hid (Box.alloc w [.slice a0 d.vs.length c0] 42)
    have GB := Lib.hid (Grow.alloc w (.cells #[.slice a0 d.vs.length c0] 42))
    generalize w.alloc (.cells #[.slice a0 d.vs.length c0] 42) = wB at *
    have B0 : Hid (Box wB w.heap.size [.slice a0 d.vs.length c0]) := B0
    refine (headOkI_any _ _ d ⟨_, rfl, HV.out.grow GB.out⟩).mono ?_
    rintro e w1 ⟨rfl, hg⟩
    rw [hb0]
    have G1 := Lib.hid (GB.out.trans hg)
    have B0 := Lib.hid (B0.out.grow hg)
    clear hg
    go_wp2
    go_ret2
    rw [HX.out.1, HX.out.2]
    exact ⟨_, _, rfl, OwnS.nil _, by simp [Fresh], G1.out⟩
  cases hb1 : ptOk ps
  · have HX := Lib.hid (pfF_none (hs := d.vs) (ps := ps) (ac := ac) (by simp [pfB, hb0, hb1]))
    go_enter Try.func33, Try.ntmps33
    go_wp2_with fail
    have B0 := Lib.hid (Box.alloc w [.slice a0 d.vs.length c0] 42)
    have GB := Lib.hid (Grow.alloc w (.cells #[.slice a0 d.vs.length c0] 42))
    generalize w.alloc (.cells #[.slice a0 d.vs.length c0] 42) = wB at *
    have B0 : Hid (Box wB w.heap.size [.slice a0 d.vs.length c0]) := B0
    refine (headOkI_any _ _ d ⟨_, rfl, HV.out.grow GB.out⟩).mono ?_
    rintro e w1 ⟨rfl, hg⟩
    rw [hb0]
    have G1 := Lib.hid (GB.out.trans hg)
    have B0 := Lib.hid (B0.out.grow hg)
    clear hg
    go_wp2_with fail
    refine (portsOkI_any _ _ ps (H1.out.grow G1.out)).mono ?_
    rintro e w2 ⟨rfl, hg⟩
    rw [hb1]
    have G1 := Lib.hid (G1.out.trans hg)
    have B0 := Lib.hid (B0.out.grow hg)
    clear hg
    go_wp2
    go_ret2
    rw [HX.out.1, HX.out.2]
    exact ⟨_, _, rfl, OwnS.nil _, by simp [Fresh], G1.out⟩
  cases hb2 : acOk ac
  · have HX := Lib.hid (pfF_none (hs := d.vs) (ps := ps) (ac := ac) (by simp [pfB, hb0, hb1, hb2]))
    go_enter Try.func33, Try.ntmps33
    go_wp2_with fail
    have B0 := Lib.hid (Box.alloc w [.slice a0 d.vs.length c0] 42)
    have GB := Lib.hid (Grow.alloc w (.cells #[.slice a0 d.vs.length c0] 42))
    generalize w.alloc (.cells #[.slice a0 d.vs.length c0] 42) = wB at *
    have B0 : Hid (Box wB w.heap.size [.slice a0 d.vs.length c0]) := B0
    refine (headOkI_any _ _ d ⟨_, rfl, HV.out.grow GB.out⟩).mono ?_
    rintro e w1 ⟨rfl, hg⟩
    rw [hb0]
    have G1 := Lib.hid (GB.out.trans hg)
    have B0 := Lib.hid (B0.out.grow hg)
    clear hg
    go_wp2_with fail
    refine (portsOkI_any _ _ ps (H1.out.grow G1.out)).mono ?_
    rintro e w2 ⟨rfl, hg⟩
    rw [hb1]
    have G1 := Lib.hid (G1.out.trans hg)
    have B0 := Lib.hid (B0.out.grow hg)
    clear hg
    go_wp2_with fail
    refine (actsOkI_any _ _ ac (H2.out.grow G1.out)).mono ?_
    rintro e w3 ⟨rfl, hg⟩
    rw [hb2]
    have G1 := Lib.hid (G1.out.trans hg)
    have B0 := Lib.hid (B0.out.grow hg)
    clear hg
    go_wp2
    go_ret2
    rw [HX.out.1, HX.out.2]
    exact ⟨_, _, rfl, OwnS.nil _, by simp [Fresh], G1.out⟩
  have hB : pfB d.vs ps ac = true := by simp [pfB, hb0, hb1, hb2]
  have HX : Hid (pfF d.vs ps ac = pfO d.vs ps ac ac.length ∧ pfB d.vs ps ac = true) := Lib.hid ⟨pfF_yes hB, hB⟩
  clear hB
  have NK := Lib.hid (pfN_ok (ac := ac) hb0 hb2)
  have LN := Lib.hid (fun k (hk : k ≤ ac.length) => pfO_len96 (hs := d.vs) hb1 hb2 (k := k) hk)
  have AT := Lib.hid (acOk_iff.1 hb2).2
  have hlp := (pt_bd hb1).1
  have hla := (acOk_iff.1 hb2).1
  have L8 := Lib.hid (hdOk_at hb0).1
  go_enter Try.func33, Try.ntmps33
  go_wp2_with fail
  have B0 := Lib.hid (Box.alloc w [.slice a0 d.vs.length c0] 42)
  have GB := Lib.hid (Grow.alloc w (.cells #[.slice a0 d.vs.length c0] 42))
  generalize w.alloc (.cells #[.slice a0 d.vs.length c0] 42) = wB at *
  have B0 : Hid (Box wB w.heap.size [.slice a0 d.vs.length c0]) := B0
  refine (headOkI_any _ _ d ⟨_, rfl, HV.out.grow GB.out⟩).mono ?_
  rintro e w1 ⟨rfl, hg⟩
  rw [hb0]
  have G1 := Lib.hid (GB.out.trans hg)
  have B0 := Lib.hid (B0.out.grow hg)
  clear hg
  go_wp2_with fail
  refine (portsOkI_any _ _ ps (H1.out.grow G1.out)).mono ?_
  rintro e w2 ⟨rfl, hg⟩
  rw [hb1]
  have G1 := Lib.hid (G1.out.trans hg)
  have B0 := Lib.hid (B0.out.grow hg)
  clear hg
  go_wp2_with fail
  refine (actsOkI_any _ _ ac (H2.out.grow G1.out)).mono ?_
  rintro e w3 ⟨rfl, hg⟩
  rw [hb2]
  have G1 := Lib.hid (G1.out.trans hg)
  have B0 := Lib.hid (B0.out.grow hg)
  clear hg
  have hbx : Hid (w.heap.size < w3.heap.size) := Lib.hid B0.out.1
  have OF : Hid (∀ b, (Value.slice a0 d.vs.length c0).ownBlock = some b → b < w.heap.size) := Lib.hid (fun b hb => by
    obtain ⟨g, o, rfl, hc⟩ := C0.out 0 (by rw [L8.out]; decide)
    have h1 := cell_lt hc
    have : g = b := by simpa [Value.ownBlock] using hb
    omega)
  have R3 := Lib.hid (HV.out.grow G1.out)
  go_wp2
  have ST : Hid (∃ cs F, PfS w (w3.alloc (.cells #[] 56)) w.heap.size (.slice a0 d.vs.length c0) (.slice (some ⟨w3.heap.size, 0, none⟩) 0 0) d.vs [] cs F) := Lib.hid (by
    obtain ⟨cs, F, ha⟩ := accS_lit G1.out (n := w3.heap.size) rfl
    have hall : ∀ x ∈ allS (.slice (some ⟨w3.heap.size, 0, none⟩) 0 0) F 0, x = w3.heap.size := fun x hx => by
      rcases mem_allS.1 hx with hx | ⟨j, hj, _⟩
      · simpa [fpOf, Value.ownBlock] using hx
      · omega
    exact ⟨cs, F, ha, B0.out.grow (Grow.alloc _ _), Nat.le_refl _, fun hx => by have := hall _ hx; have := hbx.out; omega, R3.out.grow (Grow.alloc _ _), fun b hb => ⟨by have h1 := OF.out b hb; have h2 := hbx.out; simp only [World.alloc, Array.size_push]; omega, fun hx => by have h1 := hall _ hx; have h2 := OF.out b hb; have h3 := hbx.out; omega⟩, fun b hb e => by have := OF.out b hb; omega⟩)
  have G1 := Lib.hid (G1.out.trans (Grow.alloc w3 (.cells #[] 56)))
  go_loopw [8, 29] (fun q i wr => ∃ (k : Nat) (hv : Value) (cs : List Value) (G : Nat → List Nat), k ≤ ac.length ∧ i = .int .i64 k ∧ PfS w wr w.heap.size hv q (pfN d.vs ac k) (pfO d.vs ps ac k) cs G) (fun _ i _ => ac.length - (intOf i).toNat)
  case atStart => obtain ⟨cs, G, h⟩ := ST.out; exact ⟨0, _, cs, G, Nat.zero_le _, rfl, h⟩
  case round =>
    obtain ⟨k, hv, cs, G, hk, rfl, hst⟩ := hrel
    rename World => wr
    rename_i q _
    have ST := Lib.hid hst
    obtain ⟨qa, qc, rfl⟩ := own_shape hst.acc.2.2.2
    obtain ⟨na, nc, rfl⟩ := RdN.sh2 hst.rd
    have hGR := Lib.hid hst.acc.1
    have LK := Lib.hid (LN.out k hk)
    have NO := Lib.hid (NK.out k hk)
    clear hst
    by_cases hlt : k < ac.length
    · obtain ⟨b, off, rfl, e0, e1, e2⟩ := C2.out k hlt
      have e0 := hGR.out.cell e0; have e1 := hGR.out.cell e1; have e2 := hGR.out.cell e2
      have hak : ac.getD k default = ac[k] := getA_at hlt
      have AK := Lib.hid (AT.out k hlt)
      have HS1 : Hid (pfN d.vs ac (k + 1) = nowOf (pfN d.vs ac k) ac[k]) := Lib.hid (by rw [← hak]; rfl)
      have HO1 : Hid (pfO d.vs ps ac (k + 1) = pfO d.vs ps ac k ++ pfP (nowOf (pfN d.vs ac k) ac[k]) ps ac[k] ps.length) := Lib.hid (by rw [← hak]; rfl)
      rw [hak] at AK
      clear hak
      generalize ac[k] = a at *
      obtain ⟨kind, aa, ab⟩ := a
      simp only at e0 e1 e2
      generalize pfN d.vs ac k = zs at *
      generalize pfO d.vs ps ac k = es at *
      have BZ := Lib.hid ST.out.box
      have ⟨t0, tl⟩ := And.intro BZ.out.one BZ.out.1
      by_cases hk3 : kind = 3
      · have HA := Lib.hid (acAt_set AK.out hk3)
        have HSF := Lib.hid (hsF_yes NO.out.1 HA.out.2.2.2)
        have HE : Hid (nowOf zs ⟨kind, aa, ab⟩ = zs.set aa.toNat ab) := Lib.hid (by unfold nowOf; rw [if_pos hk3])
        have HP : Hid (pfP (nowOf zs ⟨kind, aa, ab⟩) ps ⟨kind, aa, ab⟩ ps.length = []) := Lib.hid (pfP_none (by simp only; omega) (by simp only; omega) _)
        simp only at HSF HA
        subst hk3
        go_wp2_with fail
        generalize hwA : wr.alloc _ = wA at *
        have GA : Hid (Grow wr wA) := Lib.hid (by rw [← hwA]; exact Grow.alloc _ _)
        refine (headSetI_any _ _ ⟨zs⟩ aa ab ⟨_, rfl, ST.out.rd.grow GA.out⟩ (by have := (hdOk_at NO.out.1).1; unfold SmH sizeH; simp only; omega)).mono ?_
        rintro e wH ⟨hv', fh, rfl, ho, hf, hg⟩
        rw [HSF.out] at ho ⊢
        obtain ⟨nv', rfl, ho⟩ := ho
        obtain ⟨va, vc, rfl⟩ := own_shape ho.1
        simp only [List.length_set] at ho
        have SA := Lib.hid (ST.out.grow (GA.out.trans hg))
        have OH := Lib.hid ho
        have HF : Hid (∀ x ∈ fh, x ∉ allS (.slice qa es.length qc) G es.length ∧ x ≠ w.heap.size) := Lib.hid (fun x hx => by
          have h1 := hf x hx; have h2 := GA.out.size; have h3 := ST.out.box.1
          exact ⟨fun hm => by have := allS_lt ST.out.acc hm; omega, by omega⟩)
        clear ho hf hg t0 tl
        have ⟨t0, tl⟩ := And.intro SA.out.box.one SA.out.box.1
        have tz := SA.out.box.2.2
        go_wp2
        go_roundw
        case rel =>
          refine ⟨k + 1, .slice va zs.length vc, cs, G, by omega, by go_num, ?_⟩
          rw [HS1.out, HO1.out, HP.out, HE.out, List.append_nil]
          exact SA.out.set OH.out HF.out
        case measure => simp [intOf]; omega
      · have hb3 : (kind == 3) = false := by simpa using hk3
        have HE : Hid (nowOf zs ⟨kind, aa, ab⟩ = zs) := Lib.hid (by unfold nowOf; rw [if_neg hk3])
        rw [HE.out] at HO1 HS1
        go_wp2
        generalize hwA : wr.alloc _ = wA at *
        have GA : Hid (Grow wr wA) := Lib.hid (by rw [← hwA]; exact Grow.alloc _ _)
        have BA : Hid (Box wA wr.heap.size [.int .i64 kind, .int .i64 aa, .int .i64 ab]) := Lib.hid (by rw [← hwA]; exact Box.alloc wr [.int .i64 kind, .int .i64 aa, .int .i64 ab] 96)
        clear hwA
        have SA := Lib.hid (ST.out.grow GA.out)
        have NB : Hid (wr.heap.size ∉ allS (.slice qa es.length qc) G es.length) := Lib.hid (fun hm => Nat.lt_irrefl _ (allS_lt ST.out.acc hm))
        generalize wr.heap.size = ba at *
        clear t0 tl
        go_loopw [8, 47] (fun q i wi => ∃ (m : Nat) (cs : List Value) (G : Nat → List Nat), m ≤ ps.length ∧ i = .int .i64 m ∧ PfS w wi w.heap.size (.slice na zs.length nc) q zs (es ++ pfP zs ps ⟨kind, aa, ab⟩ m) cs G ∧ ba ∉ allS q G (es ++ pfP zs ps ⟨kind, aa, ab⟩ m).length ∧ Box wi ba [.int .i64 kind, .int .i64 aa, .int .i64 ab]) (fun _ i _ => ps.length - (intOf i).toNat)
        case atStart => exact ⟨0, cs, G, Nat.zero_le _, rfl, by simpa [pfP] using SA.out, by simpa [pfP] using NB.out, BA.out⟩
        case round =>
          obtain ⟨m, cs2, G2, hm, rfl, hsi, hnb, hba⟩ := hrel
          rename World => wi
          rename_i q2 _
          have hpl := pfP_len zs ps ⟨kind, aa, ab⟩ m
          have hlen : (es ++ pfP zs ps ⟨kind, aa, ab⟩ m).length ≤ 104 := by rw [List.length_append]; have := LK.out; omega
          have HP1 : Hid (pfP zs ps ⟨kind, aa, ab⟩ (m + 1) = pfP zs ps ⟨kind, aa, ab⟩ m ++ if goesB zs ⟨kind, aa, ab⟩ (ps.getD m 0) then [⟨ps.getD m 0, zs⟩] else []) := Lib.hid rfl
          clear hpl
          generalize hes : es ++ pfP zs ps ⟨kind, aa, ab⟩ m = es2 at *
          have HES := Lib.hid hes
          clear hes
          obtain ⟨qa2, qc2, rfl⟩ := own_shape hsi.acc.2.2.2
          have SI := Lib.hid hsi; have NB2 := Lib.hid hnb
          have hGI := Lib.hid hsi.acc.1
          have ⟨s0, s1, s2⟩ := hba.three
          have sl := hba.1
          have BI := Lib.hid hba
          clear hsi hnb hba
          have ⟨t0, tl⟩ := And.intro SI.out.box.one SI.out.box.1
          by_cases hml : m < ps.length
          · obtain ⟨bp, op, rfl, hcp⟩ := C1.out m hml
            have hcp := hGI.out.cell hcp
            have hpd : ps.getD m 0 = ps[m] := getD_at hml
            rw [hpd] at HP1
            generalize ps[m] = p at *
            have L8z := Lib.hid (hdOk_at NO.out.1).1
            obtain ⟨ar, cr, er, -, -, -, hcz⟩ := Rd.ints SI.out.rd
            simp only [Value.slice.injEq] at er
            obtain ⟨rfl, -, rfl⟩ := er
            obtain ⟨bh, oh, rfl, hc0⟩ := hcz 0 (by have := L8z.out; omega)
            have hz0 : zs.getD 0 0 = zs[0]'(by have := L8z.out; omega) := getD_at (by have := L8z.out; omega)
            have hc0 : wi.cell? ⟨bh, oh, none⟩ = some (.int .i64 (zs[0]'(by have := L8z.out; omega))) := by simpa using hc0
            have HZ0 := Lib.hid hz0
            clear hcz hpd hz0
            have h8 : (0 : Nat) < zs.length := by have := L8z.out; omega
            generalize hz00 : zs[0]'(by have := L8z.out; omega) = z0 at *
            clear hz00
            by_cases hpz : p = z0
            · have hb1 : (p != z0) = false := by simp [hpz]
              have HN : Hid (goesB zs ⟨kind, aa, ab⟩ p = false) := Lib.hid (by unfold goesB; rw [HZ0.out, hpz]; simp)
              go_wp2
              go_roundw
              case rel =>
                have hes : es2 = es ++ pfP zs ps ⟨kind, aa, ab⟩ (m + 1) := by rw [HP1.out, HN.out, ← HES.out]; simp
                exact ⟨m + 1, cs2, G2, by omega, by go_num, hes ▸ SI.out, hes ▸ NB2.out, BI.out⟩
              case measure => simp [intOf]; omega
            have hb1 : (p != z0) = true := by simpa using hpz
            by_cases hk2 : kind = 2
            · have hb2 : (kind == 2) = true := by simp [hk2]
              have HN : Hid (goesB zs ⟨kind, aa, ab⟩ p = true) := Lib.hid (by unfold goesB; rw [HZ0.out]; simp [hpz, hk2])
              clear hk2
              go_wp2_with fail
              refine (clone_N _ _ zs SI.out.rd (by have := L8z.out; unfold SmN; omega)).mono ?_
              rintro e wC ⟨xv, fe, rfl, ho, hf, hg⟩
              obtain ⟨xa, xc, rfl⟩ := own_shape ho.1
              have GL := Lib.hid (hg.trans (Grow.alloc wC (.cells #[.int .i64 p, .slice xa zs.length xc] 56)))
              have OE := Lib.hid (ho.grow (Grow.alloc wC (.cells #[.int .i64 p, .slice xa zs.length xc] 56)))
              have SL := Lib.hid (SI.out.grow GL.out)
              have HF := Lib.hid hf
              have BL := Lib.hid (BI.out.grow GL.out)
              clear ho hf hg s0 s1 s2 sl t0 tl hcp hc0
              go_wp2_with (at_builtin; refine wpl_append Try.elemSnt rfl _ _ rfl w.heap.size rfl SL.out.acc.2.2.2 1 rfl (rd_built _ _ 2 1 [Value.int .i64 p, .slice xa zs.length xc] rfl (by decide)) rfl (snt_one _ _ _ _) (by omega) (by unfold maxLen; omega) SL.out.acc.1.size ?_; intro v5 w5 hown hgr hmv)
              have SN := Lib.hid (SL.out.onto (e := ⟨p, zs⟩) OE.out (fun x hx => Nat.le_trans SI.out.acc.1.size (HF.out x hx)) (fun x hx hm => by have h1 := HF.out x hx; have h2 := allS_lt SI.out.acc hm; omega) (fun hm => by have h1 := HF.out _ hm; have h2 := SI.out.box.1; omega) (fun b hb hm => by have h1 := HF.out _ hm; have h2 := (SI.out.hoff b hb).1; omega) hown hgr hmv)
              have NB3 := Lib.hid (not_onto hmv NB2.out (fun hm => by have h1 := HF.out _ hm; have h2 := BI.out.1; omega) BL.out.1)
              have BN := Lib.hid (BL.out.upd (Upd.of_grown hgr) (fun hm => NB2.out (mem_allS.2 (.inl hm))))
              clear hown hgr hmv
              go_roundw
              case rel =>
                have hes : es2 ++ [⟨p, zs⟩] = es ++ pfP zs ps ⟨kind, aa, ab⟩ (m + 1) := by rw [HP1.out, HN.out, ← HES.out]; simp
                have hlen2 : (es2 ++ [(⟨p, zs⟩ : SentD)]).length = es2.length + 1 := by simp
                refine ⟨m + 1, _, _, by omega, by go_num, hes ▸ SN.out, ?_, BN.out⟩
                rw [← hes, hlen2]; exact NB3.out
              case measure => simp [intOf]; omega
            have hb2 : (kind == 2) = false := by simpa using hk2
            by_cases hk1 : kind = 1
            rotate_left
            · have hb4 : (kind == 1) = false := by simpa using hk1
              have HN : Hid (goesB zs ⟨kind, aa, ab⟩ p = false) := Lib.hid (by unfold goesB; simp [hk1, hk2])
              go_wp2
              go_roundw
              case rel =>
                have hes : es2 = es ++ pfP zs ps ⟨kind, aa, ab⟩ (m + 1) := by rw [HP1.out, HN.out, ← HES.out]; simp
                exact ⟨m + 1, cs2, G2, by omega, by go_num, hes ▸ SI.out, hes ▸ NB2.out, BI.out⟩
              case measure => simp [intOf]; omega
            have hb4 : (kind == 1) = true := by simp [hk1]
            by_cases hap : aa = p
            · have hb5 : (aa == p) = true := by simp [hap]
              have HN : Hid (goesB zs ⟨kind, aa, ab⟩ p = true) := Lib.hid (by unfold goesB; rw [HZ0.out]; simp [hpz, hk1, hap])
              clear hk1 hap hk2
              go_wp2_with fail
              refine (clone_N _ _ zs SI.out.rd (by have := L8z.out; unfold SmN; omega)).mono ?_
              rintro e wC ⟨xv, fe, rfl, ho, hf, hg⟩
              obtain ⟨xa, xc, rfl⟩ := own_shape ho.1
              have GL := Lib.hid (hg.trans (Grow.alloc wC (.cells #[.int .i64 p, .slice xa zs.length xc] 56)))
              have OE := Lib.hid (ho.grow (Grow.alloc wC (.cells #[.int .i64 p, .slice xa zs.length xc] 56)))
              have SL := Lib.hid (SI.out.grow GL.out)
              have HF := Lib.hid hf
              have BL := Lib.hid (BI.out.grow GL.out)
              clear ho hf hg s0 s1 s2 sl t0 tl hcp hc0
              go_wp2_with (at_builtin; refine wpl_append Try.elemSnt rfl _ _ rfl w.heap.size rfl SL.out.acc.2.2.2 1 rfl (rd_built _ _ 2 1 [Value.int .i64 p, .slice xa zs.length xc] rfl (by decide)) rfl (snt_one _ _ _ _) (by omega) (by unfold maxLen; omega) SL.out.acc.1.size ?_; intro v5 w5 hown hgr hmv)
              have SN := Lib.hid (SL.out.onto (e := ⟨p, zs⟩) OE.out (fun x hx => Nat.le_trans SI.out.acc.1.size (HF.out x hx)) (fun x hx hm => by have h1 := HF.out x hx; have h2 := allS_lt SI.out.acc hm; omega) (fun hm => by have h1 := HF.out _ hm; have h2 := SI.out.box.1; omega) (fun b hb hm => by have h1 := HF.out _ hm; have h2 := (SI.out.hoff b hb).1; omega) hown hgr hmv)
              have NB3 := Lib.hid (not_onto hmv NB2.out (fun hm => by have h1 := HF.out _ hm; have h2 := BI.out.1; omega) BL.out.1)
              have BN := Lib.hid (BL.out.upd (Upd.of_grown hgr) (fun hm => NB2.out (mem_allS.2 (.inl hm))))
              clear hown hgr hmv
              go_roundw
              case rel =>
                have hes : es2 ++ [⟨p, zs⟩] = es ++ pfP zs ps ⟨kind, aa, ab⟩ (m + 1) := by rw [HP1.out, HN.out, ← HES.out]; simp
                have hlen2 : (es2 ++ [(⟨p, zs⟩ : SentD)]).length = es2.length + 1 := by simp
                refine ⟨m + 1, _, _, by omega, by go_num, hes ▸ SN.out, ?_, BN.out⟩
                rw [← hes, hlen2]; exact NB3.out
              case measure => simp [intOf]; omega
            · have hb5 : (aa == p) = false := by simpa using hap
              have HN : Hid (goesB zs ⟨kind, aa, ab⟩ p = false) := Lib.hid (by unfold goesB; simp [hk2, hap])
              clear hk1 hap hk2
              go_wp2
              go_roundw
              case rel =>
                have hes : es2 = es ++ pfP zs ps ⟨kind, aa, ab⟩ (m + 1) := by rw [HP1.out, HN.out, ← HES.out]; simp
                exact ⟨m + 1, cs2, G2, by omega, by go_num, hes ▸ SI.out, hes ▸ NB2.out, BI.out⟩
              case measure => simp [intOf]; omega
          · obtain rfl : m = ps.length := by omega
            go_wp2
            go_roundw
            case rel =>
              refine ⟨k + 1, .slice na zs.length nc, cs2, G2, by omega, by go_num, ?_⟩
              rw [HS1.out, HO1.out, HES.out]
              exact SI.out
            case measure => simp [intOf]; omega
    · obtain rfl : k = ac.length := by omega
      go_wp2
      go_ret2
      rw [HX.out.1, HX.out.2]
      obtain ⟨fp, r1, r2, r3⟩ := ST.out.ret
      exact ⟨_, fp, rfl, r1, r2, r3⟩
--%
end Go.Proofs.Ytgigdpdmdldhnaa
