/- Datagrams and packets are read back: the plain laws. -/
import Derived.Test.YtcldfodnblkeiaaIrs
import Derived.Test.YtcldfodnblkeiaaPr
import Derived.Test.YtcldfodnblkeiaaPb
import Derived.Test.YtcldfodnblkeiaaUr
import Derived.WalkKit
import Derived.ProofKit
namespace Go.Proofs.Ytcldfodnblkeiaa
open Go.ChangeShapes Go.WideShapes Go.ChangeAt Go.RowKit
set_option linter.unusedVariables false
set_option linter.unusedSimpArgs false
--%
theorem ihHead_list (d : IpD) (s : Int) : ihHead d s = [69, 0, (20 + d.data.length : Int) / 256 % 256, (20 + d.data.length : Int) % 256, 0, 0, 0, 0, d.ttl, d.proto, s / 256 % 256, s % 256,
    d.src / 16777216 % 256, d.src / 65536 % 256, d.src / 256 % 256, d.src % 256, d.dst / 16777216 % 256, d.dst / 65536 % 256, d.dst / 256 % 256, d.dst % 256] := by
  simp [ihHead, ihMid, ihBase, be_2, be_4]
theorem numOk4b {n : Int} (h : numOkB n 4 = true) : 0 ≤ n ∧ n < 4294967296 := by
  have e : (256 : Int) ^ (4 : Int).toNat = 4294967296 := by decide
  unfold numOkB at h; rw [e] at h; simp at h; omega
theorem irF_back {d : IpD} (h : ipOk d = true) : irF (ipB d) = (d, 0) := by
  obtain ⟨k1, k2, k3, k4, k5⟩ := ipOk_iff h
  have h1 := numOk1 k1; have h2 := numOk1 k2; have h3 := numOk4b k3; have h4 := numOk4b k4
  have hs := s16_bd _ 0 (ihHead_bytes h1 h2 0) (by decide)
  have hlen : (ipB d).length = 20 + d.data.length := by unfold ipB; simp [ihHead_len]
  obtain ⟨s, es⟩ : ∃ s, 65535 - s16 0 (ihHead d 0) = s := ⟨_, rfl⟩
  have e : ipB d = ihHead d s ++ d.data := by unfold ipB; rw [es]
  have hD : irD (ipB d) = d := by
    rw [e, ihHead_list]
    obtain ⟨t, pr, sr, ds, da⟩ := d
    simp only [irD, fld, valBE, List.cons_append, List.nil_append, List.getD_cons_zero, List.getD_cons_succ, List.drop_succ_cons, List.drop_zero, List.take_succ_cons, List.take_zero, List.foldl_cons, List.foldl_nil, IpD.mk.injEq, and_true, true_and]
    simp only at h3 h4
    omega
  have f0 : (ipB d).getD 0 0 = 69 := by rw [e, ihHead_list]; rfl
  have f1 : (ipB d).getD 1 0 = 0 := by rw [e, ihHead_list]; rfl
  have f4 : fld (ipB d) 4 4 = 0 := by
    rw [e, ihHead_list]
    simp only [fld, valBE, List.cons_append, List.nil_append, List.drop_succ_cons, List.drop_zero, List.take_succ_cons, List.take_zero, List.foldl_cons, List.foldl_nil]
    omega
  have f2 : fld (ipB d) 2 2 = (ipB d).length := by
    rw [hlen, e, ihHead_list]
    simp only [fld, valBE, List.cons_append, List.nil_append, List.drop_succ_cons, List.drop_zero, List.take_succ_cons, List.take_zero, List.foldl_cons, List.foldl_nil]
    omega
  have f10 : fld (ipB d) 10 2 = s := by
    rw [e, ihHead_list]
    simp only [fld, valBE, List.cons_append, List.nil_append, List.drop_succ_cons, List.drop_zero, List.take_succ_cons, List.take_zero, List.foldl_cons, List.foldl_nil]
    omega
  rw [irF_0 (by omega) f0 ⟨f1, f4⟩ f2 (by rw [f10, hD, es]), hD]
theorem ipB_bytes {d : IpD} (h : ipOk d = true) (hb : Bytes d.data) : Bytes (ipB d) := by
  obtain ⟨k1, k2, _, _, _⟩ := ipOk_iff h
  unfold ipB
  intro x hx
  rcases List.mem_append.1 hx with h1 | h1
  · exact ihHead_bytes (numOk1 k1) (numOk1 k2) _ x h1
  · exact hb x h1
theorem ipB_len {d : IpD} : (ipB d).length = 20 + d.data.length := by unfold ipB; simp [ihHead_len]
theorem valBE_be {n : Int} {size : Nat} (h : numOkB n size = true) : valBE (beBytes n size) = n := by
  have h1 : 1 ≤ (size : Int) ∧ (size : Int) ≤ 6 ∧ 0 ≤ n ∧ n < 256 ^ (size : Int).toNat := by simpa [numOkB] using h
  obtain ⟨ha, hb, h0, h2⟩ := h1
  have e : size = 1 ∨ size = 2 ∨ size = 3 ∨ size = 4 ∨ size = 5 ∨ size = 6 := by omega
  rcases e with rfl | rfl | rfl | rfl | rfl | rfl
  all_goals
    simp only [Int.toNat_natCast] at h2
    simp [valBE, beBytes, dig, List.range_succ]
    omega
theorem fld_app (a b c : List Int) {n m : Nat} (ha : a.length = n) (hb : b.length = m) : fld (a ++ (b ++ c)) n m = valBE b := by
  subst ha; subst hb
  unfold fld; rw [List.drop_left, List.take_left]
theorem prF_back {d : PacketD} (h : pkOk d = true) (hb : Bytes d.body) : prF (pbB d) = (d, 0) := by
  obtain ⟨h1, h2, h3, h4, h5⟩ := pkOk_iff h
  have n1 := numOk6 h1.1 h1.2; have n2 := numOk6 h2.1 h2.2
  have n4 : numOkB d.typ 2 = true := numOk2' (by omega) (by omega)
  have hty : typeB d.typ = true := by
    unfold pkOk at h
    simp only [Bool.and_eq_true] at h
    exact h.2.2.2.1
  have hty2 : d.typ ≠ 33024 := by unfold typeB at hty; have := of_decide_eq_true hty; exact this.2.2
  have hc := crcOf_bd (pbRest_bytes d hb)
  have n5 := numOk4 hc.1 hc.2
  have lrest : (pbB d).length = (pbRest d).length + 4 := by unfold pbB; simp [beBytes_length]
  have hcr : crcOf ((pbB d).take ((pbB d).length - 4)) = fld (pbB d) ((pbB d).length - 4) 4 := by
    rw [show (pbB d).length - 4 = (pbRest d).length by omega]
    unfold pbB
    rw [List.take_left]
    have := fld_app (pbRest d) (beBytes (crcOf (pbRest d)) 4) [] rfl (beBytes_length _ _)
    rw [List.append_nil] at this
    rw [this, valBE_be n5]
  by_cases ht : d.tag = -1
  · have er : pbRest d = beBytes d.dst 6 ++ (beBytes d.src 6 ++ (beBytes d.typ 2 ++ d.body)) := by unfold pbRest; simp [pbTag, ht, pbHead, List.append_assoc]
    have e : pbB d = beBytes d.dst 6 ++ (beBytes d.src 6 ++ (beBytes d.typ 2 ++ (d.body ++ beBytes (crcOf (pbRest d)) 4))) := by
      have e0 : pbB d = pbRest d ++ beBytes (crcOf (pbRest d)) 4 := rfl
      obtain ⟨C, hC⟩ : ∃ C, beBytes (crcOf (pbRest d)) 4 = C := ⟨_, rfl⟩
      rw [hC] at e0 ⊢
      rw [e0, er]
      simp [List.append_assoc]
    have hlen : (pbB d).length = 18 + d.body.length := by rw [e]; simp [beBytes_length]; omega
    have f0 : fld (pbB d) 0 6 = d.dst := by rw [e]; exact (fld_app [] _ _ rfl (beBytes_length _ _)).trans (valBE_be n1)
    have f6 : fld (pbB d) 6 6 = d.src := by rw [e]; exact (fld_app _ _ _ (beBytes_length _ _) (beBytes_length _ _)).trans (valBE_be n2)
    have f12 : fld (pbB d) 12 2 = d.typ := by
      rw [e, ← List.append_assoc]
      exact (fld_app _ _ _ (by simp [beBytes_length]) (beBytes_length _ _)).trans (valBE_be n4)
    have hT : hdL (pbB d) = 14 := hdL_14 (.inr (by rw [f12]; exact hty2))
    have hbd : ((pbB d).drop 14).take ((pbB d).length - 4 - 14) = d.body := by
      rw [hlen, e, ← List.append_assoc, ← List.append_assoc]
      rw [List.drop_left' (by simp [beBytes_length]), List.take_left' (by omega)]
    have hp : prT (pbB d) 14 = d.tag := by unfold prT; rw [if_neg (by decide)]; exact ht.symm
    have hD : prD (pbB d) 14 = d := by
      unfold prD
      rw [f0, f6, hp, hbd, show fld (pbB d) (14 - 2) 2 = d.typ from f12]
    unfold prF
    rw [hT, prG_r (by omega) (by omega) hcr]
    unfold prR
    rw [if_neg (by unfold prT; simp), show fld (pbB d) (14 - 2) 2 = d.typ from f12, if_pos hty, hD]
  · have n3 : numOkB d.tag 2 = true := numOk2' (by omega) (by omega)
    have n0 : numOkB 33024 2 = true := by decide
    have er : pbRest d = beBytes d.dst 6 ++ (beBytes d.src 6 ++ (beBytes 33024 2 ++ (beBytes d.tag 2 ++ (beBytes d.typ 2 ++ d.body)))) := by unfold pbRest; simp [pbTag, ht, pbHead, List.append_assoc]
    have e : pbB d = beBytes d.dst 6 ++ (beBytes d.src 6 ++ (beBytes 33024 2 ++ (beBytes d.tag 2 ++ (beBytes d.typ 2 ++ (d.body ++ beBytes (crcOf (pbRest d)) 4))))) := by
      have e0 : pbB d = pbRest d ++ beBytes (crcOf (pbRest d)) 4 := rfl
      obtain ⟨C, hC⟩ : ∃ C, beBytes (crcOf (pbRest d)) 4 = C := ⟨_, rfl⟩
      rw [hC] at e0 ⊢
      rw [e0, er]
      simp [List.append_assoc]
    have hlen : (pbB d).length = 22 + d.body.length := by rw [e]; simp [beBytes_length]; omega
    have f0 : fld (pbB d) 0 6 = d.dst := by rw [e]; exact (fld_app [] _ _ rfl (beBytes_length _ _)).trans (valBE_be n1)
    have f6 : fld (pbB d) 6 6 = d.src := by rw [e]; exact (fld_app _ _ _ (beBytes_length _ _) (beBytes_length _ _)).trans (valBE_be n2)
    have f12 : fld (pbB d) 12 2 = 33024 := by
      rw [e, ← List.append_assoc]
      exact (fld_app _ _ _ (by simp [beBytes_length]) (beBytes_length _ _)).trans (valBE_be n0)
    have f14 : fld (pbB d) 14 2 = d.tag := by
      rw [e, ← List.append_assoc, ← List.append_assoc]
      exact (fld_app _ _ _ (by simp [beBytes_length]) (beBytes_length _ _)).trans (valBE_be n3)
    have f16 : fld (pbB d) 16 2 = d.typ := by
      rw [e, ← List.append_assoc, ← List.append_assoc, ← List.append_assoc]
      exact (fld_app _ _ _ (by simp [beBytes_length]) (beBytes_length _ _)).trans (valBE_be n4)
    have hT : hdL (pbB d) = 18 := hdL_18 (by omega) f12
    have hbd : ((pbB d).drop 18).take ((pbB d).length - 4 - 18) = d.body := by
      rw [hlen, e, ← List.append_assoc, ← List.append_assoc, ← List.append_assoc, ← List.append_assoc]
      rw [List.drop_left' (by simp [beBytes_length]), List.take_left' (by omega)]
    have hp : prT (pbB d) 18 = d.tag := by unfold prT; rw [if_pos rfl, f14]
    have hD : prD (pbB d) 18 = d := by
      unfold prD
      rw [f0, f6, hp, hbd, show fld (pbB d) (18 - 2) 2 = d.typ from f16]
    unfold prF
    rw [hT, prG_r (by omega) (by omega) hcr]
    unfold prR
    rw [if_neg (by rw [hp]; omega), show fld (pbB d) (18 - 2) 2 = d.typ from f16, if_pos hty, hD]
theorem prF_nil : prF [] = (zeroP, 1) := by
  unfold prF; rw [hdL_14 (.inl (by decide)), prG_1 (by decide)]
theorem pbB_bytes {d : PacketD} (hb : Bytes d.body) : Bytes (pbB d) := bytes_app (pbRest_bytes d hb) (beBytes_bytes _ _)
theorem pbB_len {d : PacketD} : (pbB d).length ≤ 22 + d.body.length := by have := pbRest_len d; unfold pbB; simp [beBytes_length]; omega
theorem udB_len {d : UdpD} : (udB d).length = 8 + d.data.length := by unfold udB; simp [udHead_len]; omega
theorem urF_back {d : UdpD} (h : udOk d = true) : urF (udB d) = (d, 0) := by
  obtain ⟨k1, k2, k3⟩ := udOk_iff h
  have hl := udB_len (d := d)
  have n3 : numOkB (8 + d.data.length) 2 = true := numOk2 (by omega) (by omega)
  have e : udB d = beBytes d.src 2 ++ (beBytes d.dst 2 ++ (beBytes (8 + d.data.length) 2 ++ ([0, 0] ++ d.data))) := by
    simp [udB, udHead, List.append_assoc]
  have f0 : fld (udB d) 0 2 = d.src := by rw [e]; exact (fld_app [] _ _ rfl (beBytes_length _ _)).trans (valBE_be k1)
  have f2 : fld (udB d) 2 2 = d.dst := by rw [e]; exact (fld_app _ _ _ (beBytes_length _ _) (beBytes_length _ _)).trans (valBE_be k2)
  have f4 : fld (udB d) 4 2 = 8 + d.data.length := by
    rw [e, ← List.append_assoc]
    exact (fld_app _ _ _ (by simp [beBytes_length]) (beBytes_length _ _)).trans (valBE_be n3)
  have f6 : fld (udB d) 6 2 = 0 := by
    rw [e, ← List.append_assoc, ← List.append_assoc]
    exact (fld_app _ [0, 0] _ (by simp [beBytes_length]) rfl).trans (by decide)
  have hD : urD (udB d) = d := by
    unfold urD
    rw [f0, f2, e, ← List.append_assoc, ← List.append_assoc, ← List.append_assoc]
    rw [List.drop_left' (by simp [beBytes_length])]
  rw [urF_0 ⟨by omega, by omega⟩ (by rw [f4, hl]; push_cast; rfl) f6, hD]
theorem udB_bytes {d : UdpD} (hb : Bytes d.data) : Bytes (udB d) := by
  unfold udB udHead
  refine bytes_app (bytes_app (bytes_app (bytes_app (bytes_app (fun x hx => by cases hx) (beBytes_bytes _ _)) (beBytes_bytes _ _)) (beBytes_bytes _ _)) (fun x hx => ?_)) hb
  simp only [List.mem_cons, List.not_mem_nil, or_false] at hx
  omega
--%
end Go.Proofs.Ytcldfodnblkeiaa
