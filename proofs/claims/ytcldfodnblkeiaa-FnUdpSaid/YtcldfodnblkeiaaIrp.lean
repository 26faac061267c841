/- IpRead: the plain law. -/
import Derived.Test.YtcldfodnblkeiaaUr
import Derived.Test.YtcldfodnblkeiaaIbs
namespace Go.Proofs.Ytcldfodnblkeiaa
set_option linter.unusedVariables false
set_option linter.unusedSimpArgs false
--%
theorem be_2 (n : Int) : beBytes n 2 = [n / 256 % 256, n % 256] := by
  simp [beBytes, dig, List.range_succ]
theorem be_4 (n : Int) : beBytes n 4 = [n / 16777216 % 256, n / 65536 % 256, n / 256 % 256, n % 256] := by
  simp [beBytes, dig, List.range_succ]
def zeroI : IpD := ⟨0, 0, 0, 0, []⟩
def irD (b : List Int) : IpD := ⟨b.getD 8 0, b.getD 9 0, fld b 12 4, fld b 16 4, b.drop 20⟩
def irF (b : List Int) : IpD × Int :=
  if ¬ (20 ≤ b.length ∧ b.length ≤ 1500) then (zeroI, 1) else if ¬ b.getD 0 0 = 69 then (zeroI, 2) else if ¬ (b.getD 1 0 = 0 ∧ fld b 4 4 = 0) then (zeroI, 3)
  else if ¬ fld b 2 2 = b.length then (zeroI, 4) else if fld b 10 2 = 65535 - s16 0 (ihHead (irD b) 0) then (irD b, 0) else (zeroI, 5)
/-- The bytes are the head made of the parts, with the sum that stands there, and the data. -/
theorem ir_back {b : List Int} (hb : Bytes b) (hl : 20 ≤ b.length) (h0 : b.getD 0 0 = 69) (h1 : b.getD 1 0 = 0) (h4 : fld b 4 4 = 0) (h2 : fld b 2 2 = b.length) :
    b = ihHead (irD b) (fld b 10 2) ++ b.drop 20 := by
  obtain ⟨x0, b, rfl⟩ : ∃ x t, b = x :: t := by cases b with | nil => (exfalso; simp only [List.length_nil, List.length_cons] at hl; omega) | cons x t => exact ⟨x, t, rfl⟩
  obtain ⟨x1, b, rfl⟩ : ∃ x t, b = x :: t := by cases b with | nil => (exfalso; simp only [List.length_nil, List.length_cons] at hl; omega) | cons x t => exact ⟨x, t, rfl⟩
  obtain ⟨x2, b, rfl⟩ : ∃ x t, b = x :: t := by cases b with | nil => (exfalso; simp only [List.length_nil, List.length_cons] at hl; omega) | cons x t => exact ⟨x, t, rfl⟩
  obtain ⟨x3, b, rfl⟩ : ∃ x t, b = x :: t := by cases b with | nil => (exfalso; simp only [List.length_nil, List.length_cons] at hl; omega) | cons x t => exact ⟨x, t, rfl⟩
  obtain ⟨x4, b, rfl⟩ : ∃ x t, b = x :: t := by cases b with | nil => (exfalso; simp only [List.length_nil, List.length_cons] at hl; omega) | cons x t => exact ⟨x, t, rfl⟩
  obtain ⟨x5, b, rfl⟩ : ∃ x t, b = x :: t := by cases b with | nil => (exfalso; simp only [List.length_nil, List.length_cons] at hl; omega) | cons x t => exact ⟨x, t, rfl⟩
  obtain ⟨x6, b, rfl⟩ : ∃ x t, b = x :: t := by cases b with | nil => (exfalso; simp only [List.length_nil, List.length_cons] at hl; omega) | cons x t => exact ⟨x, t, rfl⟩
  obtain ⟨x7, b, rfl⟩ : ∃ x t, b = x :: t := by cases b with | nil => (exfalso; simp only [List.length_nil, List.length_cons] at hl; omega) | cons x t => exact ⟨x, t, rfl⟩
  obtain ⟨x8, b, rfl⟩ : ∃ x t, b = x :: t := by cases b with | nil => (exfalso; simp only [List.length_nil, List.length_cons] at hl; omega) | cons x t => exact ⟨x, t, rfl⟩
  obtain ⟨x9, b, rfl⟩ : ∃ x t, b = x :: t := by cases b with | nil => (exfalso; simp only [List.length_nil, List.length_cons] at hl; omega) | cons x t => exact ⟨x, t, rfl⟩
  obtain ⟨y0, b, rfl⟩ : ∃ x t, b = x :: t := by cases b with | nil => (exfalso; simp only [List.length_nil, List.length_cons] at hl; omega) | cons x t => exact ⟨x, t, rfl⟩
  obtain ⟨y1, b, rfl⟩ : ∃ x t, b = x :: t := by cases b with | nil => (exfalso; simp only [List.length_nil, List.length_cons] at hl; omega) | cons x t => exact ⟨x, t, rfl⟩
  obtain ⟨y2, b, rfl⟩ : ∃ x t, b = x :: t := by cases b with | nil => (exfalso; simp only [List.length_nil, List.length_cons] at hl; omega) | cons x t => exact ⟨x, t, rfl⟩
  obtain ⟨y3, b, rfl⟩ : ∃ x t, b = x :: t := by cases b with | nil => (exfalso; simp only [List.length_nil, List.length_cons] at hl; omega) | cons x t => exact ⟨x, t, rfl⟩
  obtain ⟨y4, b, rfl⟩ : ∃ x t, b = x :: t := by cases b with | nil => (exfalso; simp only [List.length_nil, List.length_cons] at hl; omega) | cons x t => exact ⟨x, t, rfl⟩
  obtain ⟨y5, b, rfl⟩ : ∃ x t, b = x :: t := by cases b with | nil => (exfalso; simp only [List.length_nil, List.length_cons] at hl; omega) | cons x t => exact ⟨x, t, rfl⟩
  obtain ⟨y6, b, rfl⟩ : ∃ x t, b = x :: t := by cases b with | nil => (exfalso; simp only [List.length_nil, List.length_cons] at hl; omega) | cons x t => exact ⟨x, t, rfl⟩
  obtain ⟨y7, b, rfl⟩ : ∃ x t, b = x :: t := by cases b with | nil => (exfalso; simp only [List.length_nil, List.length_cons] at hl; omega) | cons x t => exact ⟨x, t, rfl⟩
  obtain ⟨y8, b, rfl⟩ : ∃ x t, b = x :: t := by cases b with | nil => (exfalso; simp only [List.length_nil, List.length_cons] at hl; omega) | cons x t => exact ⟨x, t, rfl⟩
  obtain ⟨y9, b, rfl⟩ : ∃ x t, b = x :: t := by cases b with | nil => (exfalso; simp only [List.length_nil, List.length_cons] at hl; omega) | cons x t => exact ⟨x, t, rfl⟩
  have b2 := hb x2 (by simp); have b3 := hb x3 (by simp); have b4 := hb x4 (by simp); have b5 := hb x5 (by simp); have b6 := hb x6 (by simp); have b7 := hb x7 (by simp)
  have c0 := hb y0 (by simp); have c1 := hb y1 (by simp); have c2 := hb y2 (by simp); have c3 := hb y3 (by simp); have c4 := hb y4 (by simp)
  have c5 := hb y5 (by simp); have c6 := hb y6 (by simp); have c7 := hb y7 (by simp); have c8 := hb y8 (by simp); have c9 := hb y9 (by simp)
  simp only [fld, valBE, List.drop_succ_cons, List.drop_zero, List.take_succ_cons, List.take_zero, List.foldl_cons, List.foldl_nil, List.getD_cons_zero, List.getD_cons_succ, List.length_cons] at h0 h1 h2 h4
  simp only [ihHead, ihMid, ihBase, irD, fld, valBE, be_2, be_4, List.drop_succ_cons, List.drop_zero, List.take_succ_cons, List.take_zero, List.foldl_cons, List.foldl_nil, List.getD_cons_zero, List.getD_cons_succ, List.cons_append, List.nil_append, List.cons.injEq, and_true, List.length_cons, true_and]
  simp only [List.length_cons] at hl
  omega
theorem be_2_inj {s t : Int} (hs : 0 ≤ s ∧ s ≤ 65535) (ht : 0 ≤ t ∧ t ≤ 65535) (h : beBytes s 2 = beBytes t 2) : s = t := by
  simp only [be_2, List.cons.injEq, and_true] at h
  omega
theorem ihHead_inj {d : IpD} {s t : Int} (hs : 0 ≤ s ∧ s ≤ 65535) (ht : 0 ≤ t ∧ t ≤ 65535) (h : ihHead d s = ihHead d t) : s = t := by
  simp only [ihHead, List.append_assoc] at h
  have h := List.append_cancel_left h
  simp only [be_2, List.cons_append, List.nil_append, List.cons.injEq] at h
  omega
theorem ir_ok {b : List Int} (hb : Bytes b) (hl : 20 ≤ b.length ∧ b.length ≤ 1500) : ipOk (irD b) = true := by
  have h8 : 0 ≤ b.getD 8 0 ∧ b.getD 8 0 ≤ 255 := by
    have e : b.getD 8 0 = b[8]'(by omega) := by simp [List.getElem?_eq_getElem (show 8 < b.length by omega)]
    rw [e]; have := hb _ (List.getElem_mem (l := b) (n := 8) (by omega)); omega
  have h9 : 0 ≤ b.getD 9 0 ∧ b.getD 9 0 ≤ 255 := by
    have e : b.getD 9 0 = b[9]'(by omega) := by simp [List.getElem?_eq_getElem (show 9 < b.length by omega)]
    rw [e]; have := hb _ (List.getElem_mem (l := b) (n := 9) (by omega)); omega
  have hv : ∀ lo, lo + 4 ≤ b.length → 0 ≤ fld b lo 4 ∧ fld b lo 4 < 4294967296 := fun lo h => by
    have hh := valBE_bd ((b.drop lo).take 4) ((hb.drop _).take _)
    have e : ((b.drop lo).take 4).length = 4 := by simp; omega
    rw [e] at hh
    exact hh
  have k1 := hv 12 (by omega); have k2 := hv 16 (by omega)
  have e1 : (256 : Int) ^ (1 : Int).toNat = 256 := by decide
  have e4 : (256 : Int) ^ (4 : Int).toNat = 4294967296 := by decide
  have o1 : ∀ n : Int, 0 ≤ n ∧ n ≤ 255 → numOkB n 1 = true := fun n h => by unfold numOkB; rw [e1]; simp; omega
  have g1 := o1 _ h8; have g2 := o1 _ h9
  have g3 : numOkB (fld b 12 4) 4 = true := by unfold numOkB; rw [e4]; simp; omega
  have g4 : numOkB (fld b 16 4) 4 = true := by unfold numOkB; rw [e4]; simp; omega
  have g5 : (b.drop 20).length ≤ 1480 := by simp; omega
  simp only [ipOk, irD, g1, g2, g3, g4, g5, Bool.true_and, decide_true]
/-- The program's test (the bytes are made again) is the reference's (the sum is the sum). -/
theorem ir_test {b : List Int} (hb : Bytes b) (hl : 20 ≤ b.length ∧ b.length ≤ 1500) (h0 : b.getD 0 0 = 69) (h1 : b.getD 1 0 = 0) (h4 : fld b 4 4 = 0) (h2 : fld b 2 2 = b.length) :
    (ipF (irD b)).1 = b ↔ fld b 10 2 = 65535 - s16 0 (ihHead (irD b) 0) := by
  have hok := ir_ok hb hl
  have hbk := ir_back hb hl.1 h0 h1 h4 h2
  obtain ⟨k1, k2, _, _, _⟩ := ipOk_iff hok
  have hB := ihHead_bytes (numOk1 k1) (numOk1 k2) 0
  have hs := s16_bd _ 0 hB (by decide)
  have hf : 0 ≤ fld b 10 2 ∧ fld b 10 2 ≤ 65535 := by
    have hh := valBE_bd ((b.drop 10).take 2) ((hb.drop _).take _)
    have e : ((b.drop 10).take 2).length = 2 := by simp; omega
    rw [e] at hh
    have e2 : p256 2 = 65536 := by decide
    rw [e2] at hh
    unfold fld; omega
  rw [ipF_yes hok]
  constructor
  · intro h
    have h' : ihHead (irD b) (65535 - s16 0 (ihHead (irD b) 0)) ++ b.drop 20 = ihHead (irD b) (fld b 10 2) ++ b.drop 20 := by rw [← hbk]; exact h
    exact (ihHead_inj (by omega) hf (List.append_cancel_right h')).symm
  · intro h
    show ihHead (irD b) (65535 - s16 0 (ihHead (irD b) 0)) ++ b.drop 20 = b
    rw [← h]; exact hbk.symm
--%
end Go.Proofs.Ytcldfodnblkeiaa
