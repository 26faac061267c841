/- Perform, OutPorts: what they answer, in plain lists. No program in sight. -/
import Derived.Test.YtgigdpdmdldhnaaSnt
import Derived.Test.YtgigdpdmdldhnaaAok
import Derived.Test.YtgigdpdmdldhnaaPt
import Derived.Test.YtgigdpdmdldhnaaHs
namespace Go.Proofs.Ytgigdpdmdldhnaa
set_option linter.unusedVariables false
set_option linter.unusedSimpArgs false
--%
/-- The head behind an action. -/
def nowOf (hs : List Int) (a : ActD) : List Int := if a.kind = 3 then hs.set a.a.toNat a.b else hs
/-- Whether an action sends to a port. -/
def goesB (hs : List Int) (a : ActD) (p : Int) : Bool := decide (p ≠ hs.getD 0 0) && (decide (a.kind = 2) || (decide (a.kind = 1) && decide (a.a = p)))
def pfP (hs : List Int) (ps : List Int) (a : ActD) : Nat → List SentD
  | 0 => []
  | n + 1 => pfP hs ps a n ++ if goesB hs a (ps.getD n 0) then [⟨ps.getD n 0, hs⟩] else []
def pfN (hs : List Int) (ac : List ActD) : Nat → List Int
  | 0 => hs
  | k + 1 => nowOf (pfN hs ac k) (ac.getD k default)
def pfO (hs : List Int) (ps : List Int) (ac : List ActD) : Nat → List SentD
  | 0 => []
  | k + 1 => pfO hs ps ac k ++ pfP (pfN hs ac (k + 1)) ps (ac.getD k default) ps.length
def pfB (hs : List Int) (ps : List Int) (ac : List ActD) : Bool := hdOk hs && (ptOk ps && acOk ac)
def pfF (hs : List Int) (ps : List Int) (ac : List ActD) : List SentD := if pfB hs ps ac = true then pfO hs ps ac ac.length else []
theorem pfB_iff {hs ps : List Int} {ac : List ActD} : pfB hs ps ac = true ↔ hdOk hs = true ∧ ptOk ps = true ∧ acOk ac = true := by
  unfold pfB; simp only [Bool.and_eq_true]
theorem hdOk_set {zs : List Int} (h : hdOk zs = true) {f v : Int} (hf : fitB f v = true) : hdOk (zs.set f.toNat v) = true := by
  obtain ⟨h8, ha⟩ := hdOk_at h
  have hr := (fitB_iff.1 hf).1
  refine hdOk_yes (by simpa using h8) (fun i hi => ?_)
  rw [List.length_set, h8] at hi
  by_cases e : i = f.toNat
  · subst e
    have e2 : ((f.toNat : Nat) : Int) = f := by omega
    rw [e2]
    have : (zs.set f.toNat v).getD f.toNat 0 = v := by simp [List.getD_eq_getElem?_getD, List.getElem?_set_self (show f.toNat < zs.length by omega)]
    rw [this]; exact hf
  · have : (zs.set f.toNat v).getD i 0 = zs.getD i 0 := by simp [List.getD_eq_getElem?_getD, List.getElem?_set_ne (Ne.symm e)]
    rw [this]; exact ha i hi
theorem acAt_set {a : ActD} (h : acAt a = true) (h3 : a.kind = 3) : (a.a = 1 ∨ a.a = 2) ∧ 0 ≤ a.b ∧ a.b ≤ 281474976710655 ∧ fitB a.a a.b = true := by
  unfold acAt at h
  rw [if_neg (by omega), if_pos h3] at h
  simp only [Bool.and_eq_true, decide_eq_true_eq] at h
  have h2 := inB_iff.1 h.2
  refine ⟨h.1, h2.1, h2.2, fitB_true ?_ h2.1 ?_⟩
  · omega
  · unfold full; rw [if_neg (by omega), if_pos (by omega)]; exact h2.2
theorem nowOf_ok {hs : List Int} {a : ActD} (h : hdOk hs = true) (ha : acAt a = true) : hdOk (nowOf hs a) = true := by
  unfold nowOf; split
  · rename_i h3; exact hdOk_set h (acAt_set ha h3).2.2.2
  · exact h
theorem nowOf_in {hs : List Int} {a : ActD} (ha : acAt a = true) : (nowOf hs a).getD 0 0 = hs.getD 0 0 := by
  unfold nowOf; split
  · rename_i h3
    have := (acAt_set ha h3).1
    simp [List.getD_eq_getElem?_getD, List.getElem?_set_ne (show a.a.toNat ≠ 0 by omega)]
  · rfl
theorem pfN_ok {hs : List Int} {ac : List ActD} (h : hdOk hs = true) (ha : acOk ac = true) : ∀ k, k ≤ ac.length → hdOk (pfN hs ac k) = true ∧ (pfN hs ac k).getD 0 0 = hs.getD 0 0
  | 0, _ => ⟨h, rfl⟩
  | k + 1, hk => by
    have ih := pfN_ok h ha k (by omega)
    have hak := (acOk_iff.1 ha).2 k (by omega)
    exact ⟨nowOf_ok ih.1 hak, (nowOf_in hak).trans ih.2⟩
theorem pfP_none {hs ps : List Int} {a : ActD} (h1 : a.kind ≠ 1) (h2 : a.kind ≠ 2) : ∀ n, pfP hs ps a n = []
  | 0 => rfl
  | n + 1 => by unfold pfP; rw [pfP_none h1 h2 n]; simp [goesB, h1, h2]
theorem pfP_len (hs ps : List Int) (a : ActD) : ∀ n, (pfP hs ps a n).length ≤ n
  | 0 => Nat.le_refl _
  | n + 1 => by
    have := pfP_len hs ps a n
    unfold pfP; rw [List.length_append]; split
    · simp; omega
    · simp; omega
theorem pfO_len (hs ps : List Int) (ac : List ActD) : ∀ k, (pfO hs ps ac k).length ≤ k * ps.length
  | 0 => by simp [pfO]
  | k + 1 => by
    have h1 := pfO_len hs ps ac k; have h2 := pfP_len (pfN hs ac (k + 1)) ps (ac.getD k default) ps.length
    unfold pfO; rw [List.length_append, Nat.succ_mul]; omega
theorem pfP_mem {hs ps : List Int} {a : ActD} {e : SentD} : ∀ {n}, e ∈ pfP hs ps a n → e.vs = hs ∧ ∃ i, i < n ∧ e.port = ps.getD i 0 ∧ goesB hs a e.port = true
  | n + 1, h => by
    unfold pfP at h
    rcases List.mem_append.1 h with h | h
    · obtain ⟨h1, i, h2, h3⟩ := pfP_mem h; exact ⟨h1, i, by omega, h3⟩
    · split at h
      · rename_i hg
        simp only [List.mem_cons, List.not_mem_nil, or_false] at h
        subst h
        exact ⟨rfl, n, by omega, rfl, hg⟩
      · cases h
theorem pfO_mem {hs ps : List Int} {ac : List ActD} (h : hdOk hs = true) (ha : acOk ac = true) {e : SentD} : ∀ {k}, k ≤ ac.length → e ∈ pfO hs ps ac k → hdOk e.vs = true ∧ (∃ i, i < ps.length ∧ e.port = ps.getD i 0) ∧ e.port ≠ hs.getD 0 0
  | k + 1, hk, hm => by
    unfold pfO at hm
    rcases List.mem_append.1 hm with hm | hm
    · exact pfO_mem h ha (by omega) hm
    · obtain ⟨h1, i, h2, h3, h4⟩ := pfP_mem hm
      have hn := pfN_ok h ha (k + 1) hk
      refine ⟨by rw [h1]; exact hn.1, ⟨i, h2, h3⟩, ?_⟩
      unfold goesB at h4
      simp only [Bool.and_eq_true, decide_eq_true_eq] at h4
      rw [← hn.2]; exact h4.1
theorem pfF_no {hs ps : List Int} {ac : List ActD} (h : pfB hs ps ac = false) : pfF hs ps ac = [] := by simp [pfF, h]
theorem pfF_none {hs ps : List Int} {ac : List ActD} (h : pfB hs ps ac = false) : pfF hs ps ac = [] ∧ pfB hs ps ac = false := ⟨pfF_no h, h⟩
theorem pfF_yes {hs ps : List Int} {ac : List ActD} (h : pfB hs ps ac = true) : pfF hs ps ac = pfO hs ps ac ac.length := by simp [pfF, h]
theorem pt_bd {ps : List Int} (h : ptOk ps = true) : ps.length ≤ 8 ∧ ∀ i, i < ps.length → 1 ≤ ps.getD i 0 ∧ ps.getD i 0 ≤ 255 := by
  unfold ptOk at h
  simp only [Bool.and_eq_true, decide_eq_true_eq, allB_iff] at h
  refine ⟨h.1, fun i hi => ?_⟩
  have := h.2 i hi
  unfold ptAt at this
  simp only [Bool.and_eq_true] at this
  exact inB_iff.1 this.1
theorem pfO_len96 {hs ps : List Int} {ac : List ActD} (hp : ptOk ps = true) (ha : acOk ac = true) {k : Nat} (hk : k ≤ ac.length) : (pfO hs ps ac k).length ≤ 96 := by
  have h1 := pfO_len hs ps ac k; have h2 := (pt_bd hp).1; have h3 := (acOk_iff.1 ha).1
  have : k * ps.length ≤ 12 * 8 := Nat.mul_le_mul (by omega) h2
  omega
theorem pfF_sm (hs ps : List Int) (ac : List ActD) : SmS (pfF hs ps ac) := by
  cases hb : pfB hs ps ac
  · rw [pfF_no hb]; exact ⟨by simp, by simp⟩
  · obtain ⟨h1, h2, h3⟩ := pfB_iff.1 hb
    rw [pfF_yes hb]
    refine ⟨by have := pfO_len96 (hs := hs) h2 h3 (Nat.le_refl _); omega, fun e he => ?_⟩
    have := (hdOk_at (pfO_mem h1 h3 (Nat.le_refl _) he).1).1
    omega
/-! the ports, each once, upwards -/
def portsL (es : List SentD) : List Int := es.map (·.port)
def opL (ps : List Int) : Nat → List Int
  | 0 => []
  | n + 1 => if ((n + 1 : Nat) : Int) ∈ ps then opL ps n ++ [((n + 1 : Nat) : Int)] else opL ps n
def opF (hs ps : List Int) (ac : List ActD) : List Int := opL (portsL (pfF hs ps ac)) 255
theorem opL_len (ps : List Int) : ∀ n, (opL ps n).length ≤ n
  | 0 => Nat.le_refl _
  | n + 1 => by
    have := opL_len ps n
    unfold opL; split
    · simp; omega
    · omega
theorem opL_mem {ps : List Int} {x : Int} : ∀ {n}, x ∈ opL ps n ↔ x ∈ ps ∧ 1 ≤ x ∧ x ≤ n
  | 0 => by simp [opL]; omega
  | n + 1 => by
    have ih := opL_mem (ps := ps) (x := x) (n := n)
    unfold opL
    split
    · rename_i h
      rw [List.mem_append, ih]
      simp only [List.mem_cons, List.not_mem_nil, or_false]
      constructor
      · rintro (⟨h1, h2, h3⟩ | rfl)
        · exact ⟨h1, h2, by omega⟩
        · exact ⟨h, by omega, by omega⟩
      · rintro ⟨h1, h2, h3⟩
        by_cases e : x = ((n + 1 : Nat) : Int)
        · exact .inr e
        · exact .inl ⟨h1, h2, by omega⟩
    · rename_i h
      rw [ih]
      constructor
      · rintro ⟨h1, h2, h3⟩; exact ⟨h1, h2, by omega⟩
      · rintro ⟨h1, h2, h3⟩
        refine ⟨h1, h2, ?_⟩
        by_cases e : x = ((n + 1 : Nat) : Int)
        · subst e; exact absurd h1 h
        · omega
theorem opL_sorted {ps : List Int} : ∀ n, (opL ps n).Pairwise (· < ·)
  | 0 => List.Pairwise.nil
  | n + 1 => by
    unfold opL; split
    · rw [List.pairwise_append]
      refine ⟨opL_sorted n, by simp, fun a ha b hb => ?_⟩
      have := (opL_mem.1 ha).2.2
      simp only [List.mem_cons, List.not_mem_nil, or_false] at hb
      omega
    · exact opL_sorted n
/-- Two lists that go up and have the same members. -/
theorem up_eq : ∀ {xs ys : List Int}, xs.Pairwise (· < ·) → ys.Pairwise (· < ·) → (∀ x, x ∈ xs ↔ x ∈ ys) → xs = ys
  | [], [], _, _, _ => rfl
  | [], y :: ys, _, _, h => absurd ((h y).2 (by simp)) (by simp)
  | x :: xs, [], _, _, h => absurd ((h x).1 (by simp)) (by simp)
  | x :: xs, y :: ys, hx, hy, h => by
    obtain ⟨hx1, hx2⟩ := List.pairwise_cons.1 hx
    obtain ⟨hy1, hy2⟩ := List.pairwise_cons.1 hy
    have e : x = y := by
      have h1 := (h x).1 (by simp); have h2 := (h y).2 (by simp)
      rcases List.mem_cons.1 h1 with h1 | h1
      · exact h1
      · rcases List.mem_cons.1 h2 with h2 | h2
        · exact h2.symm
        · have := hx1 y h2; have := hy1 x h1; omega
    subst e
    have : xs = ys := up_eq hx2 hy2 (fun z => by
      constructor
      · intro hz
        rcases List.mem_cons.1 ((h z).1 (by simp [hz])) with e | e
        · have := hx1 z hz; omega
        · exact e
      · intro hz
        rcases List.mem_cons.1 ((h z).2 (by simp [hz])) with e | e
        · have := hy1 z hz; omega
        · exact e)
    rw [this]
theorem portsL_bd {hs ps : List Int} {ac : List ActD} {x : Int} (h : x ∈ portsL (pfF hs ps ac)) : 1 ≤ x ∧ x ≤ 255 := by
  unfold portsL at h
  obtain ⟨e, he, rfl⟩ := List.mem_map.1 h
  cases hb : pfB hs ps ac
  · rw [pfF_no hb] at he; cases he
  · obtain ⟨h1, h2, h3⟩ := pfB_iff.1 hb
    rw [pfF_yes hb] at he
    obtain ⟨_, ⟨i, hi, hp⟩, _⟩ := pfO_mem h1 h3 (Nat.le_refl _) he
    rw [hp]; exact (pt_bd h2).2 i hi
--%
end Go.Proofs.Ytgigdpdmdldhnaa
