/- FnActs: what the law says, in plain lists. No program in sight. -/
import Derived.Test.YtgigdpdmdldhnaaPfl
namespace Go.Proofs.Ytgigdpdmdldhnaa
set_option linter.unusedVariables false
set_option linter.unusedSimpArgs false
--%
theorem nodup_sub_len : ∀ {xs ys : List Int}, xs.Nodup → (∀ x ∈ xs, x ∈ ys) → xs.length ≤ ys.length
  | [], _, _, _ => Nat.zero_le _
  | x :: xs, ys, hn, h => by
    obtain ⟨h1, h2⟩ := List.nodup_cons.1 hn
    have hx := h x (by simp)
    have := nodup_sub_len (ys := ys.erase x) h2 (fun y hy => (List.mem_erase_of_ne (fun e => h1 (by rw [← e]; exact hy))).2 (h y (by simp [hy])))
    rw [List.length_erase_of_mem hx] at this
    have := List.length_pos_of_mem hx
    simp only [List.length_cons]; omega
theorem opF_no {hs ps : List Int} {ac : List ActD} (h : pfB hs ps ac = false) : opF hs ps ac = [] := by
  unfold opF
  rw [pfF_no h]
  have : ∀ n, opL (portsL []) n = [] := by
    intro n
    induction n with
    | zero => rfl
    | succ n ih => unfold opL; simp [portsL, ih] ; simpa [portsL] using ih
  exact this _
theorem opF_sub {hs ps : List Int} {ac : List ActD} {x : Int} (h : x ∈ opF hs ps ac) : x ∈ portsL (pfF hs ps ac) := (opL_mem.1 h).1
theorem opF_mem {hs ps : List Int} {ac : List ActD} {x : Int} (h : x ∈ portsL (pfF hs ps ac)) : x ∈ opF hs ps ac := by
  have := portsL_bd h
  exact opL_mem.2 ⟨h, this.1, by omega⟩
theorem opF_len {hs ps : List Int} {ac : List ActD} : (opF hs ps ac).length ≤ (pfF hs ps ac).length := by
  have h1 : (opF hs ps ac).Nodup := (opL_sorted 255).imp (fun h => by omega)
  have := nodup_sub_len h1 (fun x hx => opF_sub hx)
  simpa [portsL] using this
theorem opF_pos {hs ps : List Int} {ac : List ActD} : 0 < (pfF hs ps ac).length ↔ 0 < (opF hs ps ac).length := by
  constructor
  · intro h
    obtain ⟨e, he⟩ := List.exists_mem_of_length_pos h
    exact List.length_pos_of_mem (opF_mem (x := e.port) (List.mem_map.2 ⟨e, he, rfl⟩))
  · intro h; have := opF_len (hs := hs) (ps := ps) (ac := ac); omega
/-- What is told of each thing that is sent. -/
theorem acts_at {hs ps : List Int} {ac : List ActD} (hb : pfB hs ps ac = true) {e : SentD} (he : e ∈ pfF hs ps ac) :
    e.port ∈ ps ∧ e.port ≠ hs.getD 0 0 ∧ e.port ∈ opF hs ps ac ∧ hdOk e.vs = true ∧ hs.length = 8 := by
  obtain ⟨h1, h2, h3⟩ := pfB_iff.1 hb
  have he' := he
  rw [pfF_yes hb] at he'
  obtain ⟨a, ⟨i, hi, hp⟩, c⟩ := pfO_mem h1 h3 (Nat.le_refl _) he'
  refine ⟨?_, c, opF_mem (List.mem_map.2 ⟨e, he, rfl⟩), a, (hdOk_at h1).1⟩
  rw [hp, List.getD_eq_getElem?_getD, List.getElem?_eq_getElem hi]
  exact List.getElem_mem hi
--%
end Go.Proofs.Ytgigdpdmdldhnaa
