/- Matches: what holds of them, in plain numbers. No program in sight. -/
import Derived.Test.YtgigdpdmdldhnaaHd
namespace Go.Proofs.Ytgigdpdmdldhnaa
set_option linter.unusedVariables false
set_option linter.unusedSimpArgs false
--%
def nv (zs : List Int) (i : Nat) : Nat := (zs.getD i 0).toNat
def mtAt (d : MatchD) (i : Nat) : Bool := decide (0 ≤ d.vs.getD i 0) && decide (nv d.vs i ||| nv d.ms i = nv d.ms i)
def mtOk (d : MatchD) : Bool := decide (d.vs.length = 8) && (hdOk d.ms && allB 8 (mtAt d))
theorem mtOk_len {d : MatchD} (h : ¬ d.vs.length = 8) : mtOk d = false := by simp [mtOk, h]
theorem mtOk_ms {d : MatchD} (h : hdOk d.ms = false) : mtOk d = false := by simp [mtOk, h]
theorem mtOk_no {d : MatchD} (i : Nat) (hi : i < 8) (h : mtAt d i = false) : mtOk d = false := by unfold mtOk; rw [allB_false i hi h]; simp
theorem mtOk_yes {d : MatchD} (h1 : d.vs.length = 8) (h2 : hdOk d.ms = true) (h : ∀ i, i < 8 → mtAt d i = true) : mtOk d = true := by unfold mtOk; rw [allB_true h, h2, decide_eq_true h1]; rfl
theorem mtOk_iff {d : MatchD} : mtOk d = true ↔ d.vs.length = 8 ∧ hdOk d.ms = true ∧ ∀ i, i < 8 → mtAt d i = true := by
  unfold mtOk; simp only [Bool.and_eq_true, decide_eq_true_eq, allB_iff]
theorem mtAt_iff {d : MatchD} {i : Nat} : mtAt d i = true ↔ 0 ≤ d.vs.getD i 0 ∧ nv d.vs i ||| nv d.ms i = nv d.ms i := by
  unfold mtAt; simp only [Bool.and_eq_true, decide_eq_true_eq]
theorem mtAt_neg {d : MatchD} {i : Nat} (h : d.vs.getD i 0 < 0) : mtAt d i = false := by
  unfold mtAt; rw [decide_eq_false (by omega)]; rfl
theorem mtAt_or {d : MatchD} {i : Nat} (h : ¬ nv d.vs i ||| nv d.ms i = nv d.ms i) : mtAt d i = false := by
  unfold mtAt; rw [decide_eq_false h]; simp
/-- What is known of a match's numbers at a place. -/
theorem mtOk_at {d : MatchD} (h : mtOk d = true) (i : Nat) (hi : i < 8) : fitB (i : Nat) (d.ms.getD i 0) = true ∧ 0 ≤ d.vs.getD i 0 ∧ d.vs.getD i 0 ≤ d.ms.getD i 0 ∧ nv d.vs i ||| nv d.ms i = nv d.ms i := by
  obtain ⟨h1, h2, h3⟩ := mtOk_iff.1 h
  have hm := (hdOk_at h2).2 i hi
  obtain ⟨hv, ho⟩ := mtAt_iff.1 (h3 i hi)
  refine ⟨hm, hv, ?_, ho⟩
  have hb := fitB_bd hm
  have : nv d.vs i ≤ nv d.ms i := by rw [← ho]; exact Nat.left_le_or
  unfold nv at this; omega
theorem meet_i64 {av bv am bm : Int} (h1 : 0 ≤ av) (h2 : av ≤ 281474976710655) (h3 : 0 ≤ bv) (h4 : bv ≤ 281474976710655) (h5 : 0 ≤ am) (h6 : am ≤ 281474976710655) (h7 : 0 ≤ bm) (h8 : bm ≤ 281474976710655) :
    Go.bits .and .i64 (Go.bits .and .i64 (Go.bits .xor .i64 av bv) am) bm = (((av.toNat ^^^ bv.toNat) &&& am.toNat &&& bm.toNat : Nat) : Int) := by
  have hx : av.toNat ^^^ bv.toNat < 2 ^ 48 := Nat.xor_lt_two_pow (by omega) (by omega)
  have hy : (av.toNat ^^^ bv.toNat) &&& am.toNat ≤ av.toNat ^^^ bv.toNat := Nat.and_le_left
  rw [xor_i64 h1 (by omega) h3 (by omega), and_i64 (by omega) (by omega) h5 (by omega), Int.toNat_natCast, and_i64 (by omega) (by omega) h7 (by omega), Int.toNat_natCast]
def hitAt (d : MatchD) (hs : List Int) (i : Nat) : Bool := decide (nv hs i &&& nv d.ms i = nv d.vs i)
def hitOk (d : MatchD) (hs : List Int) : Bool := mtOk d && (hdOk hs && allB 8 (hitAt d hs))
def cvAt (a b : MatchD) (i : Nat) : Bool := decide (nv a.ms i ||| nv b.ms i = nv b.ms i) && decide (nv b.vs i &&& nv a.ms i = nv a.vs i)
def cvOk (a b : MatchD) : Bool := mtOk a && (mtOk b && allB 8 (cvAt a b))
def meAt (a b : MatchD) (i : Nat) : Bool := decide ((nv a.vs i ^^^ nv b.vs i) &&& nv a.ms i &&& nv b.ms i = 0)
def meOk (a b : MatchD) : Bool := mtOk a && (mtOk b && allB 8 (meAt a b))
def zeroM : MatchD := ⟨[], []⟩
def allM : MatchD := ⟨List.replicate 8 0, List.replicate 8 0⟩
def fulls : List Int := [255, 281474976710655, 281474976710655, 65535, 65535, 4294967295, 4294967295, 255]
def mtOf (zs : List Int) : MatchD := if hdOk zs = true then ⟨zs, fulls⟩ else zeroM
def orM (a b : MatchD) : MatchD := ⟨(List.range 8).map fun i => ((nv a.vs i ||| nv b.vs i : Nat) : Int), (List.range 8).map fun i => ((nv a.ms i ||| nv b.ms i : Nat) : Int)⟩
def meetF (a b : MatchD) : MatchD × Bool := if meOk a b = true then (orM a b, true) else (zeroM, false)
def sameM (a b : MatchD) : Bool := mtOk a && (mtOk b && (decide (a.vs = b.vs) && decide (a.ms = b.ms)))
--%
end Go.Proofs.Ytgigdpdmdldhnaa
