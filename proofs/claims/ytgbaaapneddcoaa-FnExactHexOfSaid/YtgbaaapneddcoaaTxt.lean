/- Contracts: numbers as text. -/
import Derived.Test.YtgbaaapneddcoaaTy
import Derived.Test.YtgbaaapneddcoaaApp2
import Derived.Test.YtgbaaapneddcoaaReg
import Derived.WalkKit
import Derived.ProofKit
import Derived.Deep.QuietTactic
import Derived.BigQuiet
import Derived.Outline
import Derived.WalkSpells
namespace Go.Proofs.Ytgbaaapneddcoaa
open Go.ChangeShapes Go.WideShapes Go.ChangeAt Go.RowKit
set_option linter.unusedVariables false
set_option linter.unusedSimpArgs false

/-- The decimal digits of n, k rounds at most. -/
def decs : Nat → Int → List Int
  | 0, _ => []
  | k + 1, n => if n < 10 then [48 + n] else decs k (n / 10) ++ [48 + n % 10]
def numText (n : Int) : List Int := if 0 ≤ n ∧ n ≤ 281474976710655 then decs 16 n else []
theorem txt_append (a b : List Int) : txt a ++ txt b = txt (a ++ b) := by
  apply ByteArray.ext
  simp [txt, strOfNums, ByteArray.data_append]
theorem decs_length (k : Nat) (n : Int) : (decs k n).length ≤ k := by
  induction k generalizing n with
  | zero => simp [decs]
  | succ k ih =>
    unfold decs
    split
    · simp
    · have := ih (n / 10); simp; omega
theorem decs_lo {k : Nat} {n : Int} (h : n < 10) : decs (k + 1) n = [48 + n] := by simp [decs, h]
theorem decs_hi {k : Nat} {n : Int} (h : ¬ n < 10) : decs (k + 1) n = decs k (n / 10) ++ [48 + n % 10] := by simp [decs, h]

--% NumTextI 20 44
theorem run_rune (d : Int) (h0 : 48 ≤ d) (h1 : d < 58) (w : World) : (convert 21 9 (.int .i32 d)).run Try.prog w = .ok (.string (txt [d])) w := by
  obtain ⟨n, rfl⟩ := Int.eq_ofNat_of_zero_le (show 0 ≤ d by omega)
  obtain rfl | rfl | rfl | rfl | rfl | rfl | rfl | rfl | rfl | rfl : n = 48 ∨ n = 49 ∨ n = 50 ∨ n = 51 ∨ n = 52 ∨ n = 53 ∨ n = 54 ∨ n = 55 ∨ n = 56 ∨ n = 57 := by omega
  all_goals rfl
theorem numTextI_dec (k : Nat) : ∀ (n : Int) (w : World), 0 ≤ n → n ≤ 281474976710655 → n < 10 ^ (k + 1) → k < 20 →
    Calls Try.prog 20 #[.int .i64 n] w (RetV (.string (txt (decs (k + 1) n))) w) := by
  induction k with
  | zero =>
    intro n w h0 h1 h2 _
    have h2' : n < 10 := by simpa using h2
    have hb := inB_true h0 h1
    have HE := Lib.hid (decs_lo (k := 0) h2')
    have hr := run_rune (48 + n) (by omega) (by omega)
    clear h2
    go_enter Try.func20, Try.ntmps20
    go_wp2_with (go_at_call 44; refine (isNumber_any _ _).mono ?_; rintro e w' ⟨rfl, rfl⟩)
    go_ret
    exact ⟨ret_str (by rw [HE.out]), Grow.refl _⟩
  | succ k ih =>
    intro n w h0 h1 h2 hk
    have hb := inB_true h0 h1
    by_cases h10 : n < 10
    · have HE := Lib.hid (decs_lo (k := k + 1) h10)
      have hr := run_rune (48 + n) (by omega) (by omega)
      clear h2 ih
      go_enter Try.func20, Try.ntmps20
      go_wp2_with (go_at_call 44; refine (isNumber_any _ _).mono ?_; rintro e w' ⟨rfl, rfl⟩)
      go_ret
      exact ⟨ret_str (by rw [HE.out]), Grow.refl _⟩
    · have HE := Lib.hid (decs_hi (k := k + 1) h10)
      have hr := run_rune (48 + n % 10) (by omega) (by omega)
      have IH := Lib.hid (ih (n / 10) w (by omega) (by omega) (by have : (10 : Int) ^ (k + 1 + 1) = 10 ^ (k + 1) * 10 := Int.pow_succ ..; omega) (by omega))
      have hl := decs_length (k + 1) (n / 10)
      have hadd : (txt (decs (k + 1) (n / 10))).size + (txt [48 + n % 10]).size ≤ 9223372036854775807 := by rw [txt_size, txt_size]; simp; omega
      clear h2 ih
      go_enter Try.func20, Try.ntmps20
      go_wp2_with (first | (go_at_call 44; refine (isNumber_any _ _).mono ?_; rintro e w' ⟨rfl, rfl⟩) | fail)
      refine IH.out.mono ?_
      rintro e w1 ⟨rfl, hg⟩
      have HG := Lib.hid hg; clear hg
      go_wp2
      go_ret
      exact ⟨ret_str (by rw [HE.out, ← txt_append]), HG.out⟩
--% NumTextS 19 43
theorem numTextS_lo (k : Nat) (n : Int) (w : World) (h0 : 0 ≤ n) (h1 : n ≤ 281474976710655) (h10 : n < 10) :
    Calls Try.prog 19 #[.int .i64 n] w (RetV (.string (txt (decs (k + 1) n))) w) := by
  have hb := inB_true h0 h1
  have HE := Lib.hid (decs_lo (k := k) h10)
  have hcv := run_txt (P := Try.prog) Try.underlying28 Try.underlying5 Try.underlying9 (rd_built w 5 1 1 ([48 + n].map (Value.int .u8)) rfl (by decide))
  simp only [List.map_cons, List.map_nil] at hcv
  go_enter Try.func19, Try.ntmps19
  go_wp2_with (go_at_call 43; refine (l01Num_any _ _).mono ?_; rintro e w' ⟨rfl, rfl⟩)
  go_ret
  exact ⟨ret_str (by rw [HE.out]), Grow.alloc _ _⟩
theorem numTextS_dec (k : Nat) : ∀ (n : Int) (w : World), 0 ≤ n → n ≤ 281474976710655 → n < 10 ^ (k + 1) → k < 20 →
    Calls Try.prog 19 #[.int .i64 n] w (RetV (.string (txt (decs (k + 1) n))) w) := by
  induction k with
  | zero =>
    intro n w h0 h1 h2 _
    exact numTextS_lo 0 n w h0 h1 (by simpa using h2)
  | succ k ih =>
    intro n w h0 h1 h2 hk
    by_cases h10 : n < 10
    · exact numTextS_lo (k + 1) n w h0 h1 h10
    · have hb := inB_true h0 h1
      have HE := Lib.hid (decs_hi (k := k + 1) h10)
      have IH := Lib.hid (fun (w : World) => ih (n / 10) w (by omega) (by omega) (by have : (10 : Int) ^ (k + 1 + 1) = 10 ^ (k + 1) * 10 := Int.pow_succ ..; omega) (by omega))
      have hl := decs_length (k + 1) (n / 10)
      have hadd : (txt (decs (k + 1) (n / 10))).size + (txt [48 + n % 10]).size ≤ 9223372036854775807 := by rw [txt_size, txt_size]; simp; omega
      have hne : Nonempty (Cl (Grow w)) := ⟨⟨w, Grow.refl _⟩⟩
      have HCV := Lib.hid (fun (w0 w1 : World) (g : Grow (w0.alloc (.cells #[Value.int .u8 (48 + n % 10)] 5)) w1) => run_txt (P := Try.prog) (w := w1) Try.underlying28 Try.underlying5 Try.underlying9 ((rd_built w0 5 1 1 ([48 + n % 10].map (Value.int .u8)) rfl (by decide)).grow g))
      clear h2 ih
      go_enter Try.func19, Try.ntmps19
      go_wp2_with (go_at_call 43; refine (l01Num_any _ _).mono ?_; rintro e w' ⟨rfl, rfl⟩)
      refine wp_region_mix (Cls (Grow w)) 11 #[false, false, false, false, false, false, false, false, false, false, false] (by kernel_rfl) (by kernel_rfl) ⟨⟨_, Grow.drewN _ 1⟩, rfl⟩ ?_
      refine anyC_seg [0, 1, 3, 4, 5, 6] #[true, true, false, true, true, true, true, false, false, false, false] (fuel := 5) rfl (by kernel_rfl) ⟨⟨_, Grow.drewN _ 1⟩, rfl⟩ ?_
      simp only [pickOps, List.getD_cons_succ, List.getD_cons_zero]
      repeat (go_big_quiet_step (fail))
      refine wpQuiet_nil ?_
      refine anyC_two 2 7 #[true, true, true, true, true, true, true, false, false, false, false] #[true, true, false, true, true, true, true, true, false, false, false] (fuel := 4) (by kernel_rfl) ?_ ?_
      · simp only [List.getD_cons_succ, List.getD_cons_zero]
        go_wp2_with fail
        refine (IH.out _).mono ?_
        rintro e w1 ⟨rfl, hg⟩
        have HG1 : Hid (Grow w w1) := Lib.hid ((Grow.drewN w 1).trans hg); clear hg
        go_wp2
        refine ⟨⟨⟨_, HG1.out⟩, rfl⟩, ?_⟩
        refine anyC_sole 7 #[true, true, true, true, true, true, true, true, false, false, false] (fuel := 3) (by kernel_rfl) ?_
        simp only [List.getD_cons_succ, List.getD_cons_zero]
        go_wp2
        refine ⟨⟨⟨_, HG1.out.trans (Grow.alloc _ _)⟩, rfl⟩, ?_⟩
        have hcv := HCV.out w1 _ (Grow.refl _)
        refine anyC_sole 8 #[true, true, true, true, true, true, true, true, true, false, false] (fuel := 2) (by kernel_rfl) ?_
        simp only [List.getD_cons_succ, List.getD_cons_zero]
        go_wp2
        refine ⟨⟨⟨_, HG1.out.trans (Grow.alloc _ _)⟩, rfl⟩, ?_⟩
        clear hcv
        refine anyC_seg [9, 10] #[true, true, true, true, true, true, true, true, true, true, true] (fuel := 0) rfl (by kernel_rfl) ⟨⟨_, HG1.out.trans (Grow.alloc _ _)⟩, rfl⟩ ?_
        simp only [pickOps, List.getD_cons_succ, List.getD_cons_zero]
        repeat (go_big_quiet_step (fail))
        refine wpQuiet_nil ?_
        refine anyC_done (by kernel_rfl) ?_
        go_wp2
        go_ret
        exact ⟨ret_str (by rw [HE.out, ← txt_append]), HG1.out.trans (Grow.alloc _ _)⟩
      · simp only [List.getD_cons_succ, List.getD_cons_zero]
        go_wp2
        refine ⟨⟨⟨_, (Grow.drewN w 1).trans (Grow.alloc _ _)⟩, rfl⟩, ?_⟩
        refine anyC_two 2 8 #[true, true, true, true, true, true, true, true, false, false, false] #[true, true, false, true, true, true, true, true, true, false, false] (fuel := 3) (by kernel_rfl) ?_ ?_
        · simp only [List.getD_cons_succ, List.getD_cons_zero]
          go_wp2_with fail
          refine (IH.out _).mono ?_
          rintro e w1 ⟨rfl, hg⟩
          have hcv := HCV.out (w.drewN 1) _ hg
          simp only [World.heap_drewN] at hcv
          have HG1 : Hid (Grow w w1) := Lib.hid (((Grow.drewN w 1).trans (Grow.alloc _ _)).trans hg); clear hg
          go_wp2
          refine ⟨⟨⟨_, HG1.out⟩, rfl⟩, ?_⟩
          refine anyC_sole 8 #[true, true, true, true, true, true, true, true, true, false, false] (fuel := 2) (by kernel_rfl) ?_
          simp only [List.getD_cons_succ, List.getD_cons_zero]
          go_wp2
          refine ⟨⟨⟨_, HG1.out⟩, rfl⟩, ?_⟩
          clear hcv
          refine anyC_seg [9, 10] #[true, true, true, true, true, true, true, true, true, true, true] (fuel := 0) rfl (by kernel_rfl) ⟨⟨_, HG1.out⟩, rfl⟩ ?_
          simp only [pickOps, List.getD_cons_succ, List.getD_cons_zero]
          repeat (go_big_quiet_step (fail))
          refine wpQuiet_nil ?_
          refine anyC_done (by kernel_rfl) ?_
          go_wp2
          go_ret
          exact ⟨ret_str (by rw [HE.out, ← txt_append]), HG1.out⟩
        · simp only [List.getD_cons_succ, List.getD_cons_zero]
          have hcv := HCV.out (w.drewN 1) _ (Grow.refl _)
          simp only [World.heap_drewN] at hcv
          go_wp2
          refine ⟨⟨⟨_, (Grow.drewN w 1).trans (Grow.alloc _ _)⟩, rfl⟩, ?_⟩
          clear hcv
          refine anyC_sole 2 #[true, true, true, true, true, true, true, true, true, false, false] (fuel := 2) (by kernel_rfl) ?_
          simp only [List.getD_cons_succ, List.getD_cons_zero]
          go_wp2_with fail
          refine (IH.out _).mono ?_
          rintro e w1 ⟨rfl, hg⟩
          have HG1 : Hid (Grow w w1) := Lib.hid (((Grow.drewN w 1).trans (Grow.alloc _ _)).trans hg); clear hg
          go_wp2
          refine ⟨⟨⟨_, HG1.out⟩, rfl⟩, ?_⟩
          refine anyC_seg [9, 10] #[true, true, true, true, true, true, true, true, true, true, true] (fuel := 0) rfl (by kernel_rfl) ⟨⟨_, HG1.out⟩, rfl⟩ ?_
          simp only [pickOps, List.getD_cons_succ, List.getD_cons_zero]
          repeat (go_big_quiet_step (fail))
          refine wpQuiet_nil ?_
          refine anyC_done (by kernel_rfl) ?_
          go_wp2
          go_ret
          exact ⟨ret_str (by rw [HE.out, ← txt_append]), HG1.out⟩
--% each impl.NumText;I;impl.isNumber;isNumber_any
theorem numTextI_any (w : World) (n : Int) (hn : -9223372036854775808 ≤ n ∧ n ≤ 9223372036854775807) :
    Calls Try.prog 20 #[.int .i64 n] w (RetV (.string (txt (numText n))) w) := by
  by_cases h : 0 ≤ n ∧ n ≤ 281474976710655
  · have e : numText n = decs 16 n := by unfold numText; rw [if_pos h]
    rw [e]
    exact numTextI_dec 15 n w h.1 h.2 (by omega) (by omega)
  · have HE : Hid (numText n = []) := Lib.hid (by unfold numText; rw [if_neg h])
    have hb : inB 0 281474976710655 n = false := inB_false (by omega)
    clear h
    go_enter Try.func20, Try.ntmps20
    go_wp2_with (go_at_call 44; refine (isNumber_any _ _).mono ?_; rintro e w' ⟨rfl, rfl⟩)
    go_ret
    exact ⟨ret_str (by rw [HE.out]; rfl), Grow.refl _⟩
--% each spec.NumText;S;spec.l01Num;l01Num_any
theorem numTextS_any (w : World) (n : Int) (hn : -9223372036854775808 ≤ n ∧ n ≤ 9223372036854775807) :
    Calls Try.prog 19 #[.int .i64 n] w (RetV (.string (txt (numText n))) w) := by
  by_cases h : 0 ≤ n ∧ n ≤ 281474976710655
  · have e : numText n = decs 16 n := by unfold numText; rw [if_pos h]
    rw [e]
    exact numTextS_dec 15 n w h.1 h.2 (by omega) (by omega)
  · have HE : Hid (numText n = []) := Lib.hid (by unfold numText; rw [if_neg h])
    have hb : inB 0 281474976710655 n = false := inB_false (by omega)
    clear h
    go_enter Try.func19, Try.ntmps19
    go_wp2_with (go_at_call 43; refine (l01Num_any _ _).mono ?_; rintro e w' ⟨rfl, rfl⟩)
    go_ret
    exact ⟨ret_str (by rw [HE.out]; rfl), Grow.refl _⟩
--%
end Go.Proofs.Ytgbaaapneddcoaa
