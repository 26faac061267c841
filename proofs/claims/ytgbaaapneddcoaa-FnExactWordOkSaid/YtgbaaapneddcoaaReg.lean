/- Regions that draw their order and both read and write: quiet operations are taken first, the others one at a time when no other is ready. No program in sight. -/
import Derived.Deep.QuietTactic
import Derived.BigQuiet
namespace Go.Proofs.Ytgbaaapneddcoaa
open Go
section
variable {P : Program} {ops : Array Oper} {md : Region.Mode} {C : World → Prop}

/-- A world of the class C. -/
structure Cl (C : World → Prop) where
  w : World
  ok : C w
/-- The class, in the form that the walk sees through. -/
abbrev Cls (C : World → Prop) : World → Prop := fun w' => ∃ x : Cl C, w' = x.w

/-- Operation number i comes up; what it leaves is of the class. -/
def opC (P : Program) (ops : Array Oper) (C : World → Prop) (i : Nat) (K : Act → World → Prop) (a : Act) (w : World) : Prop :=
  match ops[i]? with
  | none => K a w
  | some o => if Region.wanted o (yielded ops a.tmps) then o.wp P a w (fun a' w' => C w' ∧ K a' w') (fun _ _ _ => False) else K (a.put o.dst undef) w

/-- Whatever order is picked from here on. -/
def wpAnyC (P : Program) (md : Region.Mode) (ops : Array Oper) (C : World → Prop) (Q : Act → World → Prop) : Nat → Array Bool → Act → World → Prop
  | 0, listed, a, w => Region.ready md ops listed = [] ∧ Q a w
  | fuel + 1, listed, a, w =>
    (Region.ready md ops listed = [] → Q a w) ∧
    ∀ i ∈ Region.ready md ops listed, opC P ops C i (wpAnyC P md ops C Q fuel (listed.setIfInBounds i true)) a w

theorem opC_mono {i : Nat} {a : Act} {w : World} {K K' : Act → World → Prop} (hC : C w) (h : ∀ a w, C w → K a w → K' a w)
    (hh : opC P ops C i K a w) : opC P ops C i K' a w := by
  unfold opC at *
  split
  · exact h _ _ hC (by simpa [*] using hh)
  · rename_i o ho
    simp only [ho] at hh
    split
    · rename_i hw; simp only [hw, if_true] at hh; exact Oper.wp_mono (fun a w ⟨h1, h2⟩ => ⟨h1, h _ _ h1 h2⟩) hh
    · rename_i hw; simp only [hw] at hh; exact h _ _ hC hh

theorem wp_weaken {o : Oper} {a : Act} {w : World} {K : Act → World → Prop} {Q Q' : Exit → Act → World → Prop}
    (hq : ∀ c a w, Q (.panic c) a w → Q' (.panic c) a w) (hg : ∀ a w, Q .outgrown a w → Q' .outgrown a w) (hh : o.wp P a w K Q) : o.wp P a w K Q' := by
  unfold Oper.wp at *
  generalize (execOp a.eval o).run P w = r at *
  cases r with
  | ok n w' =>
    cases n <;> simp only [Oper.upon] at hh ⊢ <;>
      first
        | exact hh
        | exact Calls.mono hh (fun e w'' he => by
            cases e with
            | returned v => exact he
            | panicked c => exact hq _ _ _ he
            | outgrown => obtain ⟨a0, w0, h0⟩ := he; exact ⟨a0, w0, hg _ _ h0⟩)
  | halt x w' => cases x <;> simp only [Oper.upon] at hh ⊢ <;> first | exact hh | exact hq _ _ _ hh

theorem wpAny_of_anyC {Q : Act → World → Prop} {Q' : Exit → Act → World → Prop} (hQ : ∀ a w, C w → Q a w → Q' .normal a w) :
    ∀ (fuel : Nat) (listed : Array Bool) (a : Act) (w : World), C w → wpAnyC P md ops C Q fuel listed a w → wpAny P md ops Q' fuel listed a w
  | 0, _, _, _, hw, h => ⟨h.1, hQ _ _ hw h.2⟩
  | fuel + 1, _, _, w, hw, h => ⟨fun h0 => hQ _ _ hw (h.1 h0), fun i hi => by
      have h1 := h.2 i hi
      unfold opC at h1
      unfold wpOp
      split
      · rename_i ho; simp only [ho] at h1; exact wpAny_of_anyC hQ fuel _ _ _ hw h1
      · rename_i o ho
        simp only [ho] at h1
        split
        · rename_i hwn
          simp only [hwn, if_true] at h1
          exact .inl (wp_weaken (fun _ _ _ h => h.elim) (fun _ _ h => h.elim) (Oper.wp_mono (fun a w ⟨c, k⟩ => wpAny_of_anyC hQ fuel _ a w c k) h1))
        · rename_i hwn; simp only [hwn] at h1; exact wpAny_of_anyC hQ fuel _ _ _ hw h1⟩

/-- In state 'a', IN EVERY WORLD OF THE CLASS, operation 'o' leaves 'v' in its temporary and the world as it is. -/
def Calm (P : Program) (ops : Array Oper) (C : World → Prop) (o : Oper) (v : Value) (a : Act) : Prop :=
  (Region.wanted o (yielded ops a.tmps) = true ∧ ∀ w, C w → (execOp a.eval o).run P w = .ok (.value v) w) ∨
  (Region.wanted o (yielded ops a.tmps) = false ∧ v = undef)
theorem Calm.of_same {o : Oper} {v : Value} {a a' : Act} (hy : Calm P ops C o v a) (he : execOp a'.eval o = execOp a.eval o)
    (hw : Region.wanted o (yielded ops a'.tmps) = Region.wanted o (yielded ops a.tmps)) : Calm P ops C o v a' := by
  unfold Calm at *
  rw [he, hw]
  exact hy
theorem Calm.opC {i : Nat} {o : Oper} {v : Value} {a : Act} {w : World} (hi : ops[i]? = some o) (hC : C w) (hy : Calm P ops C o v a) {K : Act → World → Prop}
    (h : K (a.put o.dst v) w) : opC P ops C i K a w := by
  unfold Go.Proofs.Ytgbaaapneddcoaa.opC
  simp only [hi]
  rcases hy with ⟨hw, hv⟩ | ⟨hw, rfl⟩
  · simp only [hw, if_true, Oper.wp, hv w hC, Oper.upon]; exact ⟨hC, h⟩
  · simp only [hw, Bool.false_eq_true, if_false]; exact h

/-- Another operation, apart from a calm one: whether the calm one has left its value already makes no difference. -/
theorem opC_put {j : Nat} {oi oj : Oper} {v : Value} (hj : ops[j]? = some oj) (hap : oi.apart ops oj = true)
    (hsi : ∀ cs b, oi.op ≠ .select cs b) (hsj : ∀ cs b, oj.op ≠ .select cs b) {K : Act → World → Prop} {a : Act} {w : World}
    (hy : Calm P ops C oi v a) (h : opC P ops C j K (a.put oi.dst v) w) :
    opC P ops C j (fun a' w' => Calm P ops C oi v a' ∧ K (a'.put oi.dst v) w') a w := by
  obtain ⟨h1, h2, h3⟩ := Oper.apart_spec hap
  have keep : ∀ (a : Act), Calm P ops C oi v a → ∀ u, Calm P ops C oi v (a.put oj.dst u) := fun a hy u =>
    hy.of_same (execOp_put oi hsi a oj.dst u h3) (wanted_put oi a oj.dst u h3)
  have keepD : ∀ d, Calm P ops C oi v { a with defers := d :: a.defers } := fun d => hy.of_same rfl rfl
  unfold opC at *
  simp only [hj] at *
  rw [wanted_put oj a oi.dst v h1] at h
  split
  · rename_i hw
    simp only [hw, if_true] at h
    unfold Oper.wp at *
    rw [execOp_put oj hsj a oi.dst v h1] at h
    generalize (execOp a.eval oj).run P w = r at *
    cases r with
    | ok n w' =>
      cases n <;> simp only [Oper.upon] at h ⊢
      case value u => exact ⟨h.1, keep a hy u, by rw [← Act.put_comm a v u h2]; exact h.2⟩
      case skip => exact ⟨h.1, keep a hy _, by rw [← Act.put_comm a v undef h2]; exact h.2⟩
      case defer d =>
        refine ⟨h.1, keep _ (keepD d) _, ?_⟩
        rw [← Act.put_comm _ v undef h2, ← Act.put_defers]
        exact h.2
      case enter f args =>
        refine Calls.mono h fun e w'' he => ?_
        cases e with
        | returned u => exact ⟨he.1, keep a hy u, by rw [← Act.put_comm a v u h2]; exact he.2⟩
        | panicked c => exact he
        | outgrown => exact he
      case row row args => exact Rows.mono h fun u w'' he => ⟨he.1, keep a hy u, by rw [← Act.put_comm a v u h2]; exact he.2⟩
    | halt x w' =>
      cases x <;> simp only [Oper.upon] at h ⊢
  · rename_i hw
    simp only [hw] at h
    exact ⟨keep a hy _, by rw [← Act.put_comm a v undef h2]; exact h⟩

/-- A calm operation that may come up now may be taken first. -/
theorem wpAnyC_first {Q : Act → World → Prop} {i : Nat} {oi : Oper} {v : Value} (hi : ops[i]? = some oi) (hsel : ∀ (j : Nat) (o : Oper) cs b, ops[j]? = some o → o.op ≠ .select cs b) :
    ∀ (fuel : Nat) (listed : Array Bool) (a : Act) (w : World), C w →
      (∀ j oj, ops[j]? = some oj → j ≠ i → listed.getD j true = false → (∀ e ∈ oj.after, Region.binds md e = true → e.on ≠ i) → oi.apart ops oj = true) →
      i ∈ Region.ready md ops listed → Calm P ops C oi v a →
      wpAnyC P md ops C Q fuel (listed.setIfInBounds i true) (a.put oi.dst v) w → wpAnyC P md ops C Q (fuel + 1) listed a w := by
  intro fuel
  induction fuel with
  | zero =>
    intro listed a w hC _ hr hy H
    refine ⟨fun h => (by rw [h] at hr; cases hr), fun j hj => ?_⟩
    by_cases hji : j = i
    · subst hji; exact hy.opC hi hC H
    · have := ready_mono hj hji
      rw [H.1] at this
      cases this
  | succ fuel ih =>
    intro listed a w hC hfree hr hy H
    refine ⟨fun h => (by rw [h] at hr; cases hr), fun j hj => ?_⟩
    by_cases hji : j = i
    · subst hji; exact hy.opC hi hC H
    · have h1 := H.2 j (ready_mono hj hji)
      obtain ⟨hjun, oj, hoj, hall⟩ := mem_ready.1 hj
      have hnot : ∀ e ∈ oj.after, Region.binds md e = true → e.on ≠ i := fun e he hb heq => by
        have h1 := hall e he hb
        have h0 := (mem_ready.1 hr).1
        rw [heq] at h1
        rcases Nat.lt_or_ge i listed.size with h' | h'
        · simp [h'] at h0 h1; rw [h0] at h1; cases h1
        · simp [Array.getElem?_eq_none h'] at h1
      have h2 := opC_put hoj (hfree j oj hoj hji hjun hnot) (fun cs b => hsel i oi cs b hi) (fun cs b => hsel j oj cs b hoj) hy h1
      have hfree' : ∀ k ok, ops[k]? = some ok → k ≠ i → (listed.setIfInBounds j true).getD k true = false →
          (∀ e ∈ ok.after, Region.binds md e = true → e.on ≠ i) → oi.apart ops ok = true := fun k ok hk hki hun hno => by
        refine hfree k ok hk hki ?_ hno
        by_cases hjk : j = k
        · subst hjk; exact hjun
        · rw [getD_set_ne true hjk] at hun; exact hun
      refine opC_mono hC (fun a' w' hC' h3 => ih (listed.setIfInBounds j true) a' w' hC' hfree' (ready_mono hr (Ne.symm hji)) h3.1 ?_) h2
      rw [Array.setIfInBounds_comm _ _ hji]
      exact h3.2

/-- Operations that are no calls and neither write nor make memory. -/
def calmOp : Op → Bool
  | .move _ | .assign _ | .pick .. | .build .. | .load .. | .binOp .. | .unOp .. | .convert .. | .slice .. | .fieldAddr .. | .field .. | .indexAddr .. | .index .. | .extract .. => true
  | .call c => match c.callee with | .builtin .len => true | _ => false
  | _ => false

theorem value_of_bind {s : Sem Value} {w w' : World} {n : Next} (h : (do pure (Next.value (← s)) : Sem Next).run P w = .ok n w') : ∃ u, n = .value u := by
  simp only [Sem.run_bind] at h
  cases hs : s.run P w with
  | ok v w1 => rw [hs] at h; simp [Result.andThen] at h; exact ⟨v, h.1.symm⟩
  | halt x w1 => rw [hs] at h; simp [Result.andThen] at h

theorem value_of_calm {ρ : Operand → Value} {o : Oper} (hc : calmOp o.op = true) {w w' : World} {n : Next} (h : (execOp ρ o).run P w = .ok n w') : ∃ u, n = .value u := by
  obtain ⟨dst, op, type, pos, after, guard⟩ := o
  cases op
  case call c =>
    obtain ⟨callee, args, ats⟩ := c
    cases callee with
    | value f => simp [calmOp] at hc
    | invoke r m => simp [calmOp] at hc
    | builtin b =>
      cases b <;> simp [calmOp] at hc
      simp only [execOp, resolve, invoke, Sem.run_bind, Sem.run_pure, Result.andThen_ok, builtin] at h
      exact value_of_bind (s := Builtin.len_ ats type (args.map ρ)) (P := P) (w := w) (w' := w') (by simp only [Sem.run_bind, Sem.run_pure]; exact h)
  case pick c x y =>
    simp only [execOp, Sem.run_bind] at h
    cases hs : (asBool (ρ c)).run P w with
    | ok v w1 => rw [hs] at h; simp [Result.andThen] at h; exact ⟨_, h.1.symm⟩
    | halt x w1 => rw [hs] at h; simp [Result.andThen] at h
  all_goals simp only [calmOp] at hc
  all_goals simp only [execOp] at h
  all_goals first
    | exact value_of_bind h
    | (simp at h; exact ⟨_, h.1.symm⟩)
    | (exact absurd hc (by simp))

/-- The order in which a segment's operations are taken, and what has been taken behind it. -/
def listAll (listed : Array Bool) : List Nat → Array Bool
  | [] => listed
  | i :: rest => listAll (listed.setIfInBounds i true) rest
def segB (md : Region.Mode) (ops : Array Oper) : Array Bool → List Nat → Bool
  | _, [] => true
  | listed, i :: rest => (Region.ready md ops listed).contains i && Region.free md ops listed i && (match ops[i]? with | some o => calmOp o.op | none => false) && segB md ops (listed.setIfInBounds i true) rest

theorem calm_of_quiet {o : Oper} {a : Act} {K : Act → Prop} (hc : calmOp o.op = true) (h : if Region.wanted o (yielded ops a.tmps) then o.quiet P a C K else K (a.put o.dst undef)) :
    ∃ v, Calm P ops C o v a ∧ K (a.put o.dst v) := by
  by_cases hw : Region.wanted o (yielded ops a.tmps) = true
  · simp only [hw, if_true] at h
    obtain ⟨v, h1, h2⟩ := h
    refine ⟨v, .inl ⟨hw, fun w hC => ?_⟩, h2⟩
    have h3 := h1 w hC
    unfold Oper.quietAt at h3
    cases hr : (execOp a.eval o).run P w with
    | ok n w' =>
      obtain ⟨u, rfl⟩ := value_of_calm hc hr
      rw [hr] at h3
      simp only [Oper.quietUpon] at h3
      obtain ⟨rfl, rfl⟩ := h3
      rfl
    | halt x w' => rw [hr] at h3; simp only [Oper.quietUpon] at h3
  · simp only [hw] at h
    exact ⟨undef, .inr ⟨by simpa using hw, rfl⟩, h⟩

/-- A segment of calm operations. -/
theorem anyC_segs {Q : Act → World → Prop} (hs : Region.noSelect ops = true) : ∀ (is : List Nat) (l : List Oper) (fuel : Nat) (listed : Array Bool) (a : Act) (w : World),
    is.map (ops[·]?) = l.map some → segB md ops listed is = true → C w →
    wpQuiet P ops C (fun a' => wpAnyC P md ops C Q fuel (listAll listed is) a' w) l a → wpAnyC P md ops C Q (fuel + is.length) listed a w
  | [], l, fuel, listed, a, w, hl, _, _, h => by
    cases l with
    | nil => exact h
    | cons o l => simp at hl
  | i :: is, l, fuel, listed, a, w, hl, hB, hC, h => by
    cases l with
    | nil => simp at hl
    | cons o l =>
      simp only [List.map_cons, List.cons.injEq] at hl
      obtain ⟨h0, hl⟩ := hl
      simp only [segB, Bool.and_eq_true, h0] at hB
      obtain ⟨⟨⟨hr, hf⟩, hc⟩, hB'⟩ := hB
      obtain ⟨v, hy, hK⟩ := calm_of_quiet hc h
      exact wpAnyC_first h0 (Region.noSelect_spec hs) (fuel + is.length) listed a w hC (Region.free_spec h0 hf) (by simpa using hr) hy
        (anyC_segs hs is l fuel _ _ w hl hB' hC hK)

def pickOps (l : List Oper) : List Nat → List Oper
  | [] => []
  | i :: is => l.getD i default :: pickOps l is
theorem pickOps_map {l : List Oper} : ∀ {is : List Nat}, (∀ i ∈ is, i < l.length) → is.map (l.toArray[·]?) = (pickOps l is).map some
  | [], _ => rfl
  | i :: is, h => by
    have hi : i < l.length := h i (by simp)
    simp only [List.map_cons, pickOps]
    rw [pickOps_map (fun j hj => h j (by simp [hj]))]
    simp [hi]

/-- As it is used: the operations written out. -/
theorem anyC_seg {Q : Act → World → Prop} {l : List Oper} (is : List Nat) (listed' : Array Bool) {n fuel : Nat} {listed : Array Bool} {a : Act} {w : World} (hn : fuel + is.length = n)
    (hB : (Region.noSelect l.toArray && is.all (· < l.length) && segB md l.toArray listed is && decide (listAll listed is = listed')) = true) (hC : C w)
    (h : wpQuiet P l.toArray C (fun a' => wpAnyC P md l.toArray C Q fuel listed' a' w) (pickOps l is) a) : wpAnyC P md l.toArray C Q n listed a w := by
  simp only [Bool.and_eq_true, decide_eq_true_eq, List.all_eq_true] at hB
  obtain ⟨⟨⟨hs, hi⟩, hB⟩, rfl⟩ := hB
  subst hn
  exact anyC_segs hs is _ fuel listed a w (pickOps_map hi) hB hC h

/-- What a single operation leaves. -/
def soleQ (C : World → Prop) (K : Act → World → Prop) : Exit → Act → World → Prop
  | .normal, a, w => C w ∧ K a w
  | _, _, _ => False

theorem opC_of_sole {K : Act → World → Prop} (i : Nat) {o : Oper} {a : Act} {w : World} (h0 : ops[i]? = some o)
    (h : wpList P ops (soleQ C K) [o] a w) : opC P ops C i K a w := by
  unfold opC
  simp only [h0]
  unfold wpList at h
  split
  · rename_i hw
    rw [if_pos hw] at h
    rcases h with h | ⟨_, a0, w0, h⟩
    · exact wp_weaken (fun _ _ _ q => q) (fun _ _ q => q) (Oper.wp_mono (fun a' w' k => k) h)
    · exact h.elim
  · rename_i hw
    rw [if_neg hw] at h
    exact h.2

/-- One operation that is not calm, no other being ready. -/
theorem anyC_sole {Q : Act → World → Prop} {l : List Oper} (i : Nat) (listed' : Array Bool) {fuel : Nat} {listed : Array Bool} {a : Act} {w : World}
    (hB : (decide (i < l.length) && decide (Region.ready md l.toArray listed = [i]) && decide (listed.setIfInBounds i true = listed')) = true)
    (h : wpList P l.toArray (soleQ C (wpAnyC P md l.toArray C Q fuel listed')) [l.getD i default] a w) : wpAnyC P md l.toArray C Q (fuel + 1) listed a w := by
  simp only [Bool.and_eq_true, decide_eq_true_eq] at hB
  obtain ⟨⟨hi, hr⟩, rfl⟩ := hB
  refine ⟨fun hn => (by rw [hr] at hn; cases hn), fun j hj => ?_⟩
  rw [hr] at hj
  obtain rfl : j = i := by simpa using hj
  exact opC_of_sole j (by simp [hi]) h

/-- Two operations are ready: each may come first. -/
theorem anyC_two {Q : Act → World → Prop} {l : List Oper} (i j : Nat) (li lj : Array Bool) {fuel : Nat} {listed : Array Bool} {a : Act} {w : World}
    (hB : (decide (i < l.length) && decide (j < l.length) && decide (Region.ready md l.toArray listed = [i, j]) && decide (listed.setIfInBounds i true = li) && decide (listed.setIfInBounds j true = lj)) = true)
    (h1 : wpList P l.toArray (soleQ C (wpAnyC P md l.toArray C Q fuel li)) [l.getD i default] a w)
    (h2 : wpList P l.toArray (soleQ C (wpAnyC P md l.toArray C Q fuel lj)) [l.getD j default] a w) : wpAnyC P md l.toArray C Q (fuel + 1) listed a w := by
  simp only [Bool.and_eq_true, decide_eq_true_eq] at hB
  obtain ⟨⟨⟨⟨hi, hj⟩, hr⟩, rfl⟩, rfl⟩ := hB
  refine ⟨fun hn => (by rw [hr] at hn; cases hn), fun k hk => ?_⟩
  rw [hr] at hk
  simp only [List.mem_cons, List.not_mem_nil, or_false] at hk
  rcases hk with rfl | rfl
  · exact opC_of_sole k (by simp [hi]) h1
  · exact opC_of_sole k (by simp [hj]) h2

theorem anyC_done {Q : Act → World → Prop} {l : List Oper} {listed : Array Bool} {a : Act} {w : World} (hB : decide (Region.ready md l.toArray listed = []) = true) (h : Q a w) : wpAnyC P md l.toArray C Q 0 listed a w :=
  ⟨of_decide_eq_true hB, h⟩

/-- THE REGION. C: what holds of the world all along. -/
theorem wp_region_mix (C : World → Prop) {id : Nat} {l : List Oper} {Q : Exit → Act → World → Prop} {a : Act} {w : World} (n : Nat) (listed : Array Bool) (hm : P.follows .mixedOrders = true)
    (hB : (decide (l.length = n) && decide (Array.replicate n false = listed)) = true)
    (hC : C (w.drewN 1)) (h : wpAnyC P .any l.toArray C (fun a w => Q .normal a w) n listed a (w.drewN 1)) : (Code.region id l.toArray true).wp P Q a w := by
  simp only [Bool.and_eq_true, decide_eq_true_eq] at hB
  obtain ⟨rfl, rfl⟩ := hB
  refine wp_region_any hm (wpAny_of_anyC (Q := fun a w => Q .normal a w) (fun _ _ _ h => h) _ _ _ _ hC ?_)
  rw [List.size_toArray]
  exact h
end
end Go.Proofs.Ytgbaaapneddcoaa
