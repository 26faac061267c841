/- Drawn regions in which two operations are ready: the paths meet again. No program in sight. -/
import Derived.Test.YtgigdpdmdldhnaaReg
namespace Go.Proofs.Ytgigdpdmdldhnaa
open Go
/-- Paths of a drawn region that meet again: the one that goes on is named by its first end. -/
theorem viaM {G : Prop} {A C : Type} {F : Value → Value → A → C → A → C → Nat → World → Prop} (Facts : Value → Value → A → C → A → C → Nat → World → Prop)
    (rest : (∀ v1 v2 s0 c0 s1 c1 b W, Facts v1 v2 s0 c0 s1 c1 b W → F v1 v2 s0 c0 s1 c1 b W) → G)
    (main : ∀ v1 v2 s0 c0 s1 c1 b W, Facts v1 v2 s0 c0 s1 c1 b W → F v1 v2 s0 c0 s1 c1 b W) : G := rest main
theorem viaB {G : Prop} {A C : Type} {F : A → C → Nat → World → Prop} (Facts : A → C → Nat → World → Prop)
    (rest : (∀ a c b W, Facts a c b W → F a c b W) → G) (main : ∀ a c b W, Facts a c b W → F a c b W) : G := rest main
section
variable {P : Program} {md : Region.Mode} {C : World → Prop}
theorem anyC_two_ {Q : Act → World → Prop} {l : List Oper} (i j : Nat) (li lj : Array Bool) {fuel : Nat} {listed : Array Bool} {a : Act} {w : World}
    (hB : (decide (i < l.length) && decide (j < l.length) && decide (Region.ready md l.toArray listed = [i, j]) && decide (listed.setIfInBounds i true = li) && decide (listed.setIfInBounds j true = lj)) = true)
    (h2 : wpList P l.toArray (soleQ C (wpAnyC P md l.toArray C Q fuel lj)) [l.getD j default] a w)
    (h1 : wpList P l.toArray (soleQ C (wpAnyC P md l.toArray C Q fuel li)) [l.getD i default] a w) : wpAnyC P md l.toArray C Q (fuel + 1) listed a w := anyC_two i j li lj hB h1 h2
end
end Go.Proofs.Ytgigdpdmdldhnaa
