/- A smaller copy of a text of this seat, made by pack.py for one law. -/
import Derived.Test.YtoggoimoameklaaQFnExactSuitOrdersBase2
namespace Go.Proofs.Ytoggoimoameklaa.Base
open Go.RowKit
set_option linter.unusedVariables false
set_option linter.unusedSimpArgs false
def sortL (l : List Int) : List Int := l.mergeSort fun x y => decide (x ≤ y)
theorem sortL_up (l : List Int) : (sortL l).Pairwise (· ≤ ·) := by
  have := List.pairwise_mergeSort (le := fun x y : Int => decide (x ≤ y)) (fun a b c h1 h2 => by simp at *; omega) (fun a b => by simp; omega) l
  exact this.imp fun h => by simpa using h
theorem sortL_perm (l : List Int) : (sortL l).Perm l := List.mergeSort_perm l _
def Deal (d : List (List Int)) : Prop := d.length = 4 ∧ (∀ h ∈ d, Hand h ∧ h.length = (d.getD 0 []).length) ∧ d.flatten.Nodup
instance (d : List (List Int)) : Decidable (Deal d) := inferInstanceAs (Decidable (_ ∧ _ ∧ _))
end Go.Proofs.Ytoggoimoameklaa.Base
