/- A smaller copy of a text of this seat, made by pack.py for one law. -/
import Derived.Test.YtoggoimoameklaaQFnExactSuitOrdersPAllx38
import Derived.Test.YtoggoimoameklaaQFnExactSuitOrdersLemN
import Derived.Test.YtoggoimoameklaaQFnExactSuitOrdersLemO
namespace Go.Proofs.Ytoggoimoameklaa.Pure
open Go.RowKit Go.Proofs.Ytoggoimoameklaa.PAll Go.Proofs.Ytoggoimoameklaa.Base Go.Proofs.Ytoggoimoameklaa.Lem Go.Proofs.YtoggoimoameklaaW.PrintWords Go.Proofs.YtoggoimoameklaaW.PrintLast Go.Proofs.YtoggoimoameklaaW.PrintMore
set_option linter.unusedVariables false
set_option linter.unusedSimpArgs false
theorem FnExactSuitOrders : laws_FnExactSuitOrders.Pure := by
  intro a0
  obtain ⟨h1, h2⟩ := orders_rows a0
  have ht : ∀ l : List (List Int), (∀ y ∈ l, y.length = 4) → total l = 4 * l.length := by
    intro l
    induction l with
    | nil => intro _; rfl
    | cons x t ih => intro h; simp only [total, List.length_cons]; rw [h x List.mem_cons_self, ih fun y hy => h y (List.mem_cons_of_mem _ hy)]; omega
  have htt := ht _ h2
  refine ⟨3000, suitOrders a0, specSuitOrders_eq a0 _ (by omega), implSuitOrders_eq a0 _ (by omega), ?_, ?_, by omega, by omega⟩
  · rw [eqSS_eq _ _ 4 (fun x hx => by rw [h2 x hx]; omega) (by omega) (by omega) _ (by omega)]; simp
  · exact heldSS_eq _ 1 (by omega) (by omega) (by omega) _ (by omega)
end Go.Proofs.Ytoggoimoameklaa.Pure
