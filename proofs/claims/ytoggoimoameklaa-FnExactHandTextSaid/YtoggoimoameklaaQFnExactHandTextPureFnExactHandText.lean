/- A smaller copy of a text of this seat, made by pack.py for one law. -/
import Derived.Test.YtoggoimoameklaaQFnExactHandTextPAllx42
namespace Go.Proofs.Ytoggoimoameklaa.Pure
open Go.RowKit Go.Proofs.Ytoggoimoameklaa.PAll Go.Proofs.YtoggoimoameklaaW.PrintWords Go.Proofs.YtoggoimoameklaaW.PrintLast
theorem FnExactHandText : laws_FnExactHandText.Pure := by
  sorry
end Go.Proofs.Ytoggoimoameklaa.Pure
