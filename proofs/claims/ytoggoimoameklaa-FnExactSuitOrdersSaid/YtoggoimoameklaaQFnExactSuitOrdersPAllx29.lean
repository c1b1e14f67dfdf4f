/- A smaller copy of a text of this seat, made by pack.py for one law. -/
import Derived.Test.YtoggoimoameklaaQFnExactSuitOrdersPAllx0
import Derived.Test.YtoggoimoameklaaQFnExactSuitOrdersPAllx1
import Derived.Test.YtoggoimoameklaaQFnExactSuitOrdersPAllx11
import Derived.Test.YtoggoimoameklaaQFnExactSuitOrdersPAllx13
namespace Go.Proofs.Ytoggoimoameklaa.PAll
open Go.RowKit Go.Proofs.YtoggoimoameklaaW.PrintWords Go.Proofs.YtoggoimoameklaaW.PrintLast Go.Proofs.YtoggoimoameklaaW.PrintMore
attribute [local go_sem] max2_int min2_int max_two min_two max_three min_three max_four min_four
set_option linter.unusedVariables false
set_option linter.unusedSimpArgs false
end Go.Proofs.Ytoggoimoameklaa.PAll
