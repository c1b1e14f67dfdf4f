/- A smaller copy of texts of this seat, made by pack.py for one law. -/
import Derived.Test.YtckmdibjkklhkaaQFnExactGroupsOfPAllx0
import Derived.Test.YtckmdibjkklhkaaQFnExactGroupsOfPAllx1
import Derived.Test.YtckmdibjkklhkaaQFnExactGroupsOfLemD2
import Derived.Test.YtckmdibjkklhkaaQFnExactGroupsOfPAllx38
import Derived.Test.YtckmdibjkklhkaaQFnExactGroupsOfPAllx17
import Derived.Test.YtckmdibjkklhkaaQFnExactGroupsOfPAllx27
import Derived.Test.YtckmdibjkklhkaaQFnExactGroupsOfPAllx28
import Derived.Test.YtckmdibjkklhkaaQFnExactGroupsOfGivJ
import Derived.Test.YtckmdibjkklhkaaQFnExactGroupsOfGivK
namespace Go.Proofs.Ytckmdibjkklhkaa.PAll
open Go.RowKit Go.Proofs.YtckmdibjkklhkaaW.PrintWords Go.Proofs.YtckmdibjkklhkaaW.PrintLast Go.Proofs.YtckmdibjkklhkaaW.PrintMore
attribute [local go_sem] max2_int min2_int max_two min_two max_three min_three max_four min_four
set_option linter.unusedVariables false
set_option linter.unusedSimpArgs false
end Go.Proofs.Ytckmdibjkklhkaa.PAll
namespace Go.Proofs.Ytckmdibjkklhkaa.PAll
open Go.RowKit Go.Proofs.YtckmdibjkklhkaaW.PrintWords Go.Proofs.YtckmdibjkklhkaaW.PrintLast Go.Proofs.YtckmdibjkklhkaaW.PrintMore
attribute [local go_sem] max2_int min2_int max_two min_two max_three min_three max_four min_four
set_option linter.unusedVariables false
set_option linter.unusedSimpArgs false
end Go.Proofs.Ytckmdibjkklhkaa.PAll
