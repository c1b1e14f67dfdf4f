/- A smaller copy of texts of this seat, made by pack.py for one law. -/
import Derived.Test.YtckmdibjkklhkaaQFnExactGroupsOfPAllx0
import Derived.Test.YtckmdibjkklhkaaQFnExactGroupsOfPAllx1
import Derived.Test.YtckmdibjkklhkaaQFnExactGroupsOfPAllx3
import Derived.Test.YtckmdibjkklhkaaQFnExactGroupsOfLemA
import Derived.Test.YtckmdibjkklhkaaQFnExactGroupsOfBase2
import Derived.Test.YtckmdibjkklhkaaQFnExactGroupsOfPAllx22
import Derived.Test.YtckmdibjkklhkaaQFnExactGroupsOfPAllx23
namespace Go.Proofs.Ytckmdibjkklhkaa.PAll
open Go.RowKit Go.Proofs.YtckmdibjkklhkaaW.PrintWords Go.Proofs.YtckmdibjkklhkaaW.PrintLast Go.Proofs.YtckmdibjkklhkaaW.PrintMore
attribute [local go_sem] max2_int min2_int max_two min_two max_three min_three max_four min_four
set_option linter.unusedVariables false
set_option linter.unusedSimpArgs false
end Go.Proofs.Ytckmdibjkklhkaa.PAll
namespace Go.Proofs.Ytckmdibjkklhkaa.Lem
open Go.RowKit Go.Proofs.Ytckmdibjkklhkaa.PAll Go.Proofs.Ytckmdibjkklhkaa.Base Go.Proofs.YtckmdibjkklhkaaW.PrintWords Go.Proofs.YtckmdibjkklhkaaW.PrintLast Go.Proofs.YtckmdibjkklhkaaW.PrintMore
set_option linter.unusedVariables false
set_option linter.unusedSimpArgs false
theorem suit_eq {c : Int} (h : Card c) : impl_suit.f c = some (c / 13) := by
  unfold impl_suit.f; rw [card_div h, w64 (by have := h.1; omega) (by have := h.2; omega)]
end Go.Proofs.Ytckmdibjkklhkaa.Lem
