/- A smaller copy of a text of this seat, made by pack.py for one law. -/
import Derived.Test.YtckmdibjkklhkaaQFnExactDealNumbersPAllx0
import Derived.Test.YtckmdibjkklhkaaQFnExactDealNumbersShelfC
import Derived.Test.YtckmdibjkklhkaaQFnExactDealNumbersGivI
import Derived.Test.YtckmdibjkklhkaaQFnExactDealNumbersLemP
namespace Go.Proofs.Ytckmdibjkklhkaa.PAll
open Go.RowKit Go.Lib Go.Sort Go.Proofs.Ytckmdibjkklhkaa.Base Go.Proofs.YtckmdibjkklhkaaW.PrintWords Go.Proofs.YtckmdibjkklhkaaW.PrintLast
set_option linter.unusedVariables false
def Seen (w : World) : Type := { x : Option Addr × Nat × List Int // Kd.C (Kd.int .i64) w x.1 x.2.2.length x.2.2 ∧ x.2.2.length ≤ 4611686018427387904 }
def Seen.enc {w : World} (x : Seen w) : Value := .slice x.1.1 x.1.2.2.length x.1.2.1
def Seen.l {w : World} (x : Seen w) : List Int := x.1.2.2
instance (w : World) : Inhabited (Seen w) := ⟨⟨(none, 0, []), Kd.C_nil _ _, by simp⟩⟩
end Go.Proofs.Ytckmdibjkklhkaa.PAll
