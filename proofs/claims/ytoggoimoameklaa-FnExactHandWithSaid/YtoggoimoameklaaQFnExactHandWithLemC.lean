/- A smaller copy of a text of this seat, made by pack.py for one law. -/
import Derived.Test.YtoggoimoameklaaQFnExactHandWithLemA
import Derived.Test.YtoggoimoameklaaQFnExactHandWithPAllx11
namespace Go.Proofs.Ytoggoimoameklaa.Lem
open Go.RowKit Go.Proofs.Ytoggoimoameklaa.PAll Go.Proofs.Ytoggoimoameklaa.Base Go.Proofs.YtoggoimoameklaaW.PrintWords Go.Proofs.YtoggoimoameklaaW.PrintLast Go.Proofs.YtoggoimoameklaaW.PrintMore
set_option linter.unusedVariables false
set_option linter.unusedSimpArgs false
def Bytes (l : List Int) : Prop := (∀ x ∈ l, 0 ≤ x ∧ x ≤ 255) ∧ l.length ≤ 1000000
structure Src (l : List Int) (a s : Int) : Prop where
  bytes : Bytes l
  a0 : 0 ≤ a
  a1 : a ≤ l.length
  s0 : 0 ≤ s
  s1 : s < 2147483647
end Go.Proofs.Ytoggoimoameklaa.Lem
