/- A smaller copy of a text of this seat, made by pack.py for one law. -/
import Derived.Test.YtoggoimoameklaaQFnExactNextSubsetLemE
import Derived.Test.YtoggoimoameklaaQFnExactNextSubsetPAllx0
namespace Go.Proofs.Ytoggoimoameklaa.Lem
open Go.RowKit Go.Proofs.Ytoggoimoameklaa.PAll Go.Proofs.Ytoggoimoameklaa.Base
theorem unrankSub_len (l : List Int) (q m : Int) : (unrankSub l q m).1.length ≤ l.length := by
  unfold unrankSub
  split
  · split
    · split
      · exact unrankL_len l _ m
      · simp
    · simp
  · simp
end Go.Proofs.Ytoggoimoameklaa.Lem
