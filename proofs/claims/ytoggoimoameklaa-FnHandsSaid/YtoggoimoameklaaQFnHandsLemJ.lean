/- A smaller copy of a text of this seat, made by pack.py for one law. -/
import Derived.Test.YtoggoimoameklaaQFnHandsLemA
import Derived.Test.YtoggoimoameklaaQFnHandsPAllx13
import Derived.Test.YtoggoimoameklaaQFnHandsPAllx29
import Derived.Test.YtoggoimoameklaaQFnHandsLemD
import Derived.Test.YtoggoimoameklaaQFnHandsPAllx19
import Derived.Test.YtoggoimoameklaaQFnHandsPAllx25
import Derived.Test.YtoggoimoameklaaQFnHandsPAllx0
import Derived.Test.YtoggoimoameklaaQFnHandsPAllx21
import Derived.Test.YtoggoimoameklaaQFnHandsPAllx23
import Derived.Test.YtoggoimoameklaaQFnHandsPAllx27
namespace Go.Proofs.Ytoggoimoameklaa.Lem
open Go.RowKit Go.Proofs.Ytoggoimoameklaa.PAll Go.Proofs.Ytoggoimoameklaa.Base Go.Proofs.YtoggoimoameklaaW.PrintWords Go.Proofs.YtoggoimoameklaaW.PrintLast Go.Proofs.YtoggoimoameklaaW.PrintMore
set_option linter.unusedVariables false
set_option linter.unusedSimpArgs false
def dropL (l : List Int) (x : Int) : List Int := l.filter fun y => !decide (y = x)
def withoutL (l : List Int) (x : Int) : List Int × Int := if Hand l then (if x ∈ l then (dropL l x, 0) else ([], 4)) else ([], 1)
theorem implWithout_eq (l : List Int) (x : Int) (hl : l.length ≤ 2000000) (k : Nat) (hk : l.length < k) : impl_HandWithout.f k l x = some (withoutL l x) := by
  unfold impl_HandWithout.f withoutL
  rw [implHand_eq l (by omega) k (by omega), Option.bind_some]
  by_cases h : Hand l
  · rw [if_pos (by simpa using h), if_pos h, contains_eq l hl x k hk, Option.bind_some]
    by_cases h2 : x ∈ l
    · have e : impl_without.f l x = some (dropL l x) := by unfold impl_without.f dropL; rw [if_pos (by omega)]
      rw [if_pos (by simpa using h2), if_pos h2, e, Option.bind_some]
    · rw [if_neg (by simpa using h2), if_neg h2]
  · rw [if_neg (by simpa using h), if_neg h]
end Go.Proofs.Ytoggoimoameklaa.Lem
