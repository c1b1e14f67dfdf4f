/- A smaller copy of a text of this seat, made by pack.py for one law. -/
import Derived.RowKit
namespace Go.Proofs.Ytoggoimoameklaa.Base
end Go.Proofs.Ytoggoimoameklaa.Base
namespace Go.Proofs.YtoggoimoameklaaW.PrintWords
end Go.Proofs.YtoggoimoameklaaW.PrintWords
namespace Go.Proofs.YtoggoimoameklaaW.PrintWords.Kd
end Go.Proofs.YtoggoimoameklaaW.PrintWords.Kd
namespace Go.Proofs.YtoggoimoameklaaW.PrintLast
end Go.Proofs.YtoggoimoameklaaW.PrintLast
namespace Go.Proofs.YtoggoimoameklaaW.PrintWords.Foot
end Go.Proofs.YtoggoimoameklaaW.PrintWords.Foot
namespace Go.Proofs.YtoggoimoameklaaW.PrintMore
end Go.Proofs.YtoggoimoameklaaW.PrintMore
namespace Go.Proofs.YtoggoimoameklaaW.PrintMore.Kd
end Go.Proofs.YtoggoimoameklaaW.PrintMore.Kd
namespace Go.Proofs.Ytoggoimoameklaa.PAll
end Go.Proofs.Ytoggoimoameklaa.PAll
namespace Go.Proofs.Ytoggoimoameklaa.Lem
end Go.Proofs.Ytoggoimoameklaa.Lem
namespace Go.Proofs
end Go.Proofs
namespace Go.Proofs.Ytoggoimoameklaa.Pure
end Go.Proofs.Ytoggoimoameklaa.Pure
namespace Go.Proofs.Ytoggoimoameklaa.Head
end Go.Proofs.Ytoggoimoameklaa.Head
namespace Go.Proofs.Ytoggoimoameklaa.fnExactSuitOrders
end Go.Proofs.Ytoggoimoameklaa.fnExactSuitOrders
namespace Go.Proofs.Ytoggoimoameklaa
end Go.Proofs.Ytoggoimoameklaa
namespace Go.Proofs.Ytoggoimoameklaa.Base
open Go.RowKit
theorem w64 {n : Int} (h0 : -9223372036854775808 ≤ n) (h1 : n ≤ 9223372036854775807) : wrap64 n = n := by unfold wrap64; omega
def Card (c : Int) : Prop := 0 ≤ c ∧ c ≤ 51
instance (c : Int) : Decidable (Card c) := inferInstanceAs (Decidable (_ ∧ _))
def Cards (l : List Int) : Prop := (∀ x ∈ l, Card x) ∧ l.Pairwise (· < ·)
instance (l : List Int) : Decidable (Cards l) := inferInstanceAs (Decidable (_ ∧ _))
def Hand (l : List Int) : Prop := l.length ≤ 13 ∧ Cards l
instance (l : List Int) : Decidable (Hand l) := inferInstanceAs (Decidable (_ ∧ _))
end Go.Proofs.Ytoggoimoameklaa.Base
