/- A smaller copy of a text of this seat, made by pack.py for one law. -/
import Derived.Test.YtoggoimoameklaaQFnExactHandWithPAllx0
import Derived.Test.YtoggoimoameklaaQFnExactHandWithPAllx1
import Derived.Test.YtoggoimoameklaaQFnExactHandWithPAllx15
import Derived.Test.YtoggoimoameklaaQFnExactHandWithShelfC
import Derived.Test.YtoggoimoameklaaQFnExactHandWithGivB
import Derived.Shelf.Strings.Builder1
import Derived.Shelf.Strings.Builder2
import Derived.Shelf.Strings.OnBuilder
import Derived.Shelf.Small.Bits
import Derived.Shelf.Small.Strs
import Derived.Shelf.Strconv.Itoa0
import Derived.Shelf.Strings.Search1
import Derived.Ground.SlgnProg
import Derived.Shelf.SlicesG.Turned
import Derived.Shelf.SlicesG.SearchI
import Derived.Shelf.SlicesE.Index
import Derived.Shelf.SlicesE.Reverse
import Derived.Shelf.SlicesE.Equal
import Derived.Ground.SlgfProg
import Derived.Shelf.SlicesE.IndexFunc
import Derived.Shelf.SlicesE.DeleteFunc
import Derived.Ground.SlgmProg
import Derived.Shelf.SortM.Plain
import Derived.Shelf.SortM.SortNone
import Derived.Test.YtoggoimoameklaaProg
import Derived.Sort.OwnSortedInts
import Derived.Test.YtoggoimoameklaaQFnExactHandWithGivD
namespace Go.Proofs.Ytoggoimoameklaa.PAll
open Go.RowKit Go.Proofs.YtoggoimoameklaaW.PrintWords Go.Proofs.YtoggoimoameklaaW.PrintLast Go.Proofs.YtoggoimoameklaaW.PrintMore
attribute [local go_sem] max2_int min2_int max_two min_two max_three min_three max_four min_four
set_option linter.unusedVariables false
set_option linter.unusedSimpArgs false
end Go.Proofs.Ytoggoimoameklaa.PAll
