/- A smaller copy of texts of this seat, made by pack.py for one law. -/
import Derived.Test.YtckmdibjkklhkaaQFnExactGroupsOfPAllx0
import Derived.Shelf.Strings.Builder1
import Derived.Shelf.Strings.Builder2
import Derived.Shelf.Strings.OnBuilder
import Derived.Shelf.Small.Bits
import Derived.Shelf.Strconv.Itoa0
import Derived.Ground.SlgnProg
import Derived.Shelf.SlicesG.Turned
import Derived.Shelf.SlicesG.SearchI
import Derived.Shelf.SlicesE.Index
import Derived.Shelf.SlicesE.Reverse
import Derived.Shelf.SlicesE.Equal
import Derived.Shelf.SlicesE.Clone
import Derived.Ground.SlgfProg
import Derived.Shelf.SlicesE.IndexFunc
import Derived.Shelf.SlicesE.DeleteFunc
import Derived.Ground.SlgmProg
import Derived.Shelf.SortM.Plain
import Derived.Shelf.SortM.SortNone
import Derived.Test.YtckmdibjkklhkaaProg
import Derived.Test.YtckmdibjkklhkaaQFnExactGroupsOfGivB
import Derived.Test.YtckmdibjkklhkaaQFnExactGroupsOfGivC
import Derived.Test.YtckmdibjkklhkaaQFnExactGroupsOfGivD0
import Derived.Sort.OwnSortedInts
import Derived.Test.YtckmdibjkklhkaaQFnExactGroupsOfLemP
namespace Go.Proofs.Ytckmdibjkklhkaa.PAll
open Go.RowKit Go.Lib Go.Sort Go.Proofs.YtckmdibjkklhkaaW.PrintWords Go.Proofs.YtckmdibjkklhkaaW.PrintLast
set_option linter.unusedVariables false
theorem C_block_lt {w : World} {A : Option Addr} {l : List Int} (h : Kd.C (Kd.int .i64) w A l.length l) : ∀ ad, A = some ad → 0 < l.length → ad.block < w.heap.size := by
  intro ad e hl
  rcases Kd.C_at h with rfl | ⟨b, off, rfl, hc⟩
  · simp at hl
  · injection e with e
    subst e
    exact World.block_lt_of_cell? w ⟨b, off + 0, none⟩ (hc 0 hl)
end Go.Proofs.Ytckmdibjkklhkaa.PAll
namespace Go.Proofs.Ytckmdibjkklhkaa.PAll
open Go.RowKit Go.Lib Go.Sort Go.Proofs.Ytckmdibjkklhkaa.Base Go.Proofs.YtckmdibjkklhkaaW.PrintWords Go.Proofs.YtckmdibjkklhkaaW.PrintLast
set_option linter.unusedVariables false
def Seen (w : World) : Type := { x : Option Addr × Nat × List Int // Kd.C (Kd.int .i64) w x.1 x.2.2.length x.2.2 ∧ x.2.2.length ≤ 4611686018427387904 }
def Seen.enc {w : World} (x : Seen w) : Value := .slice x.1.1 x.1.2.2.length x.1.2.1
def Seen.l {w : World} (x : Seen w) : List Int := x.1.2.2
instance (w : World) : Inhabited (Seen w) := ⟨⟨(none, 0, []), Kd.C_nil _ _, by simp⟩⟩
end Go.Proofs.Ytckmdibjkklhkaa.PAll
