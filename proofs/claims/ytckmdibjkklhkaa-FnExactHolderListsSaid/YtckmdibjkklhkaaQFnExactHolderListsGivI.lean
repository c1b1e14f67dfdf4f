/- A smaller copy of a text of this seat, made by pack.py for one law. -/
import Derived.Test.YtckmdibjkklhkaaQFnExactHolderListsPAllx0
import Derived.Test.YtckmdibjkklhkaaQFnExactHolderListsShelfC
import Derived.Test.YtckmdibjkklhkaaQFnExactHolderListsGivB
import Derived.Test.YtckmdibjkklhkaaQFnExactHolderListsGivC
import Derived.Test.YtckmdibjkklhkaaQFnExactHolderListsGivD0
import Derived.Sort.OwnSortedInts
namespace Go.Proofs.Ytckmdibjkklhkaa.PAll
open Go.RowKit Go.Lib Go.Sort Go.Proofs.YtckmdibjkklhkaaW.PrintWords Go.Proofs.YtckmdibjkklhkaaW.PrintLast
set_option linter.unusedVariables false
theorem C_block_lt {w : World} {A : Option Addr} {l : List Int} (h : Kd.C (Kd.int .i64) w A l.length l) : ∀ ad, A = some ad → 0 < l.length → ad.block < w.heap.size := by
  intro ad e hl
  rcases Kd.C_at h with rfl | ⟨b, off, rfl, hc⟩
  · simp at hl
  · injection e with e
    subst e
    exact World.block_lt_of_cell? w ⟨b, off + 0, none⟩ (hc 0 hl)
end Go.Proofs.Ytckmdibjkklhkaa.PAll
