/- A smaller copy of texts of this seat, made by pack.py for one law. -/
import Derived.Test.YtckmdibjkklhkaaQFnExactGroupsOfPAllx0
import Derived.Shelf.Strings.Builder1
import Derived.Shelf.Strings.Builder2
import Derived.Shelf.Strings.OnBuilder
import Derived.Shelf.Small.Bits
import Derived.Shelf.Strconv.Itoa0
import Derived.Ground.SlgnProg
import Derived.Shelf.SlicesG.Turned
import Derived.Shelf.SlicesG.SearchI
import Derived.Shelf.SlicesE.Index
import Derived.Shelf.SlicesE.Reverse
import Derived.Shelf.SlicesE.Equal
import Derived.Shelf.SlicesE.Clone
import Derived.Ground.SlgfProg
import Derived.Shelf.SlicesE.IndexFunc
import Derived.Shelf.SlicesE.DeleteFunc
import Derived.Ground.SlgmProg
import Derived.Shelf.SortM.Plain
import Derived.Shelf.SortM.SortNone
import Derived.Test.YtckmdibjkklhkaaProg
import Derived.Test.YtckmdibjkklhkaaQFnExactGroupsOfGivB
import Derived.Lib.LaidU8
namespace Go.Proofs.Ytckmdibjkklhkaa.PAll
open Go.RowKit Go.Lib Go.Proofs.YtckmdibjkklhkaaW.PrintWords Go.Proofs.YtckmdibjkklhkaaW.PrintLast
set_option linter.unusedVariables false
theorem Kd.C_at {k : IntKind} {w : World} {A : Option Addr} {l : List Int} (h : Kd.C (Kd.int k) w A l.length l) :
    l = [] ∨ ∃ b off, A = some ⟨b, off, none⟩ ∧ ∀ j, j < l.length → w.cell? ⟨b, off + j, none⟩ = some (.int k (l.getD j 0)) := by
  cases A with
  | none => exact .inl (Kd.C_none_nil h)
  | some ad =>
    obtain ⟨b, off, sp⟩ := ad
    have hc : ∀ j, j < l.length → w.cell? (Addr.add ⟨b, off, sp⟩ j) = some (.int k (l.getD j 0)) := fun j hj => Kd.C_cells h j _ (by simp [nums, hj])
    by_cases hl : l.length = 0
    · exact .inl (List.eq_nil_of_length_eq_zero hl)
    · have h0 := hc 0 (by omega)
      have hs : sp = none := cell_spot (b := b) (o := off) (by simpa [Addr.add] using h0)
      subst hs
      refine .inr ⟨b, off, rfl, fun j hj => ?_⟩
      have := hc j hj
      unfold Addr.add at this
      split at this
      · rename_i e; subst e; exact this
      · exact this
end Go.Proofs.Ytckmdibjkklhkaa.PAll
