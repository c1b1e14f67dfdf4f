/- A smaller copy of texts of this seat, made by pack.py for one law. -/
import Derived.Test.YtckmdibjkklhkaaQFnExactGroupsOfPAllx0
import Derived.Test.YtckmdibjkklhkaaQFnExactGroupsOfPAllx1
import Derived.Test.YtckmdibjkklhkaaQFnExactGroupsOfPAllx3
import Derived.Test.YtckmdibjkklhkaaQFnExactGroupsOfGivK
import Derived.Test.YtckmdibjkklhkaaQFnExactGroupsOfGivN
import Derived.Test.YtckmdibjkklhkaaQFnExactGroupsOfLemS
namespace Go.Proofs.Ytckmdibjkklhkaa.PAll
open Go.RowKit Go.Proofs.YtckmdibjkklhkaaW.PrintWords Go.Proofs.YtckmdibjkklhkaaW.PrintLast Go.Proofs.YtckmdibjkklhkaaW.PrintMore
attribute [local go_sem] max2_int min2_int max_two min_two max_three min_three max_four min_four
set_option linter.unusedVariables false
set_option linter.unusedSimpArgs false
end Go.Proofs.Ytckmdibjkklhkaa.PAll
namespace Go.Proofs.Ytckmdibjkklhkaa.PAll
open Go.RowKit Go.Proofs.YtckmdibjkklhkaaW.PrintWords Go.Proofs.YtckmdibjkklhkaaW.PrintLast Go.Proofs.YtckmdibjkklhkaaW.PrintMore
attribute [local go_sem] max2_int min2_int max_two min_two max_three min_three max_four min_four
set_option linter.unusedVariables false
set_option linter.unusedSimpArgs false
end Go.Proofs.Ytckmdibjkklhkaa.PAll
namespace Go.Proofs.Ytckmdibjkklhkaa.Lem
open Go.RowKit Go.Proofs.Ytckmdibjkklhkaa.PAll Go.Proofs.Ytckmdibjkklhkaa.Base Go.Proofs.YtckmdibjkklhkaaW.PrintWords Go.Proofs.YtckmdibjkklhkaaW.PrintLast Go.Proofs.YtckmdibjkklhkaaW.PrintMore
set_option linter.unusedVariables false
set_option linter.unusedSimpArgs false
theorem cardsOf_eq (d : List (List Int)) (ht : total d ≤ 1048576) (h : Deal d) : impl_cardsOf.f d = some (cardsL d) := by
  unfold impl_cardsOf.f
  rw [if_pos (by omega), cardsL_sort h]
theorem cardsL_len (d : List (List Int)) : (cardsL d).length ≤ 52 := by
  unfold cardsL
  exact Nat.le_trans (List.length_filter_le _ _) (by rw [allL_len]; omega)
theorem helpers (d : List (List Int)) (h1 : d.length ≤ 9223372036854775807) (h2 : ∀ x ∈ d, x.length ≤ 9223372036854775807) (K : Nat) (hK : d.length + 4000000 ≤ K) :
    ∃ s, laws_szDeal.f K d 1048576 = some s ∧ (s < 0 ∨ (0 ≤ s ∧ total d ≤ 1048576 ∧ d.length ≤ 1048576 ∧ laws_toDeal.f K d = some d ∧ laws_eqDeal.f K d d = some true)) := by
  obtain ⟨s, e, hs⟩ := szDeal_eq d h1 h2 K (by omega)
  refine ⟨s, e, ?_⟩
  rcases hs with hs | ⟨hs, ht⟩
  · exact .inl hs
  · have hr := rows_total (d := d) (M := 1048576) (by omega)
    exact .inr ⟨hs, by omega, by omega, toDeal_eq d 1048576 hr (by omega) (by omega) K (by omega), by rw [eqDeal_eq d d 1048576 hr (by omega) (by omega) K (by omega)]; simp⟩
end Go.Proofs.Ytckmdibjkklhkaa.Lem
