/- A smaller copy of a text of this seat, made by pack.py for one law. -/
import Derived.Test.YtckmdibjkklhkaaQFnExactDealNumbersWkFnExactDealNumbers
import Derived.Test.YtckmdibjkklhkaaQFnExactDealNumbersLemU
namespace Go.Proofs.Ytckmdibjkklhkaa.Pure
open Go.RowKit Go.Proofs.Ytckmdibjkklhkaa.PAll Go.Proofs.Ytckmdibjkklhkaa.Base Go.Proofs.Ytckmdibjkklhkaa.Lem Go.Proofs.YtckmdibjkklhkaaW.PrintWords Go.Proofs.YtckmdibjkklhkaaW.PrintLast Go.Proofs.YtckmdibjkklhkaaW.PrintMore
set_option linter.unusedVariables false
set_option linter.unusedSimpArgs false
theorem FnExactDealNumbers : laws_FnExactDealNumbers.Pure := by
  intro d h1 h2 _
  obtain ⟨K, hK⟩ : ∃ K, K = d.length + 5000000 := ⟨_, rfl⟩
  obtain ⟨s, e, hs⟩ := helpers d h1 h2 K (by omega)
  refine ⟨K, s, e, ?_⟩
  rcases hs with hs | ⟨hs, ht, hl, e1, e2⟩
  · exact .inl hs
  · have hr := rows_total (d := d) (M := 1048576) ht
    obtain ⟨r, hrr⟩ : ∃ r, r = dealNumbers d := ⟨_, rfl⟩
    have hrl : r.1.length ≤ 1000 := by rw [hrr]; exact Nat.le_trans (dealNumbers_len d) (by omega)
    refine .inr ⟨hs, r.1, r.2, e1, ?_, ?_, ?_, e2, ?_, by omega, ht, hl⟩
    · rw [hrr]; exact specNumbers_eq d hr hl K (by omega)
    · rw [hrr]; exact implNumbers_eq d ht K (by omega)
    · rw [eqInt_eq _ _ (by omega) _ (by omega)]; simp
    · exact held_eq _ (by omega) 1 (by omega) (by omega) _ (by omega)
end Go.Proofs.Ytckmdibjkklhkaa.Pure
