/- A smaller copy of texts of this seat, made by pack.py for one law. -/
import Derived.Test.YtckmdibjkklhkaaQFnExactEquivalentCardsWkFnExactEquivalentCards
import Derived.Test.YtckmdibjkklhkaaQFnExactEquivalentCardsLemX
namespace Go.Proofs.Ytckmdibjkklhkaa.Pure
open Go.RowKit Go.Proofs.Ytckmdibjkklhkaa.PAll Go.Proofs.Ytckmdibjkklhkaa.Base Go.Proofs.Ytckmdibjkklhkaa.Lem Go.Proofs.YtckmdibjkklhkaaW.PrintWords Go.Proofs.YtckmdibjkklhkaaW.PrintLast Go.Proofs.YtckmdibjkklhkaaW.PrintMore
set_option linter.unusedVariables false
set_option linter.unusedSimpArgs false
theorem FnExactEquivalentCards : laws_FnExactEquivalentCards.Pure := by
  intro d c h1 h2 _ _
  obtain ⟨K, hK⟩ : ∃ K, K = d.length + 5000000 := ⟨_, rfl⟩
  obtain ⟨s, e, hs⟩ := helpers d h1 h2 K (by omega)
  refine ⟨K, s, e, ?_⟩
  rcases hs with hs | ⟨hs, ht, hl, e1, e2⟩
  · exact .inl hs
  · have hr := rows_total (d := d) (M := 1048576) ht
    obtain ⟨r, hrr⟩ : ∃ r, r = equivL d c := ⟨_, rfl⟩
    have hrl : r.1.length ≤ 1000 := by rw [hrr]; exact equivL_len d c
    refine .inr ⟨hs, r.1, r.2, e1, ?_, ?_, ?_, e2, ?_, by omega, ht, hl⟩
    · rw [hrr]; exact specEquiv_eq d hr hl c K (by omega)
    · rw [hrr]; exact implEquiv_eq d ht hr c K (by omega)
    · rw [eqInt_eq _ _ (by omega) _ (by omega)]; simp
    · exact held_eq _ (by omega) 1 (by omega) (by omega) _ (by omega)
end Go.Proofs.Ytckmdibjkklhkaa.Pure
