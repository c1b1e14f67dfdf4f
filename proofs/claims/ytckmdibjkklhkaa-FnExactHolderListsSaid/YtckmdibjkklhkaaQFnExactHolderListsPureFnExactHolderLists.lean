/- A smaller copy of a text of this seat, made by pack.py for one law. -/
import Derived.Test.YtckmdibjkklhkaaQFnExactHolderListsWkFnExactHolderLists
import Derived.Test.YtckmdibjkklhkaaQFnExactHolderListsLemV
import Derived.Test.YtckmdibjkklhkaaQFnExactHolderListsLemO
namespace Go.Proofs.Ytckmdibjkklhkaa.Pure
open Go.RowKit Go.Proofs.Ytckmdibjkklhkaa.PAll Go.Proofs.Ytckmdibjkklhkaa.Base Go.Proofs.Ytckmdibjkklhkaa.Lem Go.Proofs.YtckmdibjkklhkaaW.PrintWords Go.Proofs.YtckmdibjkklhkaaW.PrintLast Go.Proofs.YtckmdibjkklhkaaW.PrintMore
set_option linter.unusedVariables false
set_option linter.unusedSimpArgs false
theorem FnExactHolderLists : laws_FnExactHolderLists.Pure := by
  intro d h1 h2 _
  obtain ⟨K, hK⟩ : ∃ K, K = d.length + 5000000 := ⟨_, rfl⟩
  obtain ⟨s, e, hs⟩ := helpers d h1 h2 K (by omega)
  refine ⟨K, s, e, ?_⟩
  rcases hs with hs | ⟨hs, ht, hl, e1, e2⟩
  · exact .inl hs
  · have hr := rows_total (d := d) (M := 1048576) ht
    obtain ⟨r, hrr⟩ : ∃ r, r = (if Deal d then listsL d else []) := ⟨_, rfl⟩
    have hrl : r.length ≤ 1000 := by rw [hrr]; exact listsR_len d
    have hrw : ∀ x ∈ r, x.length ≤ 52 := by rw [hrr]; exact listsR_rows d
    have hrt : total r ≤ 1000 * 52 := Nat.le_trans (total_le hrw) (Nat.mul_le_mul_right _ hrl)
    refine .inr ⟨hs, r, e1, ?_, ?_, ?_, e2, ?_, by omega, by omega, ht, hl⟩
    · rw [hrr]; exact specHolderLists_eq d hr hl K (by omega)
    · rw [hrr]; exact implLists_eq d ht K (by omega)
    · rw [eqSS_eq _ _ 52 hrw (by omega) (by omega) _ (by omega)]; simp
    · exact heldSS_eq _ 1 (by omega) (by omega) (by omega) _ (by omega)
end Go.Proofs.Ytckmdibjkklhkaa.Pure
