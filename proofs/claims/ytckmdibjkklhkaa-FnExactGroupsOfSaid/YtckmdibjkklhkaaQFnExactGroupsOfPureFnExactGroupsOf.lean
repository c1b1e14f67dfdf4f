/- A smaller copy of texts of this seat, made by pack.py for one law. -/
import Derived.Test.YtckmdibjkklhkaaQFnExactGroupsOfWkFnExactGroupsOf
import Derived.Test.YtckmdibjkklhkaaQFnExactGroupsOfLemX
import Derived.Test.YtckmdibjkklhkaaQFnExactGroupsOfLemO
namespace Go.Proofs.Ytckmdibjkklhkaa.Pure
open Go.RowKit Go.Proofs.Ytckmdibjkklhkaa.PAll Go.Proofs.Ytckmdibjkklhkaa.Base Go.Proofs.Ytckmdibjkklhkaa.Lem Go.Proofs.YtckmdibjkklhkaaW.PrintWords Go.Proofs.YtckmdibjkklhkaaW.PrintLast Go.Proofs.YtckmdibjkklhkaaW.PrintMore
set_option linter.unusedVariables false
set_option linter.unusedSimpArgs false
theorem FnExactGroupsOf : laws_FnExactGroupsOf.Pure := by
  intro d c h1 h2 _ _
  obtain ⟨K, hK⟩ : ∃ K, K = d.length + 5000000 := ⟨_, rfl⟩
  obtain ⟨s, e, hs⟩ := helpers d h1 h2 K (by omega)
  refine ⟨K, s, e, ?_⟩
  rcases hs with hs | ⟨hs, ht, hl, e1, e2⟩
  · exact .inl hs
  · have hr := rows_total (d := d) (M := 1048576) ht
    obtain ⟨r, hrr⟩ : ∃ r, r = groupsL d c := ⟨_, rfl⟩
    have hrl : r.1.length ≤ 1000 := by rw [hrr]; exact groupsL_len d c
    have hrw : ∀ x ∈ r.1, x.length ≤ 52 := by rw [hrr]; exact groupsL_rows d c
    have hrt : total r.1 ≤ 1000 * 52 := Nat.le_trans (total_le hrw) (Nat.mul_le_mul_right _ hrl)
    refine .inr ⟨hs, r.1, r.2, e1, ?_, ?_, ?_, e2, ?_, by omega, by omega, ht, hl⟩
    · rw [hrr]; exact specGroups_eq d hr c K (by omega)
    · rw [hrr]; exact implGroups_eq d ht hr c K (by omega)
    · rw [eqSS_eq _ _ 52 hrw (by omega) (by omega) _ (by omega)]; simp
    · exact heldSS_eq _ 1 (by omega) (by omega) (by omega) _ (by omega)
end Go.Proofs.Ytckmdibjkklhkaa.Pure
