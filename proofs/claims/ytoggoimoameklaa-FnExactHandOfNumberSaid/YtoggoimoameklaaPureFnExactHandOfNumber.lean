/- HandOfNumber answers as the reference, in memory of its own, for all whole numbers of 64 bits. -/
import Derived.Test.YtoggoimoameklaaPAllx26
import Derived.Test.YtoggoimoameklaaLemE2
namespace Go.Proofs.Ytoggoimoameklaa.Pure
open Go.RowKit Go.Proofs.Ytoggoimoameklaa.PAll Go.Proofs.Ytoggoimoameklaa.Base Go.Proofs.Ytoggoimoameklaa.Lem Go.Proofs.YtoggoimoameklaaW.PrintWords Go.Proofs.YtoggoimoameklaaW.PrintLast Go.Proofs.YtoggoimoameklaaW.PrintMore
set_option linter.unusedVariables false
set_option linter.unusedSimpArgs false

theorem FnExactHandOfNumber : laws_FnExactHandOfNumber.Pure := by
  intro a1 a2 _ _
  refine ⟨1000 + 1 + 1 + 1 + 1, ?_⟩
  unfold laws_FnExactHandOfNumber.f
  obtain ⟨r, hr⟩ : ∃ r, r = (if 0 ≤ a1 ∧ a1 ≤ 13 then unrankSub allL a1 a2 else ([], 2)) := ⟨_, rfl⟩
  have hrl : r.1.length ≤ 60 := by
    rw [hr]; split
    · have := unrankSub_len allL a1 a2; rw [allL_len] at this; omega
    · simp
  have hS : ∀ k, 500 ≤ k → spec_HandOfNumber.f k a1 a2 = some r := fun k hk => by rw [hr]; exact specHandOf_eq a1 a2 k (by omega)
  have hI : ∀ k, 500 ≤ k → impl_HandOfNumber.f k a1 a2 = some r := fun k hk => by rw [hr]; exact implHandOf_eq a1 a2 k (by omega)
  have n1 : ∀ n : Nat, ¬ (1 + (n : Int) < 0) := by intro n; omega
  have hE2 : ∀ k, r.1.length < k → laws_eqInt64S.f k r.1 r.1 = some true := fun k hk => by rw [eqInt_eq _ _ (by omega) k hk]; simp
  have hM2 : ∀ k, r.1.length < k → laws_markInt64S.f k r.1 1 = some (1 + (r.1.length : Int), marks 1 r.1.length) := fun k hk => mark_eq _ (by omega) 1 (by omega) (by omega) k hk
  have hH : ∀ k, r.1.length < k → laws_heldInt64S.f k (marks 1 r.1.length) 1 = some (1 + (r.1.length : Int)) := fun k hk => held_eq _ (by omega) 1 (by omega) (by omega) k hk
  clear hr
  simp (disch := omega) only [laws_FnExactHandOfNumber.j0, laws_FnExactHandOfNumber.j1, hS, hI, hE2, hM2, hH, n1, Option.bind_some, bne_self_eq_false, Bool.false_eq_true, if_false, if_true]

end Go.Proofs.Ytoggoimoameklaa.Pure
