/- A smaller copy of a text of this seat, made by pack.py for one law. -/
import Derived.Test.YtoggoimoameklaaQFnExactPatternOfPAllx40
import Derived.Test.YtoggoimoameklaaQFnExactPatternOfLemH
namespace Go.Proofs.Ytoggoimoameklaa.Pure
open Go.RowKit Go.Proofs.Ytoggoimoameklaa.PAll Go.Proofs.Ytoggoimoameklaa.Base Go.Proofs.Ytoggoimoameklaa.Lem Go.Proofs.YtoggoimoameklaaW.PrintWords Go.Proofs.YtoggoimoameklaaW.PrintLast Go.Proofs.YtoggoimoameklaaW.PrintMore
set_option linter.unusedVariables false
set_option linter.unusedSimpArgs false
set_option maxHeartbeats 4000000 in
theorem FnExactPatternOf : laws_FnExactPatternOf.Pure := by
  intro l hm hb hw
  obtain ⟨K, hK⟩ : ∃ K, K = l.length + 6000 := ⟨_, rfl⟩
  refine ⟨K + 1 + 1 + 1 + 1, ?_⟩
  unfold laws_FnExactPatternOf.f
  by_cases h : l.length > 1048576
  · rw [if_pos (by omega)]
  · rw [if_neg (by omega)]
    obtain ⟨r, hr⟩ : ∃ r, r = patternL l := ⟨_, rfl⟩
    have hrl : r.length ≤ 2000000 := by rw [hr]; exact Nat.le_trans (patternL_len l) (by omega)
    have hS : ∀ k, l.length + 5900 ≤ k → spec_PatternOf.f k l = some r := fun k hk => by rw [hr]; exact specPattern_eq l (by omega) k (by omega)
    have hI : ∀ k, l.length + 5900 ≤ k → impl_PatternOf.f k l = some r := fun k hk => by rw [hr]; exact implPattern_eq l (by omega) k (by omega)
    have n1 : ∀ n : Nat, ¬ (1 + (n : Int) < 0) := by intro n; omega
    have hT : ∀ k, l.length < k → laws_toInt64S.f k l = some l := fun k hk => toInt_eq l (by omega) k hk
    have hE : ∀ k, l.length < k → laws_eqInt64S.f k l l = some true := fun k hk => by rw [eqInt_eq l l (by omega) k hk]; simp
    have hE2 : ∀ k, r.length < k → laws_eqInt64S.f k r r = some true := fun k hk => by rw [eqInt_eq _ _ (by omega) k hk]; simp
    have hM : ∀ k, l.length < k → laws_markInt64S.f k l 1 = some (1 + (l.length : Int), marks 1 l.length) := fun k hk => mark_eq l (by omega) 1 (by omega) (by omega) k hk
    have hM2 : ∀ k, r.length < k → laws_markInt64S.f k r 1 = some (1 + (r.length : Int), marks 1 r.length) := fun k hk => mark_eq _ (by omega) 1 (by omega) (by omega) k hk
    have hH : ∀ k, r.length < k → laws_heldInt64S.f k (marks 1 r.length) 1 = some (1 + (r.length : Int)) := fun k hk => held_eq _ (by omega) 1 (by omega) (by omega) k hk
    have hlr : r.length ≤ l.length + 60 := by rw [hr]; exact Nat.le_trans (patternL_len l) (by omega)
    clear hr hb hw hm
    simp (maxSteps := 3000000) (disch := omega) only [laws_FnExactPatternOf.j0, hT, hS, hI, hE, hE2, hM, hM2, hH, n1, Option.bind_some, Bool.not_true, bne_self_eq_false, Bool.false_eq_true, if_false, if_true]
end Go.Proofs.Ytoggoimoameklaa.Pure
