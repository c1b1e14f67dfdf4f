/- A smaller copy of a text of this seat, made by pack.py for one law. -/
import Derived.Test.YtoggoimoameklaaQFnExactRankSubsetPAllx22
import Derived.Test.YtoggoimoameklaaQFnExactRankSubsetLemJ
namespace Go.Proofs.Ytoggoimoameklaa.Pure
open Go.RowKit Go.Proofs.Ytoggoimoameklaa.PAll Go.Proofs.Ytoggoimoameklaa.Base Go.Proofs.Ytoggoimoameklaa.Lem Go.Proofs.YtoggoimoameklaaW.PrintWords Go.Proofs.YtoggoimoameklaaW.PrintLast Go.Proofs.YtoggoimoameklaaW.PrintMore
set_option linter.unusedVariables false
set_option linter.unusedSimpArgs false
theorem FnExactRankSubset : laws_FnExactRankSubset.Pure := by
  intro l s hm hb hw hm2 hb2 hw2
  obtain ⟨K, hK⟩ : ∃ K, K = l.length + s.length + 2000 := ⟨_, rfl⟩
  refine ⟨K + 1, ?_⟩
  unfold laws_FnExactRankSubset.f
  by_cases h : l.length > 1048576
  · rw [if_pos (by omega)]
  · by_cases h2 : s.length > 1048576
    · rw [if_neg (by omega), if_pos (by omega)]
    · rw [if_neg (by omega), if_neg (by omega)]
      have hS : ∀ k, l.length + s.length + 1000 ≤ k → spec_RankSubset.f k l s = some (rankSub l s) := fun k hk => specRank_eq l s (by omega) (by omega) k hk
      have hI : ∀ k, l.length + s.length + 1000 ≤ k → impl_RankSubset.f k l s = some (rankSub l s) := fun k hk => implRank_eq l s (by omega) (by omega) k hk
      have hT : ∀ k, l.length < k → laws_toInt64S.f k l = some l := fun k hk => toInt_eq l (by omega) k hk
      have hT2 : ∀ k, s.length < k → laws_toInt64S.f k s = some s := fun k hk => toInt_eq s (by omega) k hk
      have hE : ∀ k, l.length < k → laws_eqInt64S.f k l l = some true := fun k hk => by rw [eqInt_eq l l (by omega) k hk]; simp
      have hE2 : ∀ k, s.length < k → laws_eqInt64S.f k s s = some true := fun k hk => by rw [eqInt_eq s s (by omega) k hk]; simp
      generalize rankSub l s = r at *
      clear hb hw hm hb2 hw2 hm2
      simp (maxSteps := 3000000) (disch := omega) only [laws_FnExactRankSubset.j0, hT, hT2, hS, hI, hE, hE2, Option.bind_some, Bool.not_true, bne_self_eq_false, Bool.false_eq_true, if_false, if_true]
end Go.Proofs.Ytoggoimoameklaa.Pure
