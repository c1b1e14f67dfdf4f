/- HonorsOf answers as the reference and leaves its argument as it was, for all lists of whole numbers of 64 bits with at most 2^20 elements (longer ones the law lets by). -/
import Derived.Test.YtoggoimoameklaaPAllx6
import Derived.Test.YtoggoimoameklaaLemF
namespace Go.Proofs.Ytoggoimoameklaa.Pure
open Go.RowKit Go.Proofs.Ytoggoimoameklaa.PAll Go.Proofs.Ytoggoimoameklaa.Base Go.Proofs.Ytoggoimoameklaa.Lem Go.Proofs.YtoggoimoameklaaW.PrintWords Go.Proofs.YtoggoimoameklaaW.PrintLast Go.Proofs.YtoggoimoameklaaW.PrintMore
set_option linter.unusedVariables false
set_option linter.unusedSimpArgs false

theorem FnExactHonorsOf : laws_FnExactHonorsOf.Pure := by
  intro l a1 hm hb hw _
  refine ⟨l.length + 400, ?_⟩
  unfold laws_FnExactHonorsOf.f
  by_cases h : l.length > 1048576
  · rw [if_pos (by omega)]
  · rw [if_neg (by omega), toInt_eq l (by omega) _ (by omega)]
    simp only [Option.bind_some]
    rw [specHonors_eq l a1 (by omega) _ (by omega), Option.bind_some, implHonors_eq l a1 (by omega) _ (by omega), Option.bind_some, if_pos rfl, eqInt_eq l l (by omega) _ (by omega), Option.bind_some]
    simp

end Go.Proofs.Ytoggoimoameklaa.Pure
