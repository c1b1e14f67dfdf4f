/- LevelOf answers as the reference, for all whole numbers of 64 bits. -/
import Derived.Test.YtmimhnmaggkmmaaPAllx6
import Derived.Test.YtmimhnmaggkmmaaLemA
namespace Go.Proofs.Ytmimhnmaggkmmaa.Pure
open Go.RowKit Go.Proofs.Ytmimhnmaggkmmaa.PAll Go.Proofs.Ytmimhnmaggkmmaa.Base Go.Proofs.Ytmimhnmaggkmmaa.Lem Go.Proofs.YtmimhnmaggkmmaaW.PrintWords Go.Proofs.YtmimhnmaggkmmaaW.PrintLast Go.Proofs.YtmimhnmaggkmmaaW.PrintMore
set_option linter.unusedVariables false
set_option linter.unusedSimpArgs false

theorem FnExactLevelOf : laws_FnExactLevelOf.Pure := by
  intro a0 _
  unfold laws_FnExactLevelOf.f spec_LevelOf.f impl_LevelOf.f spec_l06Bid.f impl_isBid.f
  simp only [within_eq, l01In_eq, Option.bind_some]
  by_cases h : (3 ≤ a0 ∧ a0 ≤ 37) <;> simp [h, Int.add_comm]

end Go.Proofs.Ytmimhnmaggkmmaa.Pure
