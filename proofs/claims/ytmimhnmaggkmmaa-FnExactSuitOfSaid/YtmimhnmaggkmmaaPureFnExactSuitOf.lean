/- SuitOf answers as the reference, for all whole numbers of 64 bits. -/
import Derived.Test.YtmimhnmaggkmmaaPAllx6
import Derived.Test.YtmimhnmaggkmmaaLemA
namespace Go.Proofs.Ytmimhnmaggkmmaa.Pure
open Go.RowKit Go.Proofs.Ytmimhnmaggkmmaa.PAll Go.Proofs.Ytmimhnmaggkmmaa.Base Go.Proofs.Ytmimhnmaggkmmaa.Lem Go.Proofs.YtmimhnmaggkmmaaW.PrintWords Go.Proofs.YtmimhnmaggkmmaaW.PrintLast Go.Proofs.YtmimhnmaggkmmaaW.PrintMore
set_option linter.unusedVariables false
set_option linter.unusedSimpArgs false

theorem FnExactSuitOf : laws_FnExactSuitOf.Pure := by
  intro a0 _
  unfold laws_FnExactSuitOf.f spec_SuitOf.f impl_SuitOf.f impl_suit.f
  simp only [isCard_eq, l01Card_eq, Option.bind_some]
  by_cases h : Card a0 <;> simp [h]

end Go.Proofs.Ytmimhnmaggkmmaa.Pure
