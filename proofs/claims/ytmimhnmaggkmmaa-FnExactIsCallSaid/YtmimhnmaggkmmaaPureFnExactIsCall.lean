/- IsCall answers as the reference, for all whole numbers of 64 bits. -/
import Derived.Test.YtmimhnmaggkmmaaPAllx4
import Derived.Test.YtmimhnmaggkmmaaLemA
namespace Go.Proofs.Ytmimhnmaggkmmaa.Pure
open Go.RowKit Go.Proofs.Ytmimhnmaggkmmaa.PAll Go.Proofs.Ytmimhnmaggkmmaa.Base Go.Proofs.Ytmimhnmaggkmmaa.Lem Go.Proofs.YtmimhnmaggkmmaaW.PrintWords Go.Proofs.YtmimhnmaggkmmaaW.PrintLast Go.Proofs.YtmimhnmaggkmmaaW.PrintMore
set_option linter.unusedVariables false
set_option linter.unusedSimpArgs false

theorem FnExactIsCall : laws_FnExactIsCall.Pure := by
  intro a0 _
  unfold laws_FnExactIsCall.f spec_IsCall.f impl_IsCall.f
  simp only [within_eq, l01In_eq, Option.bind_some]
  simp

end Go.Proofs.Ytmimhnmaggkmmaa.Pure
