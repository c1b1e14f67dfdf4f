/- Binomial answers as the reference, for all whole numbers of 64 bits. -/
import Derived.Test.YtmimhnmaggkmmaaPAllx3
import Derived.Test.YtmimhnmaggkmmaaLemB
namespace Go.Proofs.Ytmimhnmaggkmmaa.Pure
open Go.RowKit Go.Proofs.Ytmimhnmaggkmmaa.PAll Go.Proofs.Ytmimhnmaggkmmaa.Base Go.Proofs.Ytmimhnmaggkmmaa.Lem Go.Proofs.YtmimhnmaggkmmaaW.PrintWords Go.Proofs.YtmimhnmaggkmmaaW.PrintLast Go.Proofs.YtmimhnmaggkmmaaW.PrintMore
set_option linter.unusedVariables false
set_option linter.unusedSimpArgs false

theorem FnExactBinomial : laws_FnExactBinomial.Pure := by
  intro a0 a1 _ _
  refine ⟨54, ?_⟩
  unfold laws_FnExactBinomial.f
  rw [specBinomial_eq _ _ _ (by omega), Option.bind_some, Binomial_eq _ _ _ (by omega), Option.bind_some, if_pos rfl]

end Go.Proofs.Ytmimhnmaggkmmaa.Pure
