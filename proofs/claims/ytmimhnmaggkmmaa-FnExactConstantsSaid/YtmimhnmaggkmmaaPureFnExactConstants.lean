/- The constants are those of the reference. -/
import Derived.Test.YtmimhnmaggkmmaaPAllx4
import Derived.Test.YtmimhnmaggkmmaaLemA
namespace Go.Proofs.Ytmimhnmaggkmmaa.Pure
open Go.RowKit Go.Proofs.Ytmimhnmaggkmmaa.PAll Go.Proofs.Ytmimhnmaggkmmaa.Base Go.Proofs.Ytmimhnmaggkmmaa.Lem Go.Proofs.YtmimhnmaggkmmaaW.PrintWords Go.Proofs.YtmimhnmaggkmmaaW.PrintLast Go.Proofs.YtmimhnmaggkmmaaW.PrintMore
set_option linter.unusedVariables false
set_option linter.unusedSimpArgs false

theorem FnExactConstants : laws_FnExactConstants.Pure := by
  unfold laws_FnExactConstants.Pure
  rfl

end Go.Proofs.Ytmimhnmaggkmmaa.Pure
