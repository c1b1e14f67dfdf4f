/- ReadCard answers as the reference, for all strings of at most 2^20 bytes (longer ones the law lets by). -/
import Derived.Test.YtmimhnmaggkmmaaPAllx23
import Derived.Test.YtmimhnmaggkmmaaLemR
namespace Go.Proofs.Ytmimhnmaggkmmaa.Pure
open Go.RowKit Go.Proofs.Ytmimhnmaggkmmaa.PAll Go.Proofs.Ytmimhnmaggkmmaa.Base Go.Proofs.Ytmimhnmaggkmmaa.Lem Go.Proofs.YtmimhnmaggkmmaaW.PrintWords Go.Proofs.YtmimhnmaggkmmaaW.PrintLast Go.Proofs.YtmimhnmaggkmmaaW.PrintMore
set_option linter.unusedVariables false
set_option linter.unusedSimpArgs false

theorem FnExactReadCard : laws_FnExactReadCard.Pure := by
  intro s _
  refine ⟨20, ?_⟩
  unfold laws_FnExactReadCard.f
  by_cases h : (s.size : Int) > 1048576
  · rw [if_pos h]
  · rw [if_neg h, specReadCard_eq, Option.bind_some, implReadCard_eq, Option.bind_some, if_pos rfl, if_neg (by simp)]

end Go.Proofs.Ytmimhnmaggkmmaa.Pure
