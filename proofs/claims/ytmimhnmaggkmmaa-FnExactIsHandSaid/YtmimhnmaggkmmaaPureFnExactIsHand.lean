/- IsHand answers as the reference and leaves its argument as it was, for all lists of whole numbers of 64 bits with at most 2^20 elements (longer ones the law lets by). -/
import Derived.Test.YtmimhnmaggkmmaaPAllx5
import Derived.Test.YtmimhnmaggkmmaaLemA
namespace Go.Proofs.Ytmimhnmaggkmmaa.Pure
open Go.RowKit Go.Proofs.Ytmimhnmaggkmmaa.PAll Go.Proofs.Ytmimhnmaggkmmaa.Base Go.Proofs.Ytmimhnmaggkmmaa.Lem Go.Proofs.YtmimhnmaggkmmaaW.PrintWords Go.Proofs.YtmimhnmaggkmmaaW.PrintLast Go.Proofs.YtmimhnmaggkmmaaW.PrintMore
set_option linter.unusedVariables false
set_option linter.unusedSimpArgs false

theorem FnExactIsHand : laws_FnExactIsHand.Pure := by
  intro l hm hb hw
  refine ⟨l.length + 1, ?_⟩
  unfold laws_FnExactIsHand.f
  by_cases h : l.length > 1048576
  · rw [if_pos (by omega)]
  · rw [if_neg (by omega), toInt_eq l (by omega) _ (by omega)]
    simp only [Option.bind_some]
    rw [specHand_eq l (by omega) _ (by omega), Option.bind_some, implHand_eq l (by omega) _ (by omega), Option.bind_some, if_neg (by simp), eqInt_eq l l (by omega) _ (by omega), Option.bind_some]
    simp

end Go.Proofs.Ytmimhnmaggkmmaa.Pure
