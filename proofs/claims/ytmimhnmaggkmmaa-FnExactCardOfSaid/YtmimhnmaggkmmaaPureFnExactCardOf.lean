/- CardOf answers as the reference, for all whole numbers of 64 bits. -/
import Derived.Test.YtmimhnmaggkmmaaPAllx4
import Derived.Test.YtmimhnmaggkmmaaLemA
namespace Go.Proofs.Ytmimhnmaggkmmaa.Pure
open Go.RowKit Go.Proofs.Ytmimhnmaggkmmaa.PAll Go.Proofs.Ytmimhnmaggkmmaa.Base Go.Proofs.Ytmimhnmaggkmmaa.Lem Go.Proofs.YtmimhnmaggkmmaaW.PrintWords Go.Proofs.YtmimhnmaggkmmaaW.PrintLast Go.Proofs.YtmimhnmaggkmmaaW.PrintMore
set_option linter.unusedVariables false
set_option linter.unusedSimpArgs false

theorem FnExactCardOf : laws_FnExactCardOf.Pure := by
  intro a0 a1 _ _
  unfold laws_FnExactCardOf.f spec_CardOf.f impl_CardOf.f impl_isSuit.f
  simp only [within_eq, l01In_eq, Option.bind_some]
  by_cases h : (0 ≤ a0 ∧ a0 ≤ 3) <;> by_cases h2 : (0 ≤ a1 ∧ a1 ≤ 12) <;> simp [h, h2]

end Go.Proofs.Ytmimhnmaggkmmaa.Pure
