/- CardText answers as the reference, for all whole numbers of 64 bits. -/
import Derived.Test.YtmimhnmaggkmmaaPAllx4
import Derived.Test.YtmimhnmaggkmmaaLemA
namespace Go.Proofs.Ytmimhnmaggkmmaa.Pure
open Go.RowKit Go.Proofs.Ytmimhnmaggkmmaa.PAll Go.Proofs.Ytmimhnmaggkmmaa.Base Go.Proofs.Ytmimhnmaggkmmaa.Lem Go.Proofs.YtmimhnmaggkmmaaW.PrintWords Go.Proofs.YtmimhnmaggkmmaaW.PrintLast Go.Proofs.YtmimhnmaggkmmaaW.PrintMore
set_option linter.unusedVariables false
set_option linter.unusedSimpArgs false

theorem text_each : ∀ n < 52, laws_FnExactCardText.f ((n : Nat) : Int) = some true := by decide +kernel

theorem FnExactCardText : laws_FnExactCardText.Pure := by
  intro a0 _
  by_cases h : Card a0
  · obtain ⟨n, rfl⟩ := Int.eq_ofNat_of_zero_le h.1
    exact text_each n (by have := h.2; omega)
  · unfold laws_FnExactCardText.f spec_CardText.f impl_CardText.f
    simp only [isCard_eq, l01Card_eq, Option.bind_some]
    simp [h]

end Go.Proofs.Ytmimhnmaggkmmaa.Pure
