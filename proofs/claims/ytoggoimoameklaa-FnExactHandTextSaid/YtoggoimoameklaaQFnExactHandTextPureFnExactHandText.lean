/- A smaller copy of a text of this seat, made by pack.py for one law. -/
import Derived.Test.YtoggoimoameklaaQFnExactHandTextPAllx42
import Derived.Test.YtoggoimoameklaaQFnExactHandTextLemL
namespace Go.Proofs.Ytoggoimoameklaa.Pure
open Go.RowKit Go.Proofs.Ytoggoimoameklaa.PAll Go.Proofs.Ytoggoimoameklaa.Base Go.Proofs.Ytoggoimoameklaa.Lem Go.Proofs.YtoggoimoameklaaW.PrintWords Go.Proofs.YtoggoimoameklaaW.PrintLast Go.Proofs.YtoggoimoameklaaW.PrintMore
set_option linter.unusedVariables false
set_option linter.unusedSimpArgs false
theorem FnExactHandText : laws_FnExactHandText.Pure := by
  intro l hm hb hw
  obtain ⟨K, hK⟩ : ∃ K, K = l.length + 400 := ⟨_, rfl⟩
  refine ⟨K, ?_⟩
  unfold laws_FnExactHandText.f
  by_cases h : l.length > 1048576
  · rw [if_pos (by omega)]
  · rw [if_neg (by omega), toInt_eq l (by omega) _ (by omega)]
    simp only [Option.bind_some]
    rw [specHandText_eq l (by omega) K (by omega), Option.bind_some, implHandText_eq l (by omega) K (by omega), Option.bind_some, if_pos rfl, eqInt_eq l l (by omega) _ (by omega), Option.bind_some]
    simp
end Go.Proofs.Ytoggoimoameklaa.Pure
