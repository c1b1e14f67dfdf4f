/- IsDeal answers as the reference and leaves its argument as it was, for all deals of which the law takes the size (greater ones it lets by). -/
import Derived.Test.YtckmdibjkklhkaaWkFnExactIsDeal
import Derived.Test.YtckmdibjkklhkaaLemS
import Derived.Test.YtckmdibjkklhkaaWkFnExactIsDeal
namespace Go.Proofs.Ytckmdibjkklhkaa.Pure
open Go.RowKit Go.Proofs.Ytckmdibjkklhkaa.PAll Go.Proofs.Ytckmdibjkklhkaa.Base Go.Proofs.Ytckmdibjkklhkaa.Lem Go.Proofs.YtckmdibjkklhkaaW.PrintWords Go.Proofs.YtckmdibjkklhkaaW.PrintLast Go.Proofs.YtckmdibjkklhkaaW.PrintMore
set_option linter.unusedVariables false
set_option linter.unusedSimpArgs false

theorem FnExactIsDeal : laws_FnExactIsDeal.Pure := by
  intro d h1 h2 _
  refine ⟨d.length + 3000000, ?_⟩
  unfold laws_FnExactIsDeal.f
  obtain ⟨s, e, hs⟩ := szDeal_eq d h1 h2 (d.length + 3000000) (by omega)
  rw [e, Option.bind_some]
  rcases hs with hs | ⟨hs, ht⟩
  · rw [if_pos hs]
  · have hr := rows_total (d := d) (M := 1048576) (by omega)
    have hd : laws_toDeal.f (d.length + 3000000) d = some d := toDeal_eq d 1048576 hr (by omega) (by omega) _ (by omega)
    have hi : spec_IsDeal.f (d.length + 3000000) d = some (decide (Deal d)) := by unfold spec_IsDeal.f; rw [l03Deal_eq d 1048576 hr (by omega) _ (by omega)]; rfl
    rw [if_neg (by omega), hd, Option.bind_some, hi, Option.bind_some, Option.bind_some, implDeal_eq d (fun x hx => by have := hr x hx; omega), Option.bind_some, if_neg (by simp), Option.bind_some, eqDeal_eq d d 1048576 hr (by omega) (by omega) _ (by omega), Option.bind_some]
    simp

end Go.Proofs.Ytckmdibjkklhkaa.Pure
