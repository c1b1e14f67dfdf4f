/- HolderOf answers as the reference and leaves its argument as it was, for all deals of which the law takes the size (greater ones it lets by) and all numbers of 64 bits. -/
import Derived.Test.YtckmdibjkklhkaaWkFnExactHolderOf
import Derived.Test.YtckmdibjkklhkaaLemS
import Derived.Test.YtckmdibjkklhkaaGivJ2
import Derived.Test.YtckmdibjkklhkaaWkFnExactHolderOf
namespace Go.Proofs.Ytckmdibjkklhkaa.Pure
open Go.RowKit Go.Proofs.Ytckmdibjkklhkaa.PAll Go.Proofs.Ytckmdibjkklhkaa.Base Go.Proofs.Ytckmdibjkklhkaa.Lem Go.Proofs.YtckmdibjkklhkaaW.PrintWords Go.Proofs.YtckmdibjkklhkaaW.PrintLast Go.Proofs.YtckmdibjkklhkaaW.PrintMore
set_option linter.unusedVariables false
set_option linter.unusedSimpArgs false

theorem FnExactHolderOf : laws_FnExactHolderOf.Pure := by
  intro d c h1 h2 _ _
  obtain ⟨K, hK⟩ : ∃ K, K = d.length + 3000000 := ⟨_, rfl⟩
  refine ⟨K, ?_⟩
  unfold laws_FnExactHolderOf.f
  obtain ⟨s, e, hs⟩ := szDeal_eq d h1 h2 K (by omega)
  rw [e, Option.bind_some]
  rcases hs with hs | ⟨hs, ht⟩
  · rw [if_pos hs]
  · have hr := rows_total (d := d) (M := 1048576) (by omega)
    have hd : laws_toDeal.f K d = some d := toDeal_eq d 1048576 hr (by omega) (by omega) _ (by omega)
    have hi : spec_HolderOf.f K d c = some (if Deal d then holderL d c else -1) := by
      unfold spec_HolderOf.f
      rw [l03Deal_eq d 1048576 hr (by omega) _ (by omega), Option.bind_some]
      by_cases h : Deal d
      · rw [if_pos (by simpa using h), if_pos h, specHolder_eq d 1048576 hr (by omega) (by omega) c _ (by omega)]; rfl
      · rw [if_neg (by simpa using h), if_neg h]
    have hj : impl_HolderOf.f d c = some (if Deal d then holderL d c else -1) := by
      unfold impl_HolderOf.f
      rw [implDeal_eq d (fun x hx => by have := hr x hx; omega), Option.bind_some]
      by_cases h : Deal d
      · have e1 : impl_holder.f d c = some (holderL d c) := by unfold impl_holder.f; rw [if_pos (fun x hx => by have := hr x hx; omega)]
        rw [if_pos (by simpa using h), if_pos h, e1]; rfl
      · rw [if_neg (by simpa using h), if_neg h]
    rw [if_neg (by omega), hd, Option.bind_some, hi, Option.bind_some, Option.bind_some, hj, Option.bind_some, if_pos rfl, Option.bind_some, eqDeal_eq d d 1048576 hr (by omega) (by omega) _ (by omega), Option.bind_some]
    simp

end Go.Proofs.Ytckmdibjkklhkaa.Pure
