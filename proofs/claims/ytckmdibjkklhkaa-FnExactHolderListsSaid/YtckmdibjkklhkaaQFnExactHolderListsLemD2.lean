/- A smaller copy of a text of this seat, made by pack.py for one law. -/
import Derived.Test.YtckmdibjkklhkaaQFnExactHolderListsLemA
import Derived.Test.YtckmdibjkklhkaaQFnExactHolderListsBase2
import Derived.Test.YtckmdibjkklhkaaQFnExactHolderListsPAllx22
import Derived.Test.YtckmdibjkklhkaaQFnExactHolderListsPAllx23
namespace Go.Proofs.Ytckmdibjkklhkaa.Lem
open Go.RowKit Go.Proofs.Ytckmdibjkklhkaa.PAll Go.Proofs.Ytckmdibjkklhkaa.Base Go.Proofs.YtckmdibjkklhkaaW.PrintWords Go.Proofs.YtckmdibjkklhkaaW.PrintLast Go.Proofs.YtckmdibjkklhkaaW.PrintMore
set_option linter.unusedVariables false
set_option linter.unusedSimpArgs false
theorem suit_eq {c : Int} (h : Card c) : impl_suit.f c = some (c / 13) := by
  unfold impl_suit.f; rw [card_div h, w64 (by have := h.1; omega) (by have := h.2; omega)]
theorem ofSuit_eq (l : List Int) (hl : l.length ≤ 2000000) (hc : ∀ x ∈ l, Card x) (s : Int) (k : Nat) (hk : l.length < k) : impl_ofSuit.f k l s = some (suitL l s) := by
  unfold impl_ofSuit.f
  have := fold_loop (0 : Int) l 1 0 (fun k (o : List Int) i => impl_ofSuit.l0 k s o l (l.length : Int) i) (fun o x => o ++ (if x / 13 = s then [x] else [])) id (fun i o => o.length ≤ i)
    (by intro k o i _ _ hi; simp only [impl_ofSuit.l0]; rw [if_neg (by omega)]; rfl)
    (by
      intro k o i _ ho hi
      have h := hc _ (getD_mem hi)
      simp only [impl_ofSuit.l0]
      rw [if_pos (by omega), if_pos (by omega), if_pos (by omega), rd_nat, suit_eq h, Option.bind_some, wrap_nat i (by omega)]
      by_cases e : l.getD i 0 / 13 = s
      · rw [if_pos e, if_pos (by omega), if_pos e]
      · rw [if_neg e, if_neg e, List.append_nil])
    (by intro o i ho hi; rw [List.length_append]; split <;> simp <;> omega) l k 0 [] rfl (by omega) (by simp)
  rw [foldl_collect, flatMap_filter] at this
  simpa [suitL] using this
theorem suitL_cards {l : List Int} {s : Int} (h : Cards l) : Cards (suitL l s) := cards_sub h List.filter_sublist
theorem suitL_len (l : List Int) (s : Int) : (suitL l s).length ≤ l.length := List.length_filter_le _ _
end Go.Proofs.Ytckmdibjkklhkaa.Lem
