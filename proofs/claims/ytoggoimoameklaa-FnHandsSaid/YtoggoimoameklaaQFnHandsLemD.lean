/- A smaller copy of a text of this seat, made by pack.py for one law. -/
import Derived.Test.YtoggoimoameklaaQFnHandsLemA
import Derived.Test.YtoggoimoameklaaQFnHandsBase2
import Derived.Test.YtoggoimoameklaaQFnHandsPAllx1
import Derived.Test.YtoggoimoameklaaQFnHandsPAllx15
import Derived.Test.YtoggoimoameklaaQFnHandsPAllx3
import Derived.Test.YtoggoimoameklaaQFnHandsPAllx5
import Derived.Test.YtoggoimoameklaaQFnHandsPAllx7
namespace Go.Proofs.Ytoggoimoameklaa.Lem
open Go.RowKit Go.Proofs.Ytoggoimoameklaa.PAll Go.Proofs.Ytoggoimoameklaa.Base Go.Proofs.YtoggoimoameklaaW.PrintWords Go.Proofs.YtoggoimoameklaaW.PrintLast Go.Proofs.YtoggoimoameklaaW.PrintMore
set_option linter.unusedVariables false
set_option linter.unusedSimpArgs false
theorem suit_eq {c : Int} (h : Card c) : impl_suit.f c = some (c / 13) := by
  unfold impl_suit.f; rw [card_div h, w64 (by have := h.1; omega) (by have := h.2; omega)]
theorem ofSuit_eq (l : List Int) (hl : l.length ≤ 2000000) (hc : ∀ x ∈ l, Card x) (s : Int) (k : Nat) (hk : l.length < k) : impl_ofSuit.f k l s = some (suitL l s) := by
  unfold impl_ofSuit.f
  have := fold_loop (0 : Int) l 1 0 (fun k (o : List Int) i => impl_ofSuit.l0 k s o l (l.length : Int) i) (fun o x => o ++ (if x / 13 = s then [x] else [])) id (fun i o => o.length ≤ i)
    (by intro k o i _ _ hi; simp only [impl_ofSuit.l0]; rw [if_neg (by omega)]; rfl)
    (by
      intro k o i _ ho hi
      have h := hc _ (getD_mem hi)
      simp only [impl_ofSuit.l0]
      rw [if_pos (by omega), if_pos (by omega), if_pos (by omega), rd_nat, suit_eq h, Option.bind_some, wrap_nat i (by omega)]
      by_cases e : l.getD i 0 / 13 = s
      · rw [if_pos e, if_pos (by omega), if_pos e]
      · rw [if_neg e, if_neg e, List.append_nil])
    (by intro o i ho hi; rw [List.length_append]; split <;> simp <;> omega) l k 0 [] rfl (by omega) (by simp)
  rw [foldl_collect, flatMap_filter] at this
  simpa [suitL] using this
theorem suitL_cards {l : List Int} {s : Int} (h : Cards l) : Cards (suitL l s) := cards_sub h List.filter_sublist
theorem suitL_len (l : List Int) (s : Int) : (suitL l s).length ≤ l.length := List.length_filter_le _ _
def suitOf (l : List Int) (s : Int) : List Int := if Hand l ∧ 0 ≤ s ∧ s ≤ 3 then suitL l s else []
theorem implSuit_eq (l : List Int) (hl : l.length ≤ 2000000) (s : Int) (k : Nat) (hk : l.length < k) : impl_CardsOfSuit.f k l s = some (suitOf l s) := by
  unfold impl_CardsOfSuit.f suitOf impl_isSuit.f
  rw [implHand_eq l (by omega) k hk, Option.bind_some, within_eq, Option.bind_some, Option.bind_some]
  by_cases h : Hand l
  · rw [if_pos (by simpa using h)]
    by_cases h2 : 0 ≤ s ∧ s ≤ 3
    · rw [if_pos (by simpa using h2), if_pos ⟨h, h2⟩, ofSuit_eq l hl h.2.1 s k hk, Option.bind_some]
    · rw [if_neg (by simpa using h2), if_neg (fun x => h2 x.2)]
  · rw [if_neg (by simpa using h), if_neg (fun x => h x.1)]
def idxL (l : List Int) (x : Int) : Nat → Int
  | i => run (fun (j : Int) y => if x = y then .inr j else .inl (j + 1)) (fun _ => (-1 : Int)) l (i : Int)
theorem idxL_iff (x : Int) (l : List Int) : ∀ i : Nat, 0 ≤ idxL l x i ↔ x ∈ l := by
  induction l with
  | nil => intro i; simp [idxL, run]
  | cons y t ih =>
    intro i
    simp only [idxL, run]
    by_cases e : x = y
    · simp [e]
    · rw [if_neg e]; simp only
      have := ih (i + 1)
      simp only [idxL] at this
      rw [show ((i + 1 : Nat) : Int) = (i : Int) + 1 by omega] at this
      rw [this]; simp [e]
theorem index_eq (l : List Int) (hl : l.length ≤ 2000000) (x : Int) (k : Nat) (hk : l.length < k) : slices_Index_int64_int64.f k l x = some (idxL l x 0) := by
  unfold slices_Index_int64_int64.f
  exact run_loop (0 : Int) l 1 0 (fun k (_ : Int) i => slices_Index_int64_int64.l0 k l x (l.length : Int) i) (fun (j : Int) y => if x = y then .inr j else .inl (j + 1)) (fun _ => (-1 : Int)) (fun i j => j = (i : Int))
    (by intro k o i _ _ hi; simp only [slices_Index_int64_int64.l0]; rw [if_neg (by omega)])
    (by
      intro k o i _ ho hi
      simp only [slices_Index_int64_int64.l0]
      rw [if_pos (by omega), if_pos (by omega), if_pos (by omega), rd_nat, wrap_nat i (by omega)]
      by_cases e : x = l.getD i 0
      · rw [if_pos e, if_pos e, ho]
      · rw [if_neg e, if_neg e])
    (by
      intro o i s' ho hi hs
      by_cases e : x = l.getD i 0
      · rw [if_pos e] at hs; cases hs
      · rw [if_neg e] at hs; injection hs with hs; omega) l k 0 0 rfl (by omega) rfl
theorem contains_eq (l : List Int) (hl : l.length ≤ 2000000) (x : Int) (k : Nat) (hk : l.length < k) : slices_Contains_int64_int64.f k l x = some (decide (x ∈ l)) := by
  unfold slices_Contains_int64_int64.f
  rw [index_eq l hl x k hk, Option.bind_some]
  congr 1; exact decide_eq_decide.mpr (idxL_iff x l 0)
end Go.Proofs.Ytoggoimoameklaa.Lem
