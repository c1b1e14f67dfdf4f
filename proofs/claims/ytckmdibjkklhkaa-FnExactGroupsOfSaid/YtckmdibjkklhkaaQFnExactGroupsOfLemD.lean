/- A smaller copy of texts of this seat, made by pack.py for one law. -/
import Derived.Test.YtckmdibjkklhkaaQFnExactGroupsOfLemA
import Derived.Test.YtckmdibjkklhkaaQFnExactGroupsOfBase2
import Derived.Test.YtckmdibjkklhkaaQFnExactGroupsOfLemD0
import Derived.Test.YtckmdibjkklhkaaQFnExactGroupsOfLemD1
import Derived.Test.YtckmdibjkklhkaaQFnExactGroupsOfLemD2
import Derived.Test.YtckmdibjkklhkaaQFnExactGroupsOfPAllx22
import Derived.Test.YtckmdibjkklhkaaQFnExactGroupsOfPAllx27
namespace Go.Proofs.Ytckmdibjkklhkaa.Lem
open Go.RowKit Go.Proofs.Ytckmdibjkklhkaa.PAll Go.Proofs.Ytckmdibjkklhkaa.Base Go.Proofs.YtckmdibjkklhkaaW.PrintWords Go.Proofs.YtckmdibjkklhkaaW.PrintLast Go.Proofs.YtckmdibjkklhkaaW.PrintMore
set_option linter.unusedVariables false
set_option linter.unusedSimpArgs false
def idxL (l : List Int) (x : Int) : Nat → Int
  | i => run (fun (j : Int) y => if x = y then .inr j else .inl (j + 1)) (fun _ => (-1 : Int)) l (i : Int)
theorem idxL_iff (x : Int) (l : List Int) : ∀ i : Nat, 0 ≤ idxL l x i ↔ x ∈ l := by
  induction l with
  | nil => intro i; simp [idxL, run]
  | cons y t ih =>
    intro i
    simp only [idxL, run]
    by_cases e : x = y
    · simp [e]
    · rw [if_neg e]; simp only
      have := ih (i + 1)
      simp only [idxL] at this
      rw [show ((i + 1 : Nat) : Int) = (i : Int) + 1 by omega] at this
      rw [this]; simp [e]
theorem index_eq (l : List Int) (hl : l.length ≤ 2000000) (x : Int) (k : Nat) (hk : l.length < k) : slices_Index_int64_int64.f k l x = some (idxL l x 0) := by
  unfold slices_Index_int64_int64.f
  exact run_loop (0 : Int) l 1 0 (fun k (_ : Int) i => slices_Index_int64_int64.l0 k l x (l.length : Int) i) (fun (j : Int) y => if x = y then .inr j else .inl (j + 1)) (fun _ => (-1 : Int)) (fun i j => j = (i : Int))
    (by intro k o i _ _ hi; simp only [slices_Index_int64_int64.l0]; rw [if_neg (by omega)])
    (by
      intro k o i _ ho hi
      simp only [slices_Index_int64_int64.l0]
      rw [if_pos (by omega), if_pos (by omega), if_pos (by omega), rd_nat, wrap_nat i (by omega)]
      by_cases e : x = l.getD i 0
      · rw [if_pos e, if_pos e, ho]
      · rw [if_neg e, if_neg e])
    (by
      intro o i s' ho hi hs
      by_cases e : x = l.getD i 0
      · rw [if_pos e] at hs; cases hs
      · rw [if_neg e] at hs; injection hs with hs; omega) l k 0 0 rfl (by omega) rfl
theorem contains_eq (l : List Int) (hl : l.length ≤ 2000000) (x : Int) (k : Nat) (hk : l.length < k) : slices_Contains_int64_int64.f k l x = some (decide (x ∈ l)) := by
  unfold slices_Contains_int64_int64.f
  rw [index_eq l hl x k hk, Option.bind_some]
  congr 1; exact decide_eq_decide.mpr (idxL_iff x l 0)
end Go.Proofs.Ytckmdibjkklhkaa.Lem
