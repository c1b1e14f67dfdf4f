/- A smaller copy of texts of this seat, made by pack.py for one law. -/
import Derived.Test.YtckmdibjkklhkaaQFnExactGroupsOfLemA
import Derived.Test.YtckmdibjkklhkaaQFnExactGroupsOfBase2
import Derived.Test.YtckmdibjkklhkaaQFnExactGroupsOfPAllx3
namespace Go.Proofs.Ytckmdibjkklhkaa.Lem
open Go.RowKit Go.Proofs.Ytckmdibjkklhkaa.PAll Go.Proofs.Ytckmdibjkklhkaa.Base Go.Proofs.YtckmdibjkklhkaaW.PrintWords Go.Proofs.YtckmdibjkklhkaaW.PrintLast Go.Proofs.YtckmdibjkklhkaaW.PrintMore
set_option linter.unusedVariables false
set_option linter.unusedSimpArgs false
theorem has_eq (l : List Int) (hl : l.length ≤ 2000000) (x : Int) (k : Nat) (hk : l.length < k) : spec_l01Has.f k l x = some (decide (x ∈ l)) := by
  unfold spec_l01Has.f
  have := run_loop (0 : Int) l 1 0 (fun k (_ : Unit) i => spec_l01Has.l0 k l x i) (fun _ y => if y = x then .inr true else .inl ()) (fun _ => false) (fun _ _ => True)
    (by intro k o i _ _ hi; simp only [spec_l01Has.l0]; rw [if_neg (by omega)])
    (by
      intro k o i _ ho hi
      simp only [spec_l01Has.l0]
      rw [if_pos (by omega), if_pos (by omega), rd_nat, wrap_nat i (by omega)]
      by_cases e : l.getD i 0 = x
      · rw [if_pos e, if_pos e]
      · rw [if_neg e, if_neg e])
    (by intros; trivial) l k 0 () rfl (by omega) trivial
  refine this.trans ?_
  congr 1
  clear this hk hl
  induction l with
  | nil => simp [run]
  | cons y t ih =>
    simp only [run]
    by_cases e : y = x
    · simp [e]
    · rw [if_neg e]; simp only; rw [ih]; exact decide_eq_decide.mpr (by simp [Ne.symm e])
end Go.Proofs.Ytckmdibjkklhkaa.Lem
