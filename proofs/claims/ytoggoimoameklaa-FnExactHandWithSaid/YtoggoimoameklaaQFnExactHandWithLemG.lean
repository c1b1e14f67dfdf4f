/- A smaller copy of a text of this seat, made by pack.py for one law. -/
import Derived.Test.YtoggoimoameklaaQFnExactHandWithLemC
import Derived.Test.YtoggoimoameklaaQFnExactHandWithLemD
import Derived.Test.YtoggoimoameklaaQFnExactHandWithPAllx29
import Derived.Test.YtoggoimoameklaaQFnExactHandWithPAllx31
namespace Go.Proofs.Ytoggoimoameklaa.Lem
open Go.RowKit Go.Proofs.Ytoggoimoameklaa.PAll Go.Proofs.Ytoggoimoameklaa.Base Go.Proofs.YtoggoimoameklaaW.PrintWords Go.Proofs.YtoggoimoameklaaW.PrintLast Go.Proofs.YtoggoimoameklaaW.PrintMore
set_option linter.unusedVariables false
set_option linter.unusedSimpArgs false
def insL (x : Int) : List Int → List Int
  | [] => [x]
  | y :: t => if y > x then x :: y :: t else y :: insL x t
theorem insL_len (x : Int) : ∀ l : List Int, (insL x l).length = l.length + 1
  | [] => rfl
  | y :: t => by simp only [insL]; split <;> simp [insL_len x t]
theorem put_l0 (l : List Int) (hl : l.length ≤ 2000000) (x : Int) : ∀ (t : List Int) (k i : Nat) (o : List Int) (d : Bool), l.drop i = t → t.length + 2 ≤ k → i ≤ l.length → o.length + t.length + (if d = true then 0 else 1) ≤ 4000000 →
    spec_l01Put.l0 k l x o d (i : Int) = some (o ++ if d = true then t else insL x t) := by
  intro t
  induction t with
  | nil =>
    intro k i o d ht hk hil ho
    obtain ⟨k, rfl⟩ := succ_of (d := 0) (k := k) (by omega)
    have := drop_nil_le ht
    simp only [spec_l01Put.l0]
    rw [if_neg (by omega)]
    cases d
    · simp at ho
      rw [if_neg (by simp), if_pos (by omega)]; simp [insL]
    · simp
  | cons y t ih =>
    intro k i o d ht hk hil ho
    obtain ⟨hi, hx, ht'⟩ := drop_cons ht (0 : Int)
    simp only [List.length_cons] at hk ho
    obtain ⟨k, rfl⟩ := succ_of (d := 0) (k := k) (by omega)
    simp only [spec_l01Put.l0]
    rw [if_pos (by omega), rd_nat, hx, wrap_nat i (by omega)]
    cases d
    · simp only [Bool.false_eq_true, if_false] at ho
      rw [if_neg (by simp), if_pos (by omega)]
      by_cases e : y > x
      · rw [if_pos e, if_pos (by omega), Option.bind_some, if_pos (by simp; omega), ih k (i + 1) _ true ht' (by omega) (by omega) (by simp; omega)]
        simp [insL, e]
      · rw [if_neg e, if_pos (by omega), ih k (i + 1) _ false ht' (by omega) (by omega) (by simp; omega)]
        simp [insL, e]
    · simp only [if_true] at ho
      rw [if_pos rfl, if_pos (by omega), if_pos (by omega), ih k (i + 1) _ true ht' (by omega) (by omega) (by simp; omega)]
      simp
theorem put_eq (l : List Int) (hl : l.length ≤ 2000000) (x : Int) (k : Nat) (hk : l.length + 2 ≤ k) : spec_l01Put.f k l x = some (insL x l) := by
  unfold spec_l01Put.f
  have := put_l0 l hl x l k 0 [] false rfl hk (by omega) (by simp; omega)
  simpa using this
end Go.Proofs.Ytoggoimoameklaa.Lem
