/- A smaller copy of texts of this seat, made by pack.py for one law. -/
import Derived.Test.YtckmdibjkklhkaaQFnExactEquivalentCardsLemD0
import Derived.Test.YtckmdibjkklhkaaQFnExactEquivalentCardsGivM
import Derived.Test.YtckmdibjkklhkaaQFnExactEquivalentCardsPAllx0
import Derived.Test.YtckmdibjkklhkaaQFnExactEquivalentCardsPAllx1
import Derived.Test.YtckmdibjkklhkaaQFnExactEquivalentCardsPAllx6
namespace Go.Proofs.Ytckmdibjkklhkaa.Lem
open Go.RowKit Go.Proofs.Ytckmdibjkklhkaa.PAll Go.Proofs.Ytckmdibjkklhkaa.Base Go.Proofs.YtckmdibjkklhkaaW.PrintWords Go.Proofs.YtckmdibjkklhkaaW.PrintLast Go.Proofs.YtckmdibjkklhkaaW.PrintMore
set_option linter.unusedVariables false
set_option linter.unusedSimpArgs false
theorem rd_row (l : List (List Int)) (i : Nat) : rd_L1 l (i : Int) = l.getD i [] := by simp [rd_L1, rdOf]
theorem row_len {l : List (List Int)} {M : Nat} (h : ∀ x ∈ l, x.length ≤ M) (i : Nat) : (l.getD i []).length ≤ M := by
  by_cases hi : i < l.length
  · rw [List.getD, List.getElem?_eq_getElem hi]; exact h _ (List.getElem_mem hi)
  · rw [List.getD, List.getElem?_eq_none (by omega)]; simp
theorem eqSS_l0 (a b : List (List Int)) (M : Nat) (hM : ∀ x ∈ a, x.length ≤ M) (hMb : M ≤ 2000000) (hl : a.length ≤ 2000000) (hab : a.length = b.length) (d : Nat) : ∀ (k i : Nat), i + d = a.length → d + M + 1 ≤ k → a.take i = b.take i →
    laws_eqInt64SS.l0 k a b (i : Int) = some (decide (a = b)) := by
  induction d with
  | zero =>
    intro k i hi hk ht
    obtain ⟨k, rfl⟩ := succ_of (show M < k by omega)
    rw [List.take_of_length_le (by omega), List.take_of_length_le (by omega)] at ht
    rw [laws_eqInt64SS.l0, if_neg (by omega), decide_eq_true ht]
  | succ d ih =>
    intro k i hi hk ht
    obtain ⟨k, rfl⟩ := succ_of (show M < k by omega)
    have h1 : i < a.length := by omega
    have h2 : i < b.length := by omega
    have hr := row_len hM i
    rw [laws_eqInt64SS.l0, if_pos (by omega), if_pos (by omega), if_pos (by omega), rd_row, rd_row, eqInt_eq _ _ (by omega) k (by omega), Option.bind_some]
    by_cases e : a.getD i [] = b.getD i []
    · rw [if_pos (by simpa using e), wrap_nat i (by omega)]
      refine ih k (i + 1) (by omega) (by omega) ?_
      rw [List.take_add_one, List.take_add_one, ht]
      simp [List.getD, h1, h2] at e
      simp [h1, h2, e]
    · rw [if_neg (by simpa using e), decide_eq_false]
      intro h; subst h; exact e rfl
theorem eqSS_eq (a b : List (List Int)) (M : Nat) (hM : ∀ x ∈ a, x.length ≤ M) (hMb : M ≤ 2000000) (hl : a.length ≤ 2000000) (k : Nat) (hk : a.length + M + 1 ≤ k) : laws_eqInt64SS.f k a b = some (decide (a = b)) := by
  unfold laws_eqInt64SS.f
  by_cases e : a.length = b.length
  · rw [if_pos (by omega)]
    exact eqSS_l0 a b M hM hMb hl e a.length k 0 (by omega) hk (by simp)
  · rw [if_neg (by omega), decide_eq_false]
    intro h; subst h; exact e rfl
theorem total_ge {l : List (List Int)} {x : List Int} (h : x ∈ l) : x.length ≤ total l := by
  induction l with
  | nil => cases h
  | cons y t ih =>
    rcases List.mem_cons.1 h with rfl | h
    · simp [total]
    · have := ih h; simp [total]; omega
end Go.Proofs.Ytckmdibjkklhkaa.Lem
