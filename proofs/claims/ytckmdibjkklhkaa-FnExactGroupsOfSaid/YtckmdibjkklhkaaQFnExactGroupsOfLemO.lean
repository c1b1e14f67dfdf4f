/- A smaller copy of texts of this seat, made by pack.py for one law. -/
import Derived.Test.YtckmdibjkklhkaaQFnExactGroupsOfLemD0
import Derived.Test.YtckmdibjkklhkaaQFnExactGroupsOfGivM
import Derived.Test.YtckmdibjkklhkaaQFnExactGroupsOfPAllx0
import Derived.Test.YtckmdibjkklhkaaQFnExactGroupsOfPAllx1
import Derived.Test.YtckmdibjkklhkaaQFnExactGroupsOfPAllx6
namespace Go.Proofs.Ytckmdibjkklhkaa.Lem
open Go.RowKit Go.Proofs.Ytckmdibjkklhkaa.PAll Go.Proofs.Ytckmdibjkklhkaa.Base Go.Proofs.YtckmdibjkklhkaaW.PrintWords Go.Proofs.YtckmdibjkklhkaaW.PrintLast Go.Proofs.YtckmdibjkklhkaaW.PrintMore
set_option linter.unusedVariables false
set_option linter.unusedSimpArgs false
theorem rd_row (l : List (List Int)) (i : Nat) : rd_L1 l (i : Int) = l.getD i [] := by simp [rd_L1, rdOf]
theorem row_len {l : List (List Int)} {M : Nat} (h : ∀ x ∈ l, x.length ≤ M) (i : Nat) : (l.getD i []).length ≤ M := by
  by_cases hi : i < l.length
  · rw [List.getD, List.getElem?_eq_getElem hi]; exact h _ (List.getElem_mem hi)
  · rw [List.getD, List.getElem?_eq_none (by omega)]; simp
theorem eqSS_l0 (a b : List (List Int)) (M : Nat) (hM : ∀ x ∈ a, x.length ≤ M) (hMb : M ≤ 2000000) (hl : a.length ≤ 2000000) (hab : a.length = b.length) (d : Nat) : ∀ (k i : Nat), i + d = a.length → d + M + 1 ≤ k → a.take i = b.take i →
    laws_eqInt64SS.l0 k a b (i : Int) = some (decide (a = b)) := by
  induction d with
  | zero =>
    intro k i hi hk ht
    obtain ⟨k, rfl⟩ := succ_of (show M < k by omega)
    rw [List.take_of_length_le (by omega), List.take_of_length_le (by omega)] at ht
    rw [laws_eqInt64SS.l0, if_neg (by omega), decide_eq_true ht]
  | succ d ih =>
    intro k i hi hk ht
    obtain ⟨k, rfl⟩ := succ_of (show M < k by omega)
    have h1 : i < a.length := by omega
    have h2 : i < b.length := by omega
    have hr := row_len hM i
    rw [laws_eqInt64SS.l0, if_pos (by omega), if_pos (by omega), if_pos (by omega), rd_row, rd_row, eqInt_eq _ _ (by omega) k (by omega), Option.bind_some]
    by_cases e : a.getD i [] = b.getD i []
    · rw [if_pos (by simpa using e), wrap_nat i (by omega)]
      refine ih k (i + 1) (by omega) (by omega) ?_
      rw [List.take_add_one, List.take_add_one, ht]
      simp [List.getD, h1, h2] at e
      simp [h1, h2, e]
    · rw [if_neg (by simpa using e), decide_eq_false]
      intro h; subst h; exact e rfl
theorem eqSS_eq (a b : List (List Int)) (M : Nat) (hM : ∀ x ∈ a, x.length ≤ M) (hMb : M ≤ 2000000) (hl : a.length ≤ 2000000) (k : Nat) (hk : a.length + M + 1 ≤ k) : laws_eqInt64SS.f k a b = some (decide (a = b)) := by
  unfold laws_eqInt64SS.f
  by_cases e : a.length = b.length
  · rw [if_pos (by omega)]
    exact eqSS_l0 a b M hM hMb hl e a.length k 0 (by omega) hk (by simp)
  · rw [if_neg (by omega), decide_eq_false]
    intro h; subst h; exact e rfl
theorem markRows_at (a : Int) (l : List (List Int)) (j : Nat) (h : j < l.length) : (markRows a l).getD j [] = marks (a + total (l.take j)) l[j].length := by
  have e : l = l.take j ++ (l[j] :: l.drop (j + 1)) := by rw [← List.drop_eq_getElem_cons h, List.take_append_drop]
  have hm : (markRows a (l.take j)).length = j := by rw [markRows_len]; simp; omega
  have : markRows a l = markRows a (l.take j) ++ markRows (a + total (l.take j)) (l[j] :: l.drop (j + 1)) := by rw [← markRows_append, ← e]
  rw [this, List.getD, List.getElem?_append_right (by omega), hm, Nat.sub_self]
  rfl
theorem total_ge {l : List (List Int)} {x : List Int} (h : x ∈ l) : x.length ≤ total l := by
  induction l with
  | nil => cases h
  | cons y t ih =>
    rcases List.mem_cons.1 h with rfl | h
    · simp [total]
    · have := ih h; simp [total]; omega
theorem total_le {M : Nat} : ∀ {l : List (List Int)}, (∀ x ∈ l, x.length ≤ M) → total l ≤ l.length * M
  | [], _ => by simp [total]
  | x :: t, h => by
    have h1 := h x List.mem_cons_self
    have h2 := total_le (l := t) fun y hy => h y (List.mem_cons_of_mem _ hy)
    simp only [total, List.length_cons, Nat.succ_mul, Nat.add_mul]; omega
theorem heldSS_l0 (l : List (List Int)) (a : Int) (h0 : 0 ≤ a) (hs : a + total l ≤ 10000000) (hl : l.length ≤ 2000000) (d : Nat) : ∀ (k i : Nat), i + d = l.length → d + total l + 1 ≤ k →
    laws_heldInt64SS.l0 k (markRows a l) (a + total (l.take i)) (i : Int) = some (a + total l) := by
  have hml := markRows_len l a
  induction d with
  | zero =>
    intro k i hi hk
    obtain ⟨k, rfl⟩ := succ_of (show 0 < k by omega)
    rw [laws_heldInt64SS.l0, if_neg (by omega), List.take_of_length_le (by omega)]
  | succ d ih =>
    intro k i hi hk
    obtain ⟨k, rfl⟩ := succ_of (show 0 < k by omega)
    have h1 : i < l.length := by omega
    have hsn := total_snoc l i h1
    have htl := total_take_le l (i + 1)
    rw [laws_heldInt64SS.l0, if_pos (by omega), if_pos (by omega), rd_row, markRows_at a l i h1, held_eq _ (by omega) _ (by omega) (by omega) k (by omega), Option.bind_some, if_neg (by omega), wrap_nat i (by omega)]
    have e : a + (total (l.take i) : Int) + (l[i].length : Int) = a + ((total (l.take (i + 1)) : Nat) : Int) := by rw [hsn]; omega
    rw [e]
    exact ih k (i + 1) (by omega) (by omega)
theorem heldSS_eq (l : List (List Int)) (a : Int) (h0 : 0 ≤ a) (hs : a + total l ≤ 10000000) (hl : l.length ≤ 2000000) (k : Nat) (hk : l.length + total l + 1 ≤ k) : laws_heldInt64SS.f k (markRows a l) a = some (a + total l) := by
  unfold laws_heldInt64SS.f
  have := heldSS_l0 l a h0 hs hl l.length k 0 (by omega) hk
  simpa [total] using this
end Go.Proofs.Ytckmdibjkklhkaa.Lem
