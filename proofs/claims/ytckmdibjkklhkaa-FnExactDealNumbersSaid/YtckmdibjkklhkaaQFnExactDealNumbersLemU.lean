/- A smaller copy of a text of this seat, made by pack.py for one law. -/
import Derived.Test.YtckmdibjkklhkaaQFnExactDealNumbersLemT
import Derived.Test.YtckmdibjkklhkaaQFnExactDealNumbersLemE
import Derived.Test.YtckmdibjkklhkaaQFnExactDealNumbersGivI
import Derived.Test.YtckmdibjkklhkaaQFnExactDealNumbersPAllx10
import Derived.Test.YtckmdibjkklhkaaQFnExactDealNumbersPAllx40
import Derived.Test.YtckmdibjkklhkaaQFnExactDealNumbersPAllx41
namespace Go.Proofs.Ytckmdibjkklhkaa.Lem
open Go.RowKit Go.Proofs.Ytckmdibjkklhkaa.PAll Go.Proofs.Ytckmdibjkklhkaa.Base Go.Proofs.YtckmdibjkklhkaaW.PrintWords Go.Proofs.YtckmdibjkklhkaaW.PrintLast Go.Proofs.YtckmdibjkklhkaaW.PrintMore
set_option linter.unusedVariables false
set_option linter.unusedSimpArgs false
def restL (l u : List Int) : List Int := l.filter fun x => !decide (x ∈ u)
theorem restL_len (l u : List Int) : (restL l u).length ≤ l.length := List.length_filter_le _ _
theorem rest_l0 (l u : List Int) (hl : l.length ≤ 2000000) (hu : u.length ≤ 2000000) : ∀ (t : List Int) (k i : Nat) (o : List Int), l.drop i = t → t.length + u.length + 1 ≤ k → o.length + t.length ≤ 2000000 →
    spec_l04Rest.l0 k l u o (i : Int) = some (o ++ restL t u) := by
  intro t
  induction t with
  | nil =>
    intro k i o ht hk ho
    obtain ⟨k, rfl⟩ := succ_of (show 0 < k by omega)
    have := drop_nil_le ht
    rw [spec_l04Rest.l0, if_neg (by omega)]; simp [restL]
  | cons y t ih =>
    intro k i o ht hk ho
    obtain ⟨hi, hx, ht'⟩ := drop_cons ht (0 : Int)
    simp only [List.length_cons] at hk ho
    obtain ⟨k, rfl⟩ := succ_of (show 0 < k by omega)
    rw [spec_l04Rest.l0, if_pos (by omega), if_pos (by omega), rd_nat, hx, has_eq u hu y k (by omega), Option.bind_some, wrap_nat i (by omega)]
    by_cases e : y ∈ u
    · rw [if_pos (by simpa using e), ih k (i + 1) o ht' (by omega) (by omega)]; simp [restL, e]
    · rw [if_neg (by simpa using e), if_pos (by omega), ih k (i + 1) _ ht' (by omega) (by simp; omega)]; simp [restL, e]
theorem l04Rest_eq (l u : List Int) (hl : l.length ≤ 1000000) (hu : u.length ≤ 2000000) (k : Nat) (hk : l.length + u.length + 1 ≤ k) : spec_l04Rest.f k l u = some (restL l u) := by
  unfold spec_l04Rest.f
  exact (rest_l0 l u (by omega) hu l k 0 [] rfl hk (by simp; omega)).trans (by simp)
theorem apart_eq (l u : List Int) (hl : l.length ≤ 1000000) (hu : u.length ≤ 2000000) : impl_apart.f l u = some (restL l u) := by
  unfold impl_apart.f restL
  rw [if_pos ⟨by omega, by omega⟩]
  congr 2
  funext x; simp
def dealNums : List (List Int) → List Int → List Int
  | [], _ => []
  | h :: t, left => (rankL left h : Int) :: dealNums t (restL left h)
theorem dealNums_len : ∀ (t : List (List Int)) (left : List Int), (dealNums t left).length = t.length
  | [], _ => rfl
  | h :: t, left => by simp [dealNums, dealNums_len t]
theorem take3 (d : List (List Int)) (h4 : d.length = 4) (i : Nat) (hi : i < 3) : (d.take 3).drop i = d.getD i [] :: (d.take 3).drop (i + 1) := by
  have h1 : i < (d.take 3).length := by simp; omega
  rw [List.drop_eq_getElem_cons h1]
  simp [List.getD, show i < d.length by omega]
theorem specNums_l0 (d : List (List Int)) (h4 : d.length = 4) (M : Nat) (hr : ∀ x ∈ d, x.length ≤ M) (hM : M ≤ 2000000) (e : Nat) : ∀ (k i : Nat) (o left : List Int), i + e = 3 → e + M + 300 ≤ k → o.length ≤ i → left.length ≤ 52 →
    spec_DealNumbers.l0 k o left (i : Int) d = some (o ++ dealNums ((d.take 3).drop i) left, true) := by
  induction e with
  | zero =>
    intro k i o left hi hk ho hl
    obtain ⟨k, rfl⟩ := succ_of (show 0 < k by omega)
    rw [spec_DealNumbers.l0, if_neg (by omega), List.drop_eq_nil_of_le (by simp; omega)]; simp [dealNums]
  | succ e ih =>
    intro k i o left hi hk ho hl
    obtain ⟨k, rfl⟩ := succ_of (show 0 < k by omega)
    have hrow := row_len hr i
    have hrl := restL_len left (d.getD i [])
    rw [spec_DealNumbers.l0, if_pos (by omega), if_pos (by omega), if_pos (by omega), rd_row, l04Rank_eq left _ hl (by omega) k (by omega), Option.bind_some, if_pos (by omega), l04Rest_eq left _ (by omega) (by omega) k (by omega), Option.bind_some, wrap_nat i (by omega),
      ih k (i + 1) _ _ (by omega) (by omega) (by simp; omega) (by omega), take3 d h4 i (by omega)]
    simp [dealNums]
theorem implNums_l0 (d : List (List Int)) (h4 : d.length = 4) (M : Nat) (hr : ∀ x ∈ d, x.length ≤ M) (hM : M ≤ 2000000) (e : Nat) : ∀ (k i : Nat) (o left : List Int), i + e = 3 → e + 300 ≤ k → o.length ≤ i → left.length ≤ 52 →
    impl_DealNumbers.l0 k o left (d.take 3) 3 (i : Int) = some (o ++ dealNums ((d.take 3).drop i) left, true) := by
  have h3 : (d.take 3).length = 3 := by simp; omega
  induction e with
  | zero =>
    intro k i o left hi hk ho hl
    obtain ⟨k, rfl⟩ := succ_of (show 0 < k by omega)
    rw [impl_DealNumbers.l0, if_neg (by omega), List.drop_eq_nil_of_le (by omega)]; simp [dealNums]
  | succ e ih =>
    intro k i o left hi hk ho hl
    obtain ⟨k, rfl⟩ := succ_of (show 0 < k by omega)
    have hrow := row_len hr i
    have hrl := restL_len left (d.getD i [])
    have hg : (d.take 3).getD i [] = d.getD i [] := by simp [List.getD, List.getElem?_take_of_lt (show i < 3 by omega)]
    rw [impl_DealNumbers.l0, if_pos (by omega), if_pos (by omega), if_pos (by omega), rd_row, hg, subsetNumber_eq left _ hl (by omega) k (by omega), Option.bind_some, if_pos (by omega), apart_eq left _ (by omega) (by omega), Option.bind_some, wrap_nat i (by omega),
      ih k (i + 1) _ _ (by omega) (by omega) (by simp; omega) (by omega), take3 d h4 i (by omega)]
    simp [dealNums]
def dealNumbers (d : List (List Int)) : List Int × Bool := if Deal d then (dealNums (d.take 3) (cardsL d), true) else ([], false)
theorem dealNumbers_len (d : List (List Int)) : (dealNumbers d).1.length ≤ 3 := by
  unfold dealNumbers; split
  · rw [dealNums_len]; simp; omega
  · simp
theorem specNumbers_eq (d : List (List Int)) (hr : ∀ x ∈ d, x.length ≤ 1048576) (hd : d.length ≤ 1048576) (k : Nat) (hk : d.length + 1048576 + 400 ≤ k) : spec_DealNumbers.f k d = some (dealNumbers d) := by
  unfold spec_DealNumbers.f dealNumbers
  rw [Option.bind_some, l03Deal_eq d 1048576 hr (by omega) _ (by omega), Option.bind_some]
  by_cases h : Deal d
  · rw [if_pos (by simpa using h), if_pos h, l03Cards_eq d 1048576 hr (by omega) (by omega) _ (by omega), Option.bind_some]
    exact (specNums_l0 d h.1 1048576 hr (by omega) 3 k 0 [] (cardsL d) (by omega) (by omega) (by simp) (cardsL_len d)).trans (by simp)
  · rw [if_neg (by simpa using h), if_neg h]
theorem implNumbers_eq (d : List (List Int)) (ht : total d ≤ 1048576) (k : Nat) (hk : 400 ≤ k) : impl_DealNumbers.f k d = some (dealNumbers d) := by
  have hr := rows_total ht
  unfold impl_DealNumbers.f dealNumbers
  rw [implDeal_eq d (fun x hx => by have := hr x hx; omega), Option.bind_some]
  by_cases h : Deal d
  · have h3 : (d.take 3).length = 3 := by have := h.1; simp; omega
    have h4 := h.1
    rw [if_pos (by simpa using h), if_pos h, cardsOf_eq d ht h, Option.bind_some, if_pos (by omega), Option.bind_some, h3]
    exact (implNums_l0 d h.1 1048576 hr (by omega) 3 k 0 [] (cardsL d) (by omega) (by omega) (by simp) (cardsL_len d)).trans (by simp)
  · rw [if_neg (by simpa using h), if_neg h]
end Go.Proofs.Ytckmdibjkklhkaa.Lem
