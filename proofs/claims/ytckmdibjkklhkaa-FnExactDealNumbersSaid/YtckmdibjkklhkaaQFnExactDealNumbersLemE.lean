/- A smaller copy of a text of this seat, made by pack.py for one law. -/
import Derived.Test.YtckmdibjkklhkaaQFnExactDealNumbersLemB
import Derived.Test.YtckmdibjkklhkaaQFnExactDealNumbersLemA
import Derived.Test.YtckmdibjkklhkaaQFnExactDealNumbersBase2
import Derived.Test.YtckmdibjkklhkaaQFnExactDealNumbersLemD0
import Derived.Test.YtckmdibjkklhkaaQFnExactDealNumbersLemD1
import Derived.Test.YtckmdibjkklhkaaQFnExactDealNumbersPAllx22
import Derived.Test.YtckmdibjkklhkaaQFnExactDealNumbersPAllx23
import Derived.Test.YtckmdibjkklhkaaQFnExactDealNumbersPAllx27
import Derived.Test.YtckmdibjkklhkaaQFnExactDealNumbersPAllx10
import Derived.Test.YtckmdibjkklhkaaQFnExactDealNumbersPAllx40
import Derived.Test.YtckmdibjkklhkaaQFnExactDealNumbersPAllx51
namespace Go.Proofs.Ytckmdibjkklhkaa.Lem
open Go.RowKit Go.Proofs.Ytckmdibjkklhkaa.PAll Go.Proofs.Ytckmdibjkklhkaa.Base Go.Proofs.YtckmdibjkklhkaaW.PrintWords Go.Proofs.YtckmdibjkklhkaaW.PrintLast Go.Proofs.YtckmdibjkklhkaaW.PrintMore
set_option linter.unusedVariables false
set_option linter.unusedSimpArgs false
theorem succ2 {k d : Nat} (h : d + 2 ≤ k) : ∃ m, k = m + 1 + 1 := ⟨k - 2, by omega⟩
theorem drop_len {α : Type} {l t : List α} {i : Nat} {x : α} (h : l.drop i = x :: t) : l.length = i + 1 + t.length := by
  have := congrArg List.length h
  simp at this; omega
theorem l04Rank_l0 (l sub : List Int) (hn : l.length ≤ 52) (hs : sub.length ≤ 2000000) : ∀ (t : List Int) (k i m : Nat) (acc : Int) (u : List Int), l.drop i = t → sub.drop m = u → 2 * t.length + 60 ≤ k → 0 ≤ acc → acc ≤ 4503599627370496 * i →
    spec_l04Rank.l0 k l sub acc (m : Int) (i : Int) = some (acc + (rankL t u : Int)) := by
  intro t
  induction t with
  | nil =>
    intro k i m acc u ht hu hk h0 h1
    obtain ⟨k, rfl⟩ := succ2 (d := 0) (k := k) (by omega)
    have := drop_nil_le ht
    simp only [spec_l04Rank.l0, spec_l04Rank.j1]
    rw [if_neg (by omega)]
    simp [rankL]
  | cons x t ih =>
    intro k i m acc u ht hu hk h0 h1
    obtain ⟨hi, hx, ht'⟩ := drop_cons ht (0 : Int)
    have hl := drop_len ht
    simp only [List.length_cons] at hk
    obtain ⟨k, rfl⟩ := succ2 (d := 0) (k := k) (by omega)
    simp only [spec_l04Rank.l0]
    rw [if_pos (by omega)]
    cases u with
    | nil =>
      have := drop_nil_le hu
      rw [decide_eq_false (by omega)]
      simp [spec_l04Rank.j1, rankL]
    | cons y u =>
      obtain ⟨hm, hy, hu'⟩ := drop_cons hu (0 : Int)
      have hl2 := drop_len hu
      rw [decide_eq_true (by omega)]
      simp only [spec_l04Rank.j1, if_true]
      rw [if_pos (by omega), if_pos (by omega), if_pos (by omega), if_pos (by omega), rd_nat, rd_nat, hx, hy, wrap_nat i (by omega), wrap_nat m (by omega)]
      by_cases e : x = y
      · rw [if_pos e, ih k (i + 1) (m + 1) acc u ht' hu' (by omega) h0 (by omega)]
        simp [rankL, e]
      · have c := ch_small t.length u.length (by omega)
        rw [if_neg e, w64 (n := (l.length : Int) - 1) (by omega) (by omega), w64 (n := (l.length : Int) - 1 - (i : Int)) (by omega) (by omega), w64 (n := (sub.length : Int) - 1) (by omega) (by omega), w64 (n := (sub.length : Int) - 1 - (m : Int)) (by omega) (by omega),
          show (l.length : Int) - 1 - (i : Int) = (t.length : Int) by omega, show (sub.length : Int) - 1 - (m : Int) = (u.length : Int) by omega, choose_eq t.length _ (by omega) k (by omega), Option.bind_some, chZ_nat, w64 (by omega) (by omega),
          ih k (i + 1) m _ (y :: u) ht' hu (by omega) (by omega) (by omega)]
        rw [rankL, if_neg e, Int.natCast_add, Int.add_assoc]
theorem subsetNumber_l0 (l sub : List Int) (hn : l.length ≤ 52) (hs : sub.length ≤ 2000000) : ∀ (t : List Int) (k i m : Nat) (acc : Int) (u : List Int), l.drop i = t → sub.drop m = u → m + u.length = sub.length → t.length + 60 ≤ k → 0 ≤ acc → acc ≤ 4503599627370496 * i →
    impl_subsetNumber.l0 k l sub acc (u.length : Int) l (l.length : Int) (i : Int) = some (acc + (rankL t u : Int)) := by
  intro t
  induction t with
  | nil =>
    intro k i m acc u ht hu hmu hk h0 h1
    obtain ⟨k, rfl⟩ := succ_of (d := 0) (k := k) (by omega)
    have := drop_nil_le ht
    simp only [impl_subsetNumber.l0]
    rw [if_neg (by omega)]
    simp [rankL]
  | cons x t ih =>
    intro k i m acc u ht hu hmu hk h0 h1
    obtain ⟨hi, hx, ht'⟩ := drop_cons ht (0 : Int)
    have hl := drop_len ht
    simp only [List.length_cons] at hk
    obtain ⟨k, rfl⟩ := succ_of (d := 0) (k := k) (by omega)
    simp only [impl_subsetNumber.l0]
    rw [if_pos (by omega), if_pos (by omega), if_pos (by omega)]
    cases u with
    | nil => rw [if_pos (by simp)]; simp [rankL]
    | cons y u =>
      obtain ⟨hm, hy, hu'⟩ := drop_cons hu (0 : Int)
      have hl2 := drop_len hu
      rw [if_neg (by simp only [List.length_cons]; omega), List.length_cons, w64 (n := (sub.length : Int) - ((u.length + 1 : Nat) : Int)) (by omega) (by omega), show (sub.length : Int) - ((u.length + 1 : Nat) : Int) = (m : Int) by omega,
        if_pos (by omega), if_pos (by omega), rd_nat, rd_nat, hx, hy, wrap_nat i (by omega)]
      by_cases e : x = y
      · rw [if_pos e, w64 (n := ((u.length + 1 : Nat) : Int) - 1) (by omega) (by omega), show ((u.length + 1 : Nat) : Int) - 1 = (u.length : Int) by omega, ih k (i + 1) (m + 1) acc u ht' hu' (by omega) (by omega) h0 (by omega)]
        simp [rankL, e]
      · have c := ch_small t.length u.length (by omega)
        rw [if_neg e, w64 (n := (l.length : Int) - (i : Int)) (by omega) (by omega), w64 (n := (l.length : Int) - (i : Int) - 1) (by omega) (by omega), w64 (n := ((u.length + 1 : Nat) : Int) - 1) (by omega) (by omega), show ((u.length + 1 : Nat) : Int) - 1 = (u.length : Int) by omega,
          show (l.length : Int) - (i : Int) - 1 = (t.length : Int) by omega, binomial_eq t.length _ (by omega) k (by omega), Option.bind_some, chZ_nat, w64 (by omega) (by omega)]
        have := ih k (i + 1) m (acc + (ch t.length u.length : Int)) (y :: u) ht' hu (by simpa using hmu) (by omega) (by omega) (by omega)
        rw [List.length_cons] at this
        rw [this, rankL, if_neg e, Int.natCast_add, Int.add_assoc]
theorem l04Rank_eq (l sub : List Int) (hn : l.length ≤ 52) (hs : sub.length ≤ 2000000) (k : Nat) (hk : 200 ≤ k) : spec_l04Rank.f k l sub = some (rankL l sub : Int) := by
  unfold spec_l04Rank.f
  have := l04Rank_l0 l sub hn hs l k 0 0 0 sub rfl rfl (by omega) (by omega) (by omega)
  simpa using this
theorem subsetNumber_eq (l sub : List Int) (hn : l.length ≤ 52) (hs : sub.length ≤ 2000000) (k : Nat) (hk : 200 ≤ k) : impl_subsetNumber.f k l sub = some (rankL l sub : Int) := by
  unfold impl_subsetNumber.f
  have := subsetNumber_l0 l sub hn hs l k 0 0 0 sub rfl rfl (by omega) (by omega) (by omega) (by omega)
  simpa using this
end Go.Proofs.Ytckmdibjkklhkaa.Lem
