/- A smaller copy of a text of this seat, made by pack.py for one law. -/
import Derived.Test.YtckmdibjkklhkaaQFnExactDealNumbersLemA
import Derived.Test.YtckmdibjkklhkaaQFnExactDealNumbersPAllx10
namespace Go.Proofs.Ytckmdibjkklhkaa.Lem
open Go.RowKit Go.Proofs.Ytckmdibjkklhkaa.PAll Go.Proofs.Ytckmdibjkklhkaa.Base Go.Proofs.YtckmdibjkklhkaaW.PrintWords Go.Proofs.YtckmdibjkklhkaaW.PrintLast Go.Proofs.YtckmdibjkklhkaaW.PrintMore
set_option linter.unusedVariables false
set_option linter.unusedSimpArgs false
theorem choose_l0 (n m : Nat) (hn : n ≤ 52) (hm : m ≤ n) (d : Nat) : ∀ (k i : Nat), i + d = m → d < k →
    spec_l04Choose.l0 k (n : Int) (m : Int) (ch (n - m + i) i : Int) ((i + 1 : Nat) : Int) = some (ch n m : Int) := by
  induction d with
  | zero =>
    intro k i hi hk
    obtain ⟨k, rfl⟩ := succ_of hk
    simp only [spec_l04Choose.l0]
    rw [if_neg (by omega)]
    obtain rfl : i = m := by omega
    rw [Nat.sub_add_cancel hm]
  | succ d ih =>
    intro k i hi hk
    obtain ⟨k, rfl⟩ := succ_of hk
    simp only [spec_l04Choose.l0]
    rw [if_pos (by omega), if_neg (by omega), w64 (n := (n : Int) - (m : Int)) (by omega) (by omega), w64 (n := (n : Int) - (m : Int) + ((i + 1 : Nat) : Int)) (by omega) (by omega), w64 (n := ((i + 1 : Nat) : Int) + 1) (by omega) (by omega),
      show (n : Int) - (m : Int) + ((i + 1 : Nat) : Int) = ((n - m + i + 1 : Nat) : Int) by omega,
      whole_round (g := ch (n - m + (i + 1)) (i + 1)) (ch_small _ _ (by omega)) (by omega) (by omega) (ch_up (n - m + i) i)]
    exact ih k (i + 1) (by omega) (by omega)
theorem choose_eq (n : Nat) (j : Int) (hn : n ≤ 52) (k : Nat) (hk : n + 2 ≤ k) : spec_l04Choose.f k (n : Int) j = some (chZ n j) := by
  obtain ⟨k, rfl⟩ : ∃ m, k = m + 1 := ⟨k - 1, by omega⟩
  unfold spec_l04Choose.f
  by_cases h : j < 0
  · rw [if_pos h, chZ_neg n j h]; simp [spec_l04Choose.j0]
  · rw [if_neg h]; simp only [spec_l04Choose.j0]
    by_cases h2 : j > (n : Int)
    · rw [if_pos (by simpa using h2), chZ_over n j h2]
    · rw [if_neg (by simpa using h2)]
      obtain ⟨m, rfl⟩ := Int.eq_ofNat_of_zero_le (show 0 ≤ j by omega)
      rw [chZ_nat]
      have := choose_l0 n m hn (by omega) m k 0 (by omega) (by omega)
      rw [ch_zero] at this
      exact this
theorem binom_l0 (n j m : Nat) (hn : n ≤ 52) (hj : j ≤ n) (hm : m = min j (n - j)) (d : Nat) : ∀ (k i : Nat), i + d = m → d < k →
    impl_binomial.l0 k (n : Int) (j : Int) (ch n i : Int) ((i + 1 : Nat) : Int) = some (ch n m : Int) := by
  have hmn : mn (j : Int) (wrap64 ((n : Int) - (j : Int))) = (m : Int) := by rw [w64 (by omega) (by omega)]; unfold mn; omega
  induction d with
  | zero =>
    intro k i hi hk
    obtain ⟨k, rfl⟩ := succ_of hk
    simp only [impl_binomial.l0]
    rw [hmn, if_neg (by omega)]
    obtain rfl : i = m := by omega
    rfl
  | succ d ih =>
    intro k i hi hk
    obtain ⟨k, rfl⟩ := succ_of hk
    simp only [impl_binomial.l0]
    rw [hmn, if_pos (by omega), if_neg (by omega), w64 (n := (n : Int) - ((i + 1 : Nat) : Int)) (by omega) (by omega), w64 (n := (n : Int) - ((i + 1 : Nat) : Int) + 1) (by omega) (by omega), w64 (n := ((i + 1 : Nat) : Int) + 1) (by omega) (by omega),
      show (n : Int) - ((i + 1 : Nat) : Int) + 1 = ((n - i : Nat) : Int) by omega,
      whole_round (g := ch n (i + 1)) (ch_small _ _ hn) (by omega) (by omega) (ch_mul n i)]
    exact ih k (i + 1) (by omega) (by omega)
theorem binomial_eq (n : Nat) (j : Int) (hn : n ≤ 52) (k : Nat) (hk : n + 2 ≤ k) : impl_binomial.f k (n : Int) j = some (chZ n j) := by
  obtain ⟨k, rfl⟩ : ∃ m, k = m + 1 := ⟨k - 1, by omega⟩
  unfold impl_binomial.f
  by_cases h : j < 0
  · rw [if_pos h, chZ_neg n j h]; simp [impl_binomial.j0]
  · rw [if_neg h]; simp only [impl_binomial.j0]
    by_cases h2 : j > (n : Int)
    · rw [if_pos (by simpa using h2), chZ_over n j h2]
    · rw [if_neg (by simpa using h2)]
      obtain ⟨m, rfl⟩ := Int.eq_ofNat_of_zero_le (show 0 ≤ j by omega)
      have := binom_l0 n m (min m (n - m)) hn (by omega) rfl (min m (n - m)) k 0 (by omega) (by omega)
      rw [ch_zero] at this
      rw [chZ_nat]
      refine this.trans ?_
      congr 2
      by_cases e : m ≤ n - m
      · rw [Nat.min_eq_left e]
      · rw [Nat.min_eq_right (by omega), ch_symm n m (by omega)]
end Go.Proofs.Ytckmdibjkklhkaa.Lem
