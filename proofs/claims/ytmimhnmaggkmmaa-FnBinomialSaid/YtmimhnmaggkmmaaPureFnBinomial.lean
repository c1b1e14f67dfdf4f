/- Binomial coefficients satisfy the rule of Pascal and are symmetric, at whatever the draw hands out, for all codes. -/
import Derived.Test.YtmimhnmaggkmmaaPAllx3
import Derived.Test.YtmimhnmaggkmmaaLemB
import Derived.Test.YtmimhnmaggkmmaaLemC
namespace Go.Proofs.Ytmimhnmaggkmmaa.Pure
open Go.RowKit Go.Proofs.Ytmimhnmaggkmmaa.PAll Go.Proofs.Ytmimhnmaggkmmaa.Base Go.Proofs.Ytmimhnmaggkmmaa.Lem Go.Proofs.YtmimhnmaggkmmaaW.PrintWords Go.Proofs.YtmimhnmaggkmmaaW.PrintLast Go.Proofs.YtmimhnmaggkmmaaW.PrintMore
set_option linter.unusedVariables false
set_option linter.unusedSimpArgs false

theorem FnBinomial : laws_FnBinomial.Pure := by
  intro l hm hb hw
  obtain ⟨K, hK⟩ : ∃ K, K = l.length + 97 := ⟨_, rfl⟩
  refine ⟨K + 1 + 1 + 1, ?_⟩
  unfold laws_FnBinomial.f
  rw [big_eq, Option.bind_some]
  by_cases h : l.length > 4096
  · rw [if_pos (by simpa using h)]
  · rw [if_neg (by simpa using h)]
    obtain ⟨n, j, e⟩ := drawBinomial l (bytes_of hw (by omega)) (K + 1 + 1 + 1) (by omega)
    rw [e, Option.bind_some, Binomial_eq _ _ _ (by omega), Option.bind_some]
    by_cases h1 : n < 0
    · rw [if_neg (show ¬ (0 ≤ n ∧ n ≤ 52) by omega), if_pos h1]; simp [laws_FnBinomial.j0]
    · rw [if_neg h1]
      by_cases h2 : n > 52
      · rw [if_neg (show ¬ (0 ≤ n ∧ n ≤ 52) by omega), decide_eq_true h2]; simp [laws_FnBinomial.j0]
      · rw [if_pos (show 0 ≤ n ∧ n ≤ 52 by omega), decide_eq_false h2]
        obtain ⟨N, rfl⟩ := Int.eq_ofNat_of_zero_le (show 0 ≤ n by omega)
        rw [Int.toNat_natCast]
        simp only [laws_FnBinomial.j0, Bool.false_eq_true, if_false]
        by_cases h3 : j < 0
        · rw [if_pos h3, chZ_neg _ _ h3]; simp [laws_FnBinomial.j1]
        · rw [if_neg h3]
          by_cases h4 : j > (N : Int)
          · rw [decide_eq_true h4, chZ_over _ _ h4]; simp [laws_FnBinomial.j1]
          · rw [decide_eq_false h4]
            obtain ⟨J, rfl⟩ := Int.eq_ofNat_of_zero_le (show 0 ≤ j by omega)
            rw [chZ_nat]
            simp only [laws_FnBinomial.j1, Bool.false_eq_true, if_false]
            by_cases h5 : (J : Int) = 0
            · obtain rfl : J = 0 := by omega
              rw [if_pos h5, ch_zero]; simp [laws_FnBinomial.j2]
            · rw [if_neg h5]
              by_cases h6 : J = N
              · subst h6; rw [ch_self]; simp [laws_FnBinomial.j2]
              · rw [show (((J : Nat) : Int) == (N : Int)) = false by simp; omega]
                simp only [laws_FnBinomial.j2, Bool.false_eq_true, if_false]
                obtain ⟨J, rfl⟩ : ∃ i, J = i + 1 := ⟨J - 1, by omega⟩
                obtain ⟨N, rfl⟩ : ∃ i, N = i + 1 := ⟨N - 1, by omega⟩
                rw [w64 (n := ((N + 1 : Nat) : Int) - 1) (by omega) (by omega), w64 (n := ((J + 1 : Nat) : Int) - 1) (by omega) (by omega), w64 (n := ((N + 1 : Nat) : Int) - ((J + 1 : Nat) : Int)) (by omega) (by omega),
                  show ((N + 1 : Nat) : Int) - 1 = (N : Int) by omega, show ((J + 1 : Nat) : Int) - 1 = (J : Int) by omega, show ((N + 1 : Nat) : Int) - ((J + 1 : Nat) : Int) = ((N + 1 - (J + 1) : Nat) : Int) by omega]
                rw [Binomial_eq _ _ _ (by omega), Binomial_eq _ _ _ (by omega), Binomial_eq _ _ _ (by omega), if_pos (by omega), if_pos (by omega), if_pos (by omega)]
                rw [Option.bind_some, Option.bind_some, Option.bind_some, Int.toNat_natCast, Int.toNat_natCast, chZ_nat, chZ_nat, chZ_nat]
                have b1 := ch_small N J (by omega)
                have b2 := ch_small N (J + 1) (by omega)
                rw [w64 (by omega) (by omega), ch_symm (N + 1) (J + 1) (by omega), ch_succ, if_pos (by omega)]
                simp

end Go.Proofs.Ytmimhnmaggkmmaa.Pure
