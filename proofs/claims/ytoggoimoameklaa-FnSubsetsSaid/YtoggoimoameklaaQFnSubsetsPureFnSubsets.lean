/- A smaller copy of a text of this seat, made by pack.py for one law. -/
import Derived.Test.YtoggoimoameklaaQFnSubsetsPAllx30
import Derived.Test.YtoggoimoameklaaQFnSubsetsLemK
namespace Go.Proofs.Ytoggoimoameklaa.Pure
open Go.RowKit Go.Proofs.Ytoggoimoameklaa.PAll Go.Proofs.Ytoggoimoameklaa.Base Go.Proofs.Ytoggoimoameklaa.Lem Go.Proofs.YtoggoimoameklaaW.PrintWords Go.Proofs.YtoggoimoameklaaW.PrintLast Go.Proofs.YtoggoimoameklaaW.PrintMore
set_option linter.unusedVariables false
set_option linter.unusedSimpArgs false
theorem FnSubsets : laws_FnSubsets.Pure := by
  intro l hm hb hw
  obtain ⟨K, hK⟩ : ∃ K, K = l.length + 3000 := ⟨_, rfl⟩
  refine ⟨K + 1, ?_⟩
  unfold laws_FnSubsets.f
  rw [big_eq, Option.bind_some]
  by_cases h : l.length > 4096
  · rw [if_pos (by simpa using h)]
  · rw [if_neg (by simpa using h)]
    obtain ⟨x, y, e, hx, hy⟩ := drawRank l (bytes_of hw (by omega)) (K + 1) (by omega)
    rw [e]; simp only [Option.bind_some]
    rw [implRank_eq x y (by omega) (by omega) _ (by omega)]; simp only [Option.bind_some]
    have nonz : ¬ (rankSub x y).2 = 0 → (rankSub x y).1 = 0 := by
      unfold rankSub; split
      · split
        · intro z; exact absurd rfl z
        · intro z; rfl
      · intro z; rfl
    by_cases z : (rankSub x y).2 = 0
    · have hc : (Cards x ∧ Cards y) ∧ ∀ q ∈ y, q ∈ x := by
        unfold rankSub at z
        by_cases h1 : Cards x ∧ Cards y
        · by_cases h2 : ∀ q ∈ y, q ∈ x
          · exact ⟨h1, h2⟩
          · rw [if_pos h1, if_neg h2] at z; cases z
        · rw [if_neg h1] at z; cases z
      have hsub := sub_of x y hc.1.1 hc.1.2 hc.2
      have hnd := cards_nodup hc.1.1
      have hlen := hsub.length_le
      have hr : rankSub x y = ((rankL x y : Int), 0) := by unfold rankSub; rw [if_pos hc.1, if_pos hc.2]
      have hlt := rank_lt x y hsub hnd
      have hcz := chZ_nat x.length y.length
      have hsm := ch_small x.length y.length (by omega)
      rw [hr]
      rw [if_pos rfl, implUnrank_eq x _ _ (by omega) _ (by omega)]
      have hu : unrankSub x (y.length : Int) (rankL x y : Int) = (y, 0) := by
        unfold unrankSub
        rw [if_pos hc.1.1, if_pos ⟨by omega, by omega⟩, hcz, if_pos ⟨by omega, by omega⟩, Int.toNat_natCast, unrank_rank x y hsub hnd]
      rw [hu]; simp only [Option.bind_some]
      rw [if_pos (by trivial), like_same y (by omega) _ (by omega), Option.bind_some, if_pos (by trivial), if_neg (by omega), specBinomial_eq _ _ _ (by omega), if_pos ⟨by omega, by omega⟩, Int.toNat_natCast, hcz, Option.bind_some]
      rw [show decide ((rankL x y : Int) ≥ (ch x.length y.length : Int)) = false from decide_eq_false (by omega), laws_FnSubsets.j0, if_neg (by simp)]
      rw [implNext_eq x y (by omega) (by omega) _ (by omega)]; simp only [Option.bind_some]
      have hn : nextSub x y = if rankL x y + 1 < ch x.length y.length then (unrankL x y.length ((rankL x y + 1 : Nat) : Int), 0) else ([], 4) := by
        unfold nextSub
        rw [hr]
        show (if (0 : Int) = 0 then unrankSub x (y.length : Int) ((rankL x y : Int) + 1) else ([], 0)) = _
        rw [if_pos rfl]
        unfold unrankSub
        rw [if_pos hc.1.1, if_pos (show 0 ≤ (y.length : Int) ∧ (y.length : Int) ≤ (x.length : Int) from ⟨by omega, by omega⟩), hcz]
        by_cases g : rankL x y + 1 < ch x.length y.length
        · rw [if_pos (show 0 ≤ (rankL x y : Int) + 1 ∧ (rankL x y : Int) + 1 ≤ (ch x.length y.length : Int) - 1 from ⟨by omega, by omega⟩), if_pos g, Int.toNat_natCast]; rfl
        · rw [if_neg (show ¬ (0 ≤ (rankL x y : Int) + 1 ∧ (rankL x y : Int) + 1 ≤ (ch x.length y.length : Int) - 1) from by omega), if_neg g]
      by_cases g : rankL x y + 1 < ch x.length y.length
      · obtain ⟨s1, s2, s3⟩ := rank_unrank x y.length (rankL x y + 1) hnd g
        rw [if_pos g] at hn
        rw [hn]
        generalize unrankL x y.length ((rankL x y + 1 : Nat) : Int) = T at *
        rw [if_pos (by trivial), implRank_eq x T (by omega) (by omega) _ (by omega)]; simp only [Option.bind_some]
        have ht : rankSub x T = ((rankL x T : Int), 0) := by
          unfold rankSub; rw [if_pos ⟨hc.1.1, cards_sub hc.1.1 s1⟩, if_pos fun q hq => s1.subset hq]
        rw [ht, if_pos (by trivial), w64 (by omega) (by omega), s3]
        congr 1
        rw [beq_iff_eq]; omega
      · rw [if_neg g] at hn
        rw [hn, if_neg (by decide), specBinomial_eq _ _ _ (by omega), if_pos ⟨by omega, by omega⟩, Int.toNat_natCast, hcz, Option.bind_some, w64 (by omega) (by omega)]
        congr 1
        rw [beq_iff_eq]; omega
    · rw [if_neg z, nonz z]; rfl
end Go.Proofs.Ytoggoimoameklaa.Pure
