/- A smaller copy of a text of this seat, made by pack.py for one law. -/
import Derived.Test.YtoggoimoameklaaQFnExactNextSubsetLemE2
import Derived.Test.YtoggoimoameklaaQFnExactNextSubsetLemD
import Derived.Test.YtoggoimoameklaaQFnExactNextSubsetPAllx21
import Derived.Test.YtoggoimoameklaaQFnExactNextSubsetPAllx23
import Derived.Test.YtoggoimoameklaaQFnExactNextSubsetPAllx27
namespace Go.Proofs.Ytoggoimoameklaa.Lem
open Go.RowKit Go.Proofs.Ytoggoimoameklaa.PAll Go.Proofs.Ytoggoimoameklaa.Base Go.Proofs.YtoggoimoameklaaW.PrintWords Go.Proofs.YtoggoimoameklaaW.PrintLast Go.Proofs.YtoggoimoameklaaW.PrintMore
set_option linter.unusedVariables false
set_option linter.unusedSimpArgs false
def rankSub (l s : List Int) : Int × Int := if Cards l ∧ Cards s then (if ∀ x ∈ s, x ∈ l then ((rankL l s : Int), 0) else (0, 4)) else (0, 1)
theorem rankS_l0 (l s : List Int) (hl : l.length ≤ 52) (hs : s.length ≤ 2000000) : ∀ (t : List Int) (k i : Nat), s.drop i = t → t.length + 400 ≤ k →
    spec_RankSubset.l0 k l s (i : Int) = some (if ∀ x ∈ t, x ∈ l then ((rankL l s : Int), 0) else (0, 4)) := by
  intro t
  induction t with
  | nil =>
    intro k i ht hk
    obtain ⟨k, rfl⟩ := succ_of (d := 0) (k := k) (by omega)
    simp only [List.length_nil] at hk
    have := drop_nil_le ht
    rw [spec_RankSubset.l0, if_neg (by omega), l04Rank_eq l s hl hs k (by omega), Option.bind_some, if_pos (by simp)]
  | cons x t ih =>
    intro k i ht hk
    obtain ⟨hi, hx, ht'⟩ := drop_cons ht (0 : Int)
    simp only [List.length_cons] at hk
    obtain ⟨k, rfl⟩ := succ_of (d := 0) (k := k) (by omega)
    rw [spec_RankSubset.l0, if_pos (by omega), if_pos (by omega), rd_nat, hx, has_eq l (by omega) x k (by omega), Option.bind_some]
    by_cases h : x ∈ l
    · rw [if_pos (by simpa using h), wrap_nat i (by omega), ih k (i + 1) ht' (by omega)]
      by_cases h2 : ∀ y ∈ t, y ∈ l
      · rw [if_pos h2, if_pos (by simpa [h] using h2)]
      · rw [if_neg h2, if_neg (by simpa [h] using h2)]
    · rw [if_neg (by simpa using h), if_neg (fun a => h (a x (by simp)))]
theorem specRank_eq (l s : List Int) (hl : l.length ≤ 2000000) (hs : s.length ≤ 2000000) (k : Nat) (hk : l.length + s.length + 1000 ≤ k) : spec_RankSubset.f k l s = some (rankSub l s) := by
  unfold spec_RankSubset.f rankSub
  obtain ⟨k, rfl⟩ := succ_of (d := 0) (k := k) (by omega)
  rw [rising_eq l (by omega) _ (by omega), Option.bind_some]
  by_cases h : Cards l
  · rw [if_pos (by simpa using h), rising_eq s (by omega) _ (by omega), Option.bind_some]
    by_cases h2 : Cards s
    · rw [if_pos ⟨h, h2⟩, spec_RankSubset.j0, if_neg (by simpa using h2)]
      exact rankS_l0 l s (cards_len h) hs s k 0 rfl (by omega)
    · rw [if_neg (fun a => h2 a.2), spec_RankSubset.j0, if_pos (by simpa using h2)]
  · rw [if_neg (by simpa using h), if_neg (fun a => h a.1), spec_RankSubset.j0, if_pos rfl]
theorem implRank_eq (l s : List Int) (hl : l.length ≤ 2000000) (hs : s.length ≤ 2000000) (k : Nat) (hk : l.length + s.length + 1000 ≤ k) : impl_RankSubset.f k l s = some (rankSub l s) := by
  unfold impl_RankSubset.f rankSub
  obtain ⟨k, rfl⟩ := succ_of (d := 0) (k := k) (by omega)
  rw [isCards_eq l (by omega) _ (by omega), Option.bind_some]
  by_cases h : Cards l
  · rw [if_pos (by simpa using h), isCards_eq s (by omega) _ (by omega), Option.bind_some]
    by_cases h2 : Cards s
    · rw [if_pos ⟨h, h2⟩, impl_RankSubset.j0, if_neg (by simpa using h2)]
      have e : impl_isSubset.f s l = some (decide (∀ x ∈ s, x ∈ l)) := by
        unfold impl_isSubset.f
        rw [if_pos (by omega)]
        congr 1
        rw [Bool.eq_iff_iff]; simp
      rw [e, Option.bind_some]
      by_cases h3 : ∀ x ∈ s, x ∈ l
      · rw [if_pos (decide_eq_true h3), if_pos h3, subsetNumber_eq l s (cards_len h) hs k (by omega), Option.bind_some]
      · rw [if_neg (by rw [decide_eq_true_eq]; exact h3), if_neg h3]
    · rw [if_neg (fun a => h2 a.2), impl_RankSubset.j0, if_pos (by simpa using h2)]
  · rw [if_neg (by simpa using h), if_neg (fun a => h a.1), impl_RankSubset.j0, if_pos rfl]
theorem rankSub_range (l s : List Int) : 0 ≤ (rankSub l s).1 ∧ (rankSub l s).1 ≤ 1000000000000000000 := by
  unfold rankSub
  split
  · rename_i h
    split
    · have := rankL_le l (cards_len h.1) s
      have := cards_len h.1
      constructor
      · exact Int.natCast_nonneg _
      · show (rankL l s : Int) ≤ _
        omega
    · simp
  · simp
def nextSub (l s : List Int) : List Int × Int := if (rankSub l s).2 = 0 then unrankSub l s.length ((rankSub l s).1 + 1) else ([], (rankSub l s).2)
theorem nextSub_len (l s : List Int) : (nextSub l s).1.length ≤ l.length := by
  unfold nextSub; split
  · exact unrankSub_len l _ _
  · simp
theorem specNext_eq (l s : List Int) (hl : l.length ≤ 2000000) (hs : s.length ≤ 2000000) (k : Nat) (hk : l.length + s.length + 1000 ≤ k) : spec_NextSubset.f k l s = some (nextSub l s) := by
  unfold spec_NextSubset.f nextSub
  have r := rankSub_range l s
  rw [specRank_eq l s hl hs k hk, Option.bind_some]
  by_cases h : (rankSub l s).2 = 0
  · rw [if_pos h, if_pos h, w64 (by omega) (by omega), specUnrank_eq l _ _ hl k (by omega), Option.bind_some]
  · rw [if_neg h, if_neg h]
theorem implNext_eq (l s : List Int) (hl : l.length ≤ 2000000) (hs : s.length ≤ 2000000) (k : Nat) (hk : l.length + s.length + 1000 ≤ k) : impl_NextSubset.f k l s = some (nextSub l s) := by
  unfold impl_NextSubset.f nextSub
  have r := rankSub_range l s
  rw [implRank_eq l s hl hs k hk, Option.bind_some]
  by_cases h : (rankSub l s).2 = 0
  · rw [if_pos h, if_pos h, w64 (by omega) (by omega), implUnrank_eq l _ _ hl k (by omega), Option.bind_some]
  · rw [if_neg h, if_neg h]
end Go.Proofs.Ytoggoimoameklaa.Lem
