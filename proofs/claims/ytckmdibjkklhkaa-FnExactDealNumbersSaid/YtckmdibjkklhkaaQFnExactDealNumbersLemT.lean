/- A smaller copy of a text of this seat, made by pack.py for one law. -/
import Derived.Test.YtckmdibjkklhkaaQFnExactDealNumbersLemS
import Derived.Test.YtckmdibjkklhkaaQFnExactDealNumbersGivN
import Derived.Test.YtckmdibjkklhkaaQFnExactDealNumbersPAllx1
import Derived.Test.YtckmdibjkklhkaaQFnExactDealNumbersPAllx14
import Derived.Test.YtckmdibjkklhkaaQFnExactDealNumbersPAllx15
namespace Go.Proofs.Ytckmdibjkklhkaa.Lem
open Go.RowKit Go.Proofs.Ytckmdibjkklhkaa.PAll Go.Proofs.Ytckmdibjkklhkaa.Base Go.Proofs.YtckmdibjkklhkaaW.PrintWords Go.Proofs.YtckmdibjkklhkaaW.PrintLast Go.Proofs.YtckmdibjkklhkaaW.PrintMore
set_option linter.unusedVariables false
set_option linter.unusedSimpArgs false
theorem l03Cards_l0 (d : List (List Int)) (M : Nat) (hr : ∀ x ∈ d, x.length ≤ M) (hM : M ≤ 2000000) (hd : d.length ≤ 2000000) (e : Nat) : ∀ (k i : Nat) (o : List Int), i + e = 52 → e + d.length + M + 1 ≤ k → o.length ≤ i →
    spec_l03Cards.l0 k o (i : Int) d = some (o ++ ((List.range' i e).map fun n : Nat => (n : Int)).filter fun c => decide (0 ≤ holderL d c)) := by
  induction e with
  | zero =>
    intro k i o hi hk ho
    obtain ⟨k, rfl⟩ := succ_of (show 0 < k by omega)
    rw [spec_l03Cards.l0, if_neg (by omega)]; simp
  | succ e ih =>
    intro k i o hi hk ho
    obtain ⟨k, rfl⟩ := succ_of (show 0 < k by omega)
    rw [spec_l03Cards.l0, if_pos (by omega), specHolder_eq d M hr hM hd _ k (by omega), Option.bind_some, wrap_nat i (by omega), List.range'_succ, List.map_cons, List.filter_cons]
    by_cases h : 0 ≤ holderL d (i : Int)
    · rw [if_pos h, if_pos (by omega), ih k (i + 1) _ (by omega) (by omega) (by simp; omega), if_pos (by simpa using h)]; simp
    · rw [if_neg h, ih k (i + 1) _ (by omega) (by omega) (by omega), if_neg (by simpa using h)]
theorem l03Cards_eq (d : List (List Int)) (M : Nat) (hr : ∀ x ∈ d, x.length ≤ M) (hM : M ≤ 2000000) (hd : d.length ≤ 2000000) (k : Nat) (hk : d.length + M + 60 ≤ k) : spec_l03Cards.f k d = some (cardsL d) := by
  unfold spec_l03Cards.f
  have := l03Cards_l0 d M hr hM hd 52 k 0 [] (by omega) (by omega) (by simp)
  rw [show spec_l03Cards.l0 k [] 0 d = _ from this]
  simp [cardsL, allL, List.range_eq_range']
theorem cardsOf_eq (d : List (List Int)) (ht : total d ≤ 1048576) (h : Deal d) : impl_cardsOf.f d = some (cardsL d) := by
  unfold impl_cardsOf.f
  rw [if_pos (by omega), cardsL_sort h]
theorem cardsL_len (d : List (List Int)) : (cardsL d).length ≤ 52 := by
  unfold cardsL
  exact Nat.le_trans (List.length_filter_le _ _) (by rw [allL_len]; omega)
theorem helpers (d : List (List Int)) (h1 : d.length ≤ 9223372036854775807) (h2 : ∀ x ∈ d, x.length ≤ 9223372036854775807) (K : Nat) (hK : d.length + 4000000 ≤ K) :
    ∃ s, laws_szDeal.f K d 1048576 = some s ∧ (s < 0 ∨ (0 ≤ s ∧ total d ≤ 1048576 ∧ d.length ≤ 1048576 ∧ laws_toDeal.f K d = some d ∧ laws_eqDeal.f K d d = some true)) := by
  obtain ⟨s, e, hs⟩ := szDeal_eq d h1 h2 K (by omega)
  refine ⟨s, e, ?_⟩
  rcases hs with hs | ⟨hs, ht⟩
  · exact .inl hs
  · have hr := rows_total (d := d) (M := 1048576) (by omega)
    exact .inr ⟨hs, by omega, by omega, toDeal_eq d 1048576 hr (by omega) (by omega) K (by omega), by rw [eqDeal_eq d d 1048576 hr (by omega) (by omega) K (by omega)]; simp⟩
end Go.Proofs.Ytckmdibjkklhkaa.Lem
