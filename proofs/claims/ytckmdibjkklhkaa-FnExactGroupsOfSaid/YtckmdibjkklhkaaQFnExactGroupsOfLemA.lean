/- A smaller copy of texts of this seat, made by pack.py for one law. -/
import Derived.Test.YtckmdibjkklhkaaQFnExactGroupsOfBase
import Derived.Test.YtckmdibjkklhkaaQFnExactGroupsOfPAllx1
namespace Go.Proofs.Ytckmdibjkklhkaa.Lem
open Go.RowKit Go.Proofs.Ytckmdibjkklhkaa.PAll Go.Proofs.Ytckmdibjkklhkaa.Base Go.Proofs.YtckmdibjkklhkaaW.PrintWords Go.Proofs.YtckmdibjkklhkaaW.PrintLast
set_option linter.unusedVariables false
set_option linter.unusedSimpArgs false
theorem rd_nat (l : List Int) (i : Nat) : rd l (i : Int) = l.getD i 0 := by simp [rd]
theorem wrap_nat (i : Nat) (h : i ≤ 9223372036854775806) : wrap64 ((i : Int) + 1) = ((i + 1 : Nat) : Int) := by rw [w64 (by omega) (by omega)]; omega
theorem succ_of {k d : Nat} (h : d < k) : ∃ m, k = m + 1 := ⟨k - 1, by omega⟩
theorem within_eq (a b c : Int) : impl_within.f a b c = some (decide (b ≤ a ∧ a ≤ c)) := by
  unfold impl_within.f; by_cases h : b ≤ a <;> simp [h]
theorem l01In_eq (a b c : Int) : spec_l01In.f a b c = some (decide (b ≤ a ∧ a ≤ c)) := by
  unfold spec_l01In.f; by_cases h : b ≤ a <;> simp [h]
theorem isCard_eq (c : Int) : impl_isCard.f c = some (decide (Card c)) := by
  unfold impl_isCard.f; rw [within_eq]; rfl
theorem l01Card_eq (c : Int) : spec_l01Card.f c = some (decide (Card c)) := by
  unfold spec_l01Card.f; rw [l01In_eq]; rfl
theorem toInt_l0 (l : List Int) (hl : l.length ≤ 1048576) (d : Nat) : ∀ (k i : Nat) (x : List Int), i + d = l.length → d < k → x.length = l.length → x.take i = l.take i →
    laws_toInt64S.l0 k l x (i : Int) = some l := by
  induction d with
  | zero =>
    intro k i x hi hk hx ht
    obtain ⟨k, rfl⟩ := succ_of hk
    simp only [laws_toInt64S.l0]
    rw [if_neg (by omega), ← List.take_of_length_le (l := x) (i := i) (by omega), ht, List.take_of_length_le (by omega)]
  | succ d ih =>
    intro k i x hi hk hx ht
    obtain ⟨k, rfl⟩ := succ_of hk
    simp only [laws_toInt64S.l0]
    rw [if_pos (by omega), if_pos (by omega), if_pos (by omega), wrap_nat i (by omega), rd_nat, Int.toNat_natCast]
    refine ih k (i + 1) _ (by omega) (by omega) (by simpa using hx) ?_
    have h1 : i < x.length := by omega
    have h2 : i < l.length := by omega
    rw [List.take_add_one, List.take_add_one, List.take_set_of_le (by omega), ht]
    simp [h1, h2]
theorem toInt_eq (l : List Int) (hl : l.length ≤ 1048576) (k : Nat) (hk : l.length < k) : laws_toInt64S.f k l = some l := by
  unfold laws_toInt64S.f
  rw [if_pos (by omega), if_pos (by omega)]
  exact toInt_l0 l hl l.length k 0 _ (by omega) hk (by simp) (by simp)
theorem eqInt_l0 (a b : List Int) (hl : a.length ≤ 9223372036854775806) (hab : a.length = b.length) (d : Nat) : ∀ (k i : Nat), i + d = a.length → d < k → a.take i = b.take i →
    laws_eqInt64S.l0 k a b (i : Int) = some (decide (a = b)) := by
  induction d with
  | zero =>
    intro k i hi hk ht
    obtain ⟨k, rfl⟩ := succ_of hk
    simp only [laws_eqInt64S.l0]
    rw [List.take_of_length_le (by omega), List.take_of_length_le (by omega)] at ht
    rw [if_neg (by omega), decide_eq_true ht]
  | succ d ih =>
    intro k i hi hk ht
    obtain ⟨k, rfl⟩ := succ_of hk
    have h1 : i < a.length := by omega
    have h2 : i < b.length := by omega
    simp only [laws_eqInt64S.l0]
    rw [if_pos (by omega), if_pos (by omega), if_pos (by omega), rd_nat, rd_nat]
    by_cases e : a.getD i 0 = b.getD i 0
    · rw [if_pos e, wrap_nat i (by omega)]
      refine ih k (i + 1) (by omega) (by omega) ?_
      rw [List.take_add_one, List.take_add_one, ht]
      simp [List.getD, h1, h2] at e
      simp [h1, h2, e]
    · rw [if_neg e, decide_eq_false]
      intro h; subst h; exact e rfl
theorem eqInt_eq (a b : List Int) (hl : a.length ≤ 9223372036854775806) (k : Nat) (hk : a.length < k) : laws_eqInt64S.f k a b = some (decide (a = b)) := by
  unfold laws_eqInt64S.f
  by_cases e : a.length = b.length
  · rw [if_pos (by omega)]
    exact eqInt_l0 a b hl e a.length k 0 (by omega) hk (by simp)
  · rw [if_neg (by omega), decide_eq_false]
    intro h; subst h; exact e rfl
theorem rising_l0 (l : List Int) (hl : l.length ≤ 9223372036854775806) (d : Nat) : ∀ (k i : Nat), i + d = l.length → d < k →
    ∃ b, spec_l01Rising.l0 k l (i : Int) = some b ∧ (b = true ↔ Rise l i) := by
  induction d with
  | zero =>
    intro k i hi hk
    obtain ⟨k, rfl⟩ := succ_of hk
    simp only [spec_l01Rising.l0]
    rw [if_neg (by omega)]
    exact ⟨true, rfl, by simp [rise_end l i (by omega)]⟩
  | succ d ih =>
    intro k i hi hk
    obtain ⟨k, rfl⟩ := succ_of hk
    obtain ⟨b, hb, hr⟩ := ih k (i + 1) (by omega) (by omega)
    have hs := rise_step l i (by omega)
    simp only [spec_l01Rising.l0]
    rw [if_pos (by omega), if_pos (by omega), l01Card_eq, Option.bind_some, rd_nat, wrap_nat i (by omega)]
    by_cases hc : Card (l.getD i 0)
    · rw [if_pos (by simpa using hc)]
      by_cases h0 : 0 < i
      · rw [if_pos (by omega), w64 (by omega) (by omega), if_pos (by omega), if_pos (by omega), show (i : Int) - 1 = ((i - 1 : Nat) : Int) by omega, rd_nat]
        by_cases hlt : l.getD (i - 1) 0 < l.getD i 0
        · rw [if_neg (by omega)]
          exact ⟨b, hb, by rw [hr, hs]; simp only [hc, hlt, true_and, implies_true]⟩
        · rw [if_pos (by omega)]
          exact ⟨false, rfl, by rw [hs]; simp only [hc, hlt, h0, true_and, false_iff]; simp⟩
      · rw [if_neg (by omega)]
        exact ⟨b, hb, by rw [hr, hs]; simp only [hc, h0, false_implies, and_self, true_and]⟩
    · rw [if_neg (by simpa using hc)]
      exact ⟨false, rfl, by rw [hs]; simp only [hc, false_and]; simp⟩
theorem some_decide {f : Option Bool} {p : Prop} [Decidable p] (h : ∃ b, f = some b ∧ (b = true ↔ p)) : f = some (decide p) := by
  obtain ⟨b, rfl, h⟩ := h
  congr 1
  by_cases hp : p
  · rw [decide_eq_true hp]; exact h.mpr hp
  · rw [decide_eq_false hp]; exact Bool.eq_false_iff.mpr fun hb => hp (h.mp hb)
theorem rising_eq (l : List Int) (hl : l.length ≤ 9223372036854775806) (k : Nat) (hk : l.length < k) : spec_l01Rising.f k l = some (decide (Cards l)) := by
  obtain ⟨b, hb, h⟩ := rising_l0 l hl l.length k 0 (by omega) hk
  exact some_decide ⟨b, hb, by rw [h, cards_rise]⟩
theorem isCards_l0 (l : List Int) (hl : l.length ≤ 9223372036854775806) (d : Nat) : ∀ (k i : Nat), i + d = l.length → d < k →
    ∃ b, impl_isCards.l0 k l l (l.length : Int) (i : Int) = some b ∧ (b = true ↔ Rise l i) := by
  induction d with
  | zero =>
    intro k i hi hk
    obtain ⟨k, rfl⟩ := succ_of hk
    simp only [impl_isCards.l0]
    rw [if_neg (by omega)]
    exact ⟨true, rfl, by simp [rise_end l i (by omega)]⟩
  | succ d ih =>
    intro k i hi hk
    obtain ⟨k, rfl⟩ := succ_of hk
    obtain ⟨b, hb, hr⟩ := ih k (i + 1) (by omega) (by omega)
    have hs := rise_step l i (by omega)
    simp only [impl_isCards.l0]
    rw [if_pos (by omega), if_pos (by omega), if_pos (by omega), isCard_eq, Option.bind_some, rd_nat, wrap_nat i (by omega)]
    by_cases hc : Card (l.getD i 0)
    · rw [if_pos (by simpa using hc)]
      by_cases h0 : 0 < i
      · rw [if_pos (by omega), w64 (by omega) (by omega), if_pos (by omega), if_pos (by omega), show (i : Int) - 1 = ((i - 1 : Nat) : Int) by omega, rd_nat]
        by_cases hlt : l.getD (i - 1) 0 < l.getD i 0
        · rw [if_neg (by omega)]
          exact ⟨b, hb, by rw [hr, hs]; simp only [hc, hlt, true_and, implies_true]⟩
        · rw [if_pos (by omega)]
          exact ⟨false, rfl, by rw [hs]; simp only [hc, hlt, h0, true_and, false_iff]; simp⟩
      · rw [if_neg (by omega)]
        exact ⟨b, hb, by rw [hr, hs]; simp only [hc, h0, false_implies, and_self, true_and]⟩
    · rw [if_neg (by simpa using hc)]
      exact ⟨false, rfl, by rw [hs]; simp only [hc, false_and]; simp⟩
theorem isCards_eq (l : List Int) (hl : l.length ≤ 9223372036854775806) (k : Nat) (hk : l.length < k) : impl_isCards.f k l = some (decide (Cards l)) := by
  obtain ⟨b, hb, h⟩ := isCards_l0 l hl l.length k 0 (by omega) hk
  exact some_decide ⟨b, hb, by rw [h, cards_rise]⟩
theorem specHand_eq (l : List Int) (hl : l.length ≤ 9223372036854775806) (k : Nat) (hk : l.length < k) : spec_IsHand.f k l = some (decide (Hand l)) := by
  unfold spec_IsHand.f
  by_cases h : l.length ≤ 13
  · rw [if_pos (by omega), rising_eq l hl k hk, Option.bind_some]
    congr 1; exact decide_eq_decide.mpr (by simp [Hand, h])
  · rw [if_neg (by omega), decide_eq_false (by simp [Hand, h])]
theorem implHand_eq (l : List Int) (hl : l.length ≤ 9223372036854775806) (k : Nat) (hk : l.length < k) : impl_IsHand.f k l = some (decide (Hand l)) := by
  unfold impl_IsHand.f
  by_cases h : l.length ≤ 13
  · rw [if_pos (by omega), isCards_eq l hl k hk, Option.bind_some]
    congr 1; exact decide_eq_decide.mpr (by simp [Hand, h])
  · rw [if_neg (by omega), decide_eq_false (by simp [Hand, h])]
end Go.Proofs.Ytckmdibjkklhkaa.Lem
