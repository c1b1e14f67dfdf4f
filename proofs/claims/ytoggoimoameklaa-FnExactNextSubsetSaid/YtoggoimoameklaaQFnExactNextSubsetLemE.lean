/- A smaller copy of a text of this seat, made by pack.py for one law. -/
import Derived.Test.YtoggoimoameklaaQFnExactNextSubsetLemB
import Derived.Test.YtoggoimoameklaaQFnExactNextSubsetLemD
import Derived.Test.YtoggoimoameklaaQFnExactNextSubsetPAllx13
import Derived.Test.YtoggoimoameklaaQFnExactNextSubsetPAllx19
import Derived.Test.YtoggoimoameklaaQFnExactNextSubsetPAllx25
namespace Go.Proofs.Ytoggoimoameklaa.Lem
open Go.RowKit Go.Proofs.Ytoggoimoameklaa.PAll Go.Proofs.Ytoggoimoameklaa.Base Go.Proofs.YtoggoimoameklaaW.PrintWords Go.Proofs.YtoggoimoameklaaW.PrintLast Go.Proofs.YtoggoimoameklaaW.PrintMore
set_option linter.unusedVariables false
set_option linter.unusedSimpArgs false
theorem succ2 {k d : Nat} (h : d + 2 ≤ k) : ∃ m, k = m + 1 + 1 := ⟨k - 2, by omega⟩
theorem drop_len {α : Type} {l t : List α} {i : Nat} {x : α} (h : l.drop i = x :: t) : l.length = i + 1 + t.length := by
  have := congrArg List.length h
  simp at this; omega
theorem l04Rank_l0 (l sub : List Int) (hn : l.length ≤ 52) (hs : sub.length ≤ 2000000) : ∀ (t : List Int) (k i m : Nat) (acc : Int) (u : List Int), l.drop i = t → sub.drop m = u → 2 * t.length + 60 ≤ k → 0 ≤ acc → acc ≤ 4503599627370496 * i →
    spec_l04Rank.l0 k l sub acc (m : Int) (i : Int) = some (acc + (rankL t u : Int)) := by
  intro t
  induction t with
  | nil =>
    intro k i m acc u ht hu hk h0 h1
    obtain ⟨k, rfl⟩ := succ2 (d := 0) (k := k) (by omega)
    have := drop_nil_le ht
    simp only [spec_l04Rank.l0, spec_l04Rank.j1]
    rw [if_neg (by omega)]
    simp [rankL]
  | cons x t ih =>
    intro k i m acc u ht hu hk h0 h1
    obtain ⟨hi, hx, ht'⟩ := drop_cons ht (0 : Int)
    have hl := drop_len ht
    simp only [List.length_cons] at hk
    obtain ⟨k, rfl⟩ := succ2 (d := 0) (k := k) (by omega)
    simp only [spec_l04Rank.l0]
    rw [if_pos (by omega)]
    cases u with
    | nil =>
      have := drop_nil_le hu
      rw [decide_eq_false (by omega)]
      simp [spec_l04Rank.j1, rankL]
    | cons y u =>
      obtain ⟨hm, hy, hu'⟩ := drop_cons hu (0 : Int)
      have hl2 := drop_len hu
      rw [decide_eq_true (by omega)]
      simp only [spec_l04Rank.j1, if_true]
      rw [if_pos (by omega), if_pos (by omega), if_pos (by omega), if_pos (by omega), rd_nat, rd_nat, hx, hy, wrap_nat i (by omega), wrap_nat m (by omega)]
      by_cases e : x = y
      · rw [if_pos e, ih k (i + 1) (m + 1) acc u ht' hu' (by omega) h0 (by omega)]
        simp [rankL, e]
      · have c := ch_small t.length u.length (by omega)
        rw [if_neg e, w64 (n := (l.length : Int) - 1) (by omega) (by omega), w64 (n := (l.length : Int) - 1 - (i : Int)) (by omega) (by omega), w64 (n := (sub.length : Int) - 1) (by omega) (by omega), w64 (n := (sub.length : Int) - 1 - (m : Int)) (by omega) (by omega),
          show (l.length : Int) - 1 - (i : Int) = (t.length : Int) by omega, show (sub.length : Int) - 1 - (m : Int) = (u.length : Int) by omega, choose_eq t.length _ (by omega) k (by omega), Option.bind_some, chZ_nat, w64 (by omega) (by omega),
          ih k (i + 1) m _ (y :: u) ht' hu (by omega) (by omega) (by omega)]
        rw [rankL, if_neg e, Int.natCast_add, Int.add_assoc]
theorem subsetNumber_l0 (l sub : List Int) (hn : l.length ≤ 52) (hs : sub.length ≤ 2000000) : ∀ (t : List Int) (k i m : Nat) (acc : Int) (u : List Int), l.drop i = t → sub.drop m = u → m + u.length = sub.length → t.length + 60 ≤ k → 0 ≤ acc → acc ≤ 4503599627370496 * i →
    impl_subsetNumber.l0 k l sub acc (u.length : Int) l (l.length : Int) (i : Int) = some (acc + (rankL t u : Int)) := by
  intro t
  induction t with
  | nil =>
    intro k i m acc u ht hu hmu hk h0 h1
    obtain ⟨k, rfl⟩ := succ_of (d := 0) (k := k) (by omega)
    have := drop_nil_le ht
    simp only [impl_subsetNumber.l0]
    rw [if_neg (by omega)]
    simp [rankL]
  | cons x t ih =>
    intro k i m acc u ht hu hmu hk h0 h1
    obtain ⟨hi, hx, ht'⟩ := drop_cons ht (0 : Int)
    have hl := drop_len ht
    simp only [List.length_cons] at hk
    obtain ⟨k, rfl⟩ := succ_of (d := 0) (k := k) (by omega)
    simp only [impl_subsetNumber.l0]
    rw [if_pos (by omega), if_pos (by omega), if_pos (by omega)]
    cases u with
    | nil => rw [if_pos (by simp)]; simp [rankL]
    | cons y u =>
      obtain ⟨hm, hy, hu'⟩ := drop_cons hu (0 : Int)
      have hl2 := drop_len hu
      rw [if_neg (by simp only [List.length_cons]; omega), List.length_cons, w64 (n := (sub.length : Int) - ((u.length + 1 : Nat) : Int)) (by omega) (by omega), show (sub.length : Int) - ((u.length + 1 : Nat) : Int) = (m : Int) by omega,
        if_pos (by omega), if_pos (by omega), rd_nat, rd_nat, hx, hy, wrap_nat i (by omega)]
      by_cases e : x = y
      · rw [if_pos e, w64 (n := ((u.length + 1 : Nat) : Int) - 1) (by omega) (by omega), show ((u.length + 1 : Nat) : Int) - 1 = (u.length : Int) by omega, ih k (i + 1) (m + 1) acc u ht' hu' (by omega) (by omega) h0 (by omega)]
        simp [rankL, e]
      · have c := ch_small t.length u.length (by omega)
        rw [if_neg e, w64 (n := (l.length : Int) - (i : Int)) (by omega) (by omega), w64 (n := (l.length : Int) - (i : Int) - 1) (by omega) (by omega), w64 (n := ((u.length + 1 : Nat) : Int) - 1) (by omega) (by omega), show ((u.length + 1 : Nat) : Int) - 1 = (u.length : Int) by omega,
          show (l.length : Int) - (i : Int) - 1 = (t.length : Int) by omega, binomial_eq t.length _ (by omega) k (by omega), Option.bind_some, chZ_nat, w64 (by omega) (by omega)]
        have := ih k (i + 1) m (acc + (ch t.length u.length : Int)) (y :: u) ht' hu (by simpa using hmu) (by omega) (by omega) (by omega)
        rw [List.length_cons] at this
        rw [this, rankL, if_neg e, Int.natCast_add, Int.add_assoc]
theorem l04Rank_eq (l sub : List Int) (hn : l.length ≤ 52) (hs : sub.length ≤ 2000000) (k : Nat) (hk : 200 ≤ k) : spec_l04Rank.f k l sub = some (rankL l sub : Int) := by
  unfold spec_l04Rank.f
  have := l04Rank_l0 l sub hn hs l k 0 0 0 sub rfl rfl (by omega) (by omega) (by omega)
  simpa using this
theorem subsetNumber_eq (l sub : List Int) (hn : l.length ≤ 52) (hs : sub.length ≤ 2000000) (k : Nat) (hk : 200 ≤ k) : impl_subsetNumber.f k l sub = some (rankL l sub : Int) := by
  unfold impl_subsetNumber.f
  have := subsetNumber_l0 l sub hn hs l k 0 0 0 sub rfl rfl (by omega) (by omega) (by omega) (by omega)
  simpa using this
theorem l04Unrank_l0 (l : List Int) (a1 : Int) (hn : l.length ≤ 52) (ha : a1 ≤ 1000000) : ∀ (t : List Int) (k i q : Nat) (m : Int) (out : List Int), l.drop i = t → a1 = (out.length : Int) + q → out.length ≤ i → 2 * t.length + 60 ≤ k → -9223372036854775808 ≤ m → m ≤ 9223372036854775807 →
    spec_l04Unrank.l0 k l a1 m out (i : Int) = some (out ++ unrankL t q m) := by
  intro t
  induction t with
  | nil =>
    intro k i q m out ht hq ho hk h0 h1
    obtain ⟨k, rfl⟩ := succ2 (d := 0) (k := k) (by omega)
    have := drop_nil_le ht
    simp only [spec_l04Unrank.l0, spec_l04Unrank.j1]
    rw [if_neg (by omega)]
    simp [unrankL]
  | cons x t ih =>
    intro k i q m out ht hq ho hk h0 h1
    obtain ⟨hi, hx, ht'⟩ := drop_cons ht (0 : Int)
    have hl := drop_len ht
    simp only [List.length_cons] at hk
    obtain ⟨k, rfl⟩ := succ2 (d := 0) (k := k) (by omega)
    simp only [spec_l04Unrank.l0]
    rw [if_pos (by omega)]
    cases q with
    | zero =>
      rw [decide_eq_false (by omega)]
      simp [spec_l04Unrank.j1, unrankL]
    | succ q =>
      rw [decide_eq_true (by omega)]
      simp only [spec_l04Unrank.j1, if_true]
      have c := ch_small t.length q (by omega)
      rw [w64 (n := (l.length : Int) - 1) (by omega) (by omega), w64 (n := (l.length : Int) - 1 - (i : Int)) (by omega) (by omega), w64 (n := a1 - 1) (by omega) (by omega), w64 (n := a1 - 1 - (out.length : Int)) (by omega) (by omega),
        show (l.length : Int) - 1 - (i : Int) = (t.length : Int) by omega, show a1 - 1 - (out.length : Int) = (q : Int) by omega, choose_eq t.length _ (by omega) k (by omega), Option.bind_some, chZ_nat, wrap_nat i (by omega)]
      by_cases e : m < (ch t.length q : Int)
      · rw [if_pos e, if_pos (by omega), if_pos (by omega), if_pos (by omega), rd_nat, hx, ih k (i + 1) q m (out ++ [x]) ht' (by simp; omega) (by simp; omega) (by omega) h0 h1, unrankL, if_pos e]
        simp
      · rw [if_neg e, w64 (n := m - (ch t.length q : Int)) (by omega) (by omega), ih k (i + 1) (q + 1) _ out ht' (by omega) (by omega) (by omega) (by omega) (by omega), unrankL, if_neg e]
theorem subsetOf_l0 (l : List Int) (hn : l.length ≤ 52) : ∀ (t : List Int) (k i q : Nat) (m : Int) (out : List Int), l.drop i = t → q ≤ 1000000 → out.length ≤ i → t.length + 60 ≤ k → -9223372036854775808 ≤ m → m ≤ 9223372036854775807 →
    impl_subsetOf.l0 k l (q : Int) m out l (l.length : Int) (i : Int) = some (out ++ unrankL t q m) := by
  intro t
  induction t with
  | nil =>
    intro k i q m out ht hq ho hk h0 h1
    obtain ⟨k, rfl⟩ := succ_of (d := 0) (k := k) (by omega)
    have := drop_nil_le ht
    simp only [impl_subsetOf.l0]
    rw [if_neg (by omega)]
    simp [unrankL]
  | cons x t ih =>
    intro k i q m out ht hq ho hk h0 h1
    obtain ⟨hi, hx, ht'⟩ := drop_cons ht (0 : Int)
    have hl := drop_len ht
    simp only [List.length_cons] at hk
    obtain ⟨k, rfl⟩ := succ_of (d := 0) (k := k) (by omega)
    simp only [impl_subsetOf.l0]
    rw [if_pos (by omega), if_pos (by omega), if_pos (by omega)]
    cases q with
    | zero => rw [if_pos (by simp)]; simp [unrankL]
    | succ q =>
      have c := ch_small t.length q (by omega)
      rw [if_neg (by omega), w64 (n := (l.length : Int) - (i : Int)) (by omega) (by omega), w64 (n := (l.length : Int) - (i : Int) - 1) (by omega) (by omega), w64 (n := ((q + 1 : Nat) : Int) - 1) (by omega) (by omega),
        show (l.length : Int) - (i : Int) - 1 = (t.length : Int) by omega, show ((q + 1 : Nat) : Int) - 1 = (q : Int) by omega, binomial_eq t.length _ (by omega) k (by omega), Option.bind_some, chZ_nat, wrap_nat i (by omega)]
      by_cases e : m < (ch t.length q : Int)
      · rw [if_neg (by omega), if_pos (by omega), rd_nat, hx, ih k (i + 1) q m (out ++ [x]) ht' (by omega) (by simp; omega) (by omega) h0 h1, unrankL, if_pos e]
        simp
      · rw [if_pos (by omega), w64 (n := m - (ch t.length q : Int)) (by omega) (by omega), ih k (i + 1) (q + 1) _ out ht' (by omega) (by omega) (by omega) (by omega) (by omega), unrankL, if_neg e]
theorem l04Unrank_eq (l : List Int) (q : Nat) (m : Int) (hn : l.length ≤ 52) (hq : q ≤ 1000000) (h0 : -9223372036854775808 ≤ m) (h1 : m ≤ 9223372036854775807) (k : Nat) (hk : 200 ≤ k) : spec_l04Unrank.f k l (q : Int) m = some (unrankL l q m) := by
  unfold spec_l04Unrank.f
  have := l04Unrank_l0 l (q : Int) hn (by omega) l k 0 q m [] rfl (by simp) (by simp) (by omega) h0 h1
  simpa using this
theorem subsetOf_eq (l : List Int) (q : Nat) (m : Int) (hn : l.length ≤ 52) (hq : q ≤ 1000000) (h0 : -9223372036854775808 ≤ m) (h1 : m ≤ 9223372036854775807) (k : Nat) (hk : 200 ≤ k) : impl_subsetOf.f k l (q : Int) m = some (unrankL l q m) := by
  unfold impl_subsetOf.f
  have := subsetOf_l0 l hn l k 0 q m [] rfl (by omega) (by simp) (by omega) h0 h1
  simpa using this
def unrankSub (l : List Int) (q m : Int) : List Int × Int :=
  if Cards l then (if 0 ≤ q ∧ q ≤ (l.length : Int) then (if 0 ≤ m ∧ m ≤ chZ l.length q - 1 then (unrankL l q.toNat m, 0) else ([], 4)) else ([], 2)) else ([], 1)
theorem chZ_min (n : Nat) (q : Int) (h0 : 0 ≤ q) (h1 : q ≤ (n : Int)) : chZ n (mn q ((n : Int) - q)) = chZ n q := by
  obtain ⟨i, rfl⟩ := Int.eq_ofNat_of_zero_le h0
  unfold mn
  by_cases e : (n : Int) - (i : Int) < (i : Int)
  · rw [if_pos e, show (n : Int) - (i : Int) = ((n - i : Nat) : Int) by omega, chZ_nat, chZ_nat, ch_symm n i (by omega)]
  · rw [if_neg e]
theorem specUnrank_eq (l : List Int) (q m : Int) (hl : l.length ≤ 2000000) (k : Nat) (hk : l.length + 200 ≤ k) : spec_UnrankSubset.f k l q m = some (unrankSub l q m) := by
  unfold spec_UnrankSubset.f unrankSub
  rw [rising_eq l (by omega) k (by omega), Option.bind_some, l01In_eq, Option.bind_some]
  by_cases h : Cards l
  · have hn := cards_len h
    rw [if_pos (by simpa using h), if_pos h]
    by_cases h2 : 0 ≤ q ∧ q ≤ (l.length : Int)
    · have r := chZ_range l.length q hn
      rw [if_pos (by simpa using h2), if_pos h2, w64 (n := (l.length : Int) - q) (by omega) (by omega), choose_eq l.length _ hn k (by omega), chZ_min l.length q h2.1 h2.2, Option.bind_some, w64 (n := chZ l.length q - 1) (by omega) (by omega), l01In_eq, Option.bind_some]
      by_cases h3 : 0 ≤ m ∧ m ≤ chZ l.length q - 1
      · obtain ⟨i, rfl⟩ := Int.eq_ofNat_of_zero_le h2.1
        rw [if_pos (by simpa using h3), if_pos h3, l04Unrank_eq l i m hn (by omega) (by omega) (by omega) k (by omega), Option.bind_some, Int.toNat_natCast]
      · rw [if_neg (by simpa using h3), if_neg h3]
    · rw [if_neg (by simpa using h2), if_neg h2]
  · rw [if_neg (by simpa using h), if_neg h]
theorem implUnrank_eq (l : List Int) (q m : Int) (hl : l.length ≤ 2000000) (k : Nat) (hk : l.length + 200 ≤ k) : impl_UnrankSubset.f k l q m = some (unrankSub l q m) := by
  unfold impl_UnrankSubset.f unrankSub
  rw [isCards_eq l (by omega) k (by omega), Option.bind_some, within_eq, Option.bind_some]
  by_cases h : Cards l
  · have hn := cards_len h
    rw [if_pos (by simpa using h), if_pos h]
    by_cases h2 : 0 ≤ q ∧ q ≤ (l.length : Int)
    · have r := chZ_range l.length q hn
      rw [if_pos (by simpa using h2), if_pos h2, binomial_eq l.length q hn k (by omega), Option.bind_some, w64 (n := chZ l.length q - 1) (by omega) (by omega), within_eq, Option.bind_some]
      by_cases h3 : 0 ≤ m ∧ m ≤ chZ l.length q - 1
      · obtain ⟨i, rfl⟩ := Int.eq_ofNat_of_zero_le h2.1
        rw [if_pos (by simpa using h3), if_pos h3, subsetOf_eq l i m hn (by omega) (by omega) (by omega) k (by omega), Option.bind_some, Int.toNat_natCast]
      · rw [if_neg (by simpa using h3), if_neg h3]
    · rw [if_neg (by simpa using h2), if_neg h2]
  · rw [if_neg (by simpa using h), if_neg h]
end Go.Proofs.Ytoggoimoameklaa.Lem
