/- A smaller copy of a text of this seat, made by pack.py for one law. -/
import Derived.Test.YtoggoimoameklaaQFnExactSuitOrdersLemD
import Derived.Test.YtoggoimoameklaaQFnExactSuitOrdersLemP
import Derived.Test.YtoggoimoameklaaQFnExactSuitOrdersPAllx15
import Derived.Test.YtoggoimoameklaaQFnExactSuitOrdersPAllx17
import Derived.Test.YtoggoimoameklaaQFnExactSuitOrdersPAllx5
import Derived.Test.YtoggoimoameklaaQFnExactSuitOrdersPAllx9
import Derived.Test.YtoggoimoameklaaQFnExactSuitOrdersPAllx33
import Derived.Test.YtoggoimoameklaaQFnExactSuitOrdersPAllx39
import Derived.Test.YtoggoimoameklaaQFnExactSuitOrdersGivC
import Derived.Test.YtoggoimoameklaaQFnExactSuitOrdersPAllx37
namespace Go.Proofs.Ytoggoimoameklaa.Lem
open Go.RowKit Go.Proofs.Ytoggoimoameklaa.PAll Go.Proofs.Ytoggoimoameklaa.Base Go.Proofs.YtoggoimoameklaaW.PrintWords Go.Proofs.YtoggoimoameklaaW.PrintLast Go.Proofs.YtoggoimoameklaaW.PrintMore
set_option linter.unusedVariables false
set_option linter.unusedSimpArgs false
theorem sequal_l0 (a b : List Int) (hl : a.length ≤ 9223372036854775806) (hab : a.length = b.length) (d : Nat) : ∀ (k i : Nat), i + d = a.length → d < k → a.take i = b.take i →
    slices_Equal_int64_int64.l0 k a b (a.length : Int) (i : Int) = some (decide (a = b)) := by
  induction d with
  | zero =>
    intro k i hi hk ht
    obtain ⟨k, rfl⟩ := succ_of hk
    rw [List.take_of_length_le (by omega), List.take_of_length_le (by omega)] at ht
    rw [slices_Equal_int64_int64.l0, if_neg (by omega), decide_eq_true ht]
  | succ d ih =>
    intro k i hi hk ht
    obtain ⟨k, rfl⟩ := succ_of hk
    have h1 : i < a.length := by omega
    have h2 : i < b.length := by omega
    rw [slices_Equal_int64_int64.l0, if_pos (by omega), if_pos (by omega), if_pos (by omega), if_pos (by omega), rd_nat, rd_nat]
    by_cases e : a.getD i 0 = b.getD i 0
    · rw [if_pos e, wrap_nat i (by omega)]
      refine ih k (i + 1) (by omega) (by omega) ?_
      rw [List.take_add_one, List.take_add_one, ht]
      simp [List.getD, h1, h2] at e
      simp [h1, h2, e]
    · rw [if_neg e, decide_eq_false]
      intro h; subst h; exact e rfl
theorem sequal_eq (a b : List Int) (hl : a.length ≤ 9223372036854775806) (k : Nat) (hk : a.length < k) : slices_Equal_int64_int64.f k a b = some (decide (a = b)) := by
  unfold slices_Equal_int64_int64.f
  by_cases e : a.length = b.length
  · rw [if_pos (by omega)]
    exact sequal_l0 a b hl e a.length k 0 (by omega) hk (by simp)
  · rw [if_neg (by omega), decide_eq_false]
    intro h; subst h; exact e rfl
def Order (y : List Int) : Prop := y.length = 4 ∧ 0 ∈ y ∧ 1 ∈ y ∧ 2 ∈ y ∧ 3 ∈ y
instance (y : List Int) : Decidable (Order y) := inferInstanceAs (Decidable (_ ∧ _))
theorem specOrder_eq (y : List Int) (hl : y.length ≤ 2000000) (k : Nat) (hk : y.length < k) : spec_l03Order.f k y = some (decide (Order y)) := by
  unfold spec_l03Order.f
  by_cases h : y.length = 4
  · rw [if_pos (by omega), has_eq y hl 0 k hk, Option.bind_some, has_eq y hl 1 k hk, has_eq y hl 2 k hk, has_eq y hl 3 k hk]
    simp only [Option.bind_some]
    by_cases h0 : (0 : Int) ∈ y
    · by_cases h1 : (1 : Int) ∈ y
      · by_cases h2 : (2 : Int) ∈ y
        · simp [h0, h1, h2, Order, h]
        · simp [h0, h1, h2, Order]
      · simp [h0, h1, Order]
    · simp [h0, Order]
  · rw [if_neg (by omega)]
    simp [Order, h]
theorem order_sort (y : List Int) : sortL y = [0, 1, 2, 3] ↔ Order y := by
  have hp := sortL_perm y
  constructor
  · intro e
    rw [e] at hp
    exact ⟨hp.length_eq.symm, hp.mem_iff.1 (by simp), hp.mem_iff.1 (by simp), hp.mem_iff.1 (by simp), hp.mem_iff.1 (by simp)⟩
  · rintro ⟨hl, h0, h1, h2, h3⟩
    have hu := sortL_up y
    rw [← hp.length_eq] at hl
    replace h0 := hp.mem_iff.2 h0
    replace h1 := hp.mem_iff.2 h1
    replace h2 := hp.mem_iff.2 h2
    replace h3 := hp.mem_iff.2 h3
    generalize sortL y = s at *
    match s, hl with
    | [p, q, r, t], _ =>
      simp only [List.pairwise_cons, List.mem_cons, List.not_mem_nil, or_false, forall_eq_or_imp, forall_eq] at hu h0 h1 h2 h3
      obtain ⟨⟨a1, a2, a3⟩, ⟨a4, a5⟩, a6, _⟩ := hu
      have : p = 0 ∧ q = 1 ∧ r = 2 ∧ t = 3 := by omega
      obtain ⟨rfl, rfl, rfl, rfl⟩ := this
      rfl
theorem implOrder_eq (y : List Int) (hl : y.length ≤ 2000000) (k : Nat) (hk : y.length < k) : impl_isOrder.f k y = some (decide (Order y)) := by
  unfold impl_isOrder.f
  have e1 : slices_Clone_int64_int64.f y = some y := by unfold slices_Clone_int64_int64.f; rw [if_pos (by omega)]
  have e2 : slices_Sort_int64_int64.f y = some (sortL y) := by unfold slices_Sort_int64_int64.f sortL; rw [if_pos (by omega)]
  have hl2 := (sortL_perm y).length_eq
  rw [e1, Option.bind_some, e2, Option.bind_some, sequal_eq _ _ (by omega) k (by omega), Option.bind_some]
  rw [decide_eq_decide.2 (order_sort y)]
def lst (n : Nat) : List Int := [((n / 64 : Nat) : Int), ((n / 16 % 4 : Nat) : Int), ((n / 4 % 4 : Nat) : Int), ((n % 4 : Nat) : Int)]
theorem lit_lst : ∀ n : Nat, n < 256 → [wrap64 (Int.tdiv (n : Int) 64), Int.tmod (wrap64 (Int.tdiv (n : Int) 16)) 4, Int.tmod (wrap64 (Int.tdiv (n : Int) 4)) 4, Int.tmod (n : Int) 4] = lst n := by decide +kernel
def okFor (st : Int) (y : List Int) : Bool := decide (Order y) && (decide (st = 4) || decide (y.getD st.toNat 0 = st))
def ordersL (st : Int) : List (List Int) := ((List.range' 0 256).map lst).filter (okFor st)
theorem specOrders_l0 (st : Int) (h0 : 0 ≤ st) (h4 : st ≤ 4) : ∀ (d k i : Nat) (o : List (List Int)), i + d = 256 → d + 10 ≤ k → o.length ≤ i →
    spec_l05Orders.l0 k st o (i : Int) = some (o ++ ((List.range' i d).map lst).filter (okFor st)) := by
  intro d
  induction d with
  | zero =>
    intro k i o hi hk ho
    obtain ⟨k, rfl⟩ := succ_of (show 0 < k by omega)
    rw [spec_l05Orders.l0, if_neg (by omega)]; simp
  | succ d ih =>
    intro k i o hi hk ho
    obtain ⟨k, rfl⟩ := succ_of (show 0 < k by omega)
    rw [spec_l05Orders.l0, if_pos (by omega), lit_lst i (by omega), Option.bind_some, specOrder_eq (lst i) (by simp [lst]) k (by simp [lst]; omega), Option.bind_some, wrap_nat i (by omega), List.range'_succ, List.map_cons, List.filter_cons]
    by_cases h : Order (lst i)
    · rw [if_pos (by simpa using h)]
      by_cases e : st = 4
      · rw [if_pos e, if_pos (by omega), ih k (i + 1) _ (by omega) (by omega) (by simp; omega), if_pos (by simp [okFor, h, e])]; simp
      · have hr : rd (lst i) st = (lst i).getD st.toNat 0 := rfl
        rw [if_neg e, if_pos h0, if_pos (by simp [lst]; omega), hr]
        by_cases g : (lst i).getD st.toNat 0 = st
        · rw [if_pos g, if_pos (by omega), ih k (i + 1) _ (by omega) (by omega) (by simp; omega), if_pos (by simp only [okFor, decide_eq_true h, decide_eq_true g]; simp)]; simp
        · rw [if_neg g, ih k (i + 1) _ (by omega) (by omega) (by omega), if_neg (by simp only [okFor, decide_eq_true h, decide_eq_false g, decide_eq_false e]; simp)]
    · rw [if_neg (by simpa using h), ih k (i + 1) _ (by omega) (by omega) (by omega), if_neg (by simp only [okFor, decide_eq_false h]; simp)]
theorem implOrders_l0 (st : Int) (h0 : 0 ≤ st) (h4 : st ≤ 4) : ∀ (d k i : Nat) (o : List (List Int)), i + d = 256 → d + 10 ≤ k → o.length ≤ i →
    impl_SuitOrders.l0 k st o (i : Int) = some (o ++ ((List.range' i d).map lst).filter (okFor st)) := by
  intro d
  induction d with
  | zero =>
    intro k i o hi hk ho
    obtain ⟨k, rfl⟩ := succ_of (show 0 < k by omega)
    rw [impl_SuitOrders.l0, if_neg (by omega)]; simp
  | succ d ih =>
    intro k i o hi hk ho
    obtain ⟨k, rfl⟩ := succ_of (show 0 < k by omega)
    rw [impl_SuitOrders.l0, if_pos (by omega), lit_lst i (by omega), Option.bind_some, implOrder_eq (lst i) (by simp [lst]) k (by simp [lst]; omega), Option.bind_some, wrap_nat i (by omega), List.range'_succ, List.map_cons, List.filter_cons]
    by_cases h : Order (lst i)
    · rw [if_pos (by simpa using h)]
      by_cases e : st = 4
      · rw [if_pos e, if_pos (by omega), ih k (i + 1) _ (by omega) (by omega) (by simp; omega), if_pos (by simp [okFor, h, e])]; simp
      · have hr : rd (lst i) st = (lst i).getD st.toNat 0 := rfl
        rw [if_neg e, if_pos h0, if_pos (by simp [lst]; omega), hr]
        by_cases g : (lst i).getD st.toNat 0 = st
        · rw [if_pos g, if_pos (by omega), ih k (i + 1) _ (by omega) (by omega) (by simp; omega), if_pos (by simp only [okFor, decide_eq_true h, decide_eq_true g]; simp)]; simp
        · rw [if_neg g, ih k (i + 1) _ (by omega) (by omega) (by omega), if_neg (by simp only [okFor, decide_eq_true h, decide_eq_false g, decide_eq_false e]; simp)]
    · rw [if_neg (by simpa using h), ih k (i + 1) _ (by omega) (by omega) (by omega), if_neg (by simp only [okFor, decide_eq_false h]; simp)]
def suitOrders (st : Int) : List (List Int) := if 0 ≤ st ∧ st ≤ 4 then ordersL st else []
theorem specSuitOrders_eq (st : Int) (k : Nat) (hk : 300 ≤ k) : spec_SuitOrders.f k st = some (suitOrders st) := by
  unfold spec_SuitOrders.f suitOrders
  rw [l01In_eq, Option.bind_some]
  by_cases h : 0 ≤ st ∧ st ≤ 4
  · rw [if_pos (by simpa using h), if_pos h]
    unfold spec_l05Orders.f
    have := specOrders_l0 st h.1 h.2 256 k 0 [] (by omega) (by omega) (by simp)
    rw [show spec_l05Orders.l0 k st [] 0 = _ from this]; simp [ordersL]
  · rw [if_neg (by simpa using h), if_neg h]
theorem implSuitOrders_eq (st : Int) (k : Nat) (hk : 300 ≤ k) : impl_SuitOrders.f k st = some (suitOrders st) := by
  unfold impl_SuitOrders.f suitOrders
  have e : impl_isStrain.f st = some (decide (0 ≤ st ∧ st ≤ 4)) := by unfold impl_isStrain.f; rw [within_eq]; rfl
  rw [e, Option.bind_some]
  by_cases h : 0 ≤ st ∧ st ≤ 4
  · rw [if_pos (by simpa using h), if_pos h]
    have := implOrders_l0 st h.1 h.2 256 k 0 [] (by omega) (by omega) (by simp)
    rw [show impl_SuitOrders.l0 k st [] 0 = _ from this]; simp [ordersL]
  · rw [if_neg (by simpa using h), if_neg h]
theorem orders_rows (st : Int) : (suitOrders st).length ≤ 256 ∧ ∀ y ∈ suitOrders st, y.length = 4 := by
  unfold suitOrders
  split
  · refine ⟨Nat.le_trans (List.length_filter_le _ _) (by simp), fun y hy => ?_⟩
    unfold ordersL at hy
    obtain ⟨hy, _⟩ := List.mem_filter.1 hy
    obtain ⟨n, _, rfl⟩ := List.mem_map.1 hy
    simp [lst]
  · simp
end Go.Proofs.Ytoggoimoameklaa.Lem
