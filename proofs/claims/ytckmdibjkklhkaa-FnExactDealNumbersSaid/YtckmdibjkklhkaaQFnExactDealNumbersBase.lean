/- A smaller copy of a text of this seat, made by pack.py for one law. -/
import Derived.RowKit
namespace Go.Proofs.Ytckmdibjkklhkaa.Base
end Go.Proofs.Ytckmdibjkklhkaa.Base
namespace Go.Proofs.YtckmdibjkklhkaaW.PrintWords
end Go.Proofs.YtckmdibjkklhkaaW.PrintWords
namespace Go.Proofs.YtckmdibjkklhkaaW.PrintWords.Kd
end Go.Proofs.YtckmdibjkklhkaaW.PrintWords.Kd
namespace Go.Proofs.YtckmdibjkklhkaaW.PrintLast
end Go.Proofs.YtckmdibjkklhkaaW.PrintLast
namespace Go.Proofs.YtckmdibjkklhkaaW.PrintWords.Foot
end Go.Proofs.YtckmdibjkklhkaaW.PrintWords.Foot
namespace Go.Proofs.YtckmdibjkklhkaaW.PrintMore
end Go.Proofs.YtckmdibjkklhkaaW.PrintMore
namespace Go.Proofs.YtckmdibjkklhkaaW.PrintMore.Kd
end Go.Proofs.YtckmdibjkklhkaaW.PrintMore.Kd
namespace Go.Proofs.Ytckmdibjkklhkaa.PAll
end Go.Proofs.Ytckmdibjkklhkaa.PAll
namespace Go.Proofs.Ytckmdibjkklhkaa.Lem
end Go.Proofs.Ytckmdibjkklhkaa.Lem
namespace Go.Proofs
end Go.Proofs
namespace Go.Proofs.Ytckmdibjkklhkaa.Pure
end Go.Proofs.Ytckmdibjkklhkaa.Pure
namespace Go.Proofs.Ytckmdibjkklhkaa.Head
end Go.Proofs.Ytckmdibjkklhkaa.Head
namespace Go.Proofs.Ytckmdibjkklhkaa.fnExactDealNumbers
end Go.Proofs.Ytckmdibjkklhkaa.fnExactDealNumbers
namespace Go.Proofs.Ytckmdibjkklhkaa
end Go.Proofs.Ytckmdibjkklhkaa
namespace Go.Proofs.Ytckmdibjkklhkaa.Base
open Go.RowKit
theorem w64 {n : Int} (h0 : -9223372036854775808 ≤ n) (h1 : n ≤ 9223372036854775807) : wrap64 n = n := by unfold wrap64; omega
def ch : Nat → Nat → Nat
  | _, 0 => 1
  | 0, _ + 1 => 0
  | n + 1, k + 1 => ch n k + ch n (k + 1)
theorem ch_zero (n : Nat) : ch n 0 = 1 := by cases n <;> rfl
theorem ch_succ (n k : Nat) : ch (n + 1) (k + 1) = ch n k + ch n (k + 1) := rfl
theorem ch_over : ∀ (n k : Nat), n < k → ch n k = 0
  | 0, 0, h => by omega
  | 0, k + 1, _ => rfl
  | n + 1, 0, h => by omega
  | n + 1, k + 1, h => by rw [ch_succ, ch_over n k (by omega), ch_over n (k + 1) (by omega)]
theorem ch_self : ∀ n : Nat, ch n n = 1
  | 0 => rfl
  | n + 1 => by rw [ch_succ, ch_self n, ch_over n (n + 1) (by omega)]
theorem ch_le : ∀ (n k : Nat), ch n k ≤ 2 ^ n
  | 0, 0 => by simp [ch]
  | 0, k + 1 => by simp [ch]
  | n + 1, 0 => by rw [ch_zero]; exact Nat.one_le_two_pow
  | n + 1, k + 1 => by have h1 := ch_le n k; have h2 := ch_le n (k + 1); rw [ch_succ, Nat.pow_succ]; omega
theorem ch_both : ∀ (n k : Nat), ch n (k + 1) * (k + 1) = ch n k * (n - k) ∧ ch (n + 1) (k + 1) * (k + 1) = ch n k * (n + 1)
  | 0, 0 => by simp [ch]
  | 0, k + 1 => by simp [ch]
  | n + 1, k => by
    have a : ch (n + 1) (k + 1) * (k + 1) = ch n k * (n + 1) := (ch_both n k).2
    have b : ch (n + 1) k * (n + 1 - k) = ch n k * (n + 1) := by
      cases k with
      | zero => simp [ch_zero]
      | succ j =>
        have h1 := (ch_both n j).1
        rw [ch_succ, Nat.add_sub_add_right, Nat.add_mul, ← h1, ← Nat.mul_add]
        by_cases hj : j ≤ n
        · rw [show j + 1 + (n - j) = n + 1 by omega]
        · rw [ch_over n (j + 1) (by omega)]; simp
    refine ⟨by rw [a, b], ?_⟩
    rw [ch_succ (n + 1) k, Nat.add_mul, a, ← b, ← Nat.mul_add]
    by_cases hk : k ≤ n + 1
    · rw [show k + 1 + (n + 1 - k) = n + 1 + 1 by omega]
    · rw [ch_over (n + 1) k (by omega)]; simp
theorem ch_mul (n k : Nat) : ch n (k + 1) * (k + 1) = ch n k * (n - k) := (ch_both n k).1
theorem ch_up (n k : Nat) : ch (n + 1) (k + 1) * (k + 1) = ch n k * (n + 1) := (ch_both n k).2
theorem ch_symm : ∀ (n k : Nat), k ≤ n → ch n (n - k) = ch n k
  | 0, k, h => by obtain rfl : k = 0 := by omega
                  rfl
  | n + 1, 0, _ => by simp [ch_self, ch_zero]
  | n + 1, k + 1, h => by
    by_cases e : k = n
    · subst e; simp [ch_self, ch_zero]
    · rw [show n + 1 - (k + 1) = (n - (k + 1)) + 1 by omega, ch_succ, ch_succ, ch_symm n (k + 1) (by omega), show n - (k + 1) + 1 = n - k by omega, ch_symm n k (by omega)]; omega
theorem ch_small (n k : Nat) (hn : n ≤ 52) : ch n k ≤ 4503599627370496 :=
  Nat.le_trans (ch_le n k) (Nat.le_trans (Nat.pow_le_pow_right (by omega) hn) (by decide))
theorem tdiv_of {a c : Nat} {z x : Int} (hz : 0 < z) (hx : x = (a : Int)) (h : (c : Int) * z = (a : Int)) : Int.tdiv x z = (c : Int) := by
  subst hx; rw [← h, Int.mul_tdiv_cancel _ (by omega)]
theorem whole_round {c f g z : Nat} (hc : c ≤ 4503599627370496) (hf : f ≤ 53) (hz : 0 < z) (h : g * z = c * f) :
    wrap64 (Int.tdiv (wrap64 ((c : Int) * (f : Int))) (z : Int)) = (g : Int) := by
  have h1 : c * f ≤ 4503599627370496 * 53 := Nat.mul_le_mul hc hf
  have h2 : g ≤ g * z := Nat.le_mul_of_pos_right g hz
  have e : (c : Int) * (f : Int) = ((c * f : Nat) : Int) := by simp
  rw [e, w64 (n := ((c * f : Nat) : Int)) (by omega) (by omega), tdiv_of (a := c * f) (c := g) (by omega) rfl (by rw [← h]; simp), w64 (by omega) (by omega)]
def chZ (n : Nat) (k : Int) : Int := if k < 0 then 0 else (ch n k.toNat : Int)
theorem chZ_neg (n : Nat) (k : Int) (h : k < 0) : chZ n k = 0 := if_pos h
theorem chZ_nat (n k : Nat) : chZ n (k : Int) = (ch n k : Int) := by unfold chZ; rw [if_neg (by omega), Int.toNat_natCast]
theorem chZ_over (n : Nat) (k : Int) (h : (n : Int) < k) : chZ n k = 0 := by unfold chZ; rw [if_neg (by omega), ch_over n _ (by omega)]; rfl
def Card (c : Int) : Prop := 0 ≤ c ∧ c ≤ 51
instance (c : Int) : Decidable (Card c) := inferInstanceAs (Decidable (_ ∧ _))
def Rise (l : List Int) (i : Nat) : Prop := ∀ j, i ≤ j → j < l.length → Card (l.getD j 0) ∧ (0 < j → l.getD (j - 1) 0 < l.getD j 0)
theorem rise_end (l : List Int) (i : Nat) (h : l.length ≤ i) : Rise l i := fun j h1 h2 => by omega
theorem rise_step (l : List Int) (i : Nat) (h : i < l.length) : Rise l i ↔ (Card (l.getD i 0) ∧ (0 < i → l.getD (i - 1) 0 < l.getD i 0)) ∧ Rise l (i + 1) := by
  constructor
  · intro r; exact ⟨r i (Nat.le_refl _) h, fun j h1 h2 => r j (by omega) h2⟩
  · rintro ⟨a, r⟩ j h1 h2
    by_cases e : j = i
    · subst e; exact a
    · exact r j (by omega) h2
def Cards (l : List Int) : Prop := (∀ x ∈ l, Card x) ∧ l.Pairwise (· < ·)
instance (l : List Int) : Decidable (Cards l) := inferInstanceAs (Decidable (_ ∧ _))
theorem cards_rise (l : List Int) : Cards l ↔ Rise l 0 := by
  constructor
  · rintro ⟨h1, h2⟩ j _ hj
    rw [List.pairwise_iff_getElem] at h2
    have g : ∀ (k : Nat) (hk : k < l.length), l.getD k 0 = l[k] := fun k hk => by simp [List.getD, hk]
    refine ⟨by rw [g j hj]; exact h1 _ (List.getElem_mem hj), fun h0 => ?_⟩
    rw [g j hj, g (j - 1) (by omega)]
    exact h2 (j - 1) j (by omega) hj (by omega)
  · intro r
    have g : ∀ (k : Nat) (hk : k < l.length), l.getD k 0 = l[k] := fun k hk => by simp [List.getD, hk]
    refine ⟨fun x hx => ?_, ?_⟩
    · obtain ⟨k, hk, rfl⟩ := List.getElem_of_mem hx
      have := (r k (by omega) hk).1
      rwa [g k hk] at this
    · rw [List.pairwise_iff_getElem]
      intro i j hi hj hij
      induction j with
      | zero => omega
      | succ j ih =>
        have := (r (j + 1) (by omega) hj).2 (by omega)
        rw [g (j + 1) hj, show j + 1 - 1 = j by omega, g j (by omega)] at this
        by_cases e : i = j
        · subst e; exact this
        · exact Int.lt_trans (ih (by omega) (by omega)) this
def Hand (l : List Int) : Prop := l.length ≤ 13 ∧ Cards l
instance (l : List Int) : Decidable (Hand l) := inferInstanceAs (Decidable (_ ∧ _))
end Go.Proofs.Ytckmdibjkklhkaa.Base
