/- A smaller copy of texts of this seat, made by pack.py for one law. -/
import Derived.RowKit
namespace Go.Proofs.Ytckmdibjkklhkaa.Base
end Go.Proofs.Ytckmdibjkklhkaa.Base
namespace Go.Proofs.YtckmdibjkklhkaaW.PrintWords
end Go.Proofs.YtckmdibjkklhkaaW.PrintWords
namespace Go.Proofs.YtckmdibjkklhkaaW.PrintWords.Kd
end Go.Proofs.YtckmdibjkklhkaaW.PrintWords.Kd
namespace Go.Proofs.YtckmdibjkklhkaaW.PrintLast
end Go.Proofs.YtckmdibjkklhkaaW.PrintLast
namespace Go.Proofs.YtckmdibjkklhkaaW.PrintWords.Foot
end Go.Proofs.YtckmdibjkklhkaaW.PrintWords.Foot
namespace Go.Proofs.YtckmdibjkklhkaaW.PrintMore
end Go.Proofs.YtckmdibjkklhkaaW.PrintMore
namespace Go.Proofs.YtckmdibjkklhkaaW.PrintMore.Kd
end Go.Proofs.YtckmdibjkklhkaaW.PrintMore.Kd
namespace Go.Proofs.Ytckmdibjkklhkaa.PAll
end Go.Proofs.Ytckmdibjkklhkaa.PAll
namespace Go.Proofs.Ytckmdibjkklhkaa.Lem
end Go.Proofs.Ytckmdibjkklhkaa.Lem
namespace Go.Proofs
end Go.Proofs
namespace Go.Proofs.Ytckmdibjkklhkaa.Pure
end Go.Proofs.Ytckmdibjkklhkaa.Pure
namespace Go.Proofs.Ytckmdibjkklhkaa.Head
end Go.Proofs.Ytckmdibjkklhkaa.Head
namespace Go.Proofs.Ytckmdibjkklhkaa.fnExactGroupsOf
end Go.Proofs.Ytckmdibjkklhkaa.fnExactGroupsOf
namespace Go.Proofs.Ytckmdibjkklhkaa
end Go.Proofs.Ytckmdibjkklhkaa
namespace Go.Proofs.Ytckmdibjkklhkaa.Base
open Go.RowKit
theorem w64 {n : Int} (h0 : -9223372036854775808 ≤ n) (h1 : n ≤ 9223372036854775807) : wrap64 n = n := by unfold wrap64; omega
def Card (c : Int) : Prop := 0 ≤ c ∧ c ≤ 51
instance (c : Int) : Decidable (Card c) := inferInstanceAs (Decidable (_ ∧ _))
def Rise (l : List Int) (i : Nat) : Prop := ∀ j, i ≤ j → j < l.length → Card (l.getD j 0) ∧ (0 < j → l.getD (j - 1) 0 < l.getD j 0)
theorem rise_end (l : List Int) (i : Nat) (h : l.length ≤ i) : Rise l i := fun j h1 h2 => by omega
theorem rise_step (l : List Int) (i : Nat) (h : i < l.length) : Rise l i ↔ (Card (l.getD i 0) ∧ (0 < i → l.getD (i - 1) 0 < l.getD i 0)) ∧ Rise l (i + 1) := by
  constructor
  · intro r; exact ⟨r i (Nat.le_refl _) h, fun j h1 h2 => r j (by omega) h2⟩
  · rintro ⟨a, r⟩ j h1 h2
    by_cases e : j = i
    · subst e; exact a
    · exact r j (by omega) h2
def Cards (l : List Int) : Prop := (∀ x ∈ l, Card x) ∧ l.Pairwise (· < ·)
instance (l : List Int) : Decidable (Cards l) := inferInstanceAs (Decidable (_ ∧ _))
theorem cards_rise (l : List Int) : Cards l ↔ Rise l 0 := by
  constructor
  · rintro ⟨h1, h2⟩ j _ hj
    rw [List.pairwise_iff_getElem] at h2
    have g : ∀ (k : Nat) (hk : k < l.length), l.getD k 0 = l[k] := fun k hk => by simp [List.getD, hk]
    refine ⟨by rw [g j hj]; exact h1 _ (List.getElem_mem hj), fun h0 => ?_⟩
    rw [g j hj, g (j - 1) (by omega)]
    exact h2 (j - 1) j (by omega) hj (by omega)
  · intro r
    have g : ∀ (k : Nat) (hk : k < l.length), l.getD k 0 = l[k] := fun k hk => by simp [List.getD, hk]
    refine ⟨fun x hx => ?_, ?_⟩
    · obtain ⟨k, hk, rfl⟩ := List.getElem_of_mem hx
      have := (r k (by omega) hk).1
      rwa [g k hk] at this
    · rw [List.pairwise_iff_getElem]
      intro i j hi hj hij
      induction j with
      | zero => omega
      | succ j ih =>
        have := (r (j + 1) (by omega) hj).2 (by omega)
        rw [g (j + 1) hj, show j + 1 - 1 = j by omega, g j (by omega)] at this
        by_cases e : i = j
        · subst e; exact this
        · exact Int.lt_trans (ih (by omega) (by omega)) this
def Hand (l : List Int) : Prop := l.length ≤ 13 ∧ Cards l
instance (l : List Int) : Decidable (Hand l) := inferInstanceAs (Decidable (_ ∧ _))
end Go.Proofs.Ytckmdibjkklhkaa.Base
