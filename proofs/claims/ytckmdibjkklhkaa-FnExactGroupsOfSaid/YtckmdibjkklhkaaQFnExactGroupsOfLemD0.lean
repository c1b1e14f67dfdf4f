/- A smaller copy of texts of this seat, made by pack.py for one law. -/
import Derived.Test.YtckmdibjkklhkaaQFnExactGroupsOfLemA
import Derived.Test.YtckmdibjkklhkaaQFnExactGroupsOfBase2
import Derived.Test.YtckmdibjkklhkaaQFnExactGroupsOfPAllx6
namespace Go.Proofs.Ytckmdibjkklhkaa.Lem
open Go.RowKit Go.Proofs.Ytckmdibjkklhkaa.PAll Go.Proofs.Ytckmdibjkklhkaa.Base Go.Proofs.YtckmdibjkklhkaaW.PrintWords Go.Proofs.YtckmdibjkklhkaaW.PrintLast Go.Proofs.YtckmdibjkklhkaaW.PrintMore
set_option linter.unusedVariables false
set_option linter.unusedSimpArgs false
theorem mark_eq (l : List Int) (hl : l.length ≤ 10000000) (a : Int) (h0 : 0 ≤ a) (ha : a ≤ 10000000) (k : Nat) (hk : l.length < k) :
    laws_markInt64S.f k l a = some (a + l.length, marks a l.length) := by
  unfold laws_markInt64S.f
  have key : ∀ (d k i : Nat) (x : List Int), i + d = l.length → d < k → x.length = l.length → x.take i = marks a i →
      laws_markInt64S.l0 k x (a + i) (i : Int) = some (a + l.length, marks a l.length) := by
    intro d
    induction d with
    | zero =>
      intro k i x hi hk hx ht
      obtain ⟨k, rfl⟩ := succ_of hk
      simp only [laws_markInt64S.l0]
      rw [if_neg (by omega), show i = l.length by omega]
      rw [List.take_of_length_le (by omega)] at ht
      rw [ht, show i = l.length by omega]
    | succ d ih =>
      intro k i x hi hk hx ht
      obtain ⟨k, rfl⟩ := succ_of hk
      simp only [laws_markInt64S.l0]
      rw [if_pos (by omega), if_pos (by omega), wrap_nat i (by omega), w64 (by omega) (by omega), Int.toNat_natCast, show a + (i : Int) + 1 = a + ((i + 1 : Nat) : Int) by omega]
      refine ih k (i + 1) _ (by omega) (by omega) (by simpa using hx) ?_
      have h1 : i < x.length := by omega
      rw [List.take_add_one, List.take_set_of_le (by omega), ht, ← marks_snoc]
      simp [h1]
  have := key l.length k 0 l (by omega) hk rfl (by simp [marks])
  simpa using this
theorem held_eq (n : Nat) (hn : n ≤ 10000000) (a : Int) (h0 : 0 ≤ a) (ha : a ≤ 10000000) (k : Nat) (hk : n < k) :
    laws_heldInt64S.f k (marks a n) a = some (a + n) := by
  unfold laws_heldInt64S.f
  have hlen := marks_length n a
  have key : ∀ (d k i : Nat), i + d = n → d < k → laws_heldInt64S.l0 k (marks a n) (a + i) (i : Int) = some (a + n) := by
    intro d
    induction d with
    | zero =>
      intro k i hi hk
      obtain ⟨k, rfl⟩ := succ_of hk
      simp only [laws_heldInt64S.l0]
      rw [if_neg (by omega), show i = n by omega]
    | succ d ih =>
      intro k i hi hk
      obtain ⟨k, rfl⟩ := succ_of hk
      simp only [laws_heldInt64S.l0]
      rw [if_pos (by omega), if_pos (by omega), rd_nat, marks_getD n a i (by omega), if_pos rfl, wrap_nat i (by omega), w64 (by omega) (by omega), show a + (i : Int) + 1 = a + ((i + 1 : Nat) : Int) by omega]
      exact ih k (i + 1) (by omega) (by omega)
  have := key n k 0 (by omega) hk
  simpa using this
end Go.Proofs.Ytckmdibjkklhkaa.Lem
