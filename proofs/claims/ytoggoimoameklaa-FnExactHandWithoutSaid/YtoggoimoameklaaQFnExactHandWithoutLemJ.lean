/- A smaller copy of a text of this seat, made by pack.py for one law. -/
import Derived.Test.YtoggoimoameklaaQFnExactHandWithoutLemA
import Derived.Test.YtoggoimoameklaaQFnExactHandWithoutPAllx13
import Derived.Test.YtoggoimoameklaaQFnExactHandWithoutPAllx29
import Derived.Test.YtoggoimoameklaaQFnExactHandWithoutLemD
import Derived.Test.YtoggoimoameklaaQFnExactHandWithoutPAllx19
import Derived.Test.YtoggoimoameklaaQFnExactHandWithoutPAllx25
import Derived.Test.YtoggoimoameklaaQFnExactHandWithoutPAllx0
import Derived.Test.YtoggoimoameklaaQFnExactHandWithoutPAllx21
import Derived.Test.YtoggoimoameklaaQFnExactHandWithoutPAllx23
import Derived.Test.YtoggoimoameklaaQFnExactHandWithoutPAllx27
namespace Go.Proofs.Ytoggoimoameklaa.Lem
open Go.RowKit Go.Proofs.Ytoggoimoameklaa.PAll Go.Proofs.Ytoggoimoameklaa.Base Go.Proofs.YtoggoimoameklaaW.PrintWords Go.Proofs.YtoggoimoameklaaW.PrintLast Go.Proofs.YtoggoimoameklaaW.PrintMore
set_option linter.unusedVariables false
set_option linter.unusedSimpArgs false
def dropL (l : List Int) (x : Int) : List Int := l.filter fun y => !decide (y = x)
theorem dropL_len (l : List Int) (x : Int) : (dropL l x).length ≤ l.length := List.length_filter_le _ _
theorem drop_l0 (l : List Int) (hl : l.length ≤ 2000000) (x : Int) : ∀ (t : List Int) (k i : Nat) (o : List Int), l.drop i = t → t.length < k → o.length + t.length ≤ 2000000 →
    spec_l01Drop.l0 k l x o (i : Int) = some (o ++ dropL t x) := by
  intro t
  induction t with
  | nil =>
    intro k i o ht hk ho
    obtain ⟨k, rfl⟩ := succ_of hk
    have := drop_nil_le ht
    rw [spec_l01Drop.l0, if_neg (by omega)]; simp [dropL]
  | cons y t ih =>
    intro k i o ht hk ho
    obtain ⟨hi, hx, ht'⟩ := drop_cons ht (0 : Int)
    obtain ⟨k, rfl⟩ := succ_of hk
    simp only [List.length_cons] at hk ho
    rw [spec_l01Drop.l0, if_pos (by omega), if_pos (by omega), rd_nat, hx, wrap_nat i (by omega)]
    by_cases e : y = x
    · rw [if_pos e, ih k (i + 1) o ht' (by omega) (by omega)]; simp [dropL, e]
    · rw [if_neg e, if_pos (by omega), ih k (i + 1) _ ht' (by omega) (by simp; omega)]; simp [dropL, e]
theorem l01Drop_eq (l : List Int) (hl : l.length ≤ 2000000) (x : Int) (k : Nat) (hk : l.length < k) : spec_l01Drop.f k l x = some (dropL l x) := by
  unfold spec_l01Drop.f
  exact (drop_l0 l hl x l k 0 [] rfl hk (by simpa using hl)).trans (by simp)
def withoutL (l : List Int) (x : Int) : List Int × Int := if Hand l then (if x ∈ l then (dropL l x, 0) else ([], 4)) else ([], 1)
theorem withoutL_len (l : List Int) (x : Int) : (withoutL l x).1.length ≤ l.length := by
  unfold withoutL; split
  · split
    · exact dropL_len l x
    · simp
  · simp
theorem specWithout_eq (l : List Int) (x : Int) (hl : l.length ≤ 2000000) (k : Nat) (hk : l.length < k) : spec_HandWithout.f k l x = some (withoutL l x) := by
  unfold spec_HandWithout.f withoutL
  rw [specHand_eq l (by omega) k (by omega), Option.bind_some]
  by_cases h : Hand l
  · rw [if_pos (by simpa using h), if_pos h, has_eq l hl x k hk, Option.bind_some]
    by_cases h2 : x ∈ l
    · rw [if_pos (by simpa using h2), if_pos h2, l01Drop_eq l hl x k hk, Option.bind_some]
    · rw [if_neg (by simpa using h2), if_neg h2]
  · rw [if_neg (by simpa using h), if_neg h]
theorem implWithout_eq (l : List Int) (x : Int) (hl : l.length ≤ 2000000) (k : Nat) (hk : l.length < k) : impl_HandWithout.f k l x = some (withoutL l x) := by
  unfold impl_HandWithout.f withoutL
  rw [implHand_eq l (by omega) k (by omega), Option.bind_some]
  by_cases h : Hand l
  · rw [if_pos (by simpa using h), if_pos h, contains_eq l hl x k hk, Option.bind_some]
    by_cases h2 : x ∈ l
    · have e : impl_without.f l x = some (dropL l x) := by unfold impl_without.f dropL; rw [if_pos (by omega)]
      rw [if_pos (by simpa using h2), if_pos h2, e, Option.bind_some]
    · rw [if_neg (by simpa using h2), if_neg h2]
  · rw [if_neg (by simpa using h), if_neg h]
end Go.Proofs.Ytoggoimoameklaa.Lem
