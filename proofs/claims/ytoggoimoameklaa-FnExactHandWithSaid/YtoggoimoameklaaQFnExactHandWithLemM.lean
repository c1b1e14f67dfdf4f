/- A smaller copy of a text of this seat, made by pack.py for one law. -/
import Derived.Test.YtoggoimoameklaaQFnExactHandWithLemD
import Derived.Test.YtoggoimoameklaaQFnExactHandWithLemG
import Derived.Test.YtoggoimoameklaaQFnExactHandWithLemA
import Derived.Test.YtoggoimoameklaaQFnExactHandWithPAllx13
import Derived.Test.YtoggoimoameklaaQFnExactHandWithPAllx29
import Derived.Test.YtoggoimoameklaaQFnExactHandWithPAllx19
import Derived.Test.YtoggoimoameklaaQFnExactHandWithPAllx25
import Derived.Test.YtoggoimoameklaaQFnExactHandWithPAllx0
import Derived.Test.YtoggoimoameklaaQFnExactHandWithPAllx21
import Derived.Test.YtoggoimoameklaaQFnExactHandWithPAllx23
import Derived.Test.YtoggoimoameklaaQFnExactHandWithPAllx27
import Derived.Test.YtoggoimoameklaaQFnExactHandWithGivH
import Derived.Test.YtoggoimoameklaaQFnExactHandWithPAllx33
namespace Go.Proofs.Ytoggoimoameklaa.Lem
open Go.RowKit Go.Proofs.Ytoggoimoameklaa.PAll Go.Proofs.Ytoggoimoameklaa.Base Go.Proofs.YtoggoimoameklaaW.PrintWords Go.Proofs.YtoggoimoameklaaW.PrintLast Go.Proofs.YtoggoimoameklaaW.PrintMore
set_option linter.unusedVariables false
set_option linter.unusedSimpArgs false
theorem countP_zero_of {x : Int} : ∀ (t : List Int), (∀ z ∈ t, x < z) → t.countP (· < x) = 0 := by
  intro t h
  rw [List.countP_eq_zero]
  intro z hz
  have := h z hz
  simp; omega
theorem ins_at (x : Int) : ∀ (l : List Int), l.Pairwise (· < ·) → x ∉ l → insAt l (l.countP (· < x)) x = insL x l
  | [], _, _ => rfl
  | y :: t, h, hx => by
    rw [List.pairwise_cons] at h
    have hne : x ≠ y := fun e => hx (by rw [e]; exact List.mem_cons_self)
    by_cases hy : y > x
    · rw [countP_zero_of (y :: t) (fun z hz => by
        rcases List.mem_cons.1 hz with rfl | hz
        · exact hy
        · have := h.1 z hz; omega)]
      simp [insAt, insL, hy]
    · rw [List.countP_cons, if_pos (by simp; omega)]
      have ih := ins_at x t h.2 (fun hm => hx (List.mem_cons_of_mem _ hm))
      simp only [insL, if_neg hy]
      rw [← ih]; simp [insAt]
def withL (l : List Int) (x : Int) : List Int × Int :=
  if Hand l then (if Card x then (if x ∈ l then ([], 5) else if l.length = 13 then ([], 3) else (insL x l, 0)) else ([], 2)) else ([], 1)
theorem withL_len (l : List Int) (x : Int) : (withL l x).1.length ≤ l.length + 1 := by
  unfold withL; (repeat' split) <;> simp [insL_len]
theorem specWith_eq (l : List Int) (x : Int) (hl : l.length ≤ 2000000) (k : Nat) (hk : l.length + 2 ≤ k) : spec_HandWith.f k l x = some (withL l x) := by
  unfold spec_HandWith.f withL
  rw [specHand_eq l (by omega) k (by omega), Option.bind_some]
  by_cases h : Hand l
  · rw [if_pos (by simpa using h), if_pos h, l01Card_eq, Option.bind_some]
    by_cases h1 : Card x
    · rw [if_pos (by simpa using h1), if_pos h1, has_eq l hl x k (by omega), Option.bind_some]
      by_cases h2 : x ∈ l
      · rw [if_pos (by simpa using h2), if_pos h2]
      · rw [if_neg (by simpa using h2), if_neg h2]
        by_cases h3 : l.length = 13
        · rw [if_pos (by omega), if_pos h3]
        · rw [if_neg (by omega), if_neg h3, put_eq l hl x k hk, Option.bind_some]
    · rw [if_neg (by simpa using h1), if_neg h1]
  · rw [if_neg (by simpa using h), if_neg h]
theorem implWith_eq (l : List Int) (x : Int) (hl : l.length ≤ 2000000) (k : Nat) (hk : l.length + 2 ≤ k) : impl_HandWith.f k l x = some (withL l x) := by
  unfold impl_HandWith.f withL
  rw [implHand_eq l (by omega) k (by omega), Option.bind_some]
  by_cases h : Hand l
  · rw [if_pos (by simpa using h), if_pos h, isCard_eq, Option.bind_some]
    by_cases h1 : Card x
    · rw [if_pos (by simpa using h1), if_pos h1, contains_eq l hl x k (by omega), Option.bind_some]
      by_cases h2 : x ∈ l
      · rw [if_pos (by simpa using h2), if_pos h2]
      · rw [if_neg (by simpa using h2), if_neg h2]
        by_cases h3 : l.length = 13
        · rw [if_pos (by omega), if_pos h3]
        · have e : impl_with.f l x = some (insL x l) := by
            unfold impl_with.f
            rw [if_pos ⟨by omega, h.2.2.imp fun hab => by omega⟩, ins_at x l h.2.2 h2]
          rw [if_neg (by omega), if_neg h3, e, Option.bind_some]
    · rw [if_neg (by simpa using h1), if_neg h1]
  · rw [if_neg (by simpa using h), if_neg h]
end Go.Proofs.Ytoggoimoameklaa.Lem
