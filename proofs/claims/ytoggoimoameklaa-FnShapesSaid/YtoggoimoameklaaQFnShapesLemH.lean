/- A smaller copy of a text of this seat, made by pack.py for one law. -/
import Derived.Test.YtoggoimoameklaaQFnShapesLemF
import Derived.Test.YtoggoimoameklaaQFnShapesPAllx33
import Derived.Test.YtoggoimoameklaaQFnShapesPAllx39
namespace Go.Proofs.Ytoggoimoameklaa.Lem
open Go.RowKit Go.Proofs.Ytoggoimoameklaa.PAll Go.Proofs.Ytoggoimoameklaa.Base Go.Proofs.YtoggoimoameklaaW.PrintWords Go.Proofs.YtoggoimoameklaaW.PrintLast Go.Proofs.YtoggoimoameklaaW.PrintMore
set_option linter.unusedVariables false
set_option linter.unusedSimpArgs false
def insD (x : Int) : List Int → List Int
  | [] => [x]
  | y :: t => if y < x then x :: y :: t else y :: insD x t
theorem insD_perm (x : Int) : ∀ l : List Int, (insD x l).Perm (x :: l)
  | [] => List.Perm.refl _
  | y :: t => by
    simp only [insD]; split
    · exact List.Perm.refl _
    · exact ((insD_perm x t).cons y).trans (List.Perm.swap x y t)
theorem insD_down (x : Int) : ∀ l : List Int, l.Pairwise (· ≥ ·) → (insD x l).Pairwise (· ≥ ·)
  | [], _ => List.pairwise_singleton _ _
  | y :: t, h => by
    have h' := List.pairwise_cons.mp h
    simp only [insD]; split
    · rename_i e
      refine List.pairwise_cons.mpr ⟨fun z hz => ?_, h⟩
      rcases List.mem_cons.mp hz with rfl | hz
      · omega
      · have := h'.1 z hz; omega
    · rename_i e
      refine List.pairwise_cons.mpr ⟨fun z hz => ?_, insD_down x t h'.2⟩
      rcases List.mem_cons.mp ((insD_perm x t).mem_iff.mp hz) with rfl | hz
      · omega
      · exact h'.1 z hz
def downL (l o : List Int) : List Int := l.foldl (fun o x => insD x o) o
theorem downL_perm : ∀ (l o : List Int), (downL l o).Perm (l ++ o)
  | [], o => List.Perm.refl _
  | x :: t, o => by
    show (downL t (insD x o)).Perm _
    refine (downL_perm t _).trans ((List.Perm.append_left t (insD_perm x o)).trans ?_)
    exact List.perm_middle
theorem downL_down : ∀ (l o : List Int), o.Pairwise (· ≥ ·) → (downL l o).Pairwise (· ≥ ·)
  | [], o, h => h
  | x :: t, o, h => downL_down t _ (insD_down x o h)
theorem downL_sort (l : List Int) : (l.mergeSort fun x y => decide (x ≤ y)).reverse = downL l [] := by
  refine List.Perm.eq_of_pairwise (le := (· ≥ ·)) (fun a b _ _ h1 h2 => by omega) ?_ (downL_down l [] List.Pairwise.nil) ?_
  · rw [List.pairwise_reverse]
    have := List.pairwise_mergeSort (le := fun x y : Int => decide (x ≤ y)) (fun a b c h1 h2 => by simp at *; omega) (fun a b => by simp; omega) l
    exact this.imp fun h => by simpa using h
  · exact (List.reverse_perm _).trans ((List.mergeSort_perm l _).trans ((downL_perm l []).trans (by simp)).symm)
theorem reverse4 (r : List Int) (hr : r.length = 4) (k : Nat) (hk : 10 ≤ k) : slices_Reverse_int64_int64.f k r = some r.reverse := by
  match r, hr with
  | [a, b, c, d], _ =>
    obtain ⟨k, rfl⟩ : ∃ m, k = m + 1 + 1 + 1 := ⟨k - 3, by omega⟩
    unfold slices_Reverse_int64_int64.f
    simp [slices_Reverse_int64_int64.l0, wrap64, rd]
theorem descending_eq (l : List Int) (hl : l.length = 4) (k : Nat) (hk : 10 ≤ k) : impl_descending.f k l = some (downL l []) := by
  unfold impl_descending.f
  have e1 : slices_Clone_int64_int64.f l = some l := by unfold slices_Clone_int64_int64.f; rw [if_pos (by omega)]
  have e2 : slices_Sort_int64_int64.f l = some (l.mergeSort fun x y => decide (x ≤ y)) := by unfold slices_Sort_int64_int64.f; rw [if_pos (by omega)]
  rw [e1, Option.bind_some, e2, Option.bind_some, reverse4 _ (by rw [List.length_mergeSort, hl]) k hk, Option.bind_some, downL_sort]
def patternL (l : List Int) : List Int := if Hand l then downL (shapeL l) [] else []
theorem implPattern_eq (l : List Int) (hl : l.length ≤ 2000000) (k : Nat) (hk : l.length + 5000 ≤ k) : impl_PatternOf.f k l = some (patternL l) := by
  unfold impl_PatternOf.f patternL
  rw [implHand_eq l (by omega) k (by omega), Option.bind_some]
  by_cases h : Hand l
  · rw [if_pos (by simpa using h), shapeOf_eq l hl h.2.1 k (by omega), Option.bind_some, descending_eq _ rfl k (by omega), Option.bind_some, if_pos h]
  · rw [if_neg (by simpa using h), if_neg h]
end Go.Proofs.Ytoggoimoameklaa.Lem
