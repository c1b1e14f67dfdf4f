/- A smaller copy of a text of this seat, made by pack.py for one law. -/
import Derived.Test.YtoggoimoameklaaQFnExactPatternOfLemF
import Derived.Test.YtoggoimoameklaaQFnExactPatternOfPAllx33
import Derived.Test.YtoggoimoameklaaQFnExactPatternOfPAllx39
namespace Go.Proofs.Ytoggoimoameklaa.Lem
open Go.RowKit Go.Proofs.Ytoggoimoameklaa.PAll Go.Proofs.Ytoggoimoameklaa.Base Go.Proofs.YtoggoimoameklaaW.PrintWords Go.Proofs.YtoggoimoameklaaW.PrintLast Go.Proofs.YtoggoimoameklaaW.PrintMore
set_option linter.unusedVariables false
set_option linter.unusedSimpArgs false
def insD (x : Int) : List Int → List Int
  | [] => [x]
  | y :: t => if y < x then x :: y :: t else y :: insD x t
theorem insD_len (x : Int) : ∀ l : List Int, (insD x l).length = l.length + 1
  | [] => rfl
  | y :: t => by simp only [insD]; split <;> simp [insD_len x t]
theorem insD_perm (x : Int) : ∀ l : List Int, (insD x l).Perm (x :: l)
  | [] => List.Perm.refl _
  | y :: t => by
    simp only [insD]; split
    · exact List.Perm.refl _
    · exact ((insD_perm x t).cons y).trans (List.Perm.swap x y t)
theorem insD_down (x : Int) : ∀ l : List Int, l.Pairwise (· ≥ ·) → (insD x l).Pairwise (· ≥ ·)
  | [], _ => List.pairwise_singleton _ _
  | y :: t, h => by
    have h' := List.pairwise_cons.mp h
    simp only [insD]; split
    · rename_i e
      refine List.pairwise_cons.mpr ⟨fun z hz => ?_, h⟩
      rcases List.mem_cons.mp hz with rfl | hz
      · omega
      · have := h'.1 z hz; omega
    · rename_i e
      refine List.pairwise_cons.mpr ⟨fun z hz => ?_, insD_down x t h'.2⟩
      rcases List.mem_cons.mp ((insD_perm x t).mem_iff.mp hz) with rfl | hz
      · omega
      · exact h'.1 z hz
def downL (l o : List Int) : List Int := l.foldl (fun o x => insD x o) o
theorem downL_perm : ∀ (l o : List Int), (downL l o).Perm (l ++ o)
  | [], o => List.Perm.refl _
  | x :: t, o => by
    show (downL t (insD x o)).Perm _
    refine (downL_perm t _).trans ((List.Perm.append_left t (insD_perm x o)).trans ?_)
    exact List.perm_middle
theorem downL_down : ∀ (l o : List Int), o.Pairwise (· ≥ ·) → (downL l o).Pairwise (· ≥ ·)
  | [], o, h => h
  | x :: t, o, h => downL_down t _ (insD_down x o h)
theorem downL_sort (l : List Int) : (l.mergeSort fun x y => decide (x ≤ y)).reverse = downL l [] := by
  refine List.Perm.eq_of_pairwise (le := (· ≥ ·)) (fun a b _ _ h1 h2 => by omega) ?_ (downL_down l [] List.Pairwise.nil) ?_
  · rw [List.pairwise_reverse]
    have := List.pairwise_mergeSort (le := fun x y : Int => decide (x ≤ y)) (fun a b c h1 h2 => by simp at *; omega) (fun a b => by simp; omega) l
    exact this.imp fun h => by simpa using h
  · exact (List.reverse_perm _).trans ((List.mergeSort_perm l _).trans ((downL_perm l []).trans (by simp)).symm)
theorem down_l1 (l s : List Int) (hs : s.length ≤ 1000) (n : Nat) (hn : n < l.length) (hl : l.length ≤ 1000) (x : Int) (hx0 : l.getD n 0 = x) : ∀ (t : List Int) (k i : Nat) (o : List Int) (d : Bool), s.drop i = t → o.length + t.length + (if d = true then 0 else 1) ≤ 2000 → i ≤ s.length →
    spec_l02Down.l1 (k + t.length + 1) l s (n : Int) o d (i : Int) = spec_l02Down.l0 k l (o ++ if d = true then t else insD x t) ((n + 1 : Nat) : Int) := by
  intro t
  induction t with
  | nil =>
    intro k i o d ht ho hi
    have := drop_nil_le ht
    simp only [List.length_nil, Nat.add_zero] at ho ⊢
    rw [spec_l02Down.l1, if_neg (by omega), wrap_nat n (by omega)]
    cases d
    · simp at ho
      rw [if_neg (by simp), if_pos (by omega), if_pos (by omega), if_pos (by omega), rd_nat, hx0]; rfl
    · rw [if_pos rfl]; simp
  | cons y t ih =>
    intro k i o d ht ho hi'
    obtain ⟨hi, hx, ht'⟩ := drop_cons ht (0 : Int)
    simp only [List.length_cons] at ho ⊢
    replace ih := ih k
    rw [show k + (t.length + 1) + 1 = k + t.length + 1 + 1 from by omega]
    generalize k + t.length + 1 = K at ih ⊢
    rw [spec_l02Down.l1, if_pos (by omega), rd_nat, rd_nat, hx, hx0, wrap_nat i (by omega)]
    cases d
    · simp only [Bool.false_eq_true, if_false] at ho
      rw [if_neg (by simp), if_pos (by omega), if_pos (by omega), if_pos (by omega)]
      by_cases e : y < x
      · rw [if_pos e, if_pos (by omega), Option.bind_some, if_pos (by simp; omega), ih (i + 1) _ true ht' (by simp; omega) (by omega)]
        simp [insD, e]
      · rw [if_neg e, if_pos (by omega), ih (i + 1) _ false ht' (by simp; omega) (by omega)]
        simp [insD, e]
    · simp only [if_true] at ho
      rw [if_pos rfl, if_pos (by omega), if_pos (by omega), ih (i + 1) _ true ht' (by simp; omega) (by omega)]
      simp
theorem down_l0 (l : List Int) (hl : l.length ≤ 900) : ∀ (t : List Int) (k n : Nat) (o : List Int), l.drop n = t → n ≤ l.length → o.length = n → 1000 * t.length + 1 ≤ k →
    spec_l02Down.l0 k l o (n : Int) = some (downL t o) := by
  intro t
  induction t with
  | nil =>
    intro k n o ht hn ho hk
    obtain ⟨k, rfl⟩ := succ_of (d := 0) (k := k) (by omega)
    have := drop_nil_le ht
    simp only [spec_l02Down.l0]
    rw [if_neg (by omega)]; rfl
  | cons x t ih =>
    intro k n o ht hn ho hk
    obtain ⟨hi, hx, ht'⟩ := drop_cons ht (0 : Int)
    simp only [List.length_cons] at hk
    obtain ⟨k, rfl⟩ : ∃ m, k = (m + o.length + 1) + 1 := ⟨k - o.length - 2, by omega⟩
    rw [spec_l02Down.l0]
    rw [if_pos (by omega)]
    refine (down_l1 l o (by omega) n hi (by omega) x hx o k 0 [] false rfl (by simp; omega) (by omega)).trans ?_
    simp only [Bool.false_eq_true, if_false, List.nil_append]
    exact ih k (n + 1) _ ht' (by omega) (by rw [insD_len, ho]) (by omega)
theorem l02Down_eq (l : List Int) (hl : l.length ≤ 4) (k : Nat) (hk : 5000 ≤ k) : spec_l02Down.f k l = some (downL l []) := by
  unfold spec_l02Down.f
  exact down_l0 l (by omega) l k 0 [] rfl (by omega) rfl (by omega)
theorem reverse4 (r : List Int) (hr : r.length = 4) (k : Nat) (hk : 10 ≤ k) : slices_Reverse_int64_int64.f k r = some r.reverse := by
  match r, hr with
  | [a, b, c, d], _ =>
    obtain ⟨k, rfl⟩ : ∃ m, k = m + 1 + 1 + 1 := ⟨k - 3, by omega⟩
    unfold slices_Reverse_int64_int64.f
    simp [slices_Reverse_int64_int64.l0, wrap64, rd]
theorem descending_eq (l : List Int) (hl : l.length = 4) (k : Nat) (hk : 10 ≤ k) : impl_descending.f k l = some (downL l []) := by
  unfold impl_descending.f
  have e1 : slices_Clone_int64_int64.f l = some l := by unfold slices_Clone_int64_int64.f; rw [if_pos (by omega)]
  have e2 : slices_Sort_int64_int64.f l = some (l.mergeSort fun x y => decide (x ≤ y)) := by unfold slices_Sort_int64_int64.f; rw [if_pos (by omega)]
  rw [e1, Option.bind_some, e2, Option.bind_some, reverse4 _ (by rw [List.length_mergeSort, hl]) k hk, Option.bind_some, downL_sort]
def patternL (l : List Int) : List Int := if Hand l then downL (shapeL l) [] else []
theorem patternL_len (l : List Int) : (patternL l).length ≤ 4 := by
  unfold patternL; split
  · rw [(downL_perm _ _).length_eq]; simp [shapeL]
  · simp
theorem specPattern_eq (l : List Int) (hl : l.length ≤ 2000000) (k : Nat) (hk : l.length + 5000 ≤ k) : spec_PatternOf.f k l = some (patternL l) := by
  unfold spec_PatternOf.f patternL
  rw [specHand_eq l (by omega) k (by omega), Option.bind_some]
  by_cases h : Hand l
  · rw [if_pos (by simpa using h), l02Shape_eq l hl h.2.1 k (by omega), Option.bind_some, l02Down_eq _ (by simp [shapeL]) k (by omega), Option.bind_some, if_pos h]
  · rw [if_neg (by simpa using h), if_neg h]
theorem implPattern_eq (l : List Int) (hl : l.length ≤ 2000000) (k : Nat) (hk : l.length + 5000 ≤ k) : impl_PatternOf.f k l = some (patternL l) := by
  unfold impl_PatternOf.f patternL
  rw [implHand_eq l (by omega) k (by omega), Option.bind_some]
  by_cases h : Hand l
  · rw [if_pos (by simpa using h), shapeOf_eq l hl h.2.1 k (by omega), Option.bind_some, descending_eq _ rfl k (by omega), Option.bind_some, if_pos h]
  · rw [if_neg (by simpa using h), if_neg h]
end Go.Proofs.Ytoggoimoameklaa.Lem
