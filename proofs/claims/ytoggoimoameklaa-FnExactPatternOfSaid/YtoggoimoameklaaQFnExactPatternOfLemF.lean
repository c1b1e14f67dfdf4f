/- A smaller copy of a text of this seat, made by pack.py for one law. -/
import Derived.Test.YtoggoimoameklaaQFnExactPatternOfLemD
import Derived.Test.YtoggoimoameklaaQFnExactPatternOfPAllx15
import Derived.Test.YtoggoimoameklaaQFnExactPatternOfPAllx17
import Derived.Test.YtoggoimoameklaaQFnExactPatternOfPAllx5
import Derived.Test.YtoggoimoameklaaQFnExactPatternOfPAllx9
namespace Go.Proofs.Ytoggoimoameklaa.Lem
open Go.RowKit Go.Proofs.Ytoggoimoameklaa.PAll Go.Proofs.Ytoggoimoameklaa.Base Go.Proofs.YtoggoimoameklaaW.PrintWords Go.Proofs.YtoggoimoameklaaW.PrintLast Go.Proofs.YtoggoimoameklaaW.PrintMore
set_option linter.unusedVariables false
set_option linter.unusedSimpArgs false
theorem card_quarter {c : Int} (h : Card c) : c / 13 = 0 ∨ c / 13 = 1 ∨ c / 13 = 2 ∨ c / 13 = 3 := by have := h.1; have := h.2; omega
def cnt (l : List Int) (s : Int) : Int := ((suitL l s).length : Int)
def shapeL (l : List Int) : List Int := [cnt l 0, cnt l 1, cnt l 2, cnt l 3]
def bump (o : List Int) (c : Int) : List Int := o.set (c / 13).toNat (o.getD (c / 13).toNat 0 + 1)
theorem cnt_cons (x : Int) (t : List Int) (s : Int) : cnt (x :: t) s = (if x / 13 = s then 1 else 0) + cnt t s := by
  unfold cnt suitL
  by_cases h : x / 13 = s
  · simp [h]; omega
  · simp [h]
theorem foldl_bump : ∀ (l : List Int), (∀ x ∈ l, Card x) → ∀ a b c d : Int, l.foldl bump [a, b, c, d] = [a + cnt l 0, b + cnt l 1, c + cnt l 2, d + cnt l 3]
  | [], _, a, b, c, d => by simp [cnt, suitL]
  | x :: t, h, a, b, c, d => by
    have ht := foldl_bump t (fun y hy => h y (by simp [hy]))
    rw [List.foldl_cons]
    have hx := card_quarter (h x (by simp))
    simp only [cnt_cons]
    rcases hx with e | e | e | e <;> simp only [bump, e] <;> simp only [List.set, List.getD, Int.toNat_zero] <;> simp [ht] <;> omega
theorem shapeOf_eq (l : List Int) (hl : l.length ≤ 2000000) (hc : ∀ x ∈ l, Card x) (k : Nat) (hk : l.length < k) : impl_shapeOf.f k l = some (shapeL l) := by
  unfold impl_shapeOf.f
  rw [if_pos (by omega)]
  have := fold_loop (0 : Int) l 1 0 (fun k (o : List Int) i => impl_shapeOf.l0 k o l (l.length : Int) i) bump id (fun i o => o.length = 4 ∧ ∀ j, 0 ≤ o.getD j 0 ∧ o.getD j 0 ≤ (i : Int))
    (by intro k o i _ _ hi; simp only [impl_shapeOf.l0]; rw [if_neg (by omega)]; rfl)
    (by
      intro k o i _ ho hi
      have h := hc _ (getD_mem hi)
      have hq := card_quarter h
      have hj := ho.2 (l.getD i 0 / 13).toNat
      simp only [impl_shapeOf.l0]
      rw [if_pos (by omega), if_pos (by omega), if_pos (by omega), rd_nat, suit_eq h, Option.bind_some, if_pos (by omega), if_pos (by rw [ho.1]; omega), wrap_nat i (by omega), show rd o (l.getD i 0 / 13) = o.getD (l.getD i 0 / 13).toNat 0 from rfl, w64 (by omega) (by omega)]
      rfl)
    (by
      intro o i ho hi
      refine ⟨by simp [bump, ho.1], fun j => ?_⟩
      have h1 := ho.2 j
      have h2 := ho.2 (l.getD i 0 / 13).toNat
      unfold bump
      rw [List.getD_eq_getElem?_getD, List.getElem?_set]
      split
      · split
        · simp only [Option.getD_some]; omega
        · simp; omega
      · rw [← List.getD_eq_getElem?_getD]; omega) l k 0 [0, 0, 0, 0] rfl (by omega) ⟨rfl, fun j => by
        match j with
        | 0 => simp
        | 1 => simp
        | 2 => simp
        | 3 => simp
        | j + 4 => simp⟩
  rw [foldl_bump l hc] at this
  simpa [shapeL] using this
theorem l02Shape_eq (l : List Int) (hl : l.length ≤ 2000000) (hc : ∀ x ∈ l, Card x) (k : Nat) (hk : l.length + 5 < k) : spec_l02Shape.f k l = some (shapeL l) := by
  have e : ∀ (k : Nat) (o : List Int) (s : Nat), s < 4 → o.length = s → l.length < k → spec_l02Shape.l0 (k + 1) l o (s : Int) = spec_l02Shape.l0 k l (o ++ [cnt l s]) ((s + 1 : Nat) : Int) := by
    intro k o s hs ho hk
    simp only [spec_l02Shape.l0]
    rw [if_pos (by omega), l01Suit_eq l hl hc _ k hk, Option.bind_some, if_pos (by omega), wrap_nat s (by omega)]
    rfl
  obtain ⟨k, rfl⟩ : ∃ m, k = m + 1 + 1 + 1 + 1 + 1 := ⟨k - 5, by omega⟩
  unfold spec_l02Shape.f
  have h0 := e (k + 1 + 1 + 1 + 1) [] 0 (by omega) rfl (by omega)
  have h1 := e (k + 1 + 1 + 1) [cnt l 0] 1 (by omega) rfl (by omega)
  have h2 := e (k + 1 + 1) [cnt l 0, cnt l 1] 2 (by omega) rfl (by omega)
  have h3 := e (k + 1) [cnt l 0, cnt l 1, cnt l 2] 3 (by omega) rfl (by omega)
  refine h0.trans (h1.trans (h2.trans (h3.trans ?_)))
  simp only [spec_l02Shape.l0]
  rw [if_neg (by omega)]
  rfl
end Go.Proofs.Ytoggoimoameklaa.Lem
