/- A smaller copy of a text of this seat, made by pack.py for one law. -/
import Derived.Test.YtoggoimoameklaaQFnShapesLemD
import Derived.Test.YtoggoimoameklaaQFnShapesPAllx15
import Derived.Test.YtoggoimoameklaaQFnShapesPAllx17
import Derived.Test.YtoggoimoameklaaQFnShapesPAllx5
import Derived.Test.YtoggoimoameklaaQFnShapesPAllx9
namespace Go.Proofs.Ytoggoimoameklaa.Lem
open Go.RowKit Go.Proofs.Ytoggoimoameklaa.PAll Go.Proofs.Ytoggoimoameklaa.Base Go.Proofs.YtoggoimoameklaaW.PrintWords Go.Proofs.YtoggoimoameklaaW.PrintLast Go.Proofs.YtoggoimoameklaaW.PrintMore
set_option linter.unusedVariables false
set_option linter.unusedSimpArgs false
theorem card_quarter {c : Int} (h : Card c) : c / 13 = 0 ∨ c / 13 = 1 ∨ c / 13 = 2 ∨ c / 13 = 3 := by have := h.1; have := h.2; omega
def cnt (l : List Int) (s : Int) : Int := ((suitL l s).length : Int)
def shapeL (l : List Int) : List Int := [cnt l 0, cnt l 1, cnt l 2, cnt l 3]
def bump (o : List Int) (c : Int) : List Int := o.set (c / 13).toNat (o.getD (c / 13).toNat 0 + 1)
theorem cnt_cons (x : Int) (t : List Int) (s : Int) : cnt (x :: t) s = (if x / 13 = s then 1 else 0) + cnt t s := by
  unfold cnt suitL
  by_cases h : x / 13 = s
  · simp [h]; omega
  · simp [h]
theorem cnt_range (l : List Int) (s : Int) : 0 ≤ cnt l s ∧ cnt l s ≤ l.length := by
  have := suitL_len l s; unfold cnt; omega
theorem foldl_bump : ∀ (l : List Int), (∀ x ∈ l, Card x) → ∀ a b c d : Int, l.foldl bump [a, b, c, d] = [a + cnt l 0, b + cnt l 1, c + cnt l 2, d + cnt l 3]
  | [], _, a, b, c, d => by simp [cnt, suitL]
  | x :: t, h, a, b, c, d => by
    have ht := foldl_bump t (fun y hy => h y (by simp [hy]))
    rw [List.foldl_cons]
    have hx := card_quarter (h x (by simp))
    simp only [cnt_cons]
    rcases hx with e | e | e | e <;> simp only [bump, e] <;> simp only [List.set, List.getD, Int.toNat_zero] <;> simp [ht] <;> omega
theorem shapeOf_eq (l : List Int) (hl : l.length ≤ 2000000) (hc : ∀ x ∈ l, Card x) (k : Nat) (hk : l.length < k) : impl_shapeOf.f k l = some (shapeL l) := by
  unfold impl_shapeOf.f
  rw [if_pos (by omega)]
  have := fold_loop (0 : Int) l 1 0 (fun k (o : List Int) i => impl_shapeOf.l0 k o l (l.length : Int) i) bump id (fun i o => o.length = 4 ∧ ∀ j, 0 ≤ o.getD j 0 ∧ o.getD j 0 ≤ (i : Int))
    (by intro k o i _ _ hi; simp only [impl_shapeOf.l0]; rw [if_neg (by omega)]; rfl)
    (by
      intro k o i _ ho hi
      have h := hc _ (getD_mem hi)
      have hq := card_quarter h
      have hj := ho.2 (l.getD i 0 / 13).toNat
      simp only [impl_shapeOf.l0]
      rw [if_pos (by omega), if_pos (by omega), if_pos (by omega), rd_nat, suit_eq h, Option.bind_some, if_pos (by omega), if_pos (by rw [ho.1]; omega), wrap_nat i (by omega), show rd o (l.getD i 0 / 13) = o.getD (l.getD i 0 / 13).toNat 0 from rfl, w64 (by omega) (by omega)]
      rfl)
    (by
      intro o i ho hi
      refine ⟨by simp [bump, ho.1], fun j => ?_⟩
      have h1 := ho.2 j
      have h2 := ho.2 (l.getD i 0 / 13).toNat
      unfold bump
      rw [List.getD_eq_getElem?_getD, List.getElem?_set]
      split
      · split
        · simp only [Option.getD_some]; omega
        · simp; omega
      · rw [← List.getD_eq_getElem?_getD]; omega) l k 0 [0, 0, 0, 0] rfl (by omega) ⟨rfl, fun j => by
        match j with
        | 0 => simp
        | 1 => simp
        | 2 => simp
        | 3 => simp
        | j + 4 => simp⟩
  rw [foldl_bump l hc] at this
  simpa [shapeL] using this
theorem implShape_eq (l : List Int) (hl : l.length ≤ 2000000) (k : Nat) (hk : l.length < k) : impl_ShapeOf.f k l = some (if Hand l then shapeL l else []) := by
  unfold impl_ShapeOf.f
  rw [implHand_eq l (by omega) k (by omega), Option.bind_some]
  by_cases h : Hand l
  · rw [if_pos (by simpa using h), if_pos h, shapeOf_eq l hl h.2.1 k hk, Option.bind_some]
  · rw [if_neg (by simpa using h), if_neg h]
theorem shapeL_getD (l : List Int) (s : Nat) (hs : s < 4) : (shapeL l).getD s 0 = cnt l s := by
  match s with
  | 0 => rfl
  | 1 => rfl
  | 2 => rfl
  | 3 => rfl
def missFrom (l : List Int) (s : Int) (b : Nat) : Nat → Int
  | 0 => 0
  | d + 1 => (if 13 * s + (12 - (b : Int)) ∈ l then 0 else 1) + missFrom l s (b + 1) d
theorem missFrom_range (l : List Int) (s : Int) : ∀ (d b : Nat), 0 ≤ missFrom l s b d ∧ missFrom l s b d ≤ d
  | 0, b => by simp [missFrom]
  | d + 1, b => by have := missFrom_range l s d (b + 1); simp only [missFrom]; split <;> omega
def loss (l : List Int) (s : Nat) : Nat → Int
  | 0 => 0
  | r + 1 => missFrom l s 0 (min 3 (suitL l s).length) + loss l (s + 1) r
theorem loss_range (l : List Int) : ∀ (r s : Nat), 0 ≤ loss l s r ∧ loss l s r ≤ 3 * r
  | 0, s => by simp [loss]
  | r + 1, s => by have := loss_range l r (s + 1); have := missFrom_range l s (min 3 (suitL l s).length) 0; simp only [loss]; omega
theorem mn3' (n : Nat) : mn (n : Int) 3 = ((min 3 n : Nat) : Int) := by unfold mn; omega
theorem impl_l1 (l x8 : List Int) (x9 : Int) (hl : l.length ≤ 2000000) (s n : Nat) (hs : s < 4) : ∀ (d k b : Nat) (acc : Int), b + d = min 3 n → l.length < k → 0 ≤ acc → acc ≤ 1000 - d →
    impl_losers.l1 (k + d + 1) l acc (s : Int) (n : Int) (b : Int) x8 x9 (s : Int) = impl_losers.l0 (k + 0) l (acc + missFrom l s b d) x8 x9 ((s + 1 : Nat) : Int) := by
  intro d
  induction d with
  | zero =>
    intro k  b  acc  hb  hk  h0  h1
    simp only [impl_losers.l1, Nat.add_zero]
    rw [mn3', if_neg (by omega), wrap_nat s (by omega)]; simp [missFrom]
  | succ d ih =>
    intro k  b  acc  hb  hk  h0  h1
    have ih := ih k (b + 1)
    rw [show k + (d + 1) + 1 = (k + d + 1) + 1 by omega]
    have hK2 : l.length < k + d + 1 := by omega
    generalize k + d + 1 = K at ih hK2 ⊢
    simp only [impl_losers.l1]
    rw [mn3', if_pos (by omega), hasRank_eq l hl s (b : Int) (by omega) (by omega) _ (by omega), Option.bind_some, wrap_nat b (by omega)]
    by_cases e : 13 * (s : Int) + (12 - (b : Int)) ∈ l
    · rw [if_pos (by simpa using e), ih acc (by omega) hk h0 (by omega)]; simp [missFrom, e]
    · rw [if_neg (by simpa using e), w64 (by omega) (by omega), ih (acc + 1) (by omega) hk (by omega) (by omega)]; simp [missFrom, e]; congr 1; omega
theorem impl_losers_l0 (l : List Int) (hl : l.length ≤ 2000000) : ∀ (r k s : Nat) (acc : Int), s + r = 4 → l.length + 6 * r + 2 ≤ k → 0 ≤ acc → acc ≤ 900 - 3 * r →
    impl_losers.l0 k l acc (shapeL l) 4 (s : Int) = some (acc + loss l s r) := by
  intro r
  induction r with
  | zero =>
    intro k  s  acc  hs  hk  h0  h1
    obtain ⟨k, rfl⟩ := succ_of (d := 0) (k := k) (by omega)
    simp only [impl_losers.l0]
    rw [if_neg (by omega)]; simp [loss]
  | succ r ih =>
    intro k  s  acc  hs  hk  h0  h1
    obtain ⟨k, rfl⟩ := succ_of (d := 0) (k := k) (by omega)
    simp only [impl_losers.l0]
    rw [if_pos (by omega), if_pos (by omega), if_pos (by simp [shapeL]; omega), rd_nat, shapeL_getD l s (by omega)]
    have hm := missFrom_range l s (min 3 (suitL l s).length) 0
    obtain ⟨q, hq⟩ : ∃ q, k = q + min 3 (suitL l s).length + 1 := ⟨k - (min 3 (suitL l s).length + 1), by omega⟩
    have := impl_l1 l (shapeL l) 4 hl s (suitL l s).length (by omega) (min 3 (suitL l s).length) q 0 acc (by omega) (by omega) h0 (by omega)
    rw [hq]
    refine this.trans ?_
    rw [ih (q + 0) (s + 1) _ (by omega) (by omega) (by omega) (by omega), loss, Int.add_assoc]
theorem implLosers_eq (l : List Int) (hl : l.length ≤ 2000000) (k : Nat) (hk : l.length + 40 < k) : impl_LosersOf.f k l = some (if Hand l then loss l 0 4 else -1) := by
  unfold impl_LosersOf.f impl_losers.f
  rw [implHand_eq l (by omega) k (by omega), Option.bind_some]
  by_cases h : Hand l
  · rw [if_pos (by simpa using h), if_pos h, shapeOf_eq l hl h.2.1 k (by omega), Option.bind_some]
    have := impl_losers_l0 l hl 4 k 0 0 (by omega) (by omega) (by omega) (by omega)
    have e : ((shapeL l).length : Int) = 4 := rfl
    have z : ((0 : Nat) : Int) = 0 := rfl
    rw [z] at this
    rw [e, this, Option.bind_some]; simp
  · rw [if_neg (by simpa using h), if_neg h]
def quickOf (a k q : Bool) (long : Int) : Int := if a && k then 4 else if a && q then 3 else if a || (k && q) then 2 else if k && decide (1 < long) then 1 else 0
def quickS (l : List Int) (s : Int) : Int := quickOf (decide (13 * s + 12 ∈ l)) (decide (13 * s + 11 ∈ l)) (decide (13 * s + 10 ∈ l)) (cnt l s)
def quick (l : List Int) (s : Nat) : Nat → Int
  | 0 => 0
  | r + 1 => quickS l s + quick l (s + 1) r
theorem impl_quick_l0 (l : List Int) (hl : l.length ≤ 2000000) : ∀ (r k s : Nat) (acc : Int), s + r = 4 → l.length + 5 * r + 2 ≤ k → 0 ≤ acc → acc ≤ 900 - 4 * r →
    impl_QuickTricks.l0 k l acc (shapeL l) 4 (s : Int) = some (acc + quick l s r) := by
  intro r
  induction r with
  | zero =>
    intro k  s  acc  hs  hk  h0  h1
    obtain ⟨k, rfl⟩ := succ_of (d := 0) (k := k) (by omega)
    simp only [impl_QuickTricks.l0]
    rw [if_neg (by omega)]; simp [quick]
  | succ r ih =>
    intro k  s  acc  hs  hk  h0  h1
    obtain ⟨k, rfl⟩ : ∃ m, k = m + 1 + 1 + 1 + 1 := ⟨k - 4, by omega⟩
    have i4 : ∀ (j : Nat) (q : Int), k ≤ j → 0 ≤ q → q ≤ 4 → impl_QuickTricks.l0 j l (wrap64 (acc + q)) (shapeL l) 4 (wrap64 ((s : Int) + 1)) = some (acc + (q + quick l (s + 1) r)) := by
      intro j q hj hq0 hq4
      rw [wrap_nat s (by omega), w64 (by omega) (by omega), ih j (s + 1) (acc + q) (by omega) (by omega) (by omega) (by omega), Int.add_assoc]
    have i0 : ∀ (j : Nat), k ≤ j → impl_QuickTricks.l0 j l acc (shapeL l) 4 (wrap64 ((s : Int) + 1)) = some (acc + (0 + quick l (s + 1) r)) := by
      intro j hj
      rw [wrap_nat s (by omega), ih j (s + 1) acc (by omega) (by omega) (by omega) (by omega)]; simp
    simp only [impl_QuickTricks.l0]
    rw [if_pos (by omega), if_pos (by omega), if_pos (by simp [shapeL]; omega), rd_nat, shapeL_getD l s (by omega), hasRank_eq l hl s 0 (by omega) (by omega) _ (by omega), hasRank_eq l hl s 1 (by omega) (by omega) _ (by omega), hasRank_eq l hl s 2 (by omega) (by omega) _ (by omega)]
    simp only [Option.bind_some]
    rw [show (12 : Int) - 0 = 12 by omega, show (12 : Int) - 1 = 11 by omega, show (12 : Int) - 2 = 10 by omega, quick]
    unfold quickS
    generalize decide (13 * (s : Int) + 12 ∈ l) = a
    generalize decide (13 * (s : Int) + 11 ∈ l) = b
    generalize decide (13 * (s : Int) + 10 ∈ l) = c
    have j1 := i4 (k + 1 + 1) 4 (by omega) (by omega) (by omega)
    have j2 := i4 (k + 1) 3 (by omega) (by omega) (by omega)
    have j3 := i4 k 2 (by omega) (by omega) (by omega)
    have j4 := i4 k 1 (by omega) (by omega) (by omega)
    have j5 := i0 k (by omega)
    cases a <;> cases b <;> cases c <;> simp [impl_QuickTricks.j1, impl_QuickTricks.j2, impl_QuickTricks.j3, quickOf, j1, j2, j3, j4, j5]
    by_cases e : 1 < cnt l (s : Int)
    · simp [e]
    · simp [e]
theorem implQuick_eq (l : List Int) (hl : l.length ≤ 2000000) (k : Nat) (hk : l.length + 40 < k) : impl_QuickTricks.f k l = some (if Hand l then quick l 0 4 else -1) := by
  unfold impl_QuickTricks.f
  rw [implHand_eq l (by omega) k (by omega), Option.bind_some]
  by_cases h : Hand l
  · rw [if_pos (by simpa using h), if_pos h, shapeOf_eq l hl h.2.1 k (by omega), Option.bind_some]
    have := impl_quick_l0 l hl 4 k 0 0 (by omega) (by omega) (by omega) (by omega)
    have e : ((shapeL l).length : Int) = 4 := rfl
    have z : ((0 : Nat) : Int) = 0 := rfl
    rw [z] at this
    rw [e, this]; simp
  · rw [if_neg (by simpa using h), if_neg h]
theorem sumOf_suit (f : Int → Int) (l : List Int) (s : Int) : sumOf f (suitL l s) = sumOf (fun c => if c / 13 = s then f c else 0) l := by
  unfold suitL
  induction l with
  | nil => rfl
  | cons x t ih => by_cases h : x / 13 = s <;> simp [sumOf, h, ih]
theorem sumOf_parts (f : Int → Int) (l : List Int) (hc : ∀ x ∈ l, Card x) : sumOf f l = sumOf f (suitL l 0) + sumOf f (suitL l 1) + sumOf f (suitL l 2) + sumOf f (suitL l 3) := by
  simp only [sumOf_suit]
  induction l with
  | nil => simp [sumOf]
  | cons x t ih =>
    have := ih fun y hy => hc y (by simp [hy])
    have hq := card_quarter (hc x (by simp))
    simp only [sumOf]
    rcases hq with e | e | e | e <;> simp [e] <;> omega
end Go.Proofs.Ytoggoimoameklaa.Lem
