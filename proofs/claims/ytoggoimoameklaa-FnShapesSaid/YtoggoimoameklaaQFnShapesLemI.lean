/- A smaller copy of a text of this seat, made by pack.py for one law. -/
import Derived.Test.YtoggoimoameklaaQFnShapesLemH
import Derived.Test.YtoggoimoameklaaQFnShapesLemG
import Derived.Test.YtoggoimoameklaaQFnShapesPAllx43
import Derived.Test.YtoggoimoameklaaQFnShapesPAllx44
namespace Go.Proofs.Ytoggoimoameklaa.Lem
open Go.RowKit Go.Proofs.Ytoggoimoameklaa.PAll Go.Proofs.Ytoggoimoameklaa.Base Go.Proofs.YtoggoimoameklaaW.PrintWords Go.Proofs.YtoggoimoameklaaW.PrintLast Go.Proofs.YtoggoimoameklaaW.PrintMore
set_option linter.unusedVariables false
set_option linter.unusedSimpArgs false
theorem drawLosers (l : List Int) (hb : Bytes l) (k : Nat) (hk : l.length + 1700 ≤ k) : ∃ h, spec_DrawLosersOf.f k l = some h ∧ h.length ≤ 14 := by
  unfold spec_DrawLosersOf.f
  obtain ⟨s, e, S⟩ := from_eq l hb k (by omega)
  rw [e]; simp only [Option.bind_some]
  obtain ⟨y, a1, s1, e1, S1, hy⟩ := strong_eq S k (by omega)
  rw [e1]; simp only [Option.bind_some]
  exact ⟨y, rfl, hy⟩
theorem sumOf_perm (f : Int → Int) {a b : List Int} (h : a.Perm b) : sumOf f a = sumOf f b := by
  induction h with
  | nil => rfl
  | cons x _ ih => simp only [sumOf]; omega
  | swap x y l => simp only [sumOf]; omega
  | trans _ _ h1 h2 => omega
theorem sumOf_le (f g : Int → Int) (l : List Int) (h : ∀ x, f x ≤ g x) : sumOf f l ≤ sumOf g l := by
  induction l with
  | nil => exact Int.le_refl _
  | cons x t ih => simp only [sumOf]; have := h x; omega
theorem sumOf_one (l : List Int) : sumOf (fun _ => 1) l = l.length := by
  induction l with
  | nil => rfl
  | cons x t ih => simp only [sumOf, List.length_cons]; omega
theorem shape_sum (l : List Int) (hc : ∀ x ∈ l, Card x) : cnt l 0 + cnt l 1 + cnt l 2 + cnt l 3 = l.length := by
  have := sumOf_parts (fun _ => 1) l hc
  simp only [sumOf_one] at this
  unfold cnt; omega
theorem ite_or_le (p q : Prop) [Decidable p] [Decidable q] : (if p ∨ q then (1 : Int) else 0) ≤ (if p then 1 else 0) + (if q then 1 else 0) := by
  by_cases e1 : p <;> by_cases e2 : q <;> simp [e1, e2]
theorem ctl_le (l : List Int) (hc : ∀ x ∈ l, Card x) (s : Int) (hs : 0 ≤ s ∧ s ≤ 3) :
    2 * (if 13 * s + 12 ∈ l then 1 else 0) + (if 13 * s + 11 ∈ l then 1 else 0) ≤ sumOf (fun c => max 0 (c % 13 - 10)) (suitL l s) := by
  rw [sumOf_suit]
  induction l with
  | nil => simp [sumOf]
  | cons x t ih =>
    have ih := ih fun y hy => hc y (by simp [hy])
    have hx := hc x (by simp)
    have h0 := hx.1; have h1 := hx.2
    simp only [sumOf, List.mem_cons]
    have A : (if 13 * s + 12 = x ∨ 13 * s + 12 ∈ t then (1 : Int) else 0) ≤ (if 13 * s + 12 = x then 1 else 0) + (if 13 * s + 12 ∈ t then 1 else 0) := ite_or_le _ _
    have B : (if 13 * s + 11 = x ∨ 13 * s + 11 ∈ t then (1 : Int) else 0) ≤ (if 13 * s + 11 = x then 1 else 0) + (if 13 * s + 11 ∈ t then 1 else 0) := ite_or_le _ _
    have C : 2 * (if 13 * s + 12 = x then (1 : Int) else 0) + (if 13 * s + 11 = x then 1 else 0) ≤ (if x / 13 = s then max 0 (x % 13 - 10) else 0) := by
      split <;> split <;> split <;> omega
    omega
theorem quickS_le (l : List Int) (hc : ∀ x ∈ l, Card x) (s : Int) (hs : 0 ≤ s ∧ s ≤ 3) : quickS l s ≤ 2 * sumOf (fun c => max 0 (c % 13 - 10)) (suitL l s) := by
  have := ctl_le l hc s hs
  unfold quickS quickOf
  by_cases a : 13 * s + 12 ∈ l <;> by_cases k : 13 * s + 11 ∈ l <;> by_cases q : 13 * s + 10 ∈ l <;> by_cases n : 1 < cnt l s <;> simp [a, k, q, n] at this ⊢ <;> omega
theorem quick_le (l : List Int) (hc : ∀ x ∈ l, Card x) : quick l 0 4 ≤ 2 * sumOf (fun c => max 0 (c % 13 - 10)) l := by
  have p := sumOf_parts (fun c => max 0 (c % 13 - 10)) l hc
  have h0 := quickS_le l hc 0 (by omega)
  have h1 := quickS_le l hc 1 (by omega)
  have h2 := quickS_le l hc 2 (by omega)
  have h3 := quickS_le l hc 3 (by omega)
  simp only [quick]
  simp only [show ((0 : Nat) : Int) = 0 from rfl, show ((0 + 1 : Nat) : Int) = 1 from rfl, show ((0 + 1 + 1 : Nat) : Int) = 2 from rfl, show ((0 + 1 + 1 + 1 : Nat) : Int) = 3 from rfl]
  omega
theorem loss_le (l : List Int) (hc : ∀ x ∈ l, Card x) : loss l 0 4 ≤ l.length := by
  have p := shape_sum l hc
  unfold cnt at p
  have h : ∀ s : Nat, missFrom l s 0 (min 3 (suitL l s).length) ≤ (suitL l s).length := fun s => by have := missFrom_range l s (min 3 (suitL l s).length) 0; omega
  have h0 := h 0
  have h1 := h 1
  have h2 := h 2
  have h3 := h 3
  simp only [loss]
  simp only [show ((0 : Nat) : Int) = 0 from rfl, show ((1 : Nat) : Int) = 1 from rfl, show ((2 : Nat) : Int) = 2 from rfl, show ((3 : Nat) : Int) = 3 from rfl, show ((0 + 1 : Nat) : Int) = 1 from rfl, show ((0 + 1 + 1 : Nat) : Int) = 2 from rfl, show ((0 + 1 + 1 + 1 : Nat) : Int) = 3 from rfl] at h0 h1 h2 h3 ⊢
  omega
theorem pattern_is (l : List Int) (hc : ∀ x ∈ l, Card x) : ∃ a b c d : Int, downL (shapeL l) [] = [a, b, c, d] ∧ b ≤ a ∧ c ≤ b ∧ d ≤ c ∧ 0 ≤ d ∧ a ≤ l.length ∧
    a * a + b * b + c * c + d * d = cnt l 0 * cnt l 0 + cnt l 1 * cnt l 1 + cnt l 2 * cnt l 2 + cnt l 3 * cnt l 3 := by
  have hp := downL_perm (shapeL l) []
  rw [List.append_nil] at hp
  have hd := downL_down (shapeL l) [] List.Pairwise.nil
  have hl := hp.length_eq
  have hq := sumOf_perm (fun x => x * x) hp
  generalize downL (shapeL l) [] = P at *
  match P, hl with
  | [a, b, c, d], _ =>
    have m : ∀ x ∈ [a, b, c, d], 0 ≤ x ∧ x ≤ l.length := by
      intro x hx
      have := hp.mem_iff.mp hx
      simp only [shapeL, List.mem_cons, List.not_mem_nil, or_false] at this
      rcases this with rfl | rfl | rfl | rfl <;> exact cnt_range l _
    have ma := m a (by simp)
    have md := m d (by simp)
    simp only [List.pairwise_cons, List.mem_cons, List.not_mem_nil, or_false] at hd
    simp only [sumOf, shapeL] at hq
    refine ⟨a, b, c, d, rfl, hd.1 b (Or.inl rfl), hd.2.1 c (Or.inl rfl), hd.2.2.1 d rfl, md.1, ma.2, by omega⟩
theorem shapes_step (x sh pt : List Int) (hs : sh.length = 4) (hp : pt.length = 4) (k s : Nat) (v1 v2 v3 : Int) (h : s < 4) (a b : Int) (ha : sh.getD s 0 = a) (hb : pt.getD s 0 = b) (ra : 0 ≤ a ∧ a ≤ 14) (rb : 0 ≤ b ∧ b ≤ 14)
    (hd : 0 < s → b ≤ pt.getD (s - 1) 0) (b1 : 0 ≤ v1 ∧ v1 ≤ 1000) (b2 : 0 ≤ v2 ∧ v2 ≤ 1000) (b3 : 0 ≤ v3 ∧ v3 ≤ 1000) :
    laws_FnShapes.l0 (k + 1) x sh pt v1 v2 v3 (s : Int) = laws_FnShapes.l0 k x sh pt (v1 + a) (v2 + a * a) (v3 + b * b) ((s + 1 : Nat) : Int) := by
  have q1 : 0 ≤ a * a ∧ a * a ≤ 196 := ⟨Int.mul_nonneg ra.1 ra.1, Int.mul_le_mul ra.2 ra.2 ra.1 (by omega)⟩
  have q2 : 0 ≤ b * b ∧ b * b ≤ 196 := ⟨Int.mul_nonneg rb.1 rb.1, Int.mul_le_mul rb.2 rb.2 rb.1 (by omega)⟩
  rw [laws_FnShapes.l0, if_pos (by omega), if_pos (by omega), if_pos (by omega), if_pos (by omega), rd_nat, rd_nat, ha, hb]
  have e : (laws_FnShapes.l0 k x sh pt (wrap64 (v1 + a)) (wrap64 (v2 + wrap64 (a * a))) (wrap64 (v3 + wrap64 (b * b))) (wrap64 ((s : Int) + 1))) = laws_FnShapes.l0 k x sh pt (v1 + a) (v2 + a * a) (v3 + b * b) ((s + 1 : Nat) : Int) := by
    rw [wrap_nat s (by omega), w64 (n := v1 + a) (by omega) (by omega), w64 (n := a * a) (by omega) (by omega), w64 (n := b * b) (by omega) (by omega), w64 (n := v2 + a * a) (by omega) (by omega), w64 (n := v3 + b * b) (by omega) (by omega)]
  by_cases z : 0 < s
  · have w : wrap64 ((s : Int) - 1) = ((s - 1 : Nat) : Int) := by rw [w64 (by omega) (by omega)]; omega
    rw [if_pos (by omega), w, if_pos (by omega), if_pos (by omega), rd_nat, if_neg (by have := hd z; omega)]
    exact e
  · rw [if_neg (by omega)]
    exact e
end Go.Proofs.Ytoggoimoameklaa.Lem
