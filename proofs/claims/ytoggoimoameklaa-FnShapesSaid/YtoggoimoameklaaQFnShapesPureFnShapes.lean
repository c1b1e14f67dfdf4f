/- A smaller copy of a text of this seat, made by pack.py for one law. -/
import Derived.Test.YtoggoimoameklaaQFnShapesPAllx44
import Derived.Test.YtoggoimoameklaaQFnShapesLemI
namespace Go.Proofs.Ytoggoimoameklaa.Pure
open Go.RowKit Go.Proofs.Ytoggoimoameklaa.PAll Go.Proofs.Ytoggoimoameklaa.Base Go.Proofs.Ytoggoimoameklaa.Lem Go.Proofs.YtoggoimoameklaaW.PrintWords Go.Proofs.YtoggoimoameklaaW.PrintLast Go.Proofs.YtoggoimoameklaaW.PrintMore
set_option linter.unusedVariables false
set_option linter.unusedSimpArgs false
theorem FnShapes : laws_FnShapes.Pure := by
  intro l hm hb hw
  obtain ⟨K, hK⟩ : ∃ K, K = l.length + 9000 := ⟨_, rfl⟩
  refine ⟨K + 1 + 1 + 1 + 1 + 1 + 1, ?_⟩
  unfold laws_FnShapes.f
  rw [big_eq, Option.bind_some]
  by_cases h : l.length > 4096
  · rw [if_pos (by simpa using h)]
  · rw [if_neg (by simpa using h)]
    obtain ⟨x, e, hx⟩ := drawLosers l (bytes_of hw (by omega)) (K + 1 + 1 + 1 + 1 + 1 + 1) (by omega)
    rw [e, Option.bind_some, implShape_eq x (by omega) _ (by omega), Option.bind_some, implPattern_eq x (by omega) _ (by omega), Option.bind_some, specHand_eq x (by omega) _ (by omega), Option.bind_some]
    unfold patternL
    by_cases hh : Hand x
    · rw [if_pos (by simpa using hh), if_pos hh, if_pos hh]
      obtain ⟨a, b, c, d, ep, o1, o2, o3, r0, r1, sq⟩ := pattern_is x hh.2.1
      rw [ep]
      have c0 := cnt_range x 0
      have c1 := cnt_range x 1
      have c2 := cnt_range x 2
      have c3 := cnt_range x 3
      have sm := shape_sum x hh.2.1
      have sq1 : ∀ y : Int, 0 ≤ y → y ≤ 14 → 0 ≤ y * y ∧ y * y ≤ 196 := fun y h0 h1 => ⟨Int.mul_nonneg h0 h0, Int.mul_le_mul h1 h1 h0 (by omega)⟩
      have s0 := sq1 (cnt x 0) (by omega) (by omega)
      have s1 := sq1 (cnt x 1) (by omega) (by omega)
      have s2 := sq1 (cnt x 2) (by omega) (by omega)
      have s3 := sq1 (cnt x 3) (by omega) (by omega)
      have t0 := sq1 a (by omega) (by omega)
      have t1 := sq1 b (by omega) (by omega)
      have t2 := sq1 c (by omega) (by omega)
      have t3 := sq1 d (by omega) (by omega)
      rw [if_pos (by rfl), show (((([a, b, c, d] : List Int).length : Int) != 4)) = false from rfl]
      rw [laws_FnShapes.j0, if_neg (by simp)]
      refine (shapes_step x (shapeL x) [a, b, c, d] rfl rfl _ 0 0 0 0 (by omega) (cnt x 0) a rfl rfl (by omega) (by omega) (by omega) (by omega) (by omega) (by omega)).trans ?_
      refine (shapes_step x (shapeL x) [a, b, c, d] rfl rfl _ 1 _ _ _ (by omega) (cnt x 1) b rfl rfl (by omega) (by omega) (fun _ => o1) (by omega) (by omega) (by omega)).trans ?_
      refine (shapes_step x (shapeL x) [a, b, c, d] rfl rfl _ 2 _ _ _ (by omega) (cnt x 2) c rfl rfl (by omega) (by omega) (fun _ => o2) (by omega) (by omega) (by omega)).trans ?_
      refine (shapes_step x (shapeL x) [a, b, c, d] rfl rfl _ 3 _ _ _ (by omega) (cnt x 3) d rfl rfl (by omega) (by omega) (fun _ => o3) (by omega) (by omega) (by omega)).trans ?_
      have q := quick_le x hh.2.1
      have lo := loss_le x hh.2.1
      have lr := loss_range x 4 0
      have cr := sumOf_range (fun c => max 0 (c % 13 - 10)) x (fun y => by omega)
      have cp := sumOf_le (fun c => max 0 (c % 13 - 10)) (fun c => max 0 (c % 13 - 8)) x (fun y => by omega)
      have hl := hh.1
      rw [laws_FnShapes.l0, if_neg (by omega), implPoints_eq x (by omega) K (by omega), if_pos hh, Option.bind_some, implControls_eq x (by omega) K (by omega), if_pos hh, Option.bind_some, implLosers_eq x (by omega) K (by omega), if_pos hh, Option.bind_some, implQuick_eq x (by omega) K (by omega), if_pos hh, Option.bind_some]
      rw [if_pos (by omega), if_pos (by omega), if_pos cp, if_pos (by rw [w64 (by omega) (by omega)]; exact q), if_pos (by omega), if_pos (by omega)]
      congr 1
      exact decide_eq_true (by omega)
    · rw [if_neg (by simpa using hh), if_neg hh, if_neg hh, if_pos (by rfl), if_pos (by rfl), implPoints_eq x (by omega) _ (by omega), if_neg hh, Option.bind_some]
      rfl
end Go.Proofs.Ytoggoimoameklaa.Pure
