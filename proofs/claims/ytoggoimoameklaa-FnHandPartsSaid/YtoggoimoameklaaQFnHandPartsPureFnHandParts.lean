/- A smaller copy of a text of this seat, made by pack.py for one law. -/
import Derived.Test.YtoggoimoameklaaQFnHandPartsPAllx32
import Derived.Test.YtoggoimoameklaaQFnHandPartsLemF
import Derived.Test.YtoggoimoameklaaQFnHandPartsLemG
namespace Go.Proofs.Ytoggoimoameklaa.Pure
open Go.RowKit Go.Proofs.Ytoggoimoameklaa.PAll Go.Proofs.Ytoggoimoameklaa.Base Go.Proofs.Ytoggoimoameklaa.Lem Go.Proofs.YtoggoimoameklaaW.PrintWords Go.Proofs.YtoggoimoameklaaW.PrintLast Go.Proofs.YtoggoimoameklaaW.PrintMore
set_option linter.unusedVariables false
set_option linter.unusedSimpArgs false
theorem FnHandParts : laws_FnHandParts.Pure := by
  intro l hm hb hw
  obtain ⟨K, hK⟩ : ∃ K, K = l.length + 3000 := ⟨_, rfl⟩
  refine ⟨K + 1 + 1 + 1 + 1 + 1, ?_⟩
  unfold laws_FnHandParts.f
  rw [big_eq, Option.bind_some]
  by_cases h : l.length > 4096
  · rw [if_pos (by simpa using h)]
  · rw [if_neg (by simpa using h)]
    obtain ⟨x, e, hx⟩ := drawQuick l (bytes_of hw (by omega)) (K + 1 + 1 + 1 + 1 + 1) (by omega)
    rw [e, Option.bind_some, specHand_eq x (by omega) _ (by omega), Option.bind_some]
    by_cases hh : Hand x
    · rw [if_pos (by simpa using hh)]
      have hp : ∀ s, Hand (suitL x s) := suitL_hand hh
      have hl : ∀ s, (suitL x s).length ≤ 14 := fun s => Nat.le_trans (suitL_len x s) hx
      have e0 : ∀ (k : Nat) (s : Int), 0 ≤ s → s ≤ 3 → 2000 ≤ k → spec_CardsOfSuit.f k x s = some (suitL x s) := fun k s h0 h1 hk => by
        rw [specSuit_eq x (by omega) s k (by omega)]; unfold suitOf; rw [if_pos ⟨hh, h0, h1⟩]
      have p0 : ∀ (k : Nat) (y : List Int), Hand y → 2000 ≤ k → impl_HighCardPoints.f k y = some (sumOf (fun c => max 0 (c % 13 - 8)) y) := fun k y hy hk => by rw [implPoints_eq y (by have := hy.1; omega) k (by have := hy.1; omega), if_pos hy]
      have c0 : ∀ (k : Nat) (y : List Int), Hand y → 2000 ≤ k → impl_ControlsOf.f k y = some (sumOf (fun c => max 0 (c % 13 - 10)) y) := fun k y hy hk => by rw [implControls_eq y (by have := hy.1; omega) k (by have := hy.1; omega), if_pos hy]
      have l0 : ∀ (k : Nat) (y : List Int), Hand y → 2000 ≤ k → impl_LosersOf.f k y = some (loss y 0 4) := fun k y hy hk => by rw [implLosers_eq y (by have := hy.1; omega) k (by have := hy.1; omega), if_pos hy]
      have q0 : ∀ (k : Nat) (y : List Int), Hand y → 2000 ≤ k → impl_QuickTricks.f k y = some (quick y 0 4) := fun k y hy hk => by rw [implQuick_eq y (by have := hy.1; omega) k (by have := hy.1; omega), if_pos hy]
      have h0 : ∀ (k : Nat) (y : List Int) (s : Int), Hand y → 0 ≤ s → s ≤ 4 → 2000 ≤ k → impl_HonorsOf.f k y s = some (sumOf (honorOf s) y) := fun k y s hy s0 s1 hk => by rw [implHonors_eq y s (by have := hy.1; omega) k (by have := hy.1; omega), if_pos ⟨hy, s0, s1⟩]
      have P := sumOf_parts (fun c => max 0 (c % 13 - 8)) x hh.2.1
      have C := sumOf_parts (fun c => max 0 (c % 13 - 10)) x hh.2.1
      have A := sumOf_parts (honorOf 4) x hh.2.1
      have L := loss_parts x
      have Q := quick_parts x
      have H0 := honors_part x hh.2.1 0 (by omega)
      have H1 := honors_part x hh.2.1 1 (by omega)
      have H2 := honors_part x hh.2.1 2 (by omega)
      have H3 := honors_part x hh.2.1 3 (by omega)
      have b1 : ∀ (f : Int → Int) (y : List Int), Hand y → (∀ c, 0 ≤ f c ∧ f c ≤ 13) → 0 ≤ sumOf f y ∧ sumOf f y ≤ 169 := fun f y hy hf => by
        have := sumOf_range f y hf; have := hy.1; omega
      have f1 : ∀ c : Int, 0 ≤ (fun c => max 0 (c % 13 - 8)) c ∧ (fun c : Int => max 0 (c % 13 - 8)) c ≤ 13 := fun c => by simp only; omega
      have f2 : ∀ c : Int, 0 ≤ (fun c => max 0 (c % 13 - 10)) c ∧ (fun c : Int => max 0 (c % 13 - 10)) c ≤ 13 := fun c => by simp only; omega
      have f3 : ∀ s c : Int, 0 ≤ honorOf s c ∧ honorOf s c ≤ 13 := fun s c => by have := honorOf_range s c; omega
      have step : ∀ (k : Nat) (v1 v2 v3 v4 v5 v6 : Int) (s : Nat), s < 4 → 2000 ≤ k → 0 ≤ v1 → v1 ≤ 10000 → 0 ≤ v2 → v2 ≤ 10000 → 0 ≤ v3 → v3 ≤ 10000 → 0 ≤ v4 → v4 ≤ 10000 → 0 ≤ v5 → v5 ≤ 10000 → 0 ≤ v6 → v6 ≤ 10000 →
          laws_FnHandParts.l0 (k + 1) x v1 v2 v3 v4 v5 v6 (s : Int) = laws_FnHandParts.l0 k x (v1 + sumOf (fun c => max 0 (c % 13 - 8)) (suitL x s)) (v2 + sumOf (fun c => max 0 (c % 13 - 10)) (suitL x s)) (v3 + loss (suitL x s) 0 4) (v4 + quick (suitL x s) 0 4) (v5 + sumOf (honorOf s) (suitL x s)) (v6 + sumOf (honorOf 4) (suitL x s)) ((s + 1 : Nat) : Int) := by
        intro k v1 v2 v3 v4 v5 v6 s hs hk _ _ _ _ _ _ _ _ _ _ _ _
        have y := hp (s : Int)
        have r1 := b1 _ _ y f1
        have r2 := b1 _ _ y f2
        have r3 := loss_range (suitL x s) 4 0
        have r4 := quick_range (suitL x s) 4 0
        have r5 := b1 _ _ y (f3 (s : Int))
        have r6 := b1 _ _ y (f3 4)
        simp only [laws_FnHandParts.l0]
        rw [if_pos (by omega), e0 k (s : Int) (by omega) (by omega) hk, Option.bind_some, p0 k _ y hk, Option.bind_some, c0 k _ y hk, Option.bind_some, l0 k _ y hk, Option.bind_some, q0 k _ y hk, Option.bind_some, h0 k _ (s : Int) y (by omega) (by omega) hk, Option.bind_some, h0 k _ 4 y (by omega) (by omega) hk, Option.bind_some]
        rw [wrap_nat s (by omega), w64 (by omega) (by omega), w64 (by omega) (by omega), w64 (by omega) (by omega), w64 (by omega) (by omega), w64 (by omega) (by omega), w64 (by omega) (by omega)]
      have z : ∀ s : Int, (0 ≤ sumOf (fun c => max 0 (c % 13 - 8)) (suitL x s) ∧ sumOf (fun c => max 0 (c % 13 - 8)) (suitL x s) ≤ 169) ∧ (0 ≤ sumOf (fun c => max 0 (c % 13 - 10)) (suitL x s) ∧ sumOf (fun c => max 0 (c % 13 - 10)) (suitL x s) ≤ 169) ∧ (0 ≤ loss (suitL x s) 0 4 ∧ loss (suitL x s) 0 4 ≤ 12) ∧ (0 ≤ quick (suitL x s) 0 4 ∧ quick (suitL x s) 0 4 ≤ 16) ∧ (0 ≤ sumOf (honorOf s) (suitL x s) ∧ sumOf (honorOf s) (suitL x s) ≤ 169) ∧ (0 ≤ sumOf (honorOf 4) (suitL x s) ∧ sumOf (honorOf 4) (suitL x s) ≤ 169) := fun s =>
        ⟨b1 _ _ (hp s) f1, b1 _ _ (hp s) f2, by have := loss_range (suitL x s) 4 0; omega, by have := quick_range (suitL x s) 4 0; omega, b1 _ _ (hp s) (f3 s), b1 _ _ (hp s) (f3 4)⟩
      have z0 := z 0
      have z1 := z 1
      have z2 := z 2
      have z3 := z 3
      have s0 := step (K + 1 + 1 + 1 + 1) 0 0 0 0 0 0 0 (by omega) (by omega) (by omega) (by omega) (by omega) (by omega) (by omega) (by omega) (by omega) (by omega) (by omega) (by omega) (by omega) (by omega)
      refine s0.trans ?_
      refine (step (K + 1 + 1 + 1) _ _ _ _ _ _ 1 (by omega) (by omega) ?_ ?_ ?_ ?_ ?_ ?_ ?_ ?_ ?_ ?_ ?_ ?_).trans ?_
      iterate 12 (simp only [show ((0 : Nat) : Int) = 0 from rfl]; omega)
      refine (step (K + 1 + 1) _ _ _ _ _ _ 2 (by omega) (by omega) ?_ ?_ ?_ ?_ ?_ ?_ ?_ ?_ ?_ ?_ ?_ ?_).trans ?_
      iterate 12 (simp only [show ((0 : Nat) : Int) = 0 from rfl, show ((1 : Nat) : Int) = 1 from rfl]; omega)
      refine (step (K + 1) _ _ _ _ _ _ 3 (by omega) (by omega) ?_ ?_ ?_ ?_ ?_ ?_ ?_ ?_ ?_ ?_ ?_ ?_).trans ?_
      iterate 12 (simp only [show ((0 : Nat) : Int) = 0 from rfl, show ((1 : Nat) : Int) = 1 from rfl, show ((2 : Nat) : Int) = 2 from rfl]; omega)
      simp only [show ((0 : Nat) : Int) = 0 from rfl, show ((1 : Nat) : Int) = 1 from rfl, show ((2 : Nat) : Int) = 2 from rfl, show ((3 : Nat) : Int) = 3 from rfl]
      simp only [laws_FnHandParts.l0]
      have g0 := h0 K x 0 hh (by omega) (by omega) (by omega)
      have g1 := h0 K x 1 hh (by omega) (by omega) (by omega)
      have g2 := h0 K x 2 hh (by omega) (by omega) (by omega)
      have g3 := h0 K x 3 hh (by omega) (by omega) (by omega)
      have g4 := h0 K x 4 hh (by omega) (by omega) (by omega)
      have i0 := b1 _ _ hh (f3 0)
      have i1 := b1 _ _ hh (f3 1)
      have i2 := b1 _ _ hh (f3 2)
      have i3 := b1 _ _ hh (f3 3)
      rw [if_neg (by omega), specPoints_eq x (by omega) K (by omega), if_pos hh, Option.bind_some, if_pos (by omega), p0 K x hh (by omega), Option.bind_some, if_pos (by omega), c0 K x hh (by omega), Option.bind_some, if_pos (by omega), l0 K x hh (by omega), Option.bind_some, if_pos (by omega), q0 K x hh (by omega), Option.bind_some, if_pos (by omega), g4, Option.bind_some, if_pos (by omega), g0, Option.bind_some, g1, Option.bind_some, g2, Option.bind_some, g3, Option.bind_some]
      rw [w64 (n := sumOf (honorOf 0) x + sumOf (honorOf 1) x) (by omega) (by omega), w64 (n := sumOf (honorOf 0) x + sumOf (honorOf 1) x + sumOf (honorOf 2) x) (by omega) (by omega), w64 (by omega) (by omega), H0, H1, H2, H3]
      congr 1
      rw [beq_iff_eq]; omega
    · rw [if_neg (by simpa using hh), implQuick_eq x (by omega) _ (by omega), if_neg hh, Option.bind_some]
      rfl
end Go.Proofs.Ytoggoimoameklaa.Pure
