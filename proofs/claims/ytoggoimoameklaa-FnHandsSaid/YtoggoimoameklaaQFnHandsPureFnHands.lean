/- A smaller copy of a text of this seat, made by pack.py for one law. -/
import Derived.Test.YtoggoimoameklaaQFnHandsPAllx36
import Derived.Test.YtoggoimoameklaaQFnHandsLemM
import Derived.Test.YtoggoimoameklaaQFnHandsLemK
namespace Go.Proofs.Ytoggoimoameklaa.Pure
open Go.RowKit Go.Proofs.Ytoggoimoameklaa.PAll Go.Proofs.Ytoggoimoameklaa.Base Go.Proofs.Ytoggoimoameklaa.Lem Go.Proofs.YtoggoimoameklaaW.PrintWords Go.Proofs.YtoggoimoameklaaW.PrintLast Go.Proofs.YtoggoimoameklaaW.PrintMore
set_option linter.unusedVariables false
set_option linter.unusedSimpArgs false
theorem FnHands : laws_FnHands.Pure := by
  intro l hm hb hw
  obtain ⟨K, hK⟩ : ∃ K, K = l.length + 3000 := ⟨_, rfl⟩
  refine ⟨K + 1 + 1 + 1 + 1 + 1 + 1 + 1, ?_⟩
  unfold laws_FnHands.f
  rw [big_eq, Option.bind_some]
  by_cases h : l.length > 4096
  · rw [if_pos (by simpa using h)]
  · rw [if_neg (by simpa using h)]
    have hdraw : ∃ x c, spec_DrawHandWith.f (K + 1 + 1 + 1 + 1 + 1 + 1 + 1) l = some (x, c) ∧ x.length ≤ 14 := by
      obtain ⟨s0, e0, S0⟩ := from_eq l (bytes_of hw (by omega)) (K + 1 + 1 + 1 + 1 + 1 + 1 + 1) (by omega)
      obtain ⟨x, a1, s1, e1, S1, hx⟩ := drawAny_eq S0 (K + 1 + 1 + 1 + 1 + 1 + 1 + 1) (by omega)
      obtain ⟨c, a2, s2, e2, S2⟩ := drawCard_eq S1
      refine ⟨x, c, ?_, hx⟩
      unfold spec_DrawHandWith.f
      rw [e0]; simp only [Option.bind_some]
      rw [e1]; simp only [Option.bind_some]
      rw [e2]; simp only [Option.bind_some]
    obtain ⟨x, c, ed, hx⟩ := hdraw
    have tail : ∀ code : Int, (Hand x ∨ code = 1) → laws_FnHands.j0 (K + 1 + 1 + 1 + 1 + 1 + 1 + 1) x code = some true := by
      intro code hcode
      rw [laws_FnHands.j0, specHand_eq x (by omega) _ (by omega), Option.bind_some]
      by_cases hh : Hand x
      · have hs : ∀ (k : Nat) (s : Int), x.length < k → (s = 0 ∨ s = 1 ∨ s = 2 ∨ s = 3) → impl_CardsOfSuit.f k x s = some (suitL x s) := by
          intro k s hk hs
          rw [implSuit_eq x (by omega) s k hk]
          unfold suitOf
          rw [if_pos ⟨hh, by omega, by omega⟩]
        have g := fun s => suitL_len x s
        rw [if_pos (by simpa using hh)]
        rw [laws_FnHands.l0, if_pos (by omega), hs _ 0 (by omega) (.inl rfl), Option.bind_some, if_pos (by have := g 0; simp; omega)]
        rw [show wrap64 (0 + 1) = 1 by rw [w64 (by omega) (by omega)]; rfl, laws_FnHands.l0, if_pos (by omega), hs _ 1 (by omega) (.inr (.inl rfl)), Option.bind_some, if_pos (by have := g 0; have := g 1; simp; omega)]
        rw [show wrap64 (1 + 1) = 2 by rw [w64 (by omega) (by omega)]; rfl, laws_FnHands.l0, if_pos (by omega), hs _ 2 (by omega) (.inr (.inr (.inl rfl))), Option.bind_some, if_pos (by have := g 0; have := g 1; have := g 2; simp; omega)]
        rw [show wrap64 (2 + 1) = 3 by rw [w64 (by omega) (by omega)]; rfl, laws_FnHands.l0, if_pos (by omega), hs _ 3 (by omega) (.inr (.inr (.inr rfl))), Option.bind_some, if_pos (by have := g 0; have := g 1; have := g 2; have := g 3; simp; omega)]
        rw [show wrap64 (3 + 1) = 4 by rw [w64 (by omega) (by omega)]; rfl, laws_FnHands.l0, if_neg (by omega), List.nil_append, suits_all hh.2, like_same x (by omega) _ (by omega)]; rfl
      · rw [if_neg (by simpa using hh), if_pos (hcode.resolve_left hh), implHand_eq x (by omega) _ (by omega), Option.bind_some]
        simp [hh]
    rw [ed]; simp only [Option.bind_some]
    rw [implWith_eq x c (by omega) _ (by omega), Option.bind_some]
    unfold withL
    by_cases hh : Hand x
    · by_cases h1 : Card c
      · by_cases h2 : c ∈ x
        · rw [if_pos hh, if_pos h1, if_pos h2, if_neg (by decide)]; exact tail _ (.inl hh)
        · by_cases h3 : x.length = 13
          · rw [if_pos hh, if_pos h1, if_neg h2, if_pos h3, if_neg (by decide)]; exact tail _ (.inl hh)
          · rw [if_pos hh, if_pos h1, if_neg h2, if_neg h3, if_pos rfl]
            have hw := with_hand hh h1 h2 h3
            have hlen := insL_len c x
            have hwo : withoutL (insL c x) c = (x, 0) := by
              unfold withoutL
              rw [if_pos hw, if_pos ((insL_mem c c x).2 (.inl rfl)), drop_ins c x h2]
            show ((impl_HandWithout.f _ (insL c x) c).bind _) = _
            rw [implWithout_eq (insL c x) c (by omega) _ (by omega), hwo]; simp only [Option.bind_some]
            rw [if_pos (by trivial), like_same x (by omega) _ (by omega), Option.bind_some, if_pos (by trivial), w64 (by omega) (by omega), if_pos (by omega), implHand_eq (insL c x) (by omega) _ (by omega), Option.bind_some, if_pos (by simpa using hw)]
            exact tail _ (.inl hh)
      · rw [if_pos hh, if_neg h1, if_neg (by decide)]; exact tail _ (.inl hh)
    · rw [if_neg hh, if_neg (by decide)]; exact tail _ (.inr rfl)
end Go.Proofs.Ytoggoimoameklaa.Pure
