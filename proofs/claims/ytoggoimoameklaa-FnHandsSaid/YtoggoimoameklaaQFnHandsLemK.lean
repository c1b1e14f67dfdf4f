/- A smaller copy of a text of this seat, made by pack.py for one law. -/
import Derived.Test.YtoggoimoameklaaQFnHandsLemJ
import Derived.Test.YtoggoimoameklaaQFnHandsLemG
import Derived.Test.YtoggoimoameklaaQFnHandsLemA
import Derived.Test.YtoggoimoameklaaQFnHandsPAllx13
import Derived.Test.YtoggoimoameklaaQFnHandsPAllx29
import Derived.Test.YtoggoimoameklaaQFnHandsPAllx11
namespace Go.Proofs.Ytoggoimoameklaa.Lem
open Go.RowKit Go.Proofs.Ytoggoimoameklaa.PAll Go.Proofs.Ytoggoimoameklaa.Base Go.Proofs.YtoggoimoameklaaW.PrintWords Go.Proofs.YtoggoimoameklaaW.PrintLast Go.Proofs.YtoggoimoameklaaW.PrintMore
set_option linter.unusedVariables false
set_option linter.unusedSimpArgs false
theorem drawCard_eq {l : List Int} {a s : Int} (S : Src l a s) : ∃ c a' s', spec_l01DrawCard.f l a s = some (c, a', s') ∧ Src l a' s' := by
  unfold spec_l01DrawCard.f
  obtain ⟨r, a1, s1, e, S1, r0, r1⟩ := next_eq S 16
  rw [e]; simp only [Option.bind_some]
  by_cases c : r = 0
  · obtain ⟨q, a2, s2, e2, S2, q0, q1⟩ := next_eq S1 4
    have q2 := q1 (by omega)
    rw [if_pos c, e2]; simp only [Option.bind_some]
    rw [if_pos q0, if_pos (by simpa using q2)]
    exact ⟨_, _, _, rfl, S2⟩
  · obtain ⟨q, a2, s2, e2, S2, q0, q1⟩ := next_eq S1 52
    rw [if_neg c, e2]; simp only [Option.bind_some]
    exact ⟨_, _, _, rfl, S2⟩
theorem like_l0 (a : List Int) (hl : a.length ≤ 1000000) (d : Nat) : ∀ (k i : Nat), i + d = a.length → d < k → laws_likeInts.l0 k a a (i : Int) = some true := by
  induction d with
  | zero =>
    intro k i hd hk
    obtain ⟨k, rfl⟩ := succ_of hk
    rw [laws_likeInts.l0, if_neg (by omega)]
  | succ d ih =>
    intro k i hd hk
    obtain ⟨k, rfl⟩ := succ_of hk
    rw [laws_likeInts.l0, if_pos (by omega), if_pos (by omega), if_pos (by omega), if_pos rfl, wrap_nat i (by omega), ih k (i + 1) (by omega) (by omega)]
theorem like_same (a : List Int) (hl : a.length ≤ 1000000) (k : Nat) (hk : a.length < k) : laws_likeInts.f k a a = some true := by
  unfold laws_likeInts.f
  rw [if_pos rfl]
  exact like_l0 a hl a.length k 0 (by omega) hk
end Go.Proofs.Ytoggoimoameklaa.Lem
