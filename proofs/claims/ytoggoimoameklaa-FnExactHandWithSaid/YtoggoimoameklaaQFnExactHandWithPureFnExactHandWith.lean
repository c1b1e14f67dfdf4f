/- A smaller copy of a text of this seat, made by pack.py for one law. -/
import Derived.Test.YtoggoimoameklaaQFnExactHandWithPAllx34
import Derived.Test.YtoggoimoameklaaQFnExactHandWithLemM
namespace Go.Proofs.Ytoggoimoameklaa.Pure
open Go.RowKit Go.Proofs.Ytoggoimoameklaa.PAll Go.Proofs.Ytoggoimoameklaa.Base Go.Proofs.Ytoggoimoameklaa.Lem Go.Proofs.YtoggoimoameklaaW.PrintWords Go.Proofs.YtoggoimoameklaaW.PrintLast Go.Proofs.YtoggoimoameklaaW.PrintMore
set_option linter.unusedVariables false
set_option linter.unusedSimpArgs false
set_option maxHeartbeats 4000000 in
theorem FnExactHandWith : laws_FnExactHandWith.Pure := by
  intro l a1 hm hb hw _
  obtain ⟨K, hK⟩ : ∃ K, K = l.length + 400 := ⟨_, rfl⟩
  refine ⟨K + 1 + 1 + 1 + 1, ?_⟩
  unfold laws_FnExactHandWith.f
  by_cases h : l.length > 1048576
  · rw [if_pos (by omega)]
  · rw [if_neg (by omega)]
    obtain ⟨r, hr⟩ : ∃ r, r = withL l a1 := ⟨_, rfl⟩
    have hrl : r.1.length ≤ 2000000 := by rw [hr]; exact Nat.le_trans (withL_len l a1) (by omega)
    have hS : ∀ k, l.length + 390 ≤ k → spec_HandWith.f k l a1 = some r := fun k hk => by rw [hr]; exact specWith_eq l a1 (by omega) k (by omega)
    have hI : ∀ k, l.length + 390 ≤ k → impl_HandWith.f k l a1 = some r := fun k hk => by rw [hr]; exact implWith_eq l a1 (by omega) k (by omega)
    have n1 : ∀ n : Nat, ¬ (1 + (n : Int) < 0) := by intro n; omega
    have hT : ∀ k, l.length < k → laws_toInt64S.f k l = some l := fun k hk => toInt_eq l (by omega) k hk
    have hE : ∀ k, l.length < k → laws_eqInt64S.f k l l = some true := fun k hk => by rw [eqInt_eq l l (by omega) k hk]; simp
    have hE2 : ∀ k, r.1.length < k → laws_eqInt64S.f k r.1 r.1 = some true := fun k hk => by rw [eqInt_eq _ _ (by omega) k hk]; simp
    have hM : ∀ k, l.length < k → laws_markInt64S.f k l 1 = some (1 + (l.length : Int), marks 1 l.length) := fun k hk => mark_eq l (by omega) 1 (by omega) (by omega) k hk
    have hM2 : ∀ k, r.1.length < k → laws_markInt64S.f k r.1 1 = some (1 + (r.1.length : Int), marks 1 r.1.length) := fun k hk => mark_eq _ (by omega) 1 (by omega) (by omega) k hk
    have hH : ∀ k, r.1.length < k → laws_heldInt64S.f k (marks 1 r.1.length) 1 = some (1 + (r.1.length : Int)) := fun k hk => held_eq _ (by omega) 1 (by omega) (by omega) k hk
    have hlr : r.1.length ≤ l.length + 60 := by rw [hr]; exact Nat.le_trans (withL_len l a1) (by omega)
    clear hr hb hw hm
    simp (maxSteps := 3000000) (disch := omega) only [laws_FnExactHandWith.j0, laws_FnExactHandWith.j1, laws_FnExactHandWith.j2, hT, hS, hI, hE, hE2, hM, hM2, hH, n1, Option.bind_some, Bool.not_true, bne_self_eq_false, Bool.false_eq_true, if_false, if_true]
end Go.Proofs.Ytoggoimoameklaa.Pure
