/- A smaller copy of a text of this seat, made by pack.py for one law. -/
import Derived.Test.YtoggoimoameklaaQFnExactNextSubsetPAllx28
import Derived.Test.YtoggoimoameklaaQFnExactNextSubsetLemJ
namespace Go.Proofs.Ytoggoimoameklaa.Pure
open Go.RowKit Go.Proofs.Ytoggoimoameklaa.PAll Go.Proofs.Ytoggoimoameklaa.Base Go.Proofs.Ytoggoimoameklaa.Lem Go.Proofs.YtoggoimoameklaaW.PrintWords Go.Proofs.YtoggoimoameklaaW.PrintLast Go.Proofs.YtoggoimoameklaaW.PrintMore
set_option linter.unusedVariables false
set_option linter.unusedSimpArgs false
set_option maxHeartbeats 1000000 in
theorem FnExactNextSubset : laws_FnExactNextSubset.Pure := by
  intro l s hm hb hw hm2 hb2 hw2
  obtain ⟨K, hK⟩ : ∃ K, K = l.length + s.length + 2000 := ⟨_, rfl⟩
  refine ⟨K + 1 + 1 + 1 + 1, ?_⟩
  unfold laws_FnExactNextSubset.f
  by_cases h : l.length > 1048576
  · rw [if_pos (by omega)]
  · by_cases h2 : s.length > 1048576
    · rw [if_neg (by omega), if_pos (by omega)]
    · rw [if_neg (by omega), if_neg (by omega)]
      obtain ⟨r, hr⟩ : ∃ r, r = nextSub l s := ⟨_, rfl⟩
      have hS : ∀ k, l.length + s.length + 1000 ≤ k → spec_NextSubset.f k l s = some r := fun k hk => by rw [hr]; exact specNext_eq l s (by omega) (by omega) k hk
      have hI : ∀ k, l.length + s.length + 1000 ≤ k → impl_NextSubset.f k l s = some r := fun k hk => by rw [hr]; exact implNext_eq l s (by omega) (by omega) k hk
      have hlr : r.1.length ≤ l.length := by rw [hr]; exact nextSub_len l s
      have n1 : ∀ n : Nat, ¬ (1 + (n : Int) < 0) := by intro n; omega
      have n2 : ∀ n m : Nat, ¬ (1 + (n : Int) + (m : Int) < 0) := by intro n m; omega
      have hT : ∀ k, l.length < k → laws_toInt64S.f k l = some l := fun k hk => toInt_eq l (by omega) k hk
      have hT2 : ∀ k, s.length < k → laws_toInt64S.f k s = some s := fun k hk => toInt_eq s (by omega) k hk
      have hE : ∀ k, l.length < k → laws_eqInt64S.f k l l = some true := fun k hk => by rw [eqInt_eq l l (by omega) k hk]; simp
      have hE2 : ∀ k, s.length < k → laws_eqInt64S.f k s s = some true := fun k hk => by rw [eqInt_eq s s (by omega) k hk]; simp
      have hE3 : ∀ k, r.1.length < k → laws_eqInt64S.f k r.1 r.1 = some true := fun k hk => by rw [eqInt_eq _ _ (by omega) k hk]; simp
      have hM : ∀ k, l.length < k → laws_markInt64S.f k l 1 = some (1 + (l.length : Int), marks 1 l.length) := fun k hk => mark_eq l (by omega) 1 (by omega) (by omega) k hk
      have hM2 : ∀ k, s.length < k → laws_markInt64S.f k s (1 + (l.length : Int)) = some (1 + (l.length : Int) + (s.length : Int), marks (1 + (l.length : Int)) s.length) := fun k hk => mark_eq s (by omega) (1 + (l.length : Int)) (by omega) (by omega) k hk
      have hM3 : ∀ k, r.1.length < k → laws_markInt64S.f k r.1 1 = some (1 + (r.1.length : Int), marks 1 r.1.length) := fun k hk => mark_eq _ (by omega) 1 (by omega) (by omega) k hk
      have hH : ∀ k, r.1.length < k → laws_heldInt64S.f k (marks 1 r.1.length) 1 = some (1 + (r.1.length : Int)) := fun k hk => held_eq _ (by omega) 1 (by omega) (by omega) k hk
      clear hr hb hw hm hb2 hw2 hm2
      rw [hT _ (by omega), hT2 _ (by omega)]
      simp only [Option.bind_some]
      rw [hS _ (by omega)]
      simp only [Option.bind_some]
      rw [hI _ (by omega)]
      simp only [Option.bind_some]
      rw [hE3 _ (by omega)]
      simp only [Option.bind_some, if_true, bne_self_eq_false]
      rw [laws_FnExactNextSubset.j0, if_neg (by simp), hT _ (by omega), Option.bind_some, hE _ (by omega), Option.bind_some, if_pos rfl, hT2 _ (by omega), Option.bind_some, hE2 _ (by omega), Option.bind_some, if_pos rfl, hM _ (by omega), Option.bind_some, hM2 _ (by omega), Option.bind_some, if_neg (n2 _ _), hE3 _ (by omega), Option.bind_some, if_pos rfl, bne_self_eq_false]
      rw [laws_FnExactNextSubset.j1, if_neg (by simp), hM3 _ (by omega), Option.bind_some, hH _ (by omega), Option.bind_some, if_neg (n1 _), if_pos rfl, hT _ (by omega), Option.bind_some, hT2 _ (by omega), Option.bind_some, hI _ (by omega), Option.bind_some, hE3 _ (by omega), Option.bind_some, if_pos rfl, bne_self_eq_false]
      rw [laws_FnExactNextSubset.j2, if_neg (by simp), hH _ (by omega), Option.bind_some, if_neg (n1 _), if_pos rfl]
end Go.Proofs.Ytoggoimoameklaa.Pure
