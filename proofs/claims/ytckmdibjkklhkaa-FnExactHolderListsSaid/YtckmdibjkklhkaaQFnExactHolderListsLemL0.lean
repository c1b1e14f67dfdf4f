/- A smaller copy of a text of this seat, made by pack.py for one law. -/
import Derived.Test.YtckmdibjkklhkaaQFnExactHolderListsLemA
import Derived.Test.YtckmdibjkklhkaaQFnExactHolderListsBase2
import Derived.Test.YtckmdibjkklhkaaQFnExactHolderListsGivB
import Derived.Test.YtckmdibjkklhkaaQFnExactHolderListsGivC
import Derived.Test.YtckmdibjkklhkaaQFnExactHolderListsPAllx22
import Derived.Test.YtckmdibjkklhkaaQFnExactHolderListsPAllx23
namespace Go.Proofs.Ytckmdibjkklhkaa.Lem
open Go.RowKit Go.Proofs.Ytckmdibjkklhkaa.PAll Go.Proofs.Ytckmdibjkklhkaa.Base Go.Proofs.YtckmdibjkklhkaaW.PrintWords Go.Proofs.YtckmdibjkklhkaaW.PrintLast Go.Proofs.YtckmdibjkklhkaaW.PrintMore
set_option linter.unusedVariables false
set_option linter.unusedSimpArgs false
theorem getD_set (x : List Int) (a : Nat) (v : Int) (p : Nat) : (x.set a v).getD p 0 = if a = p ∧ p < x.length then v else x.getD p 0 := by
  simp only [List.getD, List.getElem?_set]
  by_cases e : a = p
  · subst e
    by_cases h : a < x.length
    · simp [h]
    · simp [h]
  · simp [e]
theorem getD_ext (x y : List Int) (h : x.length = y.length) (e : ∀ p, p < x.length → x.getD p 0 = y.getD p 0) : x = y := by
  apply List.ext_getElem h
  intro p h1 h2
  have := e p h1
  simpa [List.getD, h1, h2] using this
theorem reverse_l0 (n : Nat) (hn : n ≤ 2000000) : ∀ (d k i : Nat) (x : List Int), x.length = n → i + d ≤ n → d < k →
    ∃ y, slices_Reverse_int64_int64.l0 k x (i : Int) ((i : Int) + (d : Int) - 1) = some y ∧ y.length = n ∧ ∀ p, p < n → y.getD p 0 = if i ≤ p ∧ p < i + d then x.getD (i + (i + d) - 1 - p) 0 else x.getD p 0
  | 0, k, i, x, hx, hd, hk => by
    obtain ⟨k, rfl⟩ := succ_of hk
    exact ⟨x, by rw [slices_Reverse_int64_int64.l0, if_neg (by omega)], hx, fun p hp => by rw [if_neg (by omega)]⟩
  | 1, k, i, x, hx, hd, hk => by
    obtain ⟨k, rfl⟩ := succ_of hk
    refine ⟨x, by rw [slices_Reverse_int64_int64.l0, if_neg (by omega)], hx, fun p hp => ?_⟩
    split
    · rw [show i + (i + 1) - 1 - p = p by omega]
    · rfl
  | d + 2, k, i, x, hx, hd, hk => by
    obtain ⟨k, rfl⟩ := succ_of hk
    have ej : (i : Int) + ((d + 2 : Nat) : Int) - 1 = ((i + d + 1 : Nat) : Int) := by omega
    rw [ej]
    rw [slices_Reverse_int64_int64.l0, if_pos (by omega), if_pos (by omega), if_pos (by omega), if_pos (by omega), if_pos (by omega), rd_nat, rd_nat, Int.toNat_natCast, Int.toNat_natCast, wrap_nat i (by omega), w64 (by omega) (by omega)]
    obtain ⟨y, e, hy, hp⟩ := reverse_l0 n hn d k (i + 1) ((x.set i (x.getD (i + d + 1) 0)).set (i + d + 1) (x.getD i 0)) (by simp [hx]) (by omega) (by omega)
    refine ⟨y, ?_, hy, fun p hpn => ?_⟩
    · rw [← e]; congr 1; omega
    · rw [hp p hpn]
      simp only [getD_set, List.length_set, hx]
      by_cases c1 : i + 1 ≤ p ∧ p < i + 1 + d
      · rw [if_pos c1, if_neg (by omega), if_neg (by omega), if_pos (by omega)]
        congr 1; omega
      · rw [if_neg c1]
        by_cases c2 : p = i + d + 1
        · rw [if_pos (by omega), if_pos (by omega)]; congr 1; omega
        · rw [if_neg (by omega)]
          by_cases c3 : p = i
          · rw [if_pos (by omega), if_pos (by omega)]; congr 1; omega
          · rw [if_neg (by omega), if_neg (by omega)]
theorem reverse_eq (x : List Int) (hx : x.length ≤ 2000000) (k : Nat) (hk : x.length < k) : slices_Reverse_int64_int64.f k x = some x.reverse := by
  unfold slices_Reverse_int64_int64.f
  obtain ⟨y, e, hy, hp⟩ := reverse_l0 x.length hx x.length k 0 x rfl (by omega) hk
  rw [w64 (by omega) (by omega)]
  rw [show ((0 : Nat) : Int) + (x.length : Int) - 1 = (x.length : Int) - 1 by omega] at e
  rw [show (0 : Int) = ((0 : Nat) : Int) from rfl, e]
  congr 1
  refine getD_ext _ _ (by simp [hy]) fun p hp' => ?_
  rw [hp p (by omega), if_pos (by omega)]
  have hl : p < x.length := by omega
  simp only [List.getD, List.getElem?_reverse hl]
  rw [show 0 + (0 + x.length) - 1 - p = x.length - 1 - p by omega]
theorem descending_up (l : List Int) (hl : l.length ≤ 2000000) (h : Cards l) (k : Nat) (hk : l.length < k) : impl_descending.f k l = some l.reverse := by
  unfold impl_descending.f
  have e1 : slices_Clone_int64_int64.f l = some l := by unfold slices_Clone_int64_int64.f; rw [if_pos (by omega)]
  have e2 : slices_Sort_int64_int64.f l = some l := by
    unfold slices_Sort_int64_int64.f; rw [if_pos (by omega)]
    congr 1
    exact List.mergeSort_of_pairwise (h.2.imp fun hab => by simp; omega)
  rw [e1, Option.bind_some, e2, Option.bind_some, reverse_eq l hl k hk, Option.bind_some]
end Go.Proofs.Ytckmdibjkklhkaa.Lem
