/- A smaller copy of a text of this seat, made by pack.py for one law. -/
import Derived.Test.YtckmdibjkklhkaaQFnExactHolderListsLemT
import Derived.Test.YtckmdibjkklhkaaQFnExactHolderListsLemD2
import Derived.Test.YtckmdibjkklhkaaQFnExactHolderListsLemL0
import Derived.Test.YtckmdibjkklhkaaQFnExactHolderListsGivJ2
import Derived.Test.YtckmdibjkklhkaaQFnExactHolderListsPAllx34
import Derived.Test.YtckmdibjkklhkaaQFnExactHolderListsPAllx35
import Derived.Test.YtckmdibjkklhkaaQFnExactHolderListsPAllx36
namespace Go.Proofs.Ytckmdibjkklhkaa.Lem
open Go.RowKit Go.Proofs.Ytckmdibjkklhkaa.PAll Go.Proofs.Ytckmdibjkklhkaa.Base Go.Proofs.YtckmdibjkklhkaaW.PrintWords Go.Proofs.YtckmdibjkklhkaaW.PrintLast Go.Proofs.YtckmdibjkklhkaaW.PrintMore
set_option linter.unusedVariables false
set_option linter.unusedSimpArgs false
def holdersL (d : List (List Int)) (s : Int) : List Int := (suitL (cardsL d) s).reverse.map (holderL d)
theorem holdersL_len (d : List (List Int)) (s : Int) : (holdersL d s).length ≤ 52 := by
  unfold holdersL; simp; exact Nat.le_trans (suitL_len _ _) (cardsL_len d)
theorem suit_of_all : ∀ s : Nat, s < 4 → allL.filter (fun c => decide (c / 13 = (s : Int))) = (List.range 13).map fun r : Nat => 13 * (s : Int) + (r : Int) := by decide +kernel
theorem suit_cards (d : List (List Int)) (s : Nat) (hs : s < 4) : suitL (cardsL d) (s : Int) = ((List.range 13).map fun r : Nat => 13 * (s : Int) + (r : Int)).filter fun c => decide (0 ≤ holderL d c) := by
  rw [← suit_of_all s hs]
  unfold suitL cardsL
  rw [List.filter_filter, List.filter_filter]
  congr 1
  funext c
  exact Bool.and_comm _ _
theorem specHolders_l0 (d : List (List Int)) (M : Nat) (hr : ∀ x ∈ d, x.length ≤ M) (hM : M ≤ 2000000) (hd : d.length ≤ 2000000) (s : Nat) (hs : s < 4) : ∀ (r k : Nat) (o : List Int), r ≤ 13 → r + d.length + M + 2 ≤ k → o.length + r ≤ 13 →
    spec_l05Holders.l0 k (s : Int) o ((r : Int) - 1) d = some (o ++ ((((List.range r).map fun r : Nat => 13 * (s : Int) + (r : Int)).filter fun c => decide (0 ≤ holderL d c)).reverse.map (holderL d))) := by
  intro r
  induction r with
  | zero =>
    intro k o hr1 hk ho
    obtain ⟨k, rfl⟩ := succ_of (show 0 < k by omega)
    rw [spec_l05Holders.l0, if_neg (by omega)]; simp
  | succ r ih =>
    intro k o hr1 hk ho
    obtain ⟨k, rfl⟩ := succ_of (show 0 < k by omega)
    have e1 : ((r + 1 : Nat) : Int) - 1 = (r : Int) := by omega
    have e2 : wrap64 ((wrap64 (13 * (s : Int))) + (r : Int)) = 13 * (s : Int) + (r : Int) := by rw [w64 (n := 13 * (s : Int)) (by omega) (by omega), w64 (by omega) (by omega)]
    rw [e1, spec_l05Holders.l0, if_pos (by omega), e2, specHolder_eq d M hr hM hd _ k (by omega), Option.bind_some, w64 (n := (r : Int) - 1) (by omega) (by omega), List.range_succ, List.map_append, List.filter_append, List.reverse_append, List.map_append]
    by_cases h : 0 ≤ holderL d (13 * (s : Int) + (r : Int))
    · rw [if_pos h, if_pos (by omega), ih k _ (by omega) (by omega) (by simp; omega)]; simp [h]
    · rw [if_neg h, ih k _ (by omega) (by omega) (by omega)]; simp [h]
theorem specHolders_eq (d : List (List Int)) (M : Nat) (hr : ∀ x ∈ d, x.length ≤ M) (hM : M ≤ 2000000) (hd : d.length ≤ 2000000) (s : Nat) (hs : s < 4) (k : Nat) (hk : d.length + M + 20 ≤ k) : spec_l05Holders.f k d (s : Int) = some (holdersL d (s : Int)) := by
  unfold spec_l05Holders.f holdersL
  rw [suit_cards d s hs]
  exact (specHolders_l0 d M hr hM hd s hs 13 k [] (by omega) (by omega) (by simp)).trans (by simp)
def listsL (d : List (List Int)) : List (List Int) := [holdersL d 0, holdersL d 1, holdersL d 2, holdersL d 3]
theorem specLists_eq (d : List (List Int)) (M : Nat) (hr : ∀ x ∈ d, x.length ≤ M) (hM : M ≤ 2000000) (hd : d.length ≤ 2000000) (k : Nat) (hk : d.length + M + 40 ≤ k) : spec_l05Lists.f k d = some (listsL d) := by
  unfold spec_l05Lists.f
  obtain ⟨k, rfl⟩ : ∃ m, k = m + 1 + 1 + 1 + 1 + 1 := ⟨k - 5, by omega⟩
  have g : ∀ (s j : Nat), s < 4 → d.length + M + 20 ≤ j → spec_l05Holders.f j d (s : Int) = some (holdersL d (s : Int)) := fun s j hs hj => specHolders_eq d M hr hM hd s hs j hj
  have w : ∀ s : Nat, s < 4 → wrap64 ((s : Int) + 1) = ((s + 1 : Nat) : Int) := fun s hs => wrap_nat s (by omega)
  rw [spec_l05Lists.l0, if_pos (by omega), show spec_l05Holders.f _ d 0 = _ from g 0 _ (by omega) (by omega), Option.bind_some, if_pos (by simp), show wrap64 (0 + 1) = ((1 : Nat) : Int) from w 0 (by omega)]
  rw [spec_l05Lists.l0, if_pos (by omega), g 1 _ (by omega) (by omega), Option.bind_some, if_pos (by simp), w 1 (by omega)]
  rw [spec_l05Lists.l0, if_pos (by omega), g 2 _ (by omega) (by omega), Option.bind_some, if_pos (by simp), w 2 (by omega)]
  rw [spec_l05Lists.l0, if_pos (by omega), g 3 _ (by omega) (by omega), Option.bind_some, if_pos (by simp), w 3 (by omega)]
  rw [spec_l05Lists.l0, if_neg (by omega)]; rfl
theorem cardsL_cards (d : List (List Int)) : Cards (cardsL d) := cards_sub allL_cards List.filter_sublist
theorem inPlay_eq (d : List (List Int)) (ht : total d ≤ 1048576) (h : Deal d) (s : Int) (k : Nat) (hk : 60 ≤ k) : impl_inPlay.f k d s = some (suitL (cardsL d) s).reverse := by
  have hl := cardsL_len d
  have hs := suitL_len (cardsL d) s
  unfold impl_inPlay.f
  rw [cardsOf_eq d ht h, Option.bind_some, ofSuit_eq _ (by omega) (cardsL_cards d).1 s k (by omega), Option.bind_some, descending_up _ (by omega) (suitL_cards (cardsL_cards d)) k (by omega)]; rfl
theorem implLists_l1 (d : List (List Int)) (hr : ∀ x ∈ d, x.length ≤ 2000000) (x3 : List (List Int)) (hx3 : x3.length ≤ 1000) (x12 : Int) (x : List Int) (hx : x.length ≤ 1000) : ∀ (t : List Int) (k i : Nat) (o : List Int), x.drop i = t → o.length + t.length ≤ 1000 →
    impl_HolderLists.l1 (k + t.length + 1) x3 o x12 x (x.length : Int) (i : Int) d = impl_HolderLists.l0 k (x3 ++ [o ++ t.map (holderL d)]) (wrap64 (x12 + 1)) d := by
  intro t
  induction t with
  | nil =>
    intro k i o ht ho
    have := drop_nil_le ht
    rw [impl_HolderLists.l1, if_neg (by omega), if_pos (by omega)]; simp
  | cons y t ih =>
    intro k i o ht ho
    obtain ⟨hi, hy, ht'⟩ := drop_cons ht (0 : Int)
    simp only [List.length_cons] at ho
    have e1 : impl_holder.f d y = some (holderL d y) := by unfold impl_holder.f; rw [if_pos hr]
    rw [show k + (y :: t).length + 1 = (k + t.length + 1) + 1 by simp; omega, impl_HolderLists.l1, if_pos (by omega), if_pos (by omega), if_pos (by omega), rd_nat, hy, e1, Option.bind_some, if_pos (by omega), wrap_nat i (by omega), ih k (i + 1) _ ht' (by simp; omega)]
    simp
theorem implLists_step (d : List (List Int)) (ht : total d ≤ 1048576) (h : Deal d) (hr : ∀ x ∈ d, x.length ≤ 2000000) (k s : Nat) (hs : s < 4) (o : List (List Int)) (ho : o.length ≤ 100) :
    impl_HolderLists.l0 (k + 60 + 1 + 1 + (suitL (cardsL d) (s : Int)).length) o (s : Int) d = impl_HolderLists.l0 (k + 60) (o ++ [holdersL d (s : Int)]) ((s + 1 : Nat) : Int) d := by
  have hl := cardsL_len d
  have hsl := suitL_len (cardsL d) (s : Int)
  rw [show k + 60 + 1 + 1 + (suitL (cardsL d) (s : Int)).length = (k + 60 + (suitL (cardsL d) (s : Int)).length + 1) + 1 by omega, impl_HolderLists.l0, if_pos (by omega), inPlay_eq d ht h _ _ (by omega), Option.bind_some]
  have := implLists_l1 d hr o (by omega) (s : Int) (suitL (cardsL d) (s : Int)).reverse (by simp; omega) (suitL (cardsL d) (s : Int)).reverse (k + 60) 0 [] rfl (by simp; omega)
  rw [List.length_reverse] at this ⊢
  rw [show impl_HolderLists.l1 _ o [] (s : Int) _ _ 0 d = _ from this, wrap_nat s (by omega)]; simp [holdersL]
theorem implLists_mono {k j : Nat} (h : k ≤ j) {o : List (List Int)} {s : Int} {d r : List (List Int)} (e : impl_HolderLists.l0 k o s d = some r) : impl_HolderLists.l0 j o s d = some r := by
  obtain ⟨m, rfl⟩ : ∃ m, j = k + m := ⟨j - k, by omega⟩
  clear h
  induction m with
  | zero => exact e
  | succ m ih => exact (impl_HolderLists.mono_l (k + m)).1 _ _ _ r ih
theorem implLists_eq (d : List (List Int)) (ht : total d ≤ 1048576) (k : Nat) (hk : 400 ≤ k) : impl_HolderLists.f k d = some (if Deal d then listsL d else []) := by
  have hr := rows_total ht
  unfold impl_HolderLists.f
  rw [implDeal_eq d (fun x hx => by have := hr x hx; omega), Option.bind_some]
  by_cases h : Deal d
  · rw [if_pos (by simpa using h), if_pos h]
    have hr2 : ∀ x ∈ d, x.length ≤ 2000000 := fun x hx => by have := hr x hx; omega
    have L := fun s : Int => Nat.le_trans (suitL_len (cardsL d) s) (cardsL_len d)
    have st := fun (k s : Nat) (hs : s < 4) (o : List (List Int)) (ho : o.length ≤ 100) => implLists_step d ht h hr2 k s hs o ho
    have h4 : ∀ k o, impl_HolderLists.l0 (k + 60) o ((4 : Nat) : Int) d = some o := by
      intro k o
      rw [show k + 60 = (k + 59) + 1 by omega, impl_HolderLists.l0, if_neg (by omega)]
    have e3 : impl_HolderLists.l0 (60 + 54) [holdersL d 0, holdersL d 1, holdersL d 2] ((3 : Nat) : Int) d = some (listsL d) := by
      refine implLists_mono (k := 0 + 60 + 1 + 1 + (suitL (cardsL d) ((3 : Nat) : Int)).length) (by have := L ((3 : Nat) : Int); omega) ?_
      rw [st 0 3 (by omega) _ (by simp), h4]; rfl
    have e2 : impl_HolderLists.l0 (114 + 54) [holdersL d 0, holdersL d 1] ((2 : Nat) : Int) d = some (listsL d) := by
      refine implLists_mono (k := 54 + 60 + 1 + 1 + (suitL (cardsL d) ((2 : Nat) : Int)).length) (by have := L ((2 : Nat) : Int); omega) ?_
      rw [st 54 2 (by omega) _ (by simp)]; exact e3
    have e1 : impl_HolderLists.l0 (168 + 54) [holdersL d 0] ((1 : Nat) : Int) d = some (listsL d) := by
      refine implLists_mono (k := 108 + 60 + 1 + 1 + (suitL (cardsL d) ((1 : Nat) : Int)).length) (by have := L ((1 : Nat) : Int); omega) ?_
      rw [st 108 1 (by omega) _ (by simp)]; exact e2
    have e0 : impl_HolderLists.l0 (222 + 54) [] ((0 : Nat) : Int) d = some (listsL d) := by
      refine implLists_mono (k := 162 + 60 + 1 + 1 + (suitL (cardsL d) ((0 : Nat) : Int)).length) (by have := L ((0 : Nat) : Int); omega) ?_
      rw [st 162 0 (by omega) _ (by simp)]; exact e1
    exact implLists_mono (by omega) e0
  · rw [if_neg (by simpa using h), if_neg h]
theorem specHolderLists_eq (d : List (List Int)) (hr : ∀ x ∈ d, x.length ≤ 1048576) (hd : d.length ≤ 1048576) (k : Nat) (hk : d.length + 1048576 + 400 ≤ k) : spec_HolderLists.f k d = some (if Deal d then listsL d else []) := by
  unfold spec_HolderLists.f
  rw [l03Deal_eq d 1048576 hr (by omega) _ (by omega), Option.bind_some]
  by_cases h : Deal d
  · rw [if_pos (by simpa using h), if_pos h, specLists_eq d 1048576 hr (by omega) (by omega) _ (by omega)]; rfl
  · rw [if_neg (by simpa using h), if_neg h]
theorem listsR_len (d : List (List Int)) : (if Deal d then listsL d else []).length ≤ 1000 := by
  split
  · simp [listsL]
  · simp
theorem listsR_rows (d : List (List Int)) : ∀ x ∈ (if Deal d then listsL d else []), x.length ≤ 52 := by
  split
  · intro x hx
    simp only [listsL, List.mem_cons, List.not_mem_nil, or_false] at hx
    rcases hx with rfl | rfl | rfl | rfl <;> exact holdersL_len d _
  · intro x hx; cases hx
end Go.Proofs.Ytckmdibjkklhkaa.Lem
