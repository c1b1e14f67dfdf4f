/- A smaller copy of texts of this seat, made by pack.py for one law. -/
import Derived.Test.YtckmdibjkklhkaaQFnExactGroupsOfBase2
namespace Go.Proofs.Ytckmdibjkklhkaa.Base
open Go.RowKit
set_option linter.unusedVariables false
set_option linter.unusedSimpArgs false
theorem up_ext : ∀ (l m : List Int), l.Pairwise (· < ·) → m.Pairwise (· < ·) → (∀ x, x ∈ l ↔ x ∈ m) → l = m
  | [], [], _, _, _ => rfl
  | [], y :: u, _, _, h => by have := (h y).2 List.mem_cons_self; simp at this
  | x :: t, [], _, _, h => by have := (h x).1 List.mem_cons_self; simp at this
  | x :: t, y :: u, hl, hm, h => by
    rw [List.pairwise_cons] at hl hm
    have hx := (h x).1 List.mem_cons_self
    have hy := (h y).2 List.mem_cons_self
    have e : x = y := by
      rcases List.mem_cons.1 hx with hx | hx
      · exact hx
      · rcases List.mem_cons.1 hy with hy | hy
        · exact hy.symm
        · have := hl.1 y hy; have := hm.1 x hx; omega
    subst e
    congr 1
    refine up_ext t u hl.2 hm.2 fun z => ⟨fun hz => ?_, fun hz => ?_⟩
    · rcases List.mem_cons.1 ((h z).1 (List.mem_cons_of_mem _ hz)) with e | hz2
      · have := hl.1 z hz; omega
      · exact hz2
    · rcases List.mem_cons.1 ((h z).2 (List.mem_cons_of_mem _ hz)) with e | hz2
      · have := hm.1 z hz; omega
      · exact hz2
def sortL (l : List Int) : List Int := l.mergeSort fun x y => decide (x ≤ y)
theorem sortL_up (l : List Int) : (sortL l).Pairwise (· ≤ ·) := by
  have := List.pairwise_mergeSort (le := fun x y : Int => decide (x ≤ y)) (fun a b c h1 h2 => by simp at *; omega) (fun a b => by simp; omega) l
  exact this.imp fun h => by simpa using h
theorem sortL_perm (l : List Int) : (sortL l).Perm l := List.mergeSort_perm l _
theorem sortL_mem (l : List Int) (x : Int) : x ∈ sortL l ↔ x ∈ l := (sortL_perm l).mem_iff
theorem sortL_strict {l : List Int} (h : l.Nodup) : (sortL l).Pairwise (· < ·) := by
  have h1 := sortL_up l
  have h2 : (sortL l).Nodup := (sortL_perm l).nodup_iff.2 h
  exact (h1.and h2).imp fun ⟨a, b⟩ => by omega
def Deal (d : List (List Int)) : Prop := d.length = 4 ∧ (∀ h ∈ d, Hand h ∧ h.length = (d.getD 0 []).length) ∧ d.flatten.Nodup
instance (d : List (List Int)) : Decidable (Deal d) := inferInstanceAs (Decidable (_ ∧ _ ∧ _))
def seenL (d : List (List Int)) (s i : Nat) : List Int := (d.take s).flatten ++ (d.getD s []).take i
theorem getD_mem_rows {d : List (List Int)} {j : Nat} (h : j < d.length) : d.getD j [] ∈ d := by rw [List.getD, List.getElem?_eq_getElem h]; exact List.getElem_mem h
theorem seenL_next (d : List (List Int)) (s : Nat) (h : s < d.length) : seenL d s (d.getD s []).length = seenL d (s + 1) 0 := by
  unfold seenL
  have e : d.getD s [] = d[s] := by simp [List.getD, h]
  have e2 : d.take (s + 1) = d.take s ++ [d[s]] := List.take_succ_eq_append_getElem h
  rw [List.take_of_length_le (Nat.le_refl _), List.take_zero, List.append_nil, e2, e, List.flatten_append]
  simp
theorem seenL_step (d : List (List Int)) (s i : Nat) (h : i < (d.getD s []).length) : seenL d s (i + 1) = seenL d s i ++ [(d.getD s []).getD i 0] := by
  unfold seenL
  have e := List.take_succ_eq_append_getElem h
  have e2 : (d.getD s []).getD i 0 = (d.getD s [])[i] := by rw [List.getD, List.getElem?_eq_getElem h]; rfl
  rw [e, e2, List.append_assoc]
theorem seenL_pre (d : List (List Int)) (s i : Nat) (h : s < d.length) : (seenL d s i).Sublist d.flatten := by
  unfold seenL
  have e : d = d.take s ++ (d.getD s [] :: d.drop (s + 1)) := by
    rw [show d.getD s [] = d[s] by simp [List.getD, h], ← List.drop_eq_getElem_cons h, List.take_append_drop]
  conv => rhs; rw [e]
  rw [List.flatten_append, List.flatten_cons]
  exact List.Sublist.append (List.Sublist.refl _) ((List.take_sublist _ _).trans (List.sublist_append_left _ _))
theorem deal_of {d : List (List Int)} (hl : d.length = 4) (hg : ∀ j, j < 4 → Hand (d.getD j []) ∧ (d.getD j []).length = (d.getD 0 []).length) (hn : (seenL d 4 0).Nodup) : Deal d := by
  refine ⟨hl, fun h hh => ?_, ?_⟩
  · obtain ⟨j, hj, rfl⟩ := List.getElem_of_mem hh
    have := hg j (by omega)
    rwa [show d.getD j [] = d[j] by simp [List.getD, hj]] at this
  · unfold seenL at hn
    rw [List.take_of_length_le (by omega)] at hn
    simpa using hn
theorem not_deal_hand {d : List (List Int)} {s : Nat} (h : s < d.length) (hb : ¬ (Hand (d.getD s []) ∧ (d.getD s []).length = (d.getD 0 []).length)) : ¬ Deal d :=
  fun hd => hb (hd.2.1 _ (getD_mem_rows h))
theorem not_deal_twice {d : List (List Int)} {s i : Nat} (h : s < d.length) (hi : i < (d.getD s []).length) (hm : (d.getD s []).getD i 0 ∈ seenL d s i) : ¬ Deal d := by
  intro hd
  have := hd.2.2.sublist (seenL_pre d s (i + 1) h)
  rw [seenL_step d s i hi, List.nodup_append] at this
  exact this.2.2 _ hm _ (List.mem_singleton.2 rfl) rfl
theorem seen_nodup_step {d : List (List Int)} {s i : Nat} (hi : i < (d.getD s []).length) (hn : (seenL d s i).Nodup) (hm : (d.getD s []).getD i 0 ∉ seenL d s i) : (seenL d s (i + 1)).Nodup := by
  rw [seenL_step d s i hi, List.nodup_append]
  exact ⟨hn, by simp, fun a ha b hb e => hm (by rw [← List.mem_singleton.1 hb, ← e]; exact ha)⟩
def seenB (l : List Int) : List Bool := (List.range 52).map fun c : Nat => decide ((c : Int) ∈ l)
theorem seenB_len (l : List Int) : (seenB l).length = 52 := by simp [seenB]
theorem seenB_get (l : List Int) (c : Int) (h : Card c) : (seenB l).getD c.toNat false = decide (c ∈ l) := by
  have h1 := h.1; have h2 := h.2
  have hc : c.toNat < 52 := by omega
  unfold seenB
  rw [List.getD, List.getElem?_map, List.getElem?_range hc]
  have e : ((c.toNat : Nat) : Int) = c := by omega
  simp [e]
theorem seenB_set (l : List Int) (c : Int) (h : Card c) : (seenB l).set c.toNat true = seenB (l ++ [c]) := by
  have h1 := h.1; have h2 := h.2
  apply List.ext_getElem?
  intro j
  by_cases hj : j < 52
  · rw [List.getElem?_set, seenB_len]
    unfold seenB
    rw [List.getElem?_map, List.getElem?_map, List.getElem?_range hj]
    by_cases e : c.toNat = j
    · have : (j : Int) = c := by omega
      rw [if_pos e, if_pos (by omega)]; simp [this]
    · have : (j : Int) ≠ c := by omega
      rw [if_neg e]; simp [this]
  · rw [List.getElem?_eq_none (by simp [seenB_len]; omega), List.getElem?_eq_none (by simp [seenB_len]; omega)]
theorem seenB_nil : seenB [] = List.replicate 52 false := by decide
def holdF (c : Int) : List (List Int) → Nat → Int
  | [], _ => -1
  | h :: t, i => if c ∈ h then (i : Int) else holdF c t (i + 1)
def holderL (d : List (List Int)) (c : Int) : Int := holdF c d 0
theorem holdF_range (c : Int) : ∀ (d : List (List Int)) (i : Nat), holdF c d i = -1 ∨ ((i : Int) ≤ holdF c d i ∧ holdF c d i < (i : Int) + d.length)
  | [], i => .inl rfl
  | h :: t, i => by
    simp only [holdF]
    split
    · refine .inr ⟨by omega, ?_⟩; simp; omega
    · rcases holdF_range c t (i + 1) with e | ⟨e1, e2⟩
      · exact .inl e
      · refine .inr ⟨by omega, ?_⟩; simp; omega
theorem holdF_mem (c : Int) : ∀ (d : List (List Int)) (i : Nat), 0 ≤ holdF c d i ↔ c ∈ d.flatten
  | [], i => by simp [holdF]
  | h :: t, i => by
    simp only [holdF, List.flatten_cons, List.mem_append]
    split
    · rename_i hc; exact ⟨fun _ => .inl hc, fun _ => by omega⟩
    · rename_i hc
      rw [holdF_mem c t (i + 1)]
      exact ⟨.inr, fun h => h.resolve_left hc⟩
theorem holdF_is (c : Int) : ∀ (d : List (List Int)) (i : Nat), 0 ≤ holdF c d i → c ∈ d.getD (holdF c d i - i).toNat []
  | [], i => by simp [holdF]
  | h :: t, i => by
    simp only [holdF]
    split
    · rename_i hc; intro _; rw [show ((i : Int) - i).toNat = 0 by omega]; exact hc
    · rename_i hc
      intro h0
      have := holdF_is c t (i + 1) h0
      rcases holdF_range c t (i + 1) with e | ⟨e1, e2⟩
      · omega
      · rw [show (holdF c t (i + 1) - (i : Int)).toNat = (holdF c t (i + 1) - ((i + 1 : Nat) : Int)).toNat + 1 by omega, List.getD_cons_succ]
        exact this
def cardsL (d : List (List Int)) : List Int := allL.filter fun c => decide (0 ≤ holderL d c)
theorem mem_allL (c : Int) : c ∈ allL ↔ Card c := by
  unfold allL Card
  simp only [List.mem_map, List.mem_range]
  constructor
  · rintro ⟨n, hn, rfl⟩; omega
  · intro ⟨h0, h1⟩; exact ⟨c.toNat, by omega, by omega⟩
theorem deal_cards {d : List (List Int)} (h : Deal d) : ∀ x ∈ d.flatten, Card x := by
  intro x hx
  obtain ⟨l, hl, hxl⟩ := List.mem_flatten.1 hx
  exact (h.2.1 l hl).1.2.1 x hxl
theorem cardsL_sort {d : List (List Int)} (h : Deal d) : sortL d.flatten = cardsL d := by
  refine up_ext _ _ (sortL_strict h.2.2) (allL_cards.2.sublist List.filter_sublist) fun x => ?_
  rw [sortL_mem, cardsL, List.mem_filter, mem_allL]
  constructor
  · intro hx; exact ⟨deal_cards h x hx, decide_eq_true ((holdF_mem x d 0).2 hx)⟩
  · rintro ⟨_, hx⟩; exact (holdF_mem x d 0).1 (of_decide_eq_true hx)
end Go.Proofs.Ytckmdibjkklhkaa.Base
