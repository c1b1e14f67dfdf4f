/- A smaller copy of a text of this seat, made by pack.py for one law. -/
import Derived.Test.YtoggoimoameklaaQFnHandsLemD
import Derived.Test.YtoggoimoameklaaQFnHandsLemG
import Derived.Test.YtoggoimoameklaaQFnHandsLemJ
import Derived.Test.YtoggoimoameklaaQFnHandsGivH
import Derived.Test.YtoggoimoameklaaQFnHandsPAllx33
namespace Go.Proofs.Ytoggoimoameklaa.Lem
open Go.RowKit Go.Proofs.Ytoggoimoameklaa.PAll Go.Proofs.Ytoggoimoameklaa.Base Go.Proofs.YtoggoimoameklaaW.PrintWords Go.Proofs.YtoggoimoameklaaW.PrintLast Go.Proofs.YtoggoimoameklaaW.PrintMore
set_option linter.unusedVariables false
set_option linter.unusedSimpArgs false
theorem countP_zero_of {x : Int} : ∀ (t : List Int), (∀ z ∈ t, x < z) → t.countP (· < x) = 0 := by
  intro t h
  rw [List.countP_eq_zero]
  intro z hz
  have := h z hz
  simp; omega
theorem ins_at (x : Int) : ∀ (l : List Int), l.Pairwise (· < ·) → x ∉ l → insAt l (l.countP (· < x)) x = insL x l
  | [], _, _ => rfl
  | y :: t, h, hx => by
    rw [List.pairwise_cons] at h
    have hne : x ≠ y := fun e => hx (by rw [e]; exact List.mem_cons_self)
    by_cases hy : y > x
    · rw [countP_zero_of (y :: t) (fun z hz => by
        rcases List.mem_cons.1 hz with rfl | hz
        · exact hy
        · have := h.1 z hz; omega)]
      simp [insAt, insL, hy]
    · rw [List.countP_cons, if_pos (by simp; omega)]
      have ih := ins_at x t h.2 (fun hm => hx (List.mem_cons_of_mem _ hm))
      simp only [insL, if_neg hy]
      rw [← ih]; simp [insAt]
theorem insL_mem (x z : Int) : ∀ l : List Int, z ∈ insL x l ↔ z = x ∨ z ∈ l
  | [] => by simp [insL]
  | y :: t => by
    simp only [insL]; split
    · simp
    · rw [List.mem_cons, insL_mem x z t, List.mem_cons]
      constructor
      · rintro (h | h | h)
        · exact .inr (.inl h)
        · exact .inl h
        · exact .inr (.inr h)
      · rintro (h | h | h)
        · exact .inr (.inl h)
        · exact .inl h
        · exact .inr (.inr h)
theorem insL_up (x : Int) : ∀ l : List Int, l.Pairwise (· < ·) → x ∉ l → (insL x l).Pairwise (· < ·)
  | [], _, _ => by simp [insL]
  | y :: t, h, hx => by
    rw [List.pairwise_cons] at h
    have hne : x ≠ y := fun e => hx (by rw [e]; exact List.mem_cons_self)
    simp only [insL]; split
    · rename_i hy
      refine List.pairwise_cons.2 ⟨fun z hz => ?_, List.pairwise_cons.2 h⟩
      rcases List.mem_cons.1 hz with rfl | hz
      · exact hy
      · have := h.1 z hz; omega
    · rename_i hy
      refine List.pairwise_cons.2 ⟨fun z hz => ?_, insL_up x t h.2 (fun hm => hx (List.mem_cons_of_mem _ hm))⟩
      rcases (insL_mem x z t).1 hz with rfl | hz
      · omega
      · exact h.1 z hz
theorem insL_cards {x : Int} {l : List Int} (hl : Cards l) (hx : Card x) (hn : x ∉ l) : Cards (insL x l) :=
  ⟨fun z hz => by
    rcases (insL_mem x z l).1 hz with rfl | hz
    · exact hx
    · exact hl.1 z hz, insL_up x l hl.2 hn⟩
theorem drop_ins (x : Int) : ∀ l : List Int, x ∉ l → dropL (insL x l) x = l
  | [], _ => by simp [insL, dropL]
  | y :: t, hx => by
    have hne : y ≠ x := fun e => hx (by rw [e]; exact List.mem_cons_self)
    have hnt : x ∉ t := fun hm => hx (List.mem_cons_of_mem _ hm)
    have hd : dropL t x = t := by
      unfold dropL
      rw [List.filter_eq_self]
      intro z hz
      have : z ≠ x := fun e => hnt (by rw [← e]; exact hz)
      simp [this]
    simp only [insL]; split
    · rw [show dropL (x :: y :: t) x = dropL (y :: t) x by simp [dropL]]
      rw [show dropL (y :: t) x = y :: dropL t x by simp [dropL, hne], hd]
    · rw [show dropL (y :: insL x t) x = y :: dropL (insL x t) x by simp [dropL, hne], drop_ins x t hnt]
def withL (l : List Int) (x : Int) : List Int × Int :=
  if Hand l then (if Card x then (if x ∈ l then ([], 5) else if l.length = 13 then ([], 3) else (insL x l, 0)) else ([], 2)) else ([], 1)
theorem implWith_eq (l : List Int) (x : Int) (hl : l.length ≤ 2000000) (k : Nat) (hk : l.length + 2 ≤ k) : impl_HandWith.f k l x = some (withL l x) := by
  unfold impl_HandWith.f withL
  rw [implHand_eq l (by omega) k (by omega), Option.bind_some]
  by_cases h : Hand l
  · rw [if_pos (by simpa using h), if_pos h, isCard_eq, Option.bind_some]
    by_cases h1 : Card x
    · rw [if_pos (by simpa using h1), if_pos h1, contains_eq l hl x k (by omega), Option.bind_some]
      by_cases h2 : x ∈ l
      · rw [if_pos (by simpa using h2), if_pos h2]
      · rw [if_neg (by simpa using h2), if_neg h2]
        by_cases h3 : l.length = 13
        · rw [if_pos (by omega), if_pos h3]
        · have e : impl_with.f l x = some (insL x l) := by
            unfold impl_with.f
            rw [if_pos ⟨by omega, h.2.2.imp fun hab => by omega⟩, ins_at x l h.2.2 h2]
          rw [if_neg (by omega), if_neg h3, e, Option.bind_some]
    · rw [if_neg (by simpa using h1), if_neg h1]
  · rw [if_neg (by simpa using h), if_neg h]
theorem up_ext : ∀ (l m : List Int), l.Pairwise (· < ·) → m.Pairwise (· < ·) → (∀ x, x ∈ l ↔ x ∈ m) → l = m
  | [], [], _, _, _ => rfl
  | [], y :: u, _, _, h => by have := (h y).2 List.mem_cons_self; simp at this
  | x :: t, [], _, _, h => by have := (h x).1 List.mem_cons_self; simp at this
  | x :: t, y :: u, hl, hm, h => by
    rw [List.pairwise_cons] at hl hm
    have hx := (h x).1 List.mem_cons_self
    have hy := (h y).2 List.mem_cons_self
    have e : x = y := by
      rcases List.mem_cons.1 hx with hx | hx
      · exact hx
      · rcases List.mem_cons.1 hy with hy | hy
        · exact hy.symm
        · have := hl.1 y hy; have := hm.1 x hx; omega
    subst e
    congr 1
    refine up_ext t u hl.2 hm.2 fun z => ⟨fun hz => ?_, fun hz => ?_⟩
    · rcases List.mem_cons.1 ((h z).1 (List.mem_cons_of_mem _ hz)) with e | hz2
      · have := hl.1 z hz; omega
      · exact hz2
    · rcases List.mem_cons.1 ((h z).2 (List.mem_cons_of_mem _ hz)) with e | hz2
      · have := hm.1 z hz; omega
      · exact hz2
theorem suits_all {l : List Int} (h : Cards l) : suitL l 0 ++ suitL l 1 ++ suitL l 2 ++ suitL l 3 = l := by
  have mem : ∀ (s x : Int), x ∈ suitL l s ↔ x ∈ l ∧ x / 13 = s := fun s x => by simp [suitL]
  refine up_ext _ _ ?_ h.2 (fun x => ?_)
  · have up : ∀ s, (suitL l s).Pairwise (· < ·) := fun s => (suitL_cards h).2
    rw [List.pairwise_append, List.pairwise_append, List.pairwise_append]
    refine ⟨⟨⟨up 0, up 1, ?_⟩, up 2, ?_⟩, up 3, ?_⟩
    · intro a ha b hb; have := ((mem 0 a).1 ha).2; have := ((mem 1 b).1 hb).2; omega
    · intro a ha b hb; have := ((mem 2 b).1 hb).2
      rcases List.mem_append.1 ha with ha | ha
      · have := ((mem 0 a).1 ha).2; omega
      · have := ((mem 1 a).1 ha).2; omega
    · intro a ha b hb; have := ((mem 3 b).1 hb).2
      rcases List.mem_append.1 ha with ha | ha
      · rcases List.mem_append.1 ha with ha | ha
        · have := ((mem 0 a).1 ha).2; omega
        · have := ((mem 1 a).1 ha).2; omega
      · have := ((mem 2 a).1 ha).2; omega
  · simp only [List.mem_append, mem]
    constructor
    · rintro (((h | h) | h) | h) <;> exact h.1
    · intro hx
      have := (h.1 x hx).1; have := (h.1 x hx).2
      have : x / 13 = 0 ∨ x / 13 = 1 ∨ x / 13 = 2 ∨ x / 13 = 3 := by omega
      rcases this with e | e | e | e
      · exact .inl (.inl (.inl ⟨hx, e⟩))
      · exact .inl (.inl (.inr ⟨hx, e⟩))
      · exact .inl (.inr ⟨hx, e⟩)
      · exact .inr ⟨hx, e⟩
theorem with_hand {l : List Int} {x : Int} (h : Hand l) (hx : Card x) (hn : x ∉ l) (h13 : ¬ l.length = 13) : Hand (insL x l) :=
  ⟨by rw [insL_len]; have := h.1; omega, insL_cards h.2 hx hn⟩
end Go.Proofs.Ytoggoimoameklaa.Lem
