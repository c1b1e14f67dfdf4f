/- A smaller copy of a text of this seat, made by pack.py for one law. -/
import Derived.Test.YtoggoimoameklaaQFnSubsetsLemJ
import Derived.Test.YtoggoimoameklaaQFnSubsetsLemG
import Derived.Test.YtoggoimoameklaaQFnSubsetsLemB
import Derived.Test.YtoggoimoameklaaQFnSubsetsPAllx11
import Derived.Test.YtoggoimoameklaaQFnSubsetsPAllx29
namespace Go.Proofs.Ytoggoimoameklaa.Lem
open Go.RowKit Go.Proofs.Ytoggoimoameklaa.PAll Go.Proofs.Ytoggoimoameklaa.Base Go.Proofs.YtoggoimoameklaaW.PrintWords Go.Proofs.YtoggoimoameklaaW.PrintLast Go.Proofs.YtoggoimoameklaaW.PrintMore
set_option linter.unusedVariables false
set_option linter.unusedSimpArgs false
theorem sub_of : ∀ (l s : List Int), Cards l → Cards s → (∀ x ∈ s, x ∈ l) → s.Sublist l
  | [], [], _, _, _ => List.Sublist.slnil
  | [], y :: u, _, _, h => by have := h y (by simp); simp at this
  | x :: t, [], _, _, _ => List.nil_sublist _
  | x :: t, y :: u, hl, hs, h => by
    have hl2 := List.pairwise_cons.mp hl.2
    have hs2 := List.pairwise_cons.mp hs.2
    by_cases e : y = x
    · subst e
      refine (sub_of t u (cards_tail hl) (cards_tail hs) fun z hz => ?_).cons_cons y
      have := hs2.1 z hz
      rcases List.mem_cons.mp (h z (by simp [hz])) with rfl | h3
      · omega
      · exact h3
    · have hy : y ∈ t := by rcases List.mem_cons.mp (h y (by simp)) with h3 | h3; exact absurd h3 e; exact h3
      have hxy := hl2.1 y hy
      refine (sub_of t (y :: u) (cards_tail hl) hs fun z hz => ?_).cons x
      rcases List.mem_cons.mp (h z hz) with rfl | h3
      · rcases List.mem_cons.mp hz with rfl | h4
        · exact absurd rfl e
        · have := hs2.1 z h4; omega
      · exact h3
theorem rank_lt : ∀ (l s : List Int), s.Sublist l → l.Nodup → rankL l s < ch l.length s.length
  | [], s, h, _ => by have := List.eq_nil_of_sublist_nil h; subst this; simp [rankL, ch]
  | x :: t, [], h, _ => by simp [rankL, ch_zero]
  | x :: t, y :: u, h, hn => by
    have hn2 := List.nodup_cons.mp hn
    simp only [rankL, List.length_cons, ch_succ]
    by_cases e : x = y
    · subst e
      rw [if_pos rfl]
      have := rank_lt t u (List.cons_sublist_cons.mp h) hn2.2
      omega
    · rw [if_neg e]
      have h2 : (y :: u).Sublist t := by
        cases h with
        | cons _ h => exact h
        | cons_cons _ h => exact absurd rfl e
      have := rank_lt t (y :: u) h2 hn2.2
      rw [List.length_cons] at this
      omega
theorem unrank_rank : ∀ (l s : List Int), s.Sublist l → l.Nodup → unrankL l s.length (rankL l s : Int) = s
  | [], s, h, _ => by have := List.eq_nil_of_sublist_nil h; subst this; rfl
  | x :: t, [], h, _ => rfl
  | x :: t, y :: u, h, hn => by
    have hn2 := List.nodup_cons.mp hn
    simp only [rankL, List.length_cons, unrankL]
    by_cases e : x = y
    · subst e
      have h2 := List.cons_sublist_cons.mp h
      have := rank_lt t u h2 hn2.2
      rw [if_pos rfl, if_pos (by omega), unrank_rank t u h2 hn2.2]
    · have h2 : (y :: u).Sublist t := by
        cases h with
        | cons _ h => exact h
        | cons_cons _ h => exact absurd rfl e
      have := unrank_rank t (y :: u) h2 hn2.2
      rw [List.length_cons] at this
      rw [if_neg e, if_neg (by omega), show ((ch t.length u.length + rankL t (y :: u) : Nat) : Int) - (ch t.length u.length : Int) = (rankL t (y :: u) : Int) by omega, this]
theorem rank_unrank : ∀ (l : List Int) (k m : Nat), l.Nodup → m < ch l.length k → (unrankL l k (m : Int)).Sublist l ∧ (unrankL l k (m : Int)).length = k ∧ rankL l (unrankL l k (m : Int)) = m
  | [], 0, m, _, h => by simp [ch] at h; subst h; simp [unrankL, rankL]
  | [], k + 1, m, _, h => by simp [ch] at h
  | x :: t, 0, m, _, h => by simp [ch_zero] at h; subst h; simp [unrankL, rankL]
  | x :: t, k + 1, m, hn, h => by
    have hn2 := List.nodup_cons.mp hn
    simp only [List.length_cons, ch_succ] at h
    simp only [unrankL]
    by_cases e : m < ch t.length k
    · obtain ⟨a, b, c⟩ := rank_unrank t k m hn2.2 e
      rw [if_pos (by omega)]
      exact ⟨a.cons_cons x, by simp [b], by simp [rankL, c]⟩
    · obtain ⟨a, b, c⟩ := rank_unrank t (k + 1) (m - ch t.length k) hn2.2 (by omega)
      rw [if_neg (by omega), show (m : Int) - (ch t.length k : Int) = ((m - ch t.length k : Nat) : Int) by omega]
      refine ⟨a.cons x, b, ?_⟩
      generalize unrankL t (k + 1) ((m - ch t.length k : Nat) : Int) = T at *
      cases T with
      | nil => simp at b
      | cons y u =>
        have hne : x ≠ y := fun e2 => hn2.1 (a.subset (by simp [e2]))
        simp only [List.length_cons] at b
        simp only [rankL]
        rw [if_neg hne, c, show u.length = k by omega]
        omega
theorem drawCard_eq {l : List Int} {a s : Int} (S : Src l a s) : ∃ c a' s', spec_l01DrawCard.f l a s = some (c, a', s') ∧ Src l a' s' := by
  unfold spec_l01DrawCard.f
  obtain ⟨r, a1, s1, e, S1, r0, r1⟩ := next_eq S 16
  rw [e]; simp only [Option.bind_some]
  by_cases c : r = 0
  · obtain ⟨q, a2, s2, e2, S2, q0, q1⟩ := next_eq S1 4
    have q2 := q1 (by omega)
    rw [if_pos c, e2]; simp only [Option.bind_some]
    rw [if_pos q0, if_pos (by simpa using q2)]
    exact ⟨_, _, _, rfl, S2⟩
  · obtain ⟨q, a2, s2, e2, S2, q0, q1⟩ := next_eq S1 52
    rw [if_neg c, e2]; simp only [Option.bind_some]
    exact ⟨_, _, _, rfl, S2⟩
theorem drawList_eq {l : List Int} {a s : Int} (S : Src l a s) (k : Nat) (hk : 1600 ≤ k) : ∃ y a' s', spec_l04DrawList.f k l a s = some (y, a', s') ∧ Src l a' s' ∧ y.length ≤ 52 := by
  unfold spec_l04DrawList.f
  obtain ⟨x, a1, s1, e1, S1, h1⟩ := shuffled_eq S k (by omega)
  rw [e1]; simp only [Option.bind_some]
  obtain ⟨n, a2, s2, e2, S2, n0, n1⟩ := next_eq S1 14
  have n2 := n1 (by omega)
  rw [e2]; simp only [Option.bind_some]
  rw [if_pos n0, if_pos (by omega)]
  have hl : (x.take n.toNat).length ≤ 13 := by rw [List.length_take]; omega
  rw [sorted_eq _ (by omega) k (by omega), Option.bind_some]
  obtain ⟨r, a3, s3, e3, S3, r0, r1⟩ := next_eq S2 20
  rw [e3]; simp only [Option.bind_some]
  have hsl : (sortedL (x.take n.toNat)).length ≤ 13 := by rw [sortedL_len]; exact hl
  by_cases c0 : r = 0
  · rw [if_pos c0, if_pos (by omega)]; exact ⟨_, _, _, rfl, S3, by simp at hsl ⊢; omega⟩
  · rw [if_neg c0]
    by_cases c1 : r = 1
    · rw [if_pos c1, if_pos (by simp at hsl ⊢; omega)]; exact ⟨_, _, _, rfl, S3, by simp at hsl ⊢; omega⟩
    · rw [if_neg c1]
      by_cases c2 : r = 2
      · rw [if_pos c2, l04All_eq k (by omega), Option.bind_some]; exact ⟨_, _, _, rfl, S3, by rw [allL_len]; omega⟩
      · rw [if_neg c2]; exact ⟨_, _, _, rfl, S3, by omega⟩
theorem drawSub_l0 (l x : List Int) (hx : x.length ≤ 52) : ∀ (d k i : Nat) (o : List Int) (a s : Int), Src l a s → i + d = x.length → d < k → o.length ≤ i →
    ∃ y a' s', spec_l04DrawSubset.l0 k x o (i : Int) l a s = some (y, a', s') ∧ Src l a' s' ∧ y.length ≤ 53
  | 0, k, i, o, a, s, S, hd, hk, ho => by
    obtain ⟨k, rfl⟩ := succ_of hk
    rw [spec_l04DrawSubset.l0, if_neg (by omega)]
    obtain ⟨r, a1, s1, e1, S1, r0, r1⟩ := next_eq S 16
    rw [e1]; simp only [Option.bind_some]
    by_cases c : r = 0
    · obtain ⟨z, a2, s2, e2, S2⟩ := drawCard_eq S1
      rw [if_pos c, e2]; simp only [Option.bind_some]
      rw [if_pos (by omega)]; exact ⟨_, _, _, rfl, S2, by simp; omega⟩
    · rw [if_neg c]; exact ⟨_, _, _, rfl, S1, by omega⟩
  | d + 1, k, i, o, a, s, S, hd, hk, ho => by
    obtain ⟨k, rfl⟩ := succ_of hk
    rw [spec_l04DrawSubset.l0, if_pos (by omega)]
    obtain ⟨r, a1, s1, e1, S1, r0, r1⟩ := next_eq S 2
    rw [e1]; simp only [Option.bind_some]
    by_cases c : r = 0
    · rw [if_pos c, if_pos (by omega), if_pos (by omega), wrap_nat i (by omega)]
      exact drawSub_l0 l x hx d k (i + 1) _ a1 s1 S1 (by omega) (by omega) (by simp; omega)
    · rw [if_neg c, wrap_nat i (by omega)]
      exact drawSub_l0 l x hx d k (i + 1) _ a1 s1 S1 (by omega) (by omega) (by omega)
theorem drawRank (l : List Int) (hb : Bytes l) (k : Nat) (hk : l.length + 1700 ≤ k) : ∃ x y, spec_DrawRankSubset.f k l = some (x, y) ∧ x.length ≤ 52 ∧ y.length ≤ 53 := by
  unfold spec_DrawRankSubset.f
  obtain ⟨s, e, S⟩ := from_eq l hb k (by omega)
  rw [e]; simp only [Option.bind_some]
  obtain ⟨x, a1, s1, e1, S1, hx⟩ := drawList_eq S k (by omega)
  rw [e1]; simp only [Option.bind_some]
  unfold spec_l04DrawSubset.f
  obtain ⟨y, a2, s2, e2, S2, hy⟩ := drawSub_l0 l x hx x.length k 0 [] a1 s1 S1 (by omega) (by omega) (by simp)
  rw [show ((0 : Nat) : Int) = 0 from rfl] at e2
  rw [e2]; simp only [Option.bind_some]
  exact ⟨x, y, rfl, hx, hy⟩
theorem like_l0 (a : List Int) (hl : a.length ≤ 1000000) (d : Nat) : ∀ (k i : Nat), i + d = a.length → d < k → laws_likeInts.l0 k a a (i : Int) = some true := by
  induction d with
  | zero =>
    intro k i hd hk
    obtain ⟨k, rfl⟩ := succ_of hk
    rw [laws_likeInts.l0, if_neg (by omega)]
  | succ d ih =>
    intro k i hd hk
    obtain ⟨k, rfl⟩ := succ_of hk
    rw [laws_likeInts.l0, if_pos (by omega), if_pos (by omega), if_pos (by omega), if_pos rfl, wrap_nat i (by omega), ih k (i + 1) (by omega) (by omega)]
theorem like_same (a : List Int) (hl : a.length ≤ 1000000) (k : Nat) (hk : a.length < k) : laws_likeInts.f k a a = some true := by
  unfold laws_likeInts.f
  rw [if_pos rfl]
  exact like_l0 a hl a.length k 0 (by omega) hk
end Go.Proofs.Ytoggoimoameklaa.Lem
