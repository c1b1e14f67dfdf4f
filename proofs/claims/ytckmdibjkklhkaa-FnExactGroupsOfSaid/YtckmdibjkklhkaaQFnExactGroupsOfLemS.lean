/- A smaller copy of texts of this seat, made by pack.py for one law. -/
import Derived.Test.YtckmdibjkklhkaaQFnExactGroupsOfLemA
import Derived.Test.YtckmdibjkklhkaaQFnExactGroupsOfLemP
import Derived.Test.YtckmdibjkklhkaaQFnExactGroupsOfLemO
import Derived.Test.YtckmdibjkklhkaaQFnExactGroupsOfLemD1
import Derived.Test.YtckmdibjkklhkaaQFnExactGroupsOfGivK
import Derived.Test.YtckmdibjkklhkaaQFnExactGroupsOfPAllx0
import Derived.Test.YtckmdibjkklhkaaQFnExactGroupsOfPAllx1
import Derived.Test.YtckmdibjkklhkaaQFnExactGroupsOfPAllx3
namespace Go.Proofs.Ytckmdibjkklhkaa.Lem
open Go.RowKit Go.Proofs.Ytckmdibjkklhkaa.PAll Go.Proofs.Ytckmdibjkklhkaa.Base Go.Proofs.YtckmdibjkklhkaaW.PrintWords Go.Proofs.YtckmdibjkklhkaaW.PrintLast Go.Proofs.YtckmdibjkklhkaaW.PrintMore
set_option linter.unusedVariables false
set_option linter.unusedSimpArgs false
theorem szS_eq (l : List Int) (left : Int) (hl : l.length ≤ 9223372036854775807) (h0 : 0 ≤ left) (h1 : left ≤ 1048576) : laws_szInt64S.f l left = some (if left < (l.length : Int) then -1 else left - l.length) := by
  unfold laws_szInt64S.f
  rw [w64 (by omega) (by omega)]
  by_cases h : left < (l.length : Int)
  · rw [if_pos (by omega), if_pos h]
  · rw [if_neg (by omega), if_neg h]
theorem szSS_l0 (d : List (List Int)) (hd : d.length ≤ 9223372036854775806) (hr : ∀ x ∈ d, x.length ≤ 9223372036854775807) : ∀ (t : List (List Int)) (k i : Nat) (left : Int), d.drop i = t → t.length < k → 0 ≤ left → left ≤ 1048576 →
    ∃ s, laws_szInt64SS.l0 k d left (i : Int) = some s ∧ (s < 0 ∨ (0 ≤ s ∧ (total t : Int) = left - s)) := by
  intro t
  induction t with
  | nil =>
    intro k i left ht hk h0 h1
    obtain ⟨k, rfl⟩ := succ_of hk
    have := drop_nil_le ht
    rw [laws_szInt64SS.l0, if_neg (by omega)]
    exact ⟨left, rfl, .inr ⟨h0, by simp [total]⟩⟩
  | cons x t ih =>
    intro k i left ht hk h0 h1
    obtain ⟨hi, hx, ht'⟩ := drop_cons ht ([] : List Int)
    obtain ⟨k, rfl⟩ := succ_of hk
    simp only [List.length_cons] at hk
    have hxm : x ∈ d := by rw [← hx]; exact getD_mem_rows hi
    rw [laws_szInt64SS.l0, if_pos (by omega), if_pos (by omega), rd_row, hx, szS_eq x left (hr x hxm) h0 h1, Option.bind_some, wrap_nat i (by omega)]
    by_cases h : left < (x.length : Int)
    · rw [if_pos h, if_pos (by omega)]; exact ⟨-1, rfl, .inl (by omega)⟩
    · rw [if_neg h, if_neg (by omega)]
      obtain ⟨s, e, hs⟩ := ih k (i + 1) (left - x.length) ht' (by omega) (by omega) (by omega)
      refine ⟨s, e, ?_⟩
      rcases hs with hs | ⟨hs, he⟩
      · exact .inl hs
      · refine .inr ⟨hs, ?_⟩; simp only [total]; omega
theorem szDeal_eq (d : List (List Int)) (hd : d.length ≤ 9223372036854775807) (hr : ∀ x ∈ d, x.length ≤ 9223372036854775807) (k : Nat) (hk : d.length < k) : ∃ s, laws_szDeal.f k d 1048576 = some s ∧ (s < 0 ∨ (0 ≤ s ∧ d.length + total d ≤ 1048576)) := by
  unfold laws_szDeal.f laws_szInt64SS.f
  rw [w64 (by omega) (by omega)]
  by_cases h : (1048576 : Int) - (d.length : Int) < 0
  · rw [if_pos h, Option.bind_some, if_pos (by omega)]; exact ⟨-1, rfl, .inl (by omega)⟩
  · rw [if_neg h]
    obtain ⟨s, e, hs⟩ := szSS_l0 d (by omega) hr d k 0 (1048576 - (d.length : Int)) rfl hk (by omega) (by omega)
    rw [show laws_szInt64SS.l0 k d (1048576 - (d.length : Int)) 0 = some s from e, Option.bind_some]
    rcases hs with hs | ⟨hs, he⟩
    · rw [if_pos hs]; exact ⟨-1, rfl, .inl (by omega)⟩
    · rw [if_neg (by omega)]; exact ⟨s, rfl, .inr ⟨hs, by omega⟩⟩
theorem rows_total {d : List (List Int)} {M : Nat} (h : total d ≤ M) : ∀ x ∈ d, x.length ≤ M := fun x hx => Nat.le_trans (total_ge hx) h
theorem toSS_l0 (d : List (List Int)) (M : Nat) (hr : ∀ x ∈ d, x.length ≤ M) (hM : M ≤ 1048576) (hd : d.length ≤ 1048576) (e : Nat) : ∀ (k i : Nat) (x : List (List Int)), i + e = d.length → e + M + 1 ≤ k → x.length = d.length → x.take i = d.take i →
    laws_toInt64SS.l0 k d x (i : Int) = some d := by
  induction e with
  | zero =>
    intro k i x hi hk hx ht
    obtain ⟨k, rfl⟩ := succ_of (show M < k by omega)
    rw [List.take_of_length_le (by omega), List.take_of_length_le (by omega)] at ht
    rw [laws_toInt64SS.l0, if_neg (by omega), ht]
  | succ e ih =>
    intro k i x hi hk hx ht
    obtain ⟨k, rfl⟩ := succ_of (show M < k by omega)
    have hlt : i < d.length := by omega
    have hrow := row_len hr i
    rw [laws_toInt64SS.l0, if_pos (by omega), if_pos (by omega), rd_row, toInt_eq _ (by omega) k (by omega), Option.bind_some, if_pos (by omega), wrap_nat i (by omega), Int.toNat_natCast]
    refine ih k (i + 1) _ (by omega) (by omega) (by simpa using hx) ?_
    have h1 : i < x.length := by omega
    rw [List.take_add_one, List.take_add_one, List.take_set_of_le (by omega), ht, List.getElem?_set_self h1]
    simp [List.getD, hlt]
theorem toDeal_eq (d : List (List Int)) (M : Nat) (hr : ∀ x ∈ d, x.length ≤ M) (hM : M ≤ 1048576) (hd : d.length ≤ 1048576) (k : Nat) (hk : d.length + M + 1 ≤ k) : laws_toDeal.f k d = some d := by
  unfold laws_toDeal.f laws_toInt64SS.f
  rw [if_pos (by omega), Int.toNat_natCast, if_pos (by omega)]
  rw [show laws_toInt64SS.l0 k d (List.replicate d.length []) 0 = some d from toSS_l0 d M hr hM hd d.length k 0 _ (by omega) hk (by simp) (by simp)]; rfl
theorem eqDeal_eq (a b : List (List Int)) (M : Nat) (hM : ∀ x ∈ a, x.length ≤ M) (hMb : M ≤ 2000000) (hl : a.length ≤ 2000000) (k : Nat) (hk : a.length + M + 1 ≤ k) : laws_eqDeal.f k a b = some (decide (a = b)) := by
  unfold laws_eqDeal.f
  rw [eqSS_eq a b M hM hMb hl k hk, Option.bind_some]
  by_cases h : a = b <;> simp [h]
theorem l03_inner (d : List (List Int)) (h4 : d.length = 4) (s : Nat) (hs : s < 4) (hH : Hand (d.getD s [])) (e : Nat) : ∀ (k i : Nat), i + e = (d.getD s []).length → (seenL d s i).Nodup →
    spec_l03Deal.l1 (k + e + 1) (seenB (seenL d s i)) (s : Int) (i : Int) d = if (seenL d (s + 1) 0).Nodup then spec_l03Deal.l0 k (seenB (seenL d (s + 1) 0)) ((s + 1 : Nat) : Int) d else some false := by
  have hL := hH.1
  induction e with
  | zero =>
    intro k i hi hn
    rw [spec_l03Deal.l1, if_pos (by omega), if_pos (by omega), rd_row, if_neg (by omega), wrap_nat s (by omega)]
    have e1 : i = (d.getD s []).length := by omega
    rw [e1, seenL_next d s (by omega)] at hn
    rw [e1, seenL_next d s (by omega), if_pos hn]
  | succ e ih =>
    intro k i hi hn
    have hlt : i < (d.getD s []).length := by omega
    have hc : Card ((d.getD s []).getD i 0) := hH.2.1 _ (getD_mem hlt)
    have hc0 := hc.1; have hc1 := hc.2
    rw [show k + (e + 1) + 1 = (k + e + 1) + 1 by omega, spec_l03Deal.l1, if_pos (by omega), if_pos (by omega), rd_row, if_pos (by omega), if_pos (by omega), rd_nat, if_pos hc0, if_pos (by rw [seenB_len]; omega)]
    have hg : rdOf false (seenB (seenL d s i)) ((d.getD s []).getD i 0) = decide ((d.getD s []).getD i 0 ∈ seenL d s i) := seenB_get _ _ hc
    rw [hg]
    by_cases hm : (d.getD s []).getD i 0 ∈ seenL d s i
    · have hbad : ¬ (seenL d (s + 1) 0).Nodup := by
        rw [← seenL_next d s (by omega)]
        intro hq
        have hsub : (seenL d s (i + 1)).Sublist (seenL d s (d.getD s []).length) := by
          unfold seenL
          refine List.Sublist.append (List.Sublist.refl _) ?_
          rw [List.take_of_length_le (Nat.le_refl _)]
          exact List.take_sublist _ _
        have := hq.sublist hsub
        rw [seenL_step d s i hlt, List.nodup_append] at this
        exact this.2.2 _ hm _ (List.mem_singleton.2 rfl) rfl
      rw [if_pos (decide_eq_true hm), if_neg hbad]
    · rw [if_neg (by simpa using hm), seenB_set _ _ hc, ← seenL_step d s i hlt, wrap_nat i (by omega)]
      exact ih k (i + 1) (by omega) (seen_nodup_step hlt hn hm)
theorem l03_outer (d : List (List Int)) (M : Nat) (hr : ∀ x ∈ d, x.length ≤ M) (hM : M ≤ 2000000) (h4 : d.length = 4) (e : Nat) : ∀ (k s : Nat), s + e = 4 → 20 * e + M + 5 ≤ k → (seenL d s 0).Nodup → (∀ j, j < s → Hand (d.getD j []) ∧ (d.getD j []).length = (d.getD 0 []).length) →
    spec_l03Deal.l0 k (seenB (seenL d s 0)) (s : Int) d = some (decide (Deal d)) := by
  induction e with
  | zero =>
    intro k s hs hk hn hg
    obtain ⟨k, rfl⟩ := succ_of (show 0 < k by omega)
    have e4 : s = 4 := by omega
    subst e4
    rw [spec_l03Deal.l0, if_neg (by omega), decide_eq_true (deal_of h4 hg hn)]
  | succ e ih =>
    intro k s hs hk hn hg
    have hrow := row_len hr s
    obtain ⟨k, rfl⟩ := succ_of (show 0 < k by omega)
    rw [spec_l03Deal.l0, if_pos (by omega), if_pos (by omega), if_pos (by omega), rd_row, specHand_eq _ (by omega) k (by omega), Option.bind_some]
    obtain ⟨k, rfl⟩ := succ_of (show 0 < k by omega)
    by_cases hH : Hand (d.getD s [])
    · have hL := hH.1
      rw [if_pos (by simpa using hH), if_pos (by omega), spec_l03Deal.j1, show rd_L1 d 0 = d.getD 0 [] from rd_row d 0]
      by_cases hl : (d.getD s []).length = (d.getD 0 []).length
      · rw [if_neg (show ¬ ((((d.getD s []).length : Int) != ((d.getD 0 []).length : Int)) = true) by rw [hl]; simp)]
        obtain ⟨k', rfl⟩ : ∃ k', k = k' + (d.getD s []).length + 1 := ⟨k - (d.getD s []).length - 1, by omega⟩
        rw [show spec_l03Deal.l1 (k' + (d.getD s []).length + 1) (seenB (seenL d s 0)) (s : Int) 0 d = _ from l03_inner d h4 s (by omega) hH (d.getD s []).length k' 0 (by omega) hn]
        by_cases hn2 : (seenL d (s + 1) 0).Nodup
        · rw [if_pos hn2]
          refine ih k' (s + 1) (by omega) (by omega) hn2 fun j hj => ?_
          by_cases ej : j = s
          · subst ej; exact ⟨hH, hl⟩
          · exact hg j (by omega)
        · rw [if_neg hn2, decide_eq_false]
          intro hd
          refine hn2 (hd.2.2.sublist ?_)
          rw [← seenL_next d s (by omega)]
          exact seenL_pre d s _ (by omega)
      · rw [if_pos (show (((d.getD s []).length : Int) != ((d.getD 0 []).length : Int)) = true by rw [bne_iff_ne]; omega), decide_eq_false (not_deal_hand (s := s) (by omega) (fun h => hl h.2))]
    · rw [if_neg (by simpa using hH), spec_l03Deal.j1, if_pos rfl, decide_eq_false (not_deal_hand (s := s) (by omega) (fun h => hH h.1))]
theorem l03Deal_eq (d : List (List Int)) (M : Nat) (hr : ∀ x ∈ d, x.length ≤ M) (hM : M ≤ 2000000) (k : Nat) (hk : M + 100 ≤ k) : spec_l03Deal.f k d = some (decide (Deal d)) := by
  unfold spec_l03Deal.f
  by_cases h4 : d.length = 4
  · rw [if_pos (by omega), if_pos (by decide), ← seenB_nil]
    have := l03_outer d M hr hM h4 4 k 0 (by omega) (by omega) (by simp [seenL]) (fun j hj => by omega)
    rw [show seenL d 0 0 = [] by simp [seenL]] at this
    exact this
  · rw [if_neg (by omega), decide_eq_false (fun h => h4 h.1)]
theorem implDeal_eq (d : List (List Int)) (hr : ∀ x ∈ d, x.length ≤ 2000000) : impl_IsDeal.f d = some (decide (Deal d)) := by unfold impl_IsDeal.f; rw [if_pos hr]
theorem specHolder_l0 (d : List (List Int)) (M : Nat) (hr : ∀ x ∈ d, x.length ≤ M) (hM : M ≤ 2000000) (hd : d.length ≤ 2000000) (c : Int) : ∀ (t : List (List Int)) (k i : Nat), d.drop i = t → t.length + M + 1 ≤ k → spec_l03Holder.l0 k c (i : Int) d = some (holdF c t i) := by
  intro t
  induction t with
  | nil =>
    intro k i ht hk
    obtain ⟨k, rfl⟩ := succ_of (show M < k by omega)
    have := drop_nil_le ht
    rw [spec_l03Holder.l0, if_neg (by omega)]; rfl
  | cons x t ih =>
    intro k i ht hk
    obtain ⟨hi, hx, ht'⟩ := drop_cons ht ([] : List Int)
    simp only [List.length_cons] at hk
    obtain ⟨k, rfl⟩ := succ_of (show M < k by omega)
    have hxm : x.length ≤ M := by rw [← hx]; exact row_len hr i
    rw [spec_l03Holder.l0, if_pos (by omega), if_pos (by omega), rd_row, hx, has_eq x (by omega) c k (by omega), Option.bind_some, wrap_nat i (by omega)]
    simp only [holdF]
    by_cases h : c ∈ x
    · rw [if_pos (by simpa using h), if_pos h]
    · rw [if_neg (by simpa using h), if_neg h, ih k (i + 1) ht' (by omega)]
theorem specHolder_eq (d : List (List Int)) (M : Nat) (hr : ∀ x ∈ d, x.length ≤ M) (hM : M ≤ 2000000) (hd : d.length ≤ 2000000) (c : Int) (k : Nat) (hk : d.length + M + 1 ≤ k) : spec_l03Holder.f k d c = some (holderL d c) := by
  unfold spec_l03Holder.f holderL
  exact specHolder_l0 d M hr hM hd c d k 0 rfl hk
end Go.Proofs.Ytckmdibjkklhkaa.Lem
