/- A smaller copy of texts of this seat, made by pack.py for one law. -/
import Derived.Test.YtckmdibjkklhkaaQFnExactGroupsOfLemW
import Derived.Test.YtckmdibjkklhkaaQFnExactGroupsOfLemO
import Derived.Test.YtckmdibjkklhkaaQFnExactGroupsOfLemA
import Derived.Test.YtckmdibjkklhkaaQFnExactGroupsOfLemD2
import Derived.Test.YtckmdibjkklhkaaQFnExactGroupsOfLemD
import Derived.Test.YtckmdibjkklhkaaQFnExactGroupsOfPAllx17
import Derived.Test.YtckmdibjkklhkaaQFnExactGroupsOfPAllx29
import Derived.Test.YtckmdibjkklhkaaQFnExactGroupsOfPAllx27
import Derived.Test.YtckmdibjkklhkaaQFnExactGroupsOfPAllx28
import Derived.Test.YtckmdibjkklhkaaQFnExactGroupsOfPAllx31
import Derived.Test.YtckmdibjkklhkaaQFnExactGroupsOfPAllx32
namespace Go.Proofs.Ytckmdibjkklhkaa.Lem
open Go.RowKit Go.Proofs.Ytckmdibjkklhkaa.PAll Go.Proofs.Ytckmdibjkklhkaa.Base Go.Proofs.YtckmdibjkklhkaaW.PrintWords Go.Proofs.YtckmdibjkklhkaaW.PrintLast Go.Proofs.YtckmdibjkklhkaaW.PrintMore
set_option linter.unusedVariables false
set_option linter.unusedSimpArgs false
theorem holdF_at (c : Int) : ∀ (d : List (List Int)) (i j : Nat), d.flatten.Nodup → c ∈ d.getD j [] → holdF c d i = ((i + j : Nat) : Int)
  | [], i, j, _, h => by simp at h
  | x :: t, i, 0, _, h => by simp only [holdF]; rw [if_pos (by simpa using h)]; simp
  | x :: t, i, j + 1, hn, h => by
    rw [List.getD_cons_succ] at h
    rw [List.flatten_cons, List.nodup_append] at hn
    have hj : j < t.length := by
      by_cases hj : j < t.length
      · exact hj
      · rw [List.getD, List.getElem?_eq_none (by omega)] at h; simp at h
    have hc : c ∉ x := fun hx => hn.2.2 c hx c (List.mem_flatten.2 ⟨_, getD_mem_rows hj, h⟩) rfl
    simp only [holdF]
    rw [if_neg hc, holdF_at c t (i + 1) j hn.2.1 h]; omega
theorem holder_at {d : List (List Int)} (h : Deal d) (c : Int) (j : Nat) : c ∈ d.getD j [] ↔ holderL d c = (j : Int) := by
  constructor
  · intro hc; unfold holderL; rw [holdF_at c d 0 j h.2.2 hc]; omega
  · intro hc
    have := holdF_is c d 0 (by unfold holderL at hc; omega)
    unfold holderL at hc
    rw [hc] at this
    simpa using this
theorem hand_up {d : List (List Int)} (h : Deal d) (j : Nat) (hj : j < 4) : d.getD j [] = (upL (holderL d) 52).filter fun c => decide (holderL d c = (j : Int)) := by
  have hH := (h.2.1 _ (getD_mem_rows (show j < d.length by rw [h.1]; exact hj))).1
  rw [up_cards]
  refine up_ext _ _ hH.2.2 ((allL_cards.2.sublist List.filter_sublist).sublist List.filter_sublist) fun x => ?_
  rw [List.mem_filter, cardsL, List.mem_filter, mem_allL, holder_at h]
  constructor
  · intro e; exact ⟨⟨hH.2.1 x ((holder_at h x j).2 e), decide_eq_true (by omega)⟩, decide_eq_true e⟩
  · intro e; exact of_decide_eq_true e.2
theorem held_card {d : List (List Int)} (h : Deal d) {c : Int} (hc : 0 ≤ holderL d c) : Card c := deal_cards h c ((holdF_mem c d 0).1 hc)
theorem held_none {d : List (List Int)} (h : Deal d) : holderL d (-1) < 0 := by
  by_cases e : 0 ≤ holderL d (-1)
  · have := (held_card h e).1; omega
  · omega
theorem grps_len (h : Int → Int) (s : Int) : ∀ (B : List Int) (p : Int), (grps h s p B).length ≤ B.length
  | [], p => by simp [grps]
  | c :: B, p => by have := grps_len h s B c; simp only [grps]; split <;> simp <;> omega
theorem grps_rows (h : Int → Int) (s : Int) : ∀ (B : List Int) (p : Int), ∀ g ∈ grps h s p B, g.length ≤ B.length
  | [], p, g, hg => by simp [grps] at hg
  | c :: B, p, g, hg => by
    simp only [grps] at hg
    split at hg
    · rcases List.mem_cons.1 hg with rfl | hg
      · have := tw_len (lk h s (c / 13)) B; simp; omega
      · have := grps_rows h s B c g hg; simp; omega
    · have := grps_rows h s B c g hg; simp; omega
theorem specGroups_l0 (d : List (List Int)) (M : Nat) (hr : ∀ x ∈ d, x.length ≤ M) (hM : M ≤ 2000000) (h : Deal d) (s : Nat) (hs : s < 4) : ∀ (e k i : Nat) (o : List (List Int)), e ≤ 52 → (d.getD s []).drop i = (upL (holderL d) e).filter (fun c => decide (holderL d c = (s : Int))) → e + 2 * M + 600 ≤ k → o.length + e ≤ 1000 → i + e ≤ 1000 + M →
    spec_GroupsOf.l0 k (s : Int) o (i : Int) d = some (o ++ grps (holderL d) (s : Int) (lastB (holderL d) (52 - e)) (upL (holderL d) e), 0) := by
  have h4 := h.1
  have hrow := row_len hr s
  intro e
  induction e with
  | zero =>
    intro k i o he ht hk ho hi
    obtain ⟨k, rfl⟩ := succ_of (show 0 < k by omega)
    have := drop_nil_le ht
    rw [spec_GroupsOf.l0, if_pos (by omega), if_pos (by omega), rd_row, if_neg (by omega)]; simp [upL, grps]
  | succ e ih =>
    intro k i o he ht hk ho hi
    have em : (51 : Int) - (e : Int) = ((51 - e : Nat) : Int) := by omega
    have en : 52 - e = (51 - e) + 1 := by omega
    have en2 : 52 - (e + 1) = 51 - e := by omega
    have hup : upL (holderL d) (e + 1) = if 0 ≤ holderL d ((51 - e : Nat) : Int) then ((51 - e : Nat) : Int) :: upL (holderL d) e else upL (holderL d) e := by simp only [upL]; rw [em]
    have hce : 51 - (51 - e) = e := by omega
    rw [en2]
    rw [en] at ih
    generalize hc : 51 - e = c at *
    by_cases h0 : 0 ≤ holderL d (c : Int)
    · rw [if_pos h0] at hup
      rw [lastB_yes h0] at ih
      rw [hup] at ht ⊢
      rw [List.filter_cons] at ht
      simp only [grps]
      by_cases hcs : holderL d (c : Int) = (s : Int)
      · rw [if_pos (decide_eq_true hcs)] at ht
        obtain ⟨k, rfl⟩ := succ_of (show 0 < k by omega)
        obtain ⟨hi1, hx, ht'⟩ := drop_cons ht (0 : Int)
        rw [spec_GroupsOf.l0, if_pos (by omega), if_pos (by omega), rd_row, if_pos (by omega), if_pos (by omega), rd_nat, hx, group_eq d M hr hM (by omega) c (by omega) h0 k (by omega), Option.bind_some, hcs, wrap_nat i (by omega)]
        have hg : 0 < ((grp (holderL d) (s : Int) c).length : Int) := by unfold grp; simp; omega
        rw [if_pos hg]
        by_cases hl : lk (holderL d) (s : Int) ((c : Int) / 13) (lastB (holderL d) c) = false
        · have e1 := tw_lastB (holderL d) (s : Int) c _ (by omega) hl
          have eg : grp (holderL d) (s : Int) c = (c : Int) :: (upL (holderL d) e).takeWhile (lk (holderL d) (s : Int) ((c : Int) / 13)) := by
            unfold grp; rw [e1, hce]; rfl
          rw [eg, if_pos (by rfl), if_pos (by omega), if_pos ⟨rfl, hl⟩, ih k (i + 1) _ (by omega) ht' (by omega) (by simp; omega) (by omega)]; simp
        · obtain ⟨l, e1, e2⟩ := tw_lastB' (holderL d) (s : Int) c ((c : Int) / 13) (by omega) (by simpa using hl)
          have hne : rd (grp (holderL d) (s : Int) c) 0 ≠ (c : Int) := by
            unfold grp; rw [e1]
            have hmem : ∀ y ∈ (lastB (holderL d) c :: l), y < (c : Int) := fun y hy => (dn_mem _ _ _ (((List.takeWhile_sublist _).mem (by rw [e1]; exact hy)))).2.1
            show ((lastB (holderL d) c :: l).reverse ++ _).getD 0 0 ≠ _
            cases hrv : (lastB (holderL d) c :: l).reverse with
            | nil => simp at hrv
            | cons y u =>
              have := hmem y (List.mem_reverse.1 (by rw [hrv]; exact List.mem_cons_self))
              simp only [List.cons_append, List.getD_cons_zero]; omega
          rw [if_neg hne, if_neg fun h => hl h.2, ih k (i + 1) o (by omega) ht' (by omega) (by omega) (by omega)]
      · rw [if_neg (by simpa using hcs)] at ht
        rw [if_neg fun h => hcs h.1]
        exact ih k i o (by omega) ht (by omega) (by omega) (by omega)
    · rw [if_neg h0] at hup
      rw [lastB_no h0] at ih
      rw [hup] at ht ⊢
      exact ih k i o (by omega) ht (by omega) (by omega) (by omega)
def groupsL (d : List (List Int)) (s : Int) : List (List Int) × Int := if Deal d then (if 0 ≤ s ∧ s ≤ 3 then (grps (holderL d) s (-1) (upL (holderL d) 52), 0) else ([], 2)) else ([], 1)
theorem specGroups_eq (d : List (List Int)) (hr : ∀ x ∈ d, x.length ≤ 1048576) (s : Int) (k : Nat) (hk : 2 * 1048576 + 700 ≤ k) : spec_GroupsOf.f k d s = some (groupsL d s) := by
  unfold spec_GroupsOf.f groupsL
  rw [Option.bind_some, l03Deal_eq d 1048576 hr (by omega) _ (by omega), Option.bind_some]
  by_cases h : Deal d
  · rw [if_pos (by simpa using h), if_pos h, l01In_eq, Option.bind_some]
    by_cases hs : 0 ≤ s ∧ s ≤ 3
    · obtain ⟨n, rfl⟩ : ∃ n : Nat, s = n := ⟨s.toNat, by omega⟩
      rw [if_pos (by simpa using hs), if_pos hs]
      exact (specGroups_l0 d 1048576 hr (by omega) h n (by omega) 52 k 0 [] (by omega) (hand_up h n (by omega)) (by omega) (by simp) (by omega)).trans (by simp [lastB, dnL])
    · rw [if_neg (by simpa using hs), if_neg hs]
  · rw [if_neg (by simpa using h), if_neg h]
theorem idxL_at (x : Int) (B : List Int) : ∀ (A : List Int) (i : Nat), x ∉ A → idxL (A ++ x :: B) x i = ((i + A.length : Nat) : Int)
  | [], i, _ => by simp [idxL, run]
  | y :: A, i, h => by
    have h1 : x ≠ y := fun e => h (by rw [e]; exact List.mem_cons_self)
    have ih := idxL_at x B A (i + 1) fun hx => h (List.mem_cons_of_mem _ hx)
    simp only [idxL] at ih
    simp only [idxL, List.cons_append, run]
    rw [if_neg h1]; simp only
    rw [show ((i + 1 : Nat) : Int) = (i : Int) + 1 by omega] at ih
    rw [ih]; simp; omega
def Exp (h : Int → Int) (s p : Int) (o : List (List Int)) (B : List Int) (R : List (List Int)) : Prop :=
  (h p ≠ s ∧ R = o ++ grps h s p B) ∨ (h p = s ∧ ∃ o' L, o = o' ++ [L] ∧ R = o' ++ (L ++ B.takeWhile (lk h s (p / 13))) :: grps h s p B)
theorem exp_end {h : Int → Int} {s p : Int} {o R : List (List Int)} (E : Exp h s p o [] R) : R = o := by
  rcases E with ⟨_, e⟩ | ⟨_, o', L, e1, e2⟩
  · simpa [grps] using e
  · rw [e2, e1]; simp [grps]
theorem exp_skip {h : Int → Int} {s p m : Int} {o R : List (List Int)} {B : List Int} (E : Exp h s p o (m :: B) R) (hm : h m ≠ s) : Exp h s m o B R := by
  have e0 : grps h s p (m :: B) = grps h s m B := by simp only [grps]; rw [if_neg fun e => hm e.1]
  rcases E with ⟨_, e⟩ | ⟨_, o', L, e1, e2⟩
  · exact .inl ⟨hm, by rw [e, e0]⟩
  · refine .inl ⟨hm, ?_⟩
    rw [e2, e1, e0, List.takeWhile_cons, if_neg (by simp [lk, hm])]; simp
theorem exp_new {h : Int → Int} {s p m : Int} {o R : List (List Int)} {B : List Int} (E : Exp h s p o (m :: B) R) (hm : h m = s) (hl : lk h s (m / 13) p = false) : Exp h s m (o ++ [[m]]) B R := by
  have e0 : grps h s p (m :: B) = (m :: B.takeWhile (lk h s (m / 13))) :: grps h s m B := by simp only [grps]; rw [if_pos ⟨hm, hl⟩]
  refine .inr ⟨hm, o, [m], rfl, ?_⟩
  rcases E with ⟨_, e⟩ | ⟨hp, o', L, e1, e2⟩
  · rw [e, e0]; rfl
  · have : m / 13 ≠ p / 13 := fun e => by have := of_decide_eq_false hl; exact this ⟨hp, e.symm⟩
    rw [e2, e1, e0, List.takeWhile_cons, if_neg (by simp [lk, this])]; simp
theorem exp_more {h : Int → Int} {s p m : Int} {o R : List (List Int)} {B : List Int} (E : Exp h s p o (m :: B) R) (hm : h m = s) (hl : lk h s (m / 13) p = true) : ∃ o' L, o = o' ++ [L] ∧ Exp h s m (o' ++ [L ++ [m]]) B R := by
  have hl' := of_decide_eq_true hl
  have e0 : grps h s p (m :: B) = grps h s m B := by simp only [grps]; rw [if_neg fun e => by rw [hl] at e; exact absurd e.2 (by simp)]
  rcases E with ⟨hp, e⟩ | ⟨hp, o', L, e1, e2⟩
  · exact absurd hl'.1 hp
  · refine ⟨o', L, e1, .inr ⟨hm, o', L ++ [m], rfl, ?_⟩⟩
    rw [e2, e0, hl'.2, List.takeWhile_cons, if_pos (show lk h s (m / 13) m = true from decide_eq_true ⟨hm, rfl⟩)]; simp
theorem last_ne (h : Int → Int) (n : Nat) : (dnL h n = [] ∧ lastB h n = -1) ∨ ∃ l, dnL h n = lastB h n :: l ∧ Card (lastB h n) ∨ 52 < n := by
  unfold lastB
  have hm := fun x => dn_mem h x n
  cases hd : dnL h n with
  | nil => exact .inl ⟨rfl, rfl⟩
  | cons x l =>
    have := hm x (by rw [hd]; exact List.mem_cons_self)
    refine .inr ⟨l, ?_⟩
    by_cases hn : 52 < n
    · exact .inr hn
    · exact .inl ⟨rfl, this.1, by show x ≤ 51; omega⟩
theorem implGroups_l0 (d : List (List Int)) (M : Nat) (hr : ∀ x ∈ d, x.length ≤ M) (hM : M ≤ 2000000) (h : Deal d) (s : Nat) (hs : s < 4) (R : List (List Int)) : ∀ (e k : Nat) (o : List (List Int)) (last : Int), e ≤ 52 → e + M + 100 ≤ k → o.length + e ≤ 52 → (∀ g ∈ o, g.length + e ≤ 52) →
    (last = -1 ∨ Card last ∧ dnL (holderL d) (52 - e) ≠ []) → (holderL d (lastB (holderL d) (52 - e)) = (s : Int) → last = lastB (holderL d) (52 - e)) → (last ≠ -1 → last = lastB (holderL d) (52 - e) → holderL d (lastB (holderL d) (52 - e)) = (s : Int)) → last < 52 - (e : Int) →
    Exp (holderL d) (s : Int) (lastB (holderL d) (52 - e)) o (upL (holderL d) e) R →
    impl_groupsOf.l0 k d (s : Int) o (cardsL d) last (cardsL d) ((cardsL d).length : Int) ((dnL (holderL d) (52 - e)).length : Int) = some R := by
  have h4 := h.1
  have hrow := row_len hr s
  have hall := split_at (holderL d)
  rw [up_cards] at hall
  have hcl := cardsL_len d
  intro e
  induction e with
  | zero =>
    intro k o last he hk ho hg hl1 hl2 hl3 hl4 E
    obtain ⟨k, rfl⟩ := succ_of (show 0 < k by omega)
    rw [exp_end E]
    have := congrArg List.length (hall 52 (by omega))
    simp [upL] at this
    rw [impl_groupsOf.l0, if_neg (by simp; omega)]
  | succ e ih =>
    intro k o last he hk ho hg hl1 hl2 hl3 hl4 E
    have em : (51 : Int) - (e : Int) = ((51 - e : Nat) : Int) := by omega
    have en : 52 - e = (51 - e) + 1 := by omega
    have en2 : 52 - (e + 1) = 51 - e := by omega
    have hup : upL (holderL d) (e + 1) = if 0 ≤ holderL d ((51 - e : Nat) : Int) then ((51 - e : Nat) : Int) :: upL (holderL d) e else upL (holderL d) e := by simp only [upL]; rw [em]
    have hsp := hall (51 - e) (by omega)
    rw [show 52 - (51 - e) = e + 1 by omega] at hsp
    have hce : (((51 - e : Nat) : Int)) = 51 - (e : Int) := by omega
    have hdnl := dn_len (holderL d) (51 - e)
    rw [en2] at hl1 hl2 hl3 E ⊢
    rw [en] at ih
    generalize hc : 51 - e = c at *
    by_cases h0 : 0 ≤ holderL d (c : Int)
    · rw [if_pos h0] at hup
      rw [lastB_yes h0] at ih
      rw [hup] at hsp E
      have hdn : dnL (holderL d) (c + 1) = (c : Int) :: dnL (holderL d) c := by simp only [dnL]; rw [if_pos h0]
      rw [hdn] at ih
      obtain ⟨k, rfl⟩ := succ_of (show 0 < k by omega)
      have hlen : (cardsL d).length = (dnL (holderL d) c).length + (upL (holderL d) e).length + 1 := by rw [hsp]; simp; omega
      have hrd : rd (cardsL d) ((dnL (holderL d) c).length : Int) = (c : Int) := by rw [rd_nat, hsp]; simp
      have hcard : Card (c : Int) := ⟨by omega, by omega⟩
      have hni : ((dnL (holderL d) c).length : Int) + 1 = ((((c : Int) :: dnL (holderL d) c).length : Nat) : Int) := by simp
      have hadd : holderL d (c : Int) = (s : Int) → lk (holderL d) (s : Int) ((c : Int) / 13) (lastB (holderL d) c) = false → impl_groupsOf.l0 k d (s : Int) (o ++ [[(c : Int)]]) (cardsL d) (c : Int) (cardsL d) ((cardsL d).length : Int) ((((c : Int) :: dnL (holderL d) c).length : Nat) : Int) = some R := by
        intro hcs hlk
        refine ih k _ _ (by omega) (by omega) (by simp; omega) ?_ (.inr ⟨hcard, by simp⟩) (fun _ => rfl) (fun _ _ => hcs) (by omega) (exp_new E hcs hlk)
        intro g hg'
        rcases List.mem_append.1 hg' with hg' | hg'
        · have := hg g hg'; omega
        · simp at hg'; rw [hg']; simp; omega
      rw [impl_groupsOf.l0, if_pos (by omega), if_pos (by omega), if_pos (by omega), if_pos (by omega), if_pos (by omega), rd_row, hrd, contains_eq _ (by omega) _ k (by omega), Option.bind_some, w64 (n := ((dnL (holderL d) c).length : Int) + 1) (by omega) (by omega), hni]
      by_cases hcs : holderL d (c : Int) = (s : Int)
      · rw [if_pos (by simpa using (holder_at h _ s).2 hcs), index_eq _ (by omega) _ k (by omega), Option.bind_some]
        have hix : idxL (cardsL d) (c : Int) 0 = ((dnL (holderL d) c).length : Int) := by
          rw [hsp, idxL_at _ _ _ 0 fun hx => by have := (dn_mem _ _ _ (List.mem_reverse.1 hx)).2.1; omega]; simp
        rw [hix]
        by_cases hlast : last ≥ 0
        · rw [if_pos hlast]
          obtain ⟨hcl', hdne⟩ := hl1.resolve_left (by omega)
          rcases last_ne (holderL d) c with ⟨e1, _⟩ | ⟨l, ⟨e1, hpc⟩ | hbig⟩
          · exact absurd e1 hdne
          · have hlpos : 1 ≤ (dnL (holderL d) c).length := by rw [e1]; simp
            have hrd2 : rd (cardsL d) (((dnL (holderL d) c).length : Int) - 1) = lastB (holderL d) c := by
              rw [show ((dnL (holderL d) c).length : Int) - 1 = ((l.length : Nat) : Int) by rw [e1]; simp, rd_nat, hsp, e1]; simp
            rw [w64 (n := ((dnL (holderL d) c).length : Int) - 1) (by omega) (by omega), if_pos (by omega), if_pos (by omega), hrd2]
            by_cases hpl : lastB (holderL d) c = last
            · have hps := hl3 (by omega) hpl.symm
              rw [if_pos hpl, suit_eq hcl', Option.bind_some, suit_eq hcard, Option.bind_some]
              by_cases hsu : last / 13 = (c : Int) / 13
              · obtain ⟨o', L, e2, E'⟩ := exp_more E hcs (decide_eq_true ⟨hps, by rw [hpl]; exact hsu⟩)
                have hLg := hg L (by rw [e2]; simp)
                have hol : ((o' ++ [L]).length : Int) - 1 = ((o'.length : Nat) : Int) := by simp
                subst e2
                rw [if_pos hsu, w64 (n := ((o' ++ [L]).length : Int) - 1) (by rw [hol]; omega) (by omega), hol, if_pos (by omega), if_pos (by omega), rd_row]
                have hgd : (o' ++ [L]).getD o'.length [] = L := by simp
                rw [hgd, if_pos (by omega)]
                have hset : (o' ++ [L]).set ((o'.length : Nat) : Int).toNat (L ++ [(c : Int)]) = o' ++ [L ++ [(c : Int)]] := by simp
                rw [hset]
                refine ih k _ _ (by omega) (by omega) (by simp at ho ⊢; omega) ?_ (.inr ⟨hcard, by simp⟩) (fun _ => rfl) (fun _ _ => hcs) (by omega) E'
                intro g hg'
                rcases List.mem_append.1 hg' with hg' | hg'
                · have := hg g (List.mem_append_left _ hg'); omega
                · simp at hg'; rw [hg']; simp; omega
              · rw [if_neg hsu, if_pos (by omega)]
                exact hadd hcs (decide_eq_false fun e => hsu (by rw [← hpl]; exact e.2))
            · rw [if_neg hpl, if_pos (by omega)]
              exact hadd hcs (decide_eq_false fun e => hpl (hl2 e.1).symm)
          · omega
        · rw [if_neg hlast, if_pos (by omega)]
          refine hadd hcs (decide_eq_false fun e => ?_)
          have := hl2 e.1
          have hn := held_none h
          have hl : last = -1 := hl1.resolve_right fun e => hlast e.1.1
          rw [← this, hl] at e
          omega
      · rw [if_neg (by simpa using fun hx => hcs ((holder_at h _ s).1 hx))]
        refine ih k o last (by omega) (by omega) (by omega) (fun g hg' => by have := hg g hg'; omega) ?_ (fun e => absurd e hcs) (fun _ e => by omega) (by omega) (exp_skip E hcs)
        rcases hl1 with e | ⟨e, _⟩
        · exact .inl e
        · exact .inr ⟨e, by simp⟩
    · rw [if_neg h0] at hup
      rw [lastB_no h0] at ih
      have hdn : dnL (holderL d) (c + 1) = dnL (holderL d) c := by simp only [dnL]; rw [if_neg h0]
      rw [hdn] at ih
      rw [hup] at E
      exact ih k o last (by omega) (by omega) (by omega) (fun g hg' => by have := hg g hg'; omega) hl1 hl2 hl3 (by omega) E
theorem implGrps_eq (d : List (List Int)) (ht : total d ≤ 1048576) (hr : ∀ x ∈ d, x.length ≤ 1048576) (h : Deal d) (s : Nat) (hs : s < 4) (k : Nat) (hk : 1048576 + 200 ≤ k) : impl_groupsOf.f k d (s : Int) = some (grps (holderL d) (s : Int) (-1) (upL (holderL d) 52)) := by
  unfold impl_groupsOf.f
  rw [cardsOf_eq d ht h, Option.bind_some]
  have hn := held_none h
  exact implGroups_l0 d 1048576 hr (by omega) h s hs _ 52 k [] (-1) (by omega) (by omega) (by simp) (by simp) (.inl rfl) (fun _ => rfl) (fun e => absurd rfl e) (by omega) (.inl ⟨by show holderL d (-1) ≠ _; omega, rfl⟩)
theorem implGroups_eq (d : List (List Int)) (ht : total d ≤ 1048576) (hr : ∀ x ∈ d, x.length ≤ 1048576) (s : Int) (k : Nat) (hk : 1048576 + 200 ≤ k) : impl_GroupsOf.f k d s = some (groupsL d s) := by
  unfold impl_GroupsOf.f groupsL impl_isSeat.f
  rw [implDeal_eq d (fun x hx => by have := hr x hx; omega), Option.bind_some]
  by_cases h : Deal d
  · rw [if_pos (by simpa using h), if_pos h, within_eq, Option.bind_some, Option.bind_some]
    by_cases hs : 0 ≤ s ∧ s ≤ 3
    · obtain ⟨n, rfl⟩ : ∃ n : Nat, s = n := ⟨s.toNat, by omega⟩
      rw [if_pos (by simpa using hs), if_pos hs, implGrps_eq d ht hr h n (by omega) k hk]; rfl
    · rw [if_neg (by simpa using hs), if_neg hs]
  · rw [if_neg (by simpa using h), if_neg h]
theorem groupsL_rows (d : List (List Int)) (s : Int) : ∀ x ∈ (groupsL d s).1, x.length ≤ 52 := by
  unfold groupsL
  split
  · split
    · exact fun g hg => Nat.le_trans (grps_rows _ _ _ _ g hg) (up_len _ 52)
    · intro x hx; cases hx
  · intro x hx; cases hx
theorem groupsL_len (d : List (List Int)) (s : Int) : (groupsL d s).1.length ≤ 1000 := by
  unfold groupsL
  split
  · split
    · have h1 := grps_len (holderL d) s (upL (holderL d) 52) (-1)
      have h2 := up_len (holderL d) 52
      show (grps _ _ _ _).length ≤ _; omega
    · simp
  · simp
end Go.Proofs.Ytckmdibjkklhkaa.Lem
