/- A smaller copy of texts of this seat, made by pack.py for one law. -/
import Derived.Test.YtckmdibjkklhkaaQFnExactEquivalentCardsLemT
import Derived.Test.YtckmdibjkklhkaaQFnExactEquivalentCardsPAllx27
namespace Go.Proofs.Ytckmdibjkklhkaa.Lem
open Go.RowKit Go.Proofs.Ytckmdibjkklhkaa.PAll Go.Proofs.Ytckmdibjkklhkaa.Base Go.Proofs.YtckmdibjkklhkaaW.PrintWords Go.Proofs.YtckmdibjkklhkaaW.PrintLast Go.Proofs.YtckmdibjkklhkaaW.PrintMore
set_option linter.unusedVariables false
set_option linter.unusedSimpArgs false
def lk (h : Int → Int) (s t x : Int) : Bool := decide (h x = s ∧ x / 13 = t)
def grps (h : Int → Int) (s : Int) : Int → List Int → List (List Int)
  | _, [] => []
  | p, c :: B => if h c = s ∧ lk h s (c / 13) p = false then (c :: B.takeWhile (lk h s (c / 13))) :: grps h s c B else grps h s c B
def dnL (h : Int → Int) : Nat → List Int
  | 0 => []
  | n + 1 => if 0 ≤ h n then (n : Int) :: dnL h n else dnL h n
def upL (h : Int → Int) : Nat → List Int
  | 0 => []
  | e + 1 => if 0 ≤ h (51 - (e : Int)) then (51 - (e : Int)) :: upL h e else upL h e
def grp (h : Int → Int) (s : Int) (n : Nat) : List Int := ((dnL h n).takeWhile (lk h s ((n : Int) / 13))).reverse ++ (n : Int) :: (upL h (51 - n)).takeWhile (lk h s ((n : Int) / 13))
theorem tw_nil {q : Int → Bool} {l : List Int} (h : ∀ x ∈ l, q x = false) : l.takeWhile q = [] := by
  cases l with
  | nil => rfl
  | cons x t => rw [List.takeWhile_cons, h x List.mem_cons_self]; rfl
theorem tw_mem {q : Int → Bool} {l : List Int} {x : Int} (h : x ∈ l.takeWhile q) : q x = true := List.all_eq_true.1 List.all_takeWhile x h
theorem dn_mem (h : Int → Int) (x : Int) : ∀ n : Nat, x ∈ dnL h n → 0 ≤ x ∧ x < n ∧ 0 ≤ h x
  | 0, hx => by simp [dnL] at hx
  | n + 1, hx => by
    simp only [dnL] at hx
    split at hx
    · rename_i h0
      rcases List.mem_cons.1 hx with rfl | hx
      · exact ⟨by omega, by omega, h0⟩
      · have := dn_mem h x n hx; exact ⟨this.1, by omega, this.2.2⟩
    · have := dn_mem h x n hx; exact ⟨this.1, by omega, this.2.2⟩
theorem up_mem (h : Int → Int) (x : Int) : ∀ e : Nat, x ∈ upL h e → 52 - (e : Int) ≤ x ∧ x ≤ 51 ∧ 0 ≤ h x
  | 0, hx => by simp [upL] at hx
  | e + 1, hx => by
    simp only [upL] at hx
    split at hx
    · rename_i h0
      rcases List.mem_cons.1 hx with rfl | hx
      · exact ⟨by omega, by omega, h0⟩
      · have := up_mem h x e hx; exact ⟨by omega, this.2⟩
    · have := up_mem h x e hx; exact ⟨by omega, this.2⟩
theorem dn_len (h : Int → Int) : ∀ n : Nat, (dnL h n).length ≤ n
  | 0 => by simp [dnL]
  | n + 1 => by have := dn_len h n; simp only [dnL]; split <;> simp <;> omega
theorem up_len (h : Int → Int) : ∀ n : Nat, (upL h n).length ≤ n
  | 0 => by simp [upL]
  | n + 1 => by have := up_len h n; simp only [upL]; split <;> simp <;> omega
theorem tw_len (q : Int → Bool) (l : List Int) : (l.takeWhile q).length ≤ l.length := (List.takeWhile_sublist q).length_le
theorem up_all (h : Int → Int) : ∀ e : Nat, e ≤ 52 → (upL h e) = ((List.range' (52 - e) e).map fun n : Nat => (n : Int)).filter fun c => decide (0 ≤ h c)
  | 0, _ => by simp [upL]
  | e + 1, he => by
    have e1 : 52 - (e + 1) + 1 = 52 - e := by omega
    have e2 : ((52 - (e + 1) : Nat) : Int) = 51 - (e : Int) := by omega
    rw [List.range'_succ, e1, List.map_cons, List.filter_cons, e2, ← up_all h e (by omega)]
    simp only [upL, decide_eq_true_eq]
theorem up_cards (d : List (List Int)) : upL (holderL d) 52 = cardsL d := by
  rw [up_all _ 52 (by omega)]
  unfold cardsL allL
  rw [List.range_eq_range']
theorem split_at (h : Int → Int) : ∀ n : Nat, n ≤ 52 → upL h 52 = (dnL h n).reverse ++ upL h (52 - n)
  | 0, _ => by simp [dnL]
  | n + 1, hn => by
    rw [split_at h n (by omega), show 52 - n = (52 - (n + 1)) + 1 by omega]
    have e : (51 : Int) - ((52 - (n + 1) : Nat) : Int) = (n : Int) := by omega
    simp only [upL, dnL, e]
    split <;> simp
theorem run_split (h : Int → Int) (q : Int → Bool) (x : Nat) : ∀ e : Nat, e ≤ 52 → (x : Int) ∈ (upL h e).takeWhile q →
    ∃ W, (upL h e).takeWhile q = W ++ (x : Int) :: (upL h (51 - x)).takeWhile q ∧ (dnL h x).takeWhile q = W.reverse ++ (dnL h (52 - e)).takeWhile q
  | 0, _, hx => by simp [upL] at hx
  | e + 1, he, hx => by
    have em : (51 : Int) - (e : Int) = ((51 - e : Nat) : Int) := by omega
    have en : 52 - e = (51 - e) + 1 := by omega
    have en2 : 52 - (e + 1) = 51 - e := by omega
    simp only [upL] at hx ⊢
    rw [em] at hx ⊢
    by_cases h0 : 0 ≤ h ((51 - e : Nat) : Int)
    · rw [if_pos h0] at hx ⊢
      rw [List.takeWhile_cons] at hx ⊢
      by_cases hq : q ((51 - e : Nat) : Int) = true
      · rw [if_pos hq] at hx ⊢
        rcases List.mem_cons.1 hx with hxe | hx
        · have : x = 51 - e := by omega
          subst this
          refine ⟨[], ?_, ?_⟩
          · rw [show 51 - (51 - e) = e by omega]; rfl
          · rw [en2]; rfl
        · obtain ⟨W, h1, h2⟩ := run_split h q x e (by omega) hx
          refine ⟨((51 - e : Nat) : Int) :: W, by rw [h1]; rfl, ?_⟩
          rw [h2, en, en2]
          simp only [dnL]
          rw [if_pos h0, List.takeWhile_cons, if_pos hq]; simp
      · rw [if_neg hq] at hx; simp at hx
    · rw [if_neg h0] at hx ⊢
      obtain ⟨W, h1, h2⟩ := run_split h q x e (by omega) hx
      refine ⟨W, h1, ?_⟩
      rw [h2, en, en2]
      simp only [dnL]
      rw [if_neg h0]
def lastB (h : Int → Int) (n : Nat) : Int := (dnL h n).headD (-1)
theorem lastB_yes {h : Int → Int} {n : Nat} (h0 : 0 ≤ h n) : lastB h (n + 1) = n := by unfold lastB; simp only [dnL]; rw [if_pos h0]; rfl
theorem lastB_no {h : Int → Int} {n : Nat} (h0 : ¬ 0 ≤ h n) : lastB h (n + 1) = lastB h n := by unfold lastB; simp only [dnL]; rw [if_neg h0]
theorem tw_lastB (h : Int → Int) (s : Int) (n : Nat) (t : Int) (ht : 0 ≤ t) : lk h s t (lastB h n) = false → (dnL h n).takeWhile (lk h s t) = [] := by
  unfold lastB
  cases dnL h n with
  | nil => intro _; rfl
  | cons x l => intro e; rw [List.takeWhile_cons, show lk h s t x = false from e]; rfl
theorem find_grp (h : Int → Int) (s : Int) (hs : 0 ≤ s) (x : Nat) (hx : x < 52) (hxs : h x = s) : ∀ e : Nat, e ≤ 52 → (x : Int) ∈ upL h e →
    (h (lastB h (52 - e)) = s → (x : Int) ∉ (upL h e).takeWhile (lk h s (lastB h (52 - e) / 13))) →
    (grps h s (lastB h (52 - e)) (upL h e)).find? (fun g => decide ((x : Int) ∈ g)) = some (grp h s x)
  | 0, _, hm, _ => by simp [upL] at hm
  | e + 1, he, hm, hn => by
    have em : (51 : Int) - (e : Int) = ((51 - e : Nat) : Int) := by omega
    have en : 52 - e = (51 - e) + 1 := by omega
    have en2 : 52 - (e + 1) = 51 - e := by omega
    have hup : upL h (e + 1) = if 0 ≤ h ((51 - e : Nat) : Int) then ((51 - e : Nat) : Int) :: upL h e else upL h e := by simp only [upL]; rw [em]
    rw [en2] at hn ⊢
    generalize hc : 51 - e = c at *
    have ih := find_grp h s hs x hx hxs e (by omega)
    rw [en] at ih
    by_cases h0 : 0 ≤ h (c : Int)
    · rw [lastB_yes h0] at ih
      have hrs := run_split h (lk h s ((c : Int) / 13)) x (e + 1) he
      rw [en2] at hrs
      rw [if_pos h0] at hup
      rw [hup] at hm hn hrs ⊢
      rw [List.takeWhile_cons] at hrs
      simp only [grps]
      by_cases hcs : h c = s
      · have lc : lk h s ((c : Int) / 13) c = true := decide_eq_true ⟨hcs, rfl⟩
        rw [if_pos lc] at hrs
        by_cases hl : lk h s ((c : Int) / 13) (lastB h c) = false
        · rw [if_pos ⟨hcs, hl⟩, List.find?_cons]
          by_cases hxg : (x : Int) ∈ (c : Int) :: (upL h e).takeWhile (lk h s ((c : Int) / 13))
          · rw [decide_eq_true hxg]
            obtain ⟨W, h1, h2⟩ := hrs hxg
            have hxc : (x : Int) / 13 = (c : Int) / 13 := by
              rcases List.mem_cons.1 hxg with e | hxg
              · rw [e]
              · exact (of_decide_eq_true (tw_mem hxg)).2
            show some _ = some _
            rw [h1]; unfold grp
            rw [hxc, h2, tw_lastB h s c _ (by omega) hl]; simp
          · rw [decide_eq_false hxg]
            refine ih ?_ fun _ hxt => hxg (List.mem_cons_of_mem _ hxt)
            rcases List.mem_cons.1 hm with e | hm
            · exact absurd (by rw [e]; exact List.mem_cons_self) hxg
            · exact hm
        · rw [if_neg fun h => hl h.2]
          have hl := of_decide_eq_true (by simpa using hl : lk h s ((c : Int) / 13) (lastB h c) = true)
          have hn := hn hl.1
          rw [hl.2, List.takeWhile_cons, if_pos lc] at hn
          refine ih ?_ fun _ hxt => hn (List.mem_cons_of_mem _ hxt)
          rcases List.mem_cons.1 hm with e | hm
          · exact absurd (by rw [e]; exact List.mem_cons_self) hn
          · exact hm
      · rw [if_neg fun h => hcs h.1]
        refine ih ?_ fun h => absurd h hcs
        rcases List.mem_cons.1 hm with e | hm
        · exact absurd (by rw [← e]; exact hxs) hcs
        · exact hm
    · rw [lastB_no h0] at ih
      rw [if_neg h0] at hup
      rw [hup] at hm hn ⊢
      exact ih hm hn
section
variable (d : List (List Int)) (M : Nat) (hr : ∀ x ∈ d, x.length ≤ M) (hM : M ≤ 2000000) (hd : d.length ≤ 2000000)
include hr hM hd
theorem grp_up (n : Nat) (hn : n < 52) (s : Int) (hs : 0 ≤ s) : ∀ (e k : Nat) (o : List Int), e ≤ 51 - n → 39 - (13 * (n / 13) : Nat) ≤ e → 2 * e + d.length + M + 3 ≤ k → o.length + e ≤ 200 →
    spec_l05Group.l1 k (n : Int) s o (52 - (e : Int)) d = some (o ++ (upL (holderL d) e).takeWhile (lk (holderL d) s ((n : Int) / 13))) := by
  have e13 : wrap64 ((wrap64 ((wrap64 (Int.tdiv (n : Int) 13)) * 13)) + 13) = ((13 * (n / 13) + 13 : Nat) : Int) := by
    rw [card_div ⟨by omega, by omega⟩, w64 (n := (n : Int) / 13) (by omega) (by omega), w64 (n := (n : Int) / 13 * 13) (by omega) (by omega), w64 (by omega) (by omega)]; omega
  intro e
  induction e with
  | zero =>
    intro k o h1 h2 hk ho
    obtain ⟨k, rfl⟩ := succ_of (show 0 < k by omega)
    rw [spec_l05Group.l1, e13, if_neg (by omega)]; simp [upL]
  | succ e ih =>
    intro k o h1 h2 hk ho
    obtain ⟨k, rfl⟩ := succ_of (show 0 < k by omega)
    have em : (52 : Int) - ((e + 1 : Nat) : Int) = 51 - (e : Int) := by omega
    have ew : wrap64 (51 - (e : Int) + 1) = 52 - (e : Int) := by rw [w64 (by omega) (by omega)]; omega
    rw [em, spec_l05Group.l1, e13]
    by_cases hlt : (51 : Int) - (e : Int) < ((13 * (n / 13) + 13 : Nat) : Int)
    · rw [if_pos hlt, specHolder_eq d M hr hM hd _ k (by omega), Option.bind_some]
      obtain ⟨k, rfl⟩ := succ_of (show 0 < k by omega)
      simp only [upL]
      by_cases h0 : 0 ≤ holderL d (51 - (e : Int))
      · rw [if_pos h0, if_pos h0, spec_l05Group.j4, List.takeWhile_cons]
        by_cases hh : holderL d (51 - (e : Int)) = s
        · rw [if_neg (by simp [hh]), if_pos hh, if_pos (by omega), ew, if_pos (show lk _ _ _ _ = true from decide_eq_true ⟨hh, by omega⟩), ih k _ (by omega) (by omega) (by omega) (by simp; omega)]; simp
        · rw [if_pos (by simpa using hh), if_neg (by simp [lk, hh])]; simp
      · rw [if_neg h0, if_neg h0, spec_l05Group.j4, if_neg (by simp), if_neg (by omega), ew]
        exact ih k o (by omega) (by omega) (by omega) (by omega)
    · rw [if_neg hlt, tw_nil]; simp
      intro x hx
      have := up_mem _ _ _ hx
      refine decide_eq_false fun h => ?_
      omega
theorem grp_dn (n : Nat) (hn : n < 52) (s : Int) (hs : 0 ≤ s) (U : List Int) (K : Nat) (hU : ∀ (k : Nat) (o : List Int), K ≤ k → o.length ≤ 100 → spec_l05Group.j2 k (n : Int) s o d = some (o ++ U)) : ∀ (j k : Nat) (o : List Int), 13 * (n / 13) ≤ j → j ≤ n → 2 * j + d.length + M + 3 + K ≤ k → o.length + j ≤ 100 →
    spec_l05Group.l0 k (n : Int) s o ((j : Int) - 1) d = some (((dnL (holderL d) j).takeWhile (lk (holderL d) s ((n : Int) / 13))).reverse ++ o ++ U) := by
  have e13 : wrap64 ((wrap64 (Int.tdiv (n : Int) 13)) * 13) = ((13 * (n / 13) : Nat) : Int) := by
    rw [card_div ⟨by omega, by omega⟩, w64 (n := (n : Int) / 13) (by omega) (by omega), w64 (n := (n : Int) / 13 * 13) (by omega) (by omega)]; omega
  intro j
  induction j with
  | zero =>
    intro k o h1 h2 hk ho
    obtain ⟨k, rfl⟩ := succ_of (show 0 < k by omega)
    rw [spec_l05Group.l0, e13, if_neg (by omega), hU k o (by omega) (by omega)]; simp [dnL]
  | succ j ih =>
    intro k o h1 h2 hk ho
    obtain ⟨k, rfl⟩ := succ_of (show 0 < k by omega)
    have em : ((j + 1 : Nat) : Int) - 1 = (j : Int) := by omega
    have ew : wrap64 ((j : Int) - 1) = (j : Int) - 1 := w64 (by omega) (by omega)
    rw [em, spec_l05Group.l0, e13]
    by_cases hlt : 13 * (n / 13) ≤ j
    · rw [if_pos (by omega), specHolder_eq d M hr hM hd _ k (by omega), Option.bind_some]
      obtain ⟨k, rfl⟩ := succ_of (show 0 < k by omega)
      simp only [dnL]
      by_cases h0 : 0 ≤ holderL d (j : Int)
      · rw [if_pos h0, if_pos h0, spec_l05Group.j1, List.takeWhile_cons]
        by_cases hh : holderL d (j : Int) = s
        · rw [if_neg (by simp [hh]), if_pos hh, Option.bind_some, if_pos (by simp; omega), ew, if_pos (show lk _ _ _ _ = true from decide_eq_true ⟨hh, by omega⟩), ih k _ (by omega) (by omega) (by omega) (by simp; omega)]; simp
        · rw [if_pos (by simpa using hh), if_neg (by simp [lk, hh]), hU k o (by omega) (by omega)]; simp
      · rw [if_neg h0, if_neg h0, spec_l05Group.j1, if_neg (by simp), if_neg (by omega), ew]
        exact ih k o (by omega) (by omega) (by omega) (by omega)
    · rw [if_neg (by omega), hU k o (by omega) (by omega), tw_nil]; simp
      intro x hx
      have := dn_mem _ _ _ hx
      refine decide_eq_false fun h => ?_
      omega
theorem group_eq (n : Nat) (hn : n < 52) (h0 : 0 ≤ holderL d n) (k : Nat) (hk : d.length + M + 400 + (d.length + M) ≤ k) : spec_l05Group.f k d (n : Int) = some (grp (holderL d) (holderL d n) n) := by
  unfold spec_l05Group.f
  rw [specHolder_eq d M hr hM hd _ k (by omega), Option.bind_some, w64 (n := (n : Int) - 1) (by omega) (by omega)]
  rw [grp_dn d M hr hM hd n hn _ h0 ((upL (holderL d) (51 - n)).takeWhile (lk (holderL d) (holderL d n) ((n : Int) / 13))) (d.length + M + 150) ?_ n k _ (by omega) (by omega) (by omega) (by simp; omega)]
  · simp [grp]
  · intro k o hk ho
    obtain ⟨k, rfl⟩ := succ_of (show 0 < k by omega)
    rw [spec_l05Group.j2, wrap_nat n (by omega), show ((n + 1 : Nat) : Int) = 52 - ((51 - n : Nat) : Int) by omega]
    exact grp_up d M hr hM hd n hn _ h0 (51 - n) k o (by omega) (by omega) (by omega) (by omega)
end
end Go.Proofs.Ytckmdibjkklhkaa.Lem
