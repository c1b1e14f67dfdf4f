/- A smaller copy of texts of this seat, made by pack.py for one law. -/
import Derived.Test.YtckmdibjkklhkaaQFnExactGroupsOfLemT
import Derived.Test.YtckmdibjkklhkaaQFnExactGroupsOfPAllx27
namespace Go.Proofs.Ytckmdibjkklhkaa.Lem
open Go.RowKit Go.Proofs.Ytckmdibjkklhkaa.PAll Go.Proofs.Ytckmdibjkklhkaa.Base Go.Proofs.YtckmdibjkklhkaaW.PrintWords Go.Proofs.YtckmdibjkklhkaaW.PrintLast Go.Proofs.YtckmdibjkklhkaaW.PrintMore
set_option linter.unusedVariables false
set_option linter.unusedSimpArgs false
def lk (h : Int → Int) (s t x : Int) : Bool := decide (h x = s ∧ x / 13 = t)
def grps (h : Int → Int) (s : Int) : Int → List Int → List (List Int)
  | _, [] => []
  | p, c :: B => if h c = s ∧ lk h s (c / 13) p = false then (c :: B.takeWhile (lk h s (c / 13))) :: grps h s c B else grps h s c B
def dnL (h : Int → Int) : Nat → List Int
  | 0 => []
  | n + 1 => if 0 ≤ h n then (n : Int) :: dnL h n else dnL h n
def upL (h : Int → Int) : Nat → List Int
  | 0 => []
  | e + 1 => if 0 ≤ h (51 - (e : Int)) then (51 - (e : Int)) :: upL h e else upL h e
def grp (h : Int → Int) (s : Int) (n : Nat) : List Int := ((dnL h n).takeWhile (lk h s ((n : Int) / 13))).reverse ++ (n : Int) :: (upL h (51 - n)).takeWhile (lk h s ((n : Int) / 13))
theorem tw_nil {q : Int → Bool} {l : List Int} (h : ∀ x ∈ l, q x = false) : l.takeWhile q = [] := by
  cases l with
  | nil => rfl
  | cons x t => rw [List.takeWhile_cons, h x List.mem_cons_self]; rfl
theorem dn_mem (h : Int → Int) (x : Int) : ∀ n : Nat, x ∈ dnL h n → 0 ≤ x ∧ x < n ∧ 0 ≤ h x
  | 0, hx => by simp [dnL] at hx
  | n + 1, hx => by
    simp only [dnL] at hx
    split at hx
    · rename_i h0
      rcases List.mem_cons.1 hx with rfl | hx
      · exact ⟨by omega, by omega, h0⟩
      · have := dn_mem h x n hx; exact ⟨this.1, by omega, this.2.2⟩
    · have := dn_mem h x n hx; exact ⟨this.1, by omega, this.2.2⟩
theorem up_mem (h : Int → Int) (x : Int) : ∀ e : Nat, x ∈ upL h e → 52 - (e : Int) ≤ x ∧ x ≤ 51 ∧ 0 ≤ h x
  | 0, hx => by simp [upL] at hx
  | e + 1, hx => by
    simp only [upL] at hx
    split at hx
    · rename_i h0
      rcases List.mem_cons.1 hx with rfl | hx
      · exact ⟨by omega, by omega, h0⟩
      · have := up_mem h x e hx; exact ⟨by omega, this.2⟩
    · have := up_mem h x e hx; exact ⟨by omega, this.2⟩
theorem dn_len (h : Int → Int) : ∀ n : Nat, (dnL h n).length ≤ n
  | 0 => by simp [dnL]
  | n + 1 => by have := dn_len h n; simp only [dnL]; split <;> simp <;> omega
theorem up_len (h : Int → Int) : ∀ n : Nat, (upL h n).length ≤ n
  | 0 => by simp [upL]
  | n + 1 => by have := up_len h n; simp only [upL]; split <;> simp <;> omega
theorem tw_len (q : Int → Bool) (l : List Int) : (l.takeWhile q).length ≤ l.length := (List.takeWhile_sublist q).length_le
theorem up_all (h : Int → Int) : ∀ e : Nat, e ≤ 52 → (upL h e) = ((List.range' (52 - e) e).map fun n : Nat => (n : Int)).filter fun c => decide (0 ≤ h c)
  | 0, _ => by simp [upL]
  | e + 1, he => by
    have e1 : 52 - (e + 1) + 1 = 52 - e := by omega
    have e2 : ((52 - (e + 1) : Nat) : Int) = 51 - (e : Int) := by omega
    rw [List.range'_succ, e1, List.map_cons, List.filter_cons, e2, ← up_all h e (by omega)]
    simp only [upL, decide_eq_true_eq]
theorem up_cards (d : List (List Int)) : upL (holderL d) 52 = cardsL d := by
  rw [up_all _ 52 (by omega)]
  unfold cardsL allL
  rw [List.range_eq_range']
theorem split_at (h : Int → Int) : ∀ n : Nat, n ≤ 52 → upL h 52 = (dnL h n).reverse ++ upL h (52 - n)
  | 0, _ => by simp [dnL]
  | n + 1, hn => by
    rw [split_at h n (by omega), show 52 - n = (52 - (n + 1)) + 1 by omega]
    have e : (51 : Int) - ((52 - (n + 1) : Nat) : Int) = (n : Int) := by omega
    simp only [upL, dnL, e]
    split <;> simp
def lastB (h : Int → Int) (n : Nat) : Int := (dnL h n).headD (-1)
theorem lastB_yes {h : Int → Int} {n : Nat} (h0 : 0 ≤ h n) : lastB h (n + 1) = n := by unfold lastB; simp only [dnL]; rw [if_pos h0]; rfl
theorem lastB_no {h : Int → Int} {n : Nat} (h0 : ¬ 0 ≤ h n) : lastB h (n + 1) = lastB h n := by unfold lastB; simp only [dnL]; rw [if_neg h0]
theorem tw_lastB (h : Int → Int) (s : Int) (n : Nat) (t : Int) (ht : 0 ≤ t) : lk h s t (lastB h n) = false → (dnL h n).takeWhile (lk h s t) = [] := by
  unfold lastB
  cases dnL h n with
  | nil => intro _; rfl
  | cons x l => intro e; rw [List.takeWhile_cons, show lk h s t x = false from e]; rfl
theorem tw_lastB' (h : Int → Int) (s : Int) (n : Nat) (t : Int) (ht : 0 ≤ t) : lk h s t (lastB h n) = true → ∃ l, (dnL h n).takeWhile (lk h s t) = lastB h n :: l ∧ lastB h n < n := by
  unfold lastB
  have hm := fun x => dn_mem h x n
  cases hd : dnL h n with
  | nil => intro e; have e := of_decide_eq_true e; simp at e; omega
  | cons x l =>
    intro e
    refine ⟨l.takeWhile (lk h s t), ?_, ?_⟩
    · show List.takeWhile _ (x :: l) = x :: _
      rw [List.takeWhile_cons, if_pos (show lk h s t x = true from e)]
    · have := hm x (by rw [hd]; exact List.mem_cons_self); exact this.2.1
section
variable (d : List (List Int)) (M : Nat) (hr : ∀ x ∈ d, x.length ≤ M) (hM : M ≤ 2000000) (hd : d.length ≤ 2000000)
include hr hM hd
theorem grp_up (n : Nat) (hn : n < 52) (s : Int) (hs : 0 ≤ s) : ∀ (e k : Nat) (o : List Int), e ≤ 51 - n → 39 - (13 * (n / 13) : Nat) ≤ e → 2 * e + d.length + M + 3 ≤ k → o.length + e ≤ 200 →
    spec_l05Group.l1 k (n : Int) s o (52 - (e : Int)) d = some (o ++ (upL (holderL d) e).takeWhile (lk (holderL d) s ((n : Int) / 13))) := by
  have e13 : wrap64 ((wrap64 ((wrap64 (Int.tdiv (n : Int) 13)) * 13)) + 13) = ((13 * (n / 13) + 13 : Nat) : Int) := by
    rw [card_div ⟨by omega, by omega⟩, w64 (n := (n : Int) / 13) (by omega) (by omega), w64 (n := (n : Int) / 13 * 13) (by omega) (by omega), w64 (by omega) (by omega)]; omega
  intro e
  induction e with
  | zero =>
    intro k o h1 h2 hk ho
    obtain ⟨k, rfl⟩ := succ_of (show 0 < k by omega)
    rw [spec_l05Group.l1, e13, if_neg (by omega)]; simp [upL]
  | succ e ih =>
    intro k o h1 h2 hk ho
    obtain ⟨k, rfl⟩ := succ_of (show 0 < k by omega)
    have em : (52 : Int) - ((e + 1 : Nat) : Int) = 51 - (e : Int) := by omega
    have ew : wrap64 (51 - (e : Int) + 1) = 52 - (e : Int) := by rw [w64 (by omega) (by omega)]; omega
    rw [em, spec_l05Group.l1, e13]
    by_cases hlt : (51 : Int) - (e : Int) < ((13 * (n / 13) + 13 : Nat) : Int)
    · rw [if_pos hlt, specHolder_eq d M hr hM hd _ k (by omega), Option.bind_some]
      obtain ⟨k, rfl⟩ := succ_of (show 0 < k by omega)
      simp only [upL]
      by_cases h0 : 0 ≤ holderL d (51 - (e : Int))
      · rw [if_pos h0, if_pos h0, spec_l05Group.j4, List.takeWhile_cons]
        by_cases hh : holderL d (51 - (e : Int)) = s
        · rw [if_neg (by simp [hh]), if_pos hh, if_pos (by omega), ew, if_pos (show lk _ _ _ _ = true from decide_eq_true ⟨hh, by omega⟩), ih k _ (by omega) (by omega) (by omega) (by simp; omega)]; simp
        · rw [if_pos (by simpa using hh), if_neg (by simp [lk, hh])]; simp
      · rw [if_neg h0, if_neg h0, spec_l05Group.j4, if_neg (by simp), if_neg (by omega), ew]
        exact ih k o (by omega) (by omega) (by omega) (by omega)
    · rw [if_neg hlt, tw_nil]; simp
      intro x hx
      have := up_mem _ _ _ hx
      refine decide_eq_false fun h => ?_
      omega
theorem grp_dn (n : Nat) (hn : n < 52) (s : Int) (hs : 0 ≤ s) (U : List Int) (K : Nat) (hU : ∀ (k : Nat) (o : List Int), K ≤ k → o.length ≤ 100 → spec_l05Group.j2 k (n : Int) s o d = some (o ++ U)) : ∀ (j k : Nat) (o : List Int), 13 * (n / 13) ≤ j → j ≤ n → 2 * j + d.length + M + 3 + K ≤ k → o.length + j ≤ 100 →
    spec_l05Group.l0 k (n : Int) s o ((j : Int) - 1) d = some (((dnL (holderL d) j).takeWhile (lk (holderL d) s ((n : Int) / 13))).reverse ++ o ++ U) := by
  have e13 : wrap64 ((wrap64 (Int.tdiv (n : Int) 13)) * 13) = ((13 * (n / 13) : Nat) : Int) := by
    rw [card_div ⟨by omega, by omega⟩, w64 (n := (n : Int) / 13) (by omega) (by omega), w64 (n := (n : Int) / 13 * 13) (by omega) (by omega)]; omega
  intro j
  induction j with
  | zero =>
    intro k o h1 h2 hk ho
    obtain ⟨k, rfl⟩ := succ_of (show 0 < k by omega)
    rw [spec_l05Group.l0, e13, if_neg (by omega), hU k o (by omega) (by omega)]; simp [dnL]
  | succ j ih =>
    intro k o h1 h2 hk ho
    obtain ⟨k, rfl⟩ := succ_of (show 0 < k by omega)
    have em : ((j + 1 : Nat) : Int) - 1 = (j : Int) := by omega
    have ew : wrap64 ((j : Int) - 1) = (j : Int) - 1 := w64 (by omega) (by omega)
    rw [em, spec_l05Group.l0, e13]
    by_cases hlt : 13 * (n / 13) ≤ j
    · rw [if_pos (by omega), specHolder_eq d M hr hM hd _ k (by omega), Option.bind_some]
      obtain ⟨k, rfl⟩ := succ_of (show 0 < k by omega)
      simp only [dnL]
      by_cases h0 : 0 ≤ holderL d (j : Int)
      · rw [if_pos h0, if_pos h0, spec_l05Group.j1, List.takeWhile_cons]
        by_cases hh : holderL d (j : Int) = s
        · rw [if_neg (by simp [hh]), if_pos hh, Option.bind_some, if_pos (by simp; omega), ew, if_pos (show lk _ _ _ _ = true from decide_eq_true ⟨hh, by omega⟩), ih k _ (by omega) (by omega) (by omega) (by simp; omega)]; simp
        · rw [if_pos (by simpa using hh), if_neg (by simp [lk, hh]), hU k o (by omega) (by omega)]; simp
      · rw [if_neg h0, if_neg h0, spec_l05Group.j1, if_neg (by simp), if_neg (by omega), ew]
        exact ih k o (by omega) (by omega) (by omega) (by omega)
    · rw [if_neg (by omega), hU k o (by omega) (by omega), tw_nil]; simp
      intro x hx
      have := dn_mem _ _ _ hx
      refine decide_eq_false fun h => ?_
      omega
theorem group_eq (n : Nat) (hn : n < 52) (h0 : 0 ≤ holderL d n) (k : Nat) (hk : d.length + M + 400 + (d.length + M) ≤ k) : spec_l05Group.f k d (n : Int) = some (grp (holderL d) (holderL d n) n) := by
  unfold spec_l05Group.f
  rw [specHolder_eq d M hr hM hd _ k (by omega), Option.bind_some, w64 (n := (n : Int) - 1) (by omega) (by omega)]
  rw [grp_dn d M hr hM hd n hn _ h0 ((upL (holderL d) (51 - n)).takeWhile (lk (holderL d) (holderL d n) ((n : Int) / 13))) (d.length + M + 150) ?_ n k _ (by omega) (by omega) (by omega) (by simp; omega)]
  · simp [grp]
  · intro k o hk ho
    obtain ⟨k, rfl⟩ := succ_of (show 0 < k by omega)
    rw [spec_l05Group.j2, wrap_nat n (by omega), show ((n + 1 : Nat) : Int) = 52 - ((51 - n : Nat) : Int) by omega]
    exact grp_up d M hr hM hd n hn _ h0 (51 - n) k o (by omega) (by omega) (by omega) (by omega)
end
end Go.Proofs.Ytckmdibjkklhkaa.Lem
