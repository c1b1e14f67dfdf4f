/- Plain facts on loops over lists, on sums, suits, and the numbers of subsets: no program in sight. -/
import Derived.Test.YtckmdibjkklhkaaBase
namespace Go.Proofs.Ytckmdibjkklhkaa.Base
open Go.RowKit

theorem drop_cons {α : Type} {l : List α} {i : Nat} {x : α} {t : List α} (h : l.drop i = x :: t) (d : α) : i < l.length ∧ l.getD i d = x ∧ l.drop (i + 1) = t := by
  have hi : i < l.length := by
    by_cases hi : i < l.length
    · exact hi
    · rw [List.drop_eq_nil_of_le (by omega)] at h; cases h
  rw [List.drop_eq_getElem_cons hi] at h
  injection h with h1 h2
  exact ⟨hi, by simp [List.getD, hi, h1], h2⟩

theorem drop_nil_le {α : Type} {l : List α} {i : Nat} (h : l.drop i = []) : l.length ≤ i := by
  have := congrArg List.length h
  simp at this; omega

theorem getD_mem {l : List Int} {i : Nat} (h : i < l.length) : l.getD i 0 ∈ l := by
  rw [List.getD_eq_getElem?_getD, List.getElem?_eq_getElem h]; exact List.getElem_mem h

/-- a loop over a list: each round goes on with a new state, or ends -/
def run {α σ ρ : Type} (step : σ → α → σ ⊕ ρ) (fin : σ → ρ) : List α → σ → ρ
  | [], s => fin s
  | x :: t, s => match step s x with
    | .inl s' => run step fin t s'
    | .inr r => r

theorem run_loop {α σ ρ : Type} (dflt : α) (l : List α) (c B : Nat) (L : Nat → σ → Int → Option ρ) (step : σ → α → σ ⊕ ρ) (fin : σ → ρ) (Inv : Nat → σ → Prop)
    (h0 : ∀ k s i, B ≤ k → Inv i s → l.length ≤ i → L (k + c) s (i : Int) = some (fin s))
    (h1 : ∀ k s i, B ≤ k → Inv i s → i < l.length → L (k + c) s (i : Int) = match step s (l.getD i dflt) with
      | .inl s' => L k s' ((i + 1 : Nat) : Int)
      | .inr r => some r)
    (h2 : ∀ s i s', Inv i s → i < l.length → step s (l.getD i dflt) = .inl s' → Inv (i + 1) s') :
    ∀ (t : List α) (k i : Nat) (s : σ), l.drop i = t → c * t.length + (B + c) ≤ k → Inv i s → L k s (i : Int) = some (run step fin t s) := by
  intro t
  induction t with
  | nil =>
    intro k i s h hk hI
    obtain ⟨k, rfl⟩ : ∃ m, k = m + c := ⟨k - c, by omega⟩
    exact h0 k s i (by simp at hk; omega) hI (drop_nil_le h)
  | cons x t ih =>
    intro k i s h hk hI
    obtain ⟨hi, hx, ht⟩ := drop_cons h dflt
    have e : c * (x :: t).length = c * t.length + c := by rw [List.length_cons, Nat.mul_succ]
    obtain ⟨k, rfl⟩ : ∃ m, k = m + c := ⟨k - c, by omega⟩
    rw [h1 k s i (by omega) hI hi, hx]
    simp only [run]
    cases hs : step s x with
    | inl s' => exact ih k (i + 1) s' ht (by omega) (h2 s i s' hI hi (by rw [hx]; exact hs))
    | inr r => rfl

theorem fold_loop {α σ ρ : Type} (dflt : α) (l : List α) (c B : Nat) (L : Nat → σ → Int → Option ρ) (step : σ → α → σ) (fin : σ → ρ) (Inv : Nat → σ → Prop)
    (h0 : ∀ k s i, B ≤ k → Inv i s → l.length ≤ i → L (k + c) s (i : Int) = some (fin s))
    (h1 : ∀ k s i, B ≤ k → Inv i s → i < l.length → L (k + c) s (i : Int) = L k (step s (l.getD i dflt)) ((i + 1 : Nat) : Int))
    (h2 : ∀ s i, Inv i s → i < l.length → Inv (i + 1) (step s (l.getD i dflt))) :
    ∀ (t : List α) (k i : Nat) (s : σ), l.drop i = t → c * t.length + (B + c) ≤ k → Inv i s → L k s (i : Int) = some (fin (t.foldl step s)) := by
  intro t
  induction t with
  | nil =>
    intro k i s h hk hI
    obtain ⟨k, rfl⟩ : ∃ m, k = m + c := ⟨k - c, by omega⟩
    exact h0 k s i (by simp at hk; omega) hI (drop_nil_le h)
  | cons x t ih =>
    intro k i s h hk hI
    obtain ⟨hi, hx, ht⟩ := drop_cons h dflt
    have e : c * (x :: t).length = c * t.length + c := by rw [List.length_cons, Nat.mul_succ]
    obtain ⟨k, rfl⟩ : ∃ m, k = m + c := ⟨k - c, by omega⟩
    have hJ := h2 s i hI hi
    rw [h1 k s i (by omega) hI hi]
    rw [hx] at hJ ⊢
    exact ih k (i + 1) _ ht (by omega) hJ

/-! Sums. -/
def sumOf (f : Int → Int) : List Int → Int
  | [] => 0
  | x :: t => f x + sumOf f t

theorem sumOf_append (f : Int → Int) (a b : List Int) : sumOf f (a ++ b) = sumOf f a + sumOf f b := by
  induction a with
  | nil => simp [sumOf]
  | cons x t ih => simp only [List.cons_append, sumOf, ih]; omega

theorem sumOf_congr (f g : Int → Int) (l : List Int) (h : ∀ x ∈ l, f x = g x) : sumOf f l = sumOf g l := by
  induction l with
  | nil => rfl
  | cons x t ih => simp only [sumOf]; rw [h x (by simp), ih fun y hy => h y (by simp [hy])]

theorem sumOf_range (f : Int → Int) (l : List Int) (h : ∀ x, 0 ≤ f x ∧ f x ≤ 13) : 0 ≤ sumOf f l ∧ sumOf f l ≤ 13 * l.length := by
  induction l with
  | nil => simp [sumOf]
  | cons x t ih => have := h x; simp only [sumOf, List.length_cons]; omega

theorem foldl_sum (f : Int → Int) (t : List Int) : ∀ s : Int, t.foldl (fun s x => s + f x) s = s + sumOf f t := by
  induction t with
  | nil => intro s; simp [sumOf]
  | cons x t ih => intro s; simp only [List.foldl_cons, sumOf]; rw [ih]; omega

theorem foldl_collect {α β : Type} (g : α → List β) (t : List α) : ∀ s : List β, t.foldl (fun s x => s ++ g x) s = s ++ t.flatMap g := by
  induction t with
  | nil => intro s; simp
  | cons x t ih => intro s; rw [List.foldl_cons, ih, List.flatMap_cons, List.append_assoc]

theorem flatMap_filter {α : Type} (p : α → Prop) [DecidablePred p] (t : List α) : t.flatMap (fun x => if p x then [x] else []) = t.filter p := by
  induction t with
  | nil => rfl
  | cons x t ih => rw [List.flatMap_cons, ih]; by_cases h : p x <;> simp [h]

/-! Marks. -/
def marks (a : Int) : Nat → List Int
  | 0 => []
  | n + 1 => a :: marks (a + 1) n
theorem marks_length : ∀ (n : Nat) (a : Int), (marks a n).length = n
  | 0, _ => rfl
  | n + 1, a => by simp [marks, marks_length n]
theorem marks_snoc : ∀ (n : Nat) (a : Int), marks a n ++ [a + n] = marks a (n + 1)
  | 0, a => by simp [marks]
  | n + 1, a => by
    have := marks_snoc n (a + 1)
    rw [show a + 1 + (n : Int) = a + ((n + 1 : Nat) : Int) by omega] at this
    rw [marks, List.cons_append, this]; rfl
theorem marks_getD : ∀ (n : Nat) (a : Int) (i : Nat), i < n → (marks a n).getD i 0 = a + i
  | 0, _, _, h => by omega
  | n + 1, a, 0, _ => by simp [marks]
  | n + 1, a, i + 1, h => by
    have := marks_getD n (a + 1) i (by omega)
    simp only [marks, List.getD_cons_succ, this]; omega

/-! Cards. -/
theorem card_div {c : Int} (h : Card c) : Int.tdiv c 13 = c / 13 := Int.tdiv_eq_ediv_of_nonneg h.1
theorem card_mod {c : Int} (h : Card c) : Int.tmod c 13 = c % 13 := Int.tmod_eq_emod_of_nonneg h.1

theorem cards_ge {l : List Int} (h : Cards l) : ∀ i, i < l.length → (i : Int) ≤ l.getD i 0 := by
  have r := (cards_rise l).mp h
  intro i
  induction i with
  | zero => intro hi; exact (r 0 (by omega) hi).1.1
  | succ i ih => intro hi; have h1 := ih (by omega); have h2 := (r (i + 1) (by omega) hi).2 (by omega); rw [Nat.add_sub_cancel] at h2; omega

theorem cards_len {l : List Int} (h : Cards l) : l.length ≤ 52 := by
  by_cases h0 : l.length = 0
  · omega
  · have h1 := cards_ge h (l.length - 1) (by omega)
    have h2 := h.1 _ (getD_mem (l := l) (i := l.length - 1) (by omega))
    have := h2.2
    omega

theorem cards_nodup {l : List Int} (h : Cards l) : l.Nodup := h.2.imp fun hab => by omega
theorem cards_sub {l m : List Int} (h : Cards l) (hs : m.Sublist l) : Cards m := ⟨fun x hx => h.1 x (hs.subset hx), h.2.sublist hs⟩
theorem cards_tail {x : Int} {t : List Int} (h : Cards (x :: t)) : Cards t := cards_sub h (List.sublist_cons_self x t)

/-- the cards of a suit -/
def suitL (l : List Int) (s : Int) : List Int := l.filter fun c => decide (c / 13 = s)

/-! The number of a subset, and the subset of a number. -/
def rankL : List Int → List Int → Nat
  | [], _ => 0
  | _ :: _, [] => 0
  | x :: t, y :: u => if x = y then rankL t u else ch t.length u.length + rankL t (y :: u)

def unrankL : List Int → Nat → Int → List Int
  | [], _, _ => []
  | _ :: _, 0, _ => []
  | x :: t, k + 1, m => if m < (ch t.length k : Int) then x :: unrankL t k m else unrankL t (k + 1) (m - ch t.length k)

theorem unrankL_len : ∀ (l : List Int) (k : Nat) (m : Int), (unrankL l k m).length ≤ l.length
  | [], _, _ => by simp [unrankL]
  | _ :: _, 0, _ => by simp [unrankL]
  | x :: t, k + 1, m => by
    simp only [unrankL]
    split
    · simp only [List.length_cons]; have := unrankL_len t k m; omega
    · have := unrankL_len t (k + 1) (m - ch t.length k); simp only [List.length_cons]; omega

theorem rankL_le (l : List Int) (hl : l.length ≤ 52) : ∀ u, rankL l u ≤ 4503599627370496 * l.length := by
  induction l with
  | nil => intro u; simp [rankL]
  | cons x t ih =>
    intro u
    have i := ih (by simp at hl; omega)
    cases u with
    | nil => simp [rankL]
    | cons y u =>
      simp only [rankL, List.length_cons]
      have c := ch_small t.length u.length (by simp at hl; omega)
      have i1 := i u
      have i2 := i (y :: u)
      split <;> omega

/-- all cards -/
def allL : List Int := (List.range 52).map fun n : Nat => (n : Int)
theorem allL_len : allL.length = 52 := by simp [allL]
theorem allL_cards : Cards allL := by decide +kernel

end Go.Proofs.Ytckmdibjkklhkaa.Base
