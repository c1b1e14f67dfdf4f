/- A smaller copy of texts of this seat, made by pack.py for one law. -/
import Derived.Test.YtckmdibjkklhkaaQFnExactGroupsOfBase
namespace Go.Proofs.Ytckmdibjkklhkaa.Base
open Go.RowKit
theorem drop_cons {α : Type} {l : List α} {i : Nat} {x : α} {t : List α} (h : l.drop i = x :: t) (d : α) : i < l.length ∧ l.getD i d = x ∧ l.drop (i + 1) = t := by
  have hi : i < l.length := by
    by_cases hi : i < l.length
    · exact hi
    · rw [List.drop_eq_nil_of_le (by omega)] at h; cases h
  rw [List.drop_eq_getElem_cons hi] at h
  injection h with h1 h2
  exact ⟨hi, by simp [List.getD, hi, h1], h2⟩
theorem drop_nil_le {α : Type} {l : List α} {i : Nat} (h : l.drop i = []) : l.length ≤ i := by
  have := congrArg List.length h
  simp at this; omega
theorem getD_mem {l : List Int} {i : Nat} (h : i < l.length) : l.getD i 0 ∈ l := by
  rw [List.getD_eq_getElem?_getD, List.getElem?_eq_getElem h]; exact List.getElem_mem h
def run {α σ ρ : Type} (step : σ → α → σ ⊕ ρ) (fin : σ → ρ) : List α → σ → ρ
  | [], s => fin s
  | x :: t, s => match step s x with
    | .inl s' => run step fin t s'
    | .inr r => r
theorem run_loop {α σ ρ : Type} (dflt : α) (l : List α) (c B : Nat) (L : Nat → σ → Int → Option ρ) (step : σ → α → σ ⊕ ρ) (fin : σ → ρ) (Inv : Nat → σ → Prop)
    (h0 : ∀ k s i, B ≤ k → Inv i s → l.length ≤ i → L (k + c) s (i : Int) = some (fin s))
    (h1 : ∀ k s i, B ≤ k → Inv i s → i < l.length → L (k + c) s (i : Int) = match step s (l.getD i dflt) with
      | .inl s' => L k s' ((i + 1 : Nat) : Int)
      | .inr r => some r)
    (h2 : ∀ s i s', Inv i s → i < l.length → step s (l.getD i dflt) = .inl s' → Inv (i + 1) s') :
    ∀ (t : List α) (k i : Nat) (s : σ), l.drop i = t → c * t.length + (B + c) ≤ k → Inv i s → L k s (i : Int) = some (run step fin t s) := by
  intro t
  induction t with
  | nil =>
    intro k i s h hk hI
    obtain ⟨k, rfl⟩ : ∃ m, k = m + c := ⟨k - c, by omega⟩
    exact h0 k s i (by simp at hk; omega) hI (drop_nil_le h)
  | cons x t ih =>
    intro k i s h hk hI
    obtain ⟨hi, hx, ht⟩ := drop_cons h dflt
    have e : c * (x :: t).length = c * t.length + c := by rw [List.length_cons, Nat.mul_succ]
    obtain ⟨k, rfl⟩ : ∃ m, k = m + c := ⟨k - c, by omega⟩
    rw [h1 k s i (by omega) hI hi, hx]
    simp only [run]
    cases hs : step s x with
    | inl s' => exact ih k (i + 1) s' ht (by omega) (h2 s i s' hI hi (by rw [hx]; exact hs))
    | inr r => rfl
def marks (a : Int) : Nat → List Int
  | 0 => []
  | n + 1 => a :: marks (a + 1) n
theorem marks_length : ∀ (n : Nat) (a : Int), (marks a n).length = n
  | 0, _ => rfl
  | n + 1, a => by simp [marks, marks_length n]
theorem marks_snoc : ∀ (n : Nat) (a : Int), marks a n ++ [a + n] = marks a (n + 1)
  | 0, a => by simp [marks]
  | n + 1, a => by
    have := marks_snoc n (a + 1)
    rw [show a + 1 + (n : Int) = a + ((n + 1 : Nat) : Int) by omega] at this
    rw [marks, List.cons_append, this]; rfl
theorem marks_getD : ∀ (n : Nat) (a : Int) (i : Nat), i < n → (marks a n).getD i 0 = a + i
  | 0, _, _, h => by omega
  | n + 1, a, 0, _ => by simp [marks]
  | n + 1, a, i + 1, h => by
    have := marks_getD n (a + 1) i (by omega)
    simp only [marks, List.getD_cons_succ, this]; omega
theorem card_div {c : Int} (h : Card c) : Int.tdiv c 13 = c / 13 := Int.tdiv_eq_ediv_of_nonneg h.1
def allL : List Int := (List.range 52).map fun n : Nat => (n : Int)
theorem allL_len : allL.length = 52 := by simp [allL]
theorem allL_cards : Cards allL := by decide +kernel
end Go.Proofs.Ytckmdibjkklhkaa.Base
