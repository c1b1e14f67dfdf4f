/- A smaller copy of a text of this seat, made by pack.py for one law. -/
import Derived.Test.YtoggoimoameklaaQFnHandsLemA
import Derived.Test.YtoggoimoameklaaQFnHandsPAllx11
namespace Go.Proofs.Ytoggoimoameklaa.Lem
open Go.RowKit Go.Proofs.Ytoggoimoameklaa.PAll Go.Proofs.Ytoggoimoameklaa.Base Go.Proofs.YtoggoimoameklaaW.PrintWords Go.Proofs.YtoggoimoameklaaW.PrintLast Go.Proofs.YtoggoimoameklaaW.PrintMore
set_option linter.unusedVariables false
set_option linter.unusedSimpArgs false
def Bytes (l : List Int) : Prop := (∀ x ∈ l, 0 ≤ x ∧ x ≤ 255) ∧ l.length ≤ 1000000
theorem bytes_of {l : List Int} (h : ∀ x ∈ l, (Lit.int .u8 x).wf = true) (hl : l.length ≤ 1000000) : Bytes l := by
  refine ⟨fun x hx => ?_, hl⟩
  have := h x hx
  simp only [Lit.wf, Bool.and_eq_true, decide_eq_true_eq] at this
  have a : IntKind.min .u8 = 0 := by decide
  have b : IntKind.max .u8 = 255 := by decide
  omega
theorem rd_byte {l : List Int} (h : Bytes l) (i : Int) : 0 ≤ rd l i ∧ rd l i ≤ 255 := by
  unfold rd
  by_cases hi : i.toNat < l.length
  · rw [List.getD_eq_getElem?_getD, List.getElem?_eq_getElem hi]; exact h.1 _ (List.getElem_mem hi)
  · rw [List.getD_eq_getElem?_getD, List.getElem?_eq_none (by omega)]; simp
structure Src (l : List Int) (a s : Int) : Prop where
  bytes : Bytes l
  a0 : 0 ≤ a
  a1 : a ≤ l.length
  s0 : 0 ≤ s
  s1 : s < 2147483647
theorem from_l0 (l : List Int) (hb : Bytes l) (d : Nat) : ∀ (k i : Nat) (s : Int), i + d = l.length → d < k → 0 ≤ s → s < 2147483647 →
    ∃ s', spec_l01From.l0 k l (i : Int) l 0 s = some (l, 0, s') ∧ Src l 0 s' := by
  induction d with
  | zero =>
    intro k i s hi hk h0 h1
    obtain ⟨k, rfl⟩ := succ_of hk
    simp only [spec_l01From.l0]
    rw [if_neg (by omega)]
    exact ⟨s, rfl, hb, by omega, by omega, h0, h1⟩
  | succ d ih =>
    intro k i s hi hk h0 h1
    obtain ⟨k, rfl⟩ := succ_of hk
    have hl := hb.2
    have hr := rd_byte hb (i : Int)
    simp only [spec_l01From.l0]
    rw [if_pos (by omega)]
    by_cases h2 : (i : Int) < 64
    · rw [if_pos h2, if_pos (by omega), wrap_nat i (by omega), w64 (n := s * 41) (by omega) (by omega), w64 (n := rd l (i : Int)) (by omega) (by omega), w64 (n := s * 41 + rd l (i : Int)) (by omega) (by omega),
        Int.tmod_eq_emod_of_nonneg (by omega)]
      exact ih k (i + 1) _ (by omega) (by omega) (by omega) (by omega)
    · rw [if_neg h2]
      exact ⟨s, rfl, hb, by omega, by omega, h0, h1⟩
theorem from_eq (l : List Int) (hb : Bytes l) (k : Nat) (hk : l.length < k) : ∃ s', spec_l01From.f k l = some (l, 0, s') ∧ Src l 0 s' := by
  unfold spec_l01From.f
  exact from_l0 l hb l.length k 0 86421 (by omega) hk (by omega) (by omega)
theorem next_eq {l : List Int} {a s : Int} (h : Src l a s) (n : Int) : ∃ r a' s', spec_l01Next.f l a s n = some (r, a', s') ∧ Src l a' s' ∧ 0 ≤ r ∧ (1 ≤ n → r < n) := by
  obtain ⟨hb, ha0, ha1, hs0, hs1⟩ := h
  unfold spec_l01Next.f
  by_cases h1 : n ≤ 1
  · rw [if_pos h1]; exact ⟨0, a, s, rfl, ⟨hb, ha0, ha1, hs0, hs1⟩, by omega, by omega⟩
  · rw [if_neg h1]
    have ht : ∃ t, Int.tmod (wrap64 ((wrap64 (s * 48271)) + 13)) 2147483647 = t ∧ 0 ≤ t ∧ t < 2147483647 := by
      rw [w64 (n := s * 48271) (by omega) (by omega), w64 (n := s * 48271 + 13) (by omega) (by omega), Int.tmod_eq_emod_of_nonneg (by omega)]
      exact ⟨_, rfl, by omega, by omega⟩
    obtain ⟨t, ht, t0, t1⟩ := ht
    rw [ht]
    have hq : Int.tdiv t 13 = t / 13 := Int.tdiv_eq_ediv_of_nonneg t0
    have hr := rd_byte hb a
    have hl := hb.2
    have hn0 : ¬ n = 0 := by omega
    have fin : ∀ x : Int, 0 ≤ x → 0 ≤ Int.tmod x n ∧ (1 ≤ n → Int.tmod x n < n) := fun x hx => ⟨Int.tmod_nonneg _ hx, fun _ => Int.tmod_lt_of_pos _ (by omega)⟩
    by_cases h2 : a < (l.length : Int)
    · have ea : wrap64 (a + 1) = a + 1 := w64 (by omega) (by omega)
      have er : wrap64 (rd l a) = rd l a := w64 (by omega) (by omega)
      rw [if_pos h2, if_pos ha0, ea, hq, w64 (n := t / 13) (by omega) (by omega), er, w64 (n := t / 13 + rd l a) (by omega) (by omega), show a + 1 - 1 = a by omega, w64 (n := a) (by omega) (by omega), er, if_pos ha0, if_pos h2, if_neg hn0]
      have S : Src l (a + 1) t := ⟨hb, by omega, by omega, t0, t1⟩
      by_cases h3 : n ≤ 256
      · rw [if_pos h3]
        by_cases h4 : Int.tmod (a + 1) 2 = 0
        · rw [if_pos h4]; exact ⟨_, _, _, rfl, S, fin _ (by omega)⟩
        · rw [if_neg h4, if_neg hn0]; exact ⟨_, _, _, rfl, S, fin _ (by omega)⟩
      · rw [if_neg h3, if_neg hn0]; exact ⟨_, _, _, rfl, S, fin _ (by omega)⟩
    · rw [if_neg h2, if_neg hn0, hq, w64 (n := t / 13) (by omega) (by omega)]
      exact ⟨_, _, _, rfl, ⟨hb, ha0, ha1, t0, t1⟩, fin _ (by omega)⟩
theorem big_eq (l : List Int) : laws_big.f l = some (decide (l.length > 4096)) := by
  unfold laws_big.f; congr 1; exact decide_eq_decide.mpr (by omega)
end Go.Proofs.Ytoggoimoameklaa.Lem
