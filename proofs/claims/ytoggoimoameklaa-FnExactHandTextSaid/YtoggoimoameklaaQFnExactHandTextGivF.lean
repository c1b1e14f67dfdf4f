/- A smaller copy of a text of this seat, made by pack.py for one law. -/
import Derived.Test.YtoggoimoameklaaQFnExactHandTextPAllx0
import Derived.Test.YtoggoimoameklaaQFnExactHandTextShelfF
import Derived.Lib.LaidU8
namespace Go.Proofs.Ytoggoimoameklaa.PAll
open Go.RowKit Go.Lib Go.Proofs.YtoggoimoameklaaW.PrintWords Go.Proofs.YtoggoimoameklaaW.PrintLast
set_option linter.unusedVariables false
theorem Kd.C_at_string {w : World} {A : Option Addr} {l : List ByteArray} (h : Kd.C Kd.string w A l.length l) :
    l = [] ∨ ∃ b off, A = some ⟨b, off, none⟩ ∧ b < w.heap.size ∧ ∀ (j : Nat) x, l[j]? = some x → w.cell? ⟨b, off + j, none⟩ = some (.string x) := by
  by_cases hl : l.length = 0
  · exact .inl (List.eq_nil_of_length_eq_zero hl)
  · obtain ⟨ad, e, h0⟩ := Kd.at_string h 0 (by omega) (by omega)
    obtain ⟨b, off, sp⟩ := ad
    have h0' : w.cell? ⟨b, off, sp⟩ = some (.string (rdOf ByteArray.empty l 0)) := by simpa [Addr.add] using h0
    have hs : sp = none := cell_spot h0'
    subst hs
    refine .inr ⟨b, off, e, ?_, fun j x hx => ?_⟩
    · have hb : b < w.heap.size := by
        rcases Nat.lt_or_ge b w.heap.size with hb | hb
        · exact hb
        · rw [World.cell?] at h0'
          simp [Array.getElem?_eq_none hb] at h0'
      exact hb
    · have hj := (List.getElem?_eq_some_iff.1 hx).1
      obtain ⟨ad', e', hc⟩ := Kd.at_string h (j : Int) (by omega) (by omega)
      rw [e] at e'
      injection e' with e'
      subst e'
      rw [Int.toNat_natCast] at hc
      have hr : rdOf ByteArray.empty l (j : Int) = x := by simp [rdOf, List.getD, hx]
      rw [hr] at hc
      unfold Addr.add at hc
      split at hc
      · rename_i e0; subst e0; exact hc
      · exact hc
def strings_Join.f (l0 : List ByteArray) (a1 : ByteArray) : Option ByteArray :=
  if l0.length ≤ 140737488355328 ∧ (Lib.join (l0.map (·.data.toList)) a1.data.toList).length ≤ 140737488355328 then some ⟨(Lib.join (l0.map (·.data.toList)) a1.data.toList).toArray⟩ else none
theorem strings_Join.calls (A0 : Option Addr) (c0 : Nat) (l0 : List ByteArray) (a1 : ByteArray) (r : ByteArray) (w : World) (hr0 : Kd.C Kd.string w A0 l0.length l0) (hc0 : l0.length ≤ c0) (h : strings_Join.f l0 a1 = some r) :
    Calls Try.prog 153 #[.slice A0 l0.length c0, .string a1] w fun e w' => e = .returned (.string r) ∧ Below w.heap.size w w' := by
  unfold strings_Join.f at h
  by_cases hl : l0.length ≤ 140737488355328 ∧ (Lib.join (l0.map (·.data.toList)) a1.data.toList).length ≤ 140737488355328
  · rw [if_pos hl] at h
    obtain rfl := Option.some.inj h
    rcases Kd.C_at_string hr0 with rfl | ⟨b, off, rfl, hb, hc⟩
    · refine (Try.strings_Join_none A0 c0 a1 w).mono ?_
      rintro e w' ⟨rfl, rfl⟩
      exact ⟨rfl, Below.refl _ _⟩
    · exact Try.strings_Join b off c0 l0 a1 w hc hb hl.1 hc0 hl.2
  · rw [if_neg hl] at h; cases h
end Go.Proofs.Ytoggoimoameklaa.PAll
