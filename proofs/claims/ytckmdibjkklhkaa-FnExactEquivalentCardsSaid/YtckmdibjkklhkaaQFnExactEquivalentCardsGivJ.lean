/- A smaller copy of texts of this seat, made by pack.py for one law. -/
import Derived.Test.YtckmdibjkklhkaaQFnExactEquivalentCardsPAllx0
import Derived.Test.YtckmdibjkklhkaaQFnExactEquivalentCardsShelfC
import Derived.Test.YtckmdibjkklhkaaQFnExactEquivalentCardsGivI
import Derived.Test.YtckmdibjkklhkaaQFnExactEquivalentCardsLemP
namespace Go.Proofs.Ytckmdibjkklhkaa.PAll
open Go.RowKit Go.Lib Go.Sort Go.Proofs.Ytckmdibjkklhkaa.Base Go.Proofs.YtckmdibjkklhkaaW.PrintWords Go.Proofs.YtckmdibjkklhkaaW.PrintLast
set_option linter.unusedVariables false
def Seen (w : World) : Type := { x : Option Addr × Nat × List Int // Kd.C (Kd.int .i64) w x.1 x.2.2.length x.2.2 ∧ x.2.2.length ≤ 4611686018427387904 }
def Seen.enc {w : World} (x : Seen w) : Value := .slice x.1.1 x.1.2.2.length x.1.2.1
def Seen.l {w : World} (x : Seen w) : List Int := x.1.2.2
instance (w : World) : Inhabited (Seen w) := ⟨⟨(none, 0, []), Kd.C_nil _ _, by simp⟩⟩
theorem seen_all {w : World} {A : Option Addr} {ds : List (List Int)} (h : Kd.C (Kd.slice 2 (Kd.int .i64)) w A ds.length ds) (hb : ∀ x ∈ ds, x.length ≤ 4611686018427387904) (hp : 0 < ds.length) :
    ∃ b off, A = some ⟨b, off, none⟩ ∧ ∃ zs : List (Seen w), zs.map Seen.l = ds ∧ ∀ j, j < zs.length → w.cell? ⟨b, off + j, none⟩ = some (zs.getD j default).enc := by
  obtain ⟨hn, hm, hc⟩ := h
  obtain ⟨ad, rfl, hj⟩ := hc hp
  have each : ∀ j, j < ds.length → ∃ x : Seen w, x.l = ds.getD j [] ∧ w.cell? (ad.add j) = some x.enc := by
    intro j hlt
    obtain ⟨cs, h1, ⟨A', c', rfl, hle, hC⟩, h3⟩ := hj j _ (List.getElem?_eq_getElem hlt)
    have hx := hb _ (List.getElem_mem hlt)
    refine ⟨⟨(A', c', ds[j]), hC, hx⟩, by simp [Seen.l, List.getD, hlt], ?_⟩
    have := h3 0 _ rfl
    simpa [Seen.enc, Kd.slice] using this
  obtain ⟨b, off, sp⟩ := ad
  obtain ⟨x0, _, hx0⟩ := each 0 hp
  have hs : sp = none := cell_spot (b := b) (o := off) (by simpa [Addr.add] using hx0)
  subst hs
  have each' : ∀ j, j < ds.length → ∃ x : Seen w, x.l = ds.getD j [] ∧ w.cell? ⟨b, off + j, none⟩ = some x.enc := fun j hj => by have := each j hj; rwa [Addr.add_lit] at this
  refine ⟨b, off, rfl, (List.range ds.length).map (fun j => if h : j < ds.length then (each' j h).choose else default), ?_, ?_⟩
  · apply List.ext_getElem?
    intro j
    by_cases hlt : j < ds.length
    · rw [List.map_map, List.getElem?_map, List.getElem?_range hlt]
      have := (each' j hlt).choose_spec.1
      simp only [Option.map_some, Function.comp]
      rw [dif_pos hlt, this]; simp [List.getD, hlt]
    · rw [List.getElem?_eq_none (by simp; omega), List.getElem?_eq_none (by omega)]
  · intro j hj
    have hlt : j < ds.length := by simpa using hj
    have := (each' j hlt).choose_spec.2
    rw [this]
    simp [List.getD, hlt]
end Go.Proofs.Ytckmdibjkklhkaa.PAll
