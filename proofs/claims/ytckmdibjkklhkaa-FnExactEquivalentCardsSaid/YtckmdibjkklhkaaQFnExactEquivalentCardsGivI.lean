/- A smaller copy of texts of this seat, made by pack.py for one law. -/
import Derived.Test.YtckmdibjkklhkaaQFnExactEquivalentCardsPAllx0
import Derived.Test.YtckmdibjkklhkaaQFnExactEquivalentCardsShelfC
import Derived.Test.YtckmdibjkklhkaaQFnExactEquivalentCardsGivB
import Derived.Lib.LaidU8
import Derived.Test.YtckmdibjkklhkaaQFnExactEquivalentCardsGivC
import Derived.Sort.OwnSortedInts
namespace Go.Proofs.Ytckmdibjkklhkaa.PAll
open Go.RowKit Go.Lib Go.Proofs.YtckmdibjkklhkaaW.PrintWords Go.Proofs.YtckmdibjkklhkaaW.PrintLast
set_option linter.unusedVariables false
theorem Kd.C_at {k : IntKind} {w : World} {A : Option Addr} {l : List Int} (h : Kd.C (Kd.int k) w A l.length l) :
    l = [] ∨ ∃ b off, A = some ⟨b, off, none⟩ ∧ ∀ j, j < l.length → w.cell? ⟨b, off + j, none⟩ = some (.int k (l.getD j 0)) := by
  cases A with
  | none => exact .inl (Kd.C_none_nil h)
  | some ad =>
    obtain ⟨b, off, sp⟩ := ad
    have hc : ∀ j, j < l.length → w.cell? (Addr.add ⟨b, off, sp⟩ j) = some (.int k (l.getD j 0)) := fun j hj => Kd.C_cells h j _ (by simp [nums, hj])
    by_cases hl : l.length = 0
    · exact .inl (List.eq_nil_of_length_eq_zero hl)
    · have h0 := hc 0 (by omega)
      have hs : sp = none := cell_spot (b := b) (o := off) (by simpa [Addr.add] using h0)
      subst hs
      refine .inr ⟨b, off, rfl, fun j hj => ?_⟩
      have := hc j hj
      unfold Addr.add at this
      split at this
      · rename_i e; subst e; exact this
      · exact this
theorem contains_calls (A : Option Addr) (c : Nat) (l : List Int) (x : Int) (w : World) (h : Kd.C (Kd.int .i64) w A l.length l) (hl : l.length ≤ 9223372036854775807) :
    Calls Try.prog 134 #[.slice A l.length c, .int .i64 x] w fun e w' => e = .returned (.bool (l.contains x)) ∧ w' = w := by
  rcases Kd.C_at h with rfl | ⟨b, off, rfl, hc⟩
  · exact Try.slices_Contains_int_empty A c x w
  · have := Try.slices_Contains_int b off l.length c l x w (Nat.le_refl _) hl hc
    rwa [List.take_length] at this
end Go.Proofs.Ytckmdibjkklhkaa.PAll
namespace Go.Proofs.Ytckmdibjkklhkaa.PAll
open Go.RowKit Go.Lib Go.Sort Go.Proofs.YtckmdibjkklhkaaW.PrintWords Go.Proofs.YtckmdibjkklhkaaW.PrintLast
set_option linter.unusedVariables false
theorem C_block_lt {w : World} {A : Option Addr} {l : List Int} (h : Kd.C (Kd.int .i64) w A l.length l) : ∀ ad, A = some ad → 0 < l.length → ad.block < w.heap.size := by
  intro ad e hl
  rcases Kd.C_at h with rfl | ⟨b, off, rfl, hc⟩
  · simp at hl
  · injection e with e
    subst e
    exact World.block_lt_of_cell? w ⟨b, off + 0, none⟩ (hc 0 hl)
end Go.Proofs.Ytckmdibjkklhkaa.PAll
