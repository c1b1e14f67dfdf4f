/- FnExactHolderOf: the law's walk, out of its printed contract. -/
import Derived.Test.YtckmdibjkklhkaaPAllx5
import Derived.Test.YtckmdibjkklhkaaLemQ
namespace Go.Proofs.Ytckmdibjkklhkaa.PAll
open Go.RowKit Go.Proofs.YtckmdibjkklhkaaW.PrintWords Go.Proofs.YtckmdibjkklhkaaW.PrintLast
set_option linter.unusedVariables false
def laws_FnExactHolderOf.Pure : Prop := ∀ (l0 : List (List Int)) (a1 : Int), l0.length ≤ 9223372036854775807 → (∀ x ∈ l0, x.length ≤ 9223372036854775807) → (∀ y ∈ l0, ∀ x ∈ y, (Lit.int .i64 x).wf = true) → (Lit.int .i64 a1).wf = true → ∃ k, laws_FnExactHolderOf.f k l0 a1 = some true
theorem laws_FnExactHolderOf.walk (P : laws_FnExactHolderOf.Pure) (A0 : Option Addr) (n0 c0 : Nat) (ds0 : List (List Int)) (a1 : Int) (w : World) (hR0 : RowsIn w A0 n0 c0 ds0) (w1 : (Lit.int .i64 a1).wf = true) :
    Calls Try.prog 4 #[.agg #[.slice A0 n0 c0], .int .i64 a1] w fun e w' => e = .returned (.bool true) ∧ Below w.heap.size w w' := by
  obtain ⟨rfl, hc0, hC0, hw0⟩ := hR0
  obtain ⟨k, h⟩ := P ds0 a1 (rows_len hC0).1 (rows_len hC0).2 hw0 w1
  refine (laws_FnExactHolderOf.calls k A0 c0 ds0 a1 true w hC0 hc0 h).mono ?_
  rintro e w' ⟨rfl, hd⟩
  exact ⟨rfl, hd⟩
end Go.Proofs.Ytckmdibjkklhkaa.PAll
