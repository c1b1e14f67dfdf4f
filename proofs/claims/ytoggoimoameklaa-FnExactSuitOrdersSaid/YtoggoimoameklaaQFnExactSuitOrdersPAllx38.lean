/- A smaller copy of a text of this seat, made by pack.py for one law. -/
import Derived.Test.YtoggoimoameklaaQFnExactSuitOrdersGivM
import Derived.Test.YtoggoimoameklaaQFnExactSuitOrdersPAllx37
namespace Go.Proofs.Ytoggoimoameklaa.PAll
open Go.RowKit Go.Lib Go.Proofs.Ytoggoimoameklaa.Base Go.Proofs.Ytoggoimoameklaa.Lem Go.Proofs.YtoggoimoameklaaW.PrintWords Go.Proofs.YtoggoimoameklaaW.PrintLast
set_option linter.unusedVariables false
def laws_FnExactSuitOrders.Pure : Prop := ∀ a0 : Int, ∃ (k : Nat) (r : List (List Int)), spec_SuitOrders.f k a0 = some r ∧ impl_SuitOrders.f k a0 = some r ∧ laws_eqInt64SS.f k r r = some true ∧ laws_heldInt64SS.f k (markRows 1 r) 1 = some (1 + total r) ∧ total r ≤ 1000000 ∧ r.length ≤ 1000000
set_option maxHeartbeats 8000000 in
set_option maxRecDepth 100000 in
theorem laws_FnExactSuitOrders.walk (P : laws_FnExactSuitOrders.Pure) (a0 : Int) (w : World) (w0 : (Lit.int .i64 a0).wf = true) :
    Calls Try.prog 21 #[.int .i64 a0] w fun e w' => e = .returned (.bool true) ∧ Below w.heap.size w w' := by
  obtain ⟨k, r, h1, h2, h3, h4, h5, h6⟩ := P a0
  have H1 := Aside0.mk h1
  have H2 := Aside0.mk h2
  have H3 := Aside0.mk h3
  have H4 := Aside0.mk h4
  have H5 := Aside0.mk h5
  have H6 := Aside0.mk h6
  have q1 : decide ((1 : Int) + (total r : Int) < 0) = false := decide_eq_false (by omega)
  clear h1 h2 h3 h4 h5 h6 w0
  go_enter Try.func21, Try.ntmps21
  go_wp2_with (go_at_call 73; refine (spec_SuitOrders.calls k a0 r _ H1.out).mono ?_; rintro e w1 ⟨v1, rfl, hS1, hb1⟩; have O1 := Own.of_made hS1 (Nat.le_refl _); clear hS1; obtain ⟨A1, c1, rfl, hc1, hC1⟩ := O1.reads)
  go_wp2_with (go_at_call 74; refine (impl_SuitOrders.calls k a0 r _ H2.out).mono ?_; rintro e w2 ⟨v2, rfl, hS2, hb2⟩; have O2 := Own.of_made hS2 hb1.size; clear hS2; obtain ⟨A2, c2, rfl, hc2, hC2⟩ := O2.reads)
  go_wp2_with (go_at_call 75; refine (laws_eqInt64SS.calls k A2 c2 r A1 c1 r true _ hC2 hc2 (Kd.C_below hC1 hb2) hc1 H3.out).mono ?_; rintro e w3 ⟨rfl, ⟨n3, rfl⟩⟩)
  have HB3 : Below w.heap.size w (w2.drewN n3) := below_drewN' (hb1.trans (hb2.mono hb1.size)) n3
  go_wp2_with (go_at_call 76; refine (Own.mark w 1 (O2.drewN n3) HB3 (by omega) (by have := H5.out; omega) (by have := H6.out; omega)).mono ?_; rintro e w4 ⟨rfl, O4, HB4, hK4⟩)
  have hheld : ∀ W : World, Own W w.heap.size w1.heap.size w2.heap.size (.slice A2 r.length c2) (markRows 1 r) → Calls Try.prog 77 #[.slice A2 r.length c2, .int .i64 1] W fun e w' => e = .returned (.int .i64 (1 + total r)) ∧ Drawn0 W w' := fun W O => by
    have := laws_heldInt64SS.calls k A2 c2 (markRows 1 r) 1 _ W O.C.2.2 O.C.2.1 H4.out
    rwa [markRows_len] at this
  have O1' := ((O1.below hb2).drewN n3).kept hK4 (.inl (Nat.le_refl _))
  clear O1 O2 hC1 hC2
  go_wp2_with (go_at_call 77; refine (hheld _ O4).mono ?_; rintro e w5 ⟨rfl, ⟨n5, rfl⟩⟩)
  go_wp2_with (go_at_call 74; refine (impl_SuitOrders.calls k a0 r _ H2.out).mono ?_; rintro e w6 ⟨v6, rfl, hS6, hb6⟩; obtain ⟨A6, c6, rfl, hc6, hC6⟩ := Kd.S_reads hS6)
  have O1'' := (O1'.drewN n5).below hb6
  have O4'' := (O4.drewN n5).below hb6
  go_wp2_with (go_at_call 75; refine (laws_eqInt64SS.calls k A6 c6 r A1 c1 r true _ hC6 hc6 O1''.C.2.2 hc1 H3.out).mono ?_; rintro e w7 ⟨rfl, ⟨n7, rfl⟩⟩)
  go_wp2_with (go_at_call 77; refine (hheld _ (O4''.drewN n7)).mono ?_; rintro e w8 ⟨rfl, ⟨n8, rfl⟩⟩)
  go_ret
  exact ⟨rfl, below_drewN' ((below_drewN' HB4 n5).trans (hb6.mono (below_drewN' HB4 n5).size)) _⟩
end Go.Proofs.Ytoggoimoameklaa.PAll
