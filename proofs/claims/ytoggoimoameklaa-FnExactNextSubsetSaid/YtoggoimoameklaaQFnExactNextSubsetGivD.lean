/- A smaller copy of a text of this seat, made by pack.py for one law. -/
import Derived.Test.YtoggoimoameklaaQFnExactNextSubsetPAllx0
import Derived.Test.YtoggoimoameklaaQFnExactNextSubsetShelfC
import Derived.Test.YtoggoimoameklaaQFnExactNextSubsetGivB
import Derived.Lib.LaidU8
namespace Go.Proofs.Ytoggoimoameklaa.PAll
open Go.RowKit Go.Lib Go.Proofs.YtoggoimoameklaaW.PrintWords Go.Proofs.YtoggoimoameklaaW.PrintLast
set_option linter.unusedVariables false
theorem Kd.C_at {k : IntKind} {w : World} {A : Option Addr} {l : List Int} (h : Kd.C (Kd.int k) w A l.length l) :
    l = [] ∨ ∃ b off, A = some ⟨b, off, none⟩ ∧ ∀ j, j < l.length → w.cell? ⟨b, off + j, none⟩ = some (.int k (l.getD j 0)) := by
  cases A with
  | none => exact .inl (Kd.C_none_nil h)
  | some ad =>
    obtain ⟨b, off, sp⟩ := ad
    have hc : ∀ j, j < l.length → w.cell? (Addr.add ⟨b, off, sp⟩ j) = some (.int k (l.getD j 0)) := fun j hj => Kd.C_cells h j _ (by simp [nums, hj])
    by_cases hl : l.length = 0
    · exact .inl (List.eq_nil_of_length_eq_zero hl)
    · have h0 := hc 0 (by omega)
      have hs : sp = none := cell_spot (b := b) (o := off) (by simpa [Addr.add] using h0)
      subst hs
      refine .inr ⟨b, off, rfl, fun j hj => ?_⟩
      have := hc j hj
      unfold Addr.add at this
      split at this
      · rename_i e; subst e; exact this
      · exact this
theorem contains_calls (A : Option Addr) (c : Nat) (l : List Int) (x : Int) (w : World) (h : Kd.C (Kd.int .i64) w A l.length l) (hl : l.length ≤ 9223372036854775807) :
    Calls Try.prog 120 #[.slice A l.length c, .int .i64 x] w fun e w' => e = .returned (.bool (l.contains x)) ∧ w' = w := by
  rcases Kd.C_at h with rfl | ⟨b, off, rfl, hc⟩
  · exact Try.slices_Contains_int_empty A c x w
  · have := Try.slices_Contains_int b off l.length c l x w (Nat.le_refl _) hl hc
    rwa [List.take_length] at this
theorem isSubset_pred (A : Option Addr) (c : Nat) (l : List Int) (B : Nat) (w : World) (hB : B < w.heap.size) (hc : w.cell? ⟨B, 0, none⟩ = some (.slice A l.length c)) (h : Kd.C (Kd.int .i64) w A l.length l) (hl : l.length ≤ 9223372036854775807) :
    PredAt Try.prog 139 #[.pointer (some ⟨B, 0, none⟩)] (fun x : Int => .int .i64 x) (fun x => !l.contains x) w := by
  intro W x hb
  have hc' := (hb.cell (p := ⟨B, 0, none⟩) hB).trans hc
  have h' := Kd.C_below h hb
  unfold FnGives
  go_enter Try.func139, Try.ntmps139
  go_wp2_with (go_at_call 120; refine (contains_calls A c l x _ (by first | exact h' | assumption) hl).mono ?_; rintro e w' ⟨rfl, rfl⟩)
  go_ret
  exact ⟨by simp, 0, rfl⟩
theorem subset_all (l0 l1 : List Int) : (!l0.any fun x => !decide (x ∈ l1)) = (l0.all fun x => l1.contains x) := by
  induction l0 with
  | nil => rfl
  | cons x t ih => rw [List.any_cons, List.all_cons, ← ih]; simp
def impl_isSubset.f (l0 l1 : List Int) : Option Bool := if l1.length < 4611686018427387904 then some (l0.all fun x => l1.contains x) else none
set_option maxHeartbeats 2000000 in
theorem impl_isSubset.calls (A0 : Option Addr) (c0 : Nat) (l0 : List Int) (A1 : Option Addr) (c1 : Nat) (l1 : List Int) (r : Bool) (w : World) (hr0 : Kd.C (Kd.int .i64) w A0 l0.length l0) (hc0 : l0.length ≤ c0) (hr1 : Kd.C (Kd.int .i64) w A1 l1.length l1) (hc1 : l1.length ≤ c1) (h : impl_isSubset.f l0 l1 = some r) :
    Calls Try.prog 118 #[.slice A0 l0.length c0, .slice A1 l1.length c1] w fun e w' => e = .returned (.bool r) ∧ Below w.heap.size w w' := by
  unfold impl_isSubset.f at h
  by_cases hl : l1.length < 4611686018427387904
  · rw [if_pos hl] at h
    obtain rfl := Option.some.inj h
    have key : ∀ (W : World) (B : Nat), Below w.heap.size w W → B < W.heap.size → W.cell? ⟨B, 0, none⟩ = some (.slice A1 l1.length c1) →
        Calls Try.prog 138 #[.slice A0 l0.length c0, .func (.func 139) #[] #[.pointer (some ⟨B, 0, none⟩)]] W fun e w' => e = .returned (.bool (l0.any fun x => !l1.contains x)) ∧ ∃ q, w' = W.drewN q := by
      intro W B hb hB hc
      have h0 := Kd.C_below hr0 hb
      have h1 := Kd.C_below hr1 hb
      rcases Kd.C_at h0 with rfl | ⟨b, off, rfl, hcell⟩
      · refine (Try.slices_ContainsFunc_empty (α := Int) A0 c0 _ W).mono ?_
        rintro e w' ⟨rfl, rfl⟩
        exact ⟨rfl, 0, rfl⟩
      · have := Try.slices_ContainsFunc (fun x : Int => .int .i64 x) (fun x => !l1.contains x) 139 #[.pointer (some ⟨B, 0, none⟩)] (enters_of Try.func139 (by kernel_rfl) rfl) b off l0.length c0 l0 W (isSubset_pred A1 c1 l1 B W hB hc h1 (by omega)) (Nat.le_refl _) (by have := hr0.2.1; omega) (by
          intro j hj
          rw [hcell j hj]
          simp [List.getD, hj])
        rwa [List.take_length] at this
    clear hr0 hr1
    go_enter Try.func118, Try.ntmps118
    go_wp2_with (go_at_call 138; refine (key _ _ (below_alloc (Below.refl _ _) _) (by simp) (by simp)).mono ?_; rintro e w' ⟨rfl, q, rfl⟩)
    go_ret
    refine ⟨?_, below_drewN' (below_alloc (Below.refl _ _) _) q⟩
    exact congrArg (fun b => Ending.returned (Value.bool b)) (subset_all l0 l1)
  · rw [if_neg hl] at h; cases h
end Go.Proofs.Ytoggoimoameklaa.PAll
