/- A smaller copy of texts of this seat, made by pack.py for one law. -/
import Derived.Test.YtckmdibjkklhkaaQFnExactEquivalentCardsPAllx0
import Derived.Test.YtckmdibjkklhkaaQFnExactEquivalentCardsGivJ
import Derived.Test.YtckmdibjkklhkaaQFnExactEquivalentCardsGivK
namespace Go.Proofs.Ytckmdibjkklhkaa.PAll
open Go.RowKit Go.Lib Go.Sort Go.Proofs.Ytckmdibjkklhkaa.Base Go.Proofs.YtckmdibjkklhkaaW.PrintWords Go.Proofs.YtckmdibjkklhkaaW.PrintLast
set_option linter.unusedVariables false
theorem holder_gives (c : Int) (B : Nat) (w W : World) (x : Seen w) (hb : Below w.heap.size w W) (hc : W.cell? ⟨B, 0, none⟩ = some (.int .i64 c)) :
    FnGives Try.prog 157 #[.pointer (some ⟨B, 0, none⟩)] #[x.enc] (.bool (x.l.contains c)) W := by
  obtain ⟨⟨A, cp, l⟩, hC, hl⟩ := x
  have HC := Aside0.mk (Kd.C_below hC hb)
  show FnGives Try.prog _ _ #[.slice A l.length cp] (.bool (l.contains c)) W
  clear hC hb
  unfold FnGives
  go_enter Try.func157, Try.ntmps157
  go_wp2_with (go_at_call 134; refine (contains_calls A cp l c _ HC.out (by have : l.length ≤ 4611686018427387904 := hl; omega)).mono ?_; rintro e w' ⟨rfl, rfl⟩)
  go_ret
  exact ⟨congrArg (fun b => Ending.returned (Value.bool b)) (by simp), 0, rfl⟩
theorem idx_holdF {w : World} (c : Int) (x0 : Seen w) : ∀ (zs : List (Seen w)) (i : Nat), Lib.idxByFrom (fun (_ : Seen w) y => y.l.contains c) x0 zs i = holdF c (zs.map Seen.l) i
  | [], i => rfl
  | y :: t, i => by
    simp only [Lib.idxByFrom, List.map_cons, holdF]
    by_cases h : c ∈ y.l
    · rw [if_pos (by simpa using h), if_pos h]
    · rw [if_neg (by simpa using h), if_neg h]; exact idx_holdF c x0 t (i + 1)
def impl_holder.f (l0 : List (List Int)) (a1 : Int) : Option Int := if ∀ x ∈ l0, x.length ≤ 2000000 then some (holderL l0 a1) else none
set_option maxHeartbeats 2000000 in
theorem impl_holder.calls (A0_0 : Option Addr) (c0_0 : Nat) (l0_0 : List (List Int)) (a1 : Int) (r : Int) (w : World) (hr0_0 : Kd.C (Kd.slice 2 (Kd.int .i64)) w A0_0 l0_0.length l0_0) (hc0_0 : l0_0.length ≤ c0_0) (h : impl_holder.f l0_0 a1 = some r) :
    Calls Try.prog 97 #[.agg #[.slice A0_0 l0_0.length c0_0], .int .i64 a1] w fun e w' => e = .returned (.int .i64 r) ∧ Below w.heap.size w w' := by
  unfold impl_holder.f at h
  by_cases hb : ∀ x ∈ l0_0, x.length ≤ 2000000
  · rw [if_pos hb] at h
    obtain rfl := Option.some.inj h
    have key : ∀ (W : World) (B : Nat), Below w.heap.size w W → B < W.heap.size → W.cell? ⟨B, 0, none⟩ = some (.int .i64 a1) →
        Calls Try.prog 156 #[.slice A0_0 l0_0.length c0_0, .func (.func 157) #[] #[.pointer (some ⟨B, 0, none⟩)]] W fun e w' => e = .returned (.int .i64 (holderL l0_0 a1)) ∧ ∃ q, w' = W.drewN q := by
      intro W B hbW hB hc
      by_cases hp : 0 < l0_0.length
      · obtain ⟨b, off, rfl, zs, hzs, hcell⟩ := seen_all (Kd.C_below hr0_0 hbW) (fun x hx => by have := hb x hx; omega) hp
        have hlen : zs.length = l0_0.length := by rw [← hzs]; simp
        have := Try.slices_IndexFunc_rows (Seen.enc (w := W)) (fun x => x.l.contains a1) 157 #[.pointer (some ⟨B, 0, none⟩)] (enters_of Try.func157 (by kernel_rfl) rfl) b off l0_0.length c0_0 zs W
          (fun W' x hbb => holder_gives a1 B W W' x hbb ((hbb.cell (p := ⟨B, 0, none⟩) hB).trans hc)) (by omega) (by have := hr0_0.2.1; omega) (fun j hj => by rw [hcell j hj]; simp [List.getD, hj])
        rw [show l0_0.length = zs.length from hlen.symm, List.take_length, hlen] at this
        refine this.mono fun e w' ⟨he, hw⟩ => ⟨?_, hw⟩
        rw [he]
        have hi := idx_holdF a1 default zs 0
        rw [hzs] at hi
        exact congrArg (fun n => Ending.returned (Value.int .i64 n)) hi
      · have : l0_0 = [] := List.eq_nil_of_length_eq_zero (by omega)
        subst this
        exact (Try.slices_IndexFunc_empty_rows (α := Int) A0_0 c0_0 _ W).mono fun e w' ⟨he, hw⟩ => ⟨he, 0, hw⟩
    clear hr0_0 hb h
    go_enter Try.func97, Try.ntmps97
    go_wp2_with (go_at_call 156; refine (key _ _ (below_alloc (below_alloc (Below.refl _ _) _) _) (by simp) (by simp)).mono ?_; rintro e w' ⟨rfl, q, rfl⟩)
    go_ret
    exact ⟨rfl, below_drewN' (below_alloc (below_alloc (Below.refl _ _) _) _) q⟩
  · rw [if_neg hb] at h; cases h
end Go.Proofs.Ytckmdibjkklhkaa.PAll
