/- A smaller copy of texts of this seat, made by pack.py for one law. -/
import Derived.Test.YtckmdibjkklhkaaQFnExactGroupsOfPAllx0
import Derived.Test.YtckmdibjkklhkaaQFnExactGroupsOfShelfB
import Derived.Test.YtckmdibjkklhkaaQFnExactGroupsOfGivB
import Derived.Sort.OwnSortedInts
namespace Go.Proofs.Ytckmdibjkklhkaa.PAll
open Go.RowKit Go.Proofs.YtckmdibjkklhkaaW.PrintWords Go.Proofs.YtckmdibjkklhkaaW.PrintLast Go.Sort
def slices_Sort_int64_int64.f (l0 : List Int) : Option (List Int) := if l0.length < 2305843009213693952 then some (l0.mergeSort fun x y => decide (x ≤ y)) else none
set_option maxHeartbeats 2000000 in
theorem slices_Sort_int64_int64.calls (P0_ : Nat → Prop) (u9000_ : Value) (l0 : List Int) (r : List Int) (w0 w : World) (hB : Below w0.heap.size w0 w) (ho0 : Kd.R (Kd.int .i64) 2 w w0.heap.size P0_ u9000_ l0) (h : slices_Sort_int64_int64.f l0 = some r) :
    Calls Try.prog 167 #[u9000_] w fun e w' => e = .returned (.tuple #[]) ∧ Kd.R (Kd.int .i64) 2 w' w0.heap.size (fun k_ => (P0_ k_ ∨ w.heap.size ≤ k_)) u9000_ r ∧ Below w0.heap.size w0 w' ∧ Kept w w' (fun k_ => P0_ k_) := by
  unfold slices_Sort_int64_int64.f at h
  by_cases hl : l0.length < 2305843009213693952
  · rw [if_pos hl] at h
    obtain rfl := Option.some.inj h
    obtain ⟨hok, inner, hown, hrep⟩ := ho0
    have hin : inner = nums .i64 l0 := reps_eq hrep
    subst hin
    rcases hown.2 with ⟨rfl, hn⟩ | ⟨g, cap, cur, rfl, hg, hh, hc, hm, hs, ht⟩
    · have : l0 = [] := List.eq_nil_of_length_eq_zero hn
      subst this
      refine (Try.slices_Sort_int_none none 0 w).mono fun e w' ⟨he, hw⟩ => ?_
      subst hw
      refine ⟨he, ?_, hB, Kept.refl _ _⟩
      rw [List.mergeSort_nil]; exact Kd.R_nil _ _ _ _ _
    · have hlt : g < w.heap.size := (Array.getElem?_eq_some_iff.1 hh).1
      have hH : Holds (Value.int .i64) w g 0 l0.toArray := holds_of_blockI hh (by change List.take (l0.length * 1) cur.toList = _ at ht; rw [Nat.mul_one] at ht; exact ht)
      refine (Try.slices_Sort_int g 0 cap l0 w hH hlt (by omega)).mono fun e w' ⟨he, n, os, hw⟩ => ?_
      subst hw
      have hgr : w.grownBy (grow (putRow (Value.int .i64) (Sort.ahead w n) g 0 (l0.mergeSort fun x y => decide (x ≤ y)).toArray) os) (some g) := grownBy_sortedI _
      refine ⟨he, ⟨fun k hk => .inl (hok k hk), nums .i64 _, ?_, reps_nums _ _ _ _ _⟩, ?_, ?_⟩
      · have := ownsRow_sortedI (n := n) (os := os) (ss := l0) (ts := l0.mergeSort fun x y => decide (x ≤ y)) (List.length_mergeSort _) hg hh hc hm hs
        rw [List.length_mergeSort]
        exact this
      · exact hB.grown hgr hB.size (fun k hk => by cases hk; exact hg)
      · exact Kept.of_grown hgr (Kept.refl _ _) (fun k hk => by cases hk; exact .inl (hok g rfl))
  · rw [if_neg hl] at h; cases h
end Go.Proofs.Ytckmdibjkklhkaa.PAll
