/- A smaller copy of a text of this seat, made by pack.py for one law. -/
import Derived.Test.YtoggoimoameklaaQFnHandsPAllx0
import Derived.Test.YtoggoimoameklaaQFnHandsShelfC
import Derived.Test.YtoggoimoameklaaQFnHandsGivG
namespace Go.Proofs.Ytoggoimoameklaa.PAll
open Go.RowKit Go.Lib Go.Sort Go.Proofs.YtoggoimoameklaaW.PrintWords Go.Proofs.YtoggoimoameklaaW.PrintLast
set_option linter.unusedVariables false
theorem bsearch_empty (A : Option Addr) (c : Nat) (x : Int) (w : World) : Calls Try.prog 146 #[.slice A 0 c, .int .i64 x] w fun e w' => e = .returned (.tuple #[.int .i64 0, .bool false]) ∧ ∃ q, w' = w.drewN q := by
  go_enter Try.func146, Try.ntmps146
  go_wp2
  go_loop [7, 8] (fun i j => i = .int .i64 0 ∧ j = .int .i64 0) (fun _ _ => 0)
  case atStart => exact ⟨rfl, rfl⟩
  case round =>
    obtain ⟨rfl, rfl⟩ := hrel
    go_wp2
    go_ret2
    exact ⟨rfl, 0, rfl⟩
theorem bsearch_calls (A : Option Addr) (c : Nat) (l : List Int) (x : Int) (w : World) (h : Kd.C (Kd.int .i64) w A l.length l) (hl : l.length < 4611686018427387904) (hs : l.Pairwise (· ≤ ·)) :
    Calls Try.prog 146 #[.slice A l.length c, .int .i64 x] w fun e w' => ∃ b : Bool, e = .returned (.tuple #[.int .i64 (l.countP (· < x) : Nat), .bool b]) ∧ ∃ q, w' = w.drewN q := by
  rcases Kd.C_at h with rfl | ⟨b, off, rfl, hc⟩
  · exact (bsearch_empty A c x w).mono fun e w' ⟨he, hw⟩ => ⟨false, he, hw⟩
  · have := Try.slices_BinarySearch_int b off l.length c l x w (Nat.le_refl _) hl hc (by rw [List.take_length]; exact hs)
    rw [List.take_length] at this
    exact this.mono fun e w' ⟨he, hw⟩ => ⟨_, he, hw⟩
def impl_with.f (l0 : List Int) (a1 : Int) : Option (List Int) := if l0.length < 17592186044415 ∧ l0.Pairwise (· ≤ ·) then some (insAt l0 (l0.countP (· < a1)) a1) else none
set_option maxHeartbeats 2000000 in
theorem impl_with.calls (A0 : Option Addr) (c0 : Nat) (l0 : List Int) (a1 : Int) (r : List Int) (w : World) (hr0 : Kd.C (Kd.int .i64) w A0 l0.length l0) (hc0 : l0.length ≤ c0) (h : impl_with.f l0 a1 = some r) :
    Calls Try.prog 127 #[.slice A0 l0.length c0, .int .i64 a1] w fun e w' => ∃ v0_ : Value, e = .returned (v0_) ∧ Kd.R (Kd.int .i64) 2 w' w.heap.size (fun _ => True) v0_ r ∧ Below w.heap.size w w' := by
  unfold impl_with.f at h
  by_cases hl : l0.length < 17592186044415 ∧ l0.Pairwise (· ≤ ·)
  · rw [if_pos hl] at h
    obtain rfl := Option.some.inj h
    obtain ⟨hl, hs⟩ := hl
    have hcnt : l0.countP (· < a1) ≤ l0.length := List.countP_le_length
    have HC := Aside0.mk hcnt
    have HL := Aside0.mk hl
    have hclone : ∀ W : World, Below w.heap.size w W → Calls Try.prog 142 #[.slice A0 l0.length c0] W fun e w' => ∃ v0_ : Value, e = .returned (v0_) ∧ Kd.R (Kd.int .i64) 2 w' W.heap.size (fun _ => True) v0_ l0 ∧ Below W.heap.size W w' := fun W hb =>
      slices_Clone_int64_int64.calls A0 c0 l0 l0 W (Kd.C_below hr0 hb) hc0 (by unfold slices_Clone_int64_int64.f; rw [if_pos (by omega)])
    have hbs := fun W (hb : Below w.heap.size w W) => bsearch_calls A0 c0 l0 a1 W (Kd.C_below hr0 hb) (by omega) hs
    clear hr0 hcnt hs hl h
    have key : ∀ (W : World) (v : Value) (base : Nat), Kd.R (Kd.int .i64) 2 W base (fun _ => True) v l0 → base ≤ W.heap.size → ∀ i, i ≤ l0.length →
        Calls Try.prog 147 #[v, .int .i64 (i : Nat), .slice (some ⟨W.heap.size, 0, none⟩) 1 1] (W.alloc (.cells #[.int .i64 a1] 2)) fun e w' => ∃ v', e = .returned v' ∧ Kd.R (Kd.int .i64) 2 w' base (fun _ => True) v' (insAt l0 i a1) ∧ Below base W w' := by
      intro W v base hR hbase i hi
      obtain ⟨_, inner, hown, hrep⟩ := Kd.R_alloc hR (.cells #[.int .i64 a1] 2)
      have hin : inner = nums .i64 l0 := reps_eq hrep
      subst hin
      have hlt := own_lt (w := W) (base := base) (e := 2) (size := 1) (v := v) (n := l0.length) hR.2.choose_spec.1
      refine (insert_own _ base W.heap.size i v l0 a1 hi hown HL.out (by simp; omega) (heap_alloc_new W _) (fun he => Nat.lt_irrefl _ (hlt _ he))).mono ?_
      rintro e w' ⟨v', rfl, ho, hg⟩
      refine ⟨v', rfl, Kd.R_of_own (by rw [insAt_len]; exact ho), ((below_alloc (Below.refl W.heap.size W) _).mono hbase).grown hg (by simp; omega) (fun k hk => own_base hown k hk)⟩
    obtain ⟨i, hi⟩ : ∃ i, i = l0.countP (· < a1) := ⟨_, rfl⟩
    rw [← hi] at hbs HC ⊢
    clear hi
    replace key := fun W v base h1 h2 => key W v base h1 h2 i HC.out
    go_enter Try.func127, Try.ntmps127
    go_wp2_with (first
      | (go_at_call 146; refine (hbs _ (Below.refl _ _)).mono ?_; rintro e w1 ⟨b1, rfl, q1, rfl⟩)
      | (go_at_call 142; refine (hclone _ (below_drewN' (Below.refl _ _) q1)).mono ?_; rintro e w1 ⟨v1, rfl, hR1, hb1⟩))
    refine (key _ _ _ hR1 (by have := hb1.size; simpa using this)).mono ?_
    rintro e w2 ⟨v2, rfl, hR2, hb2⟩
    go_wp2
    go_ret
    exact ⟨_, rfl, by simpa using hR2, (below_drewN' (Below.refl _ _) q1).trans (hb1.trans hb2)⟩
  · rw [if_neg hl] at h; cases h
end Go.Proofs.Ytoggoimoameklaa.PAll
