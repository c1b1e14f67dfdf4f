/- A smaller copy of a text of this seat, made by pack.py for one law. -/
import Derived.Test.YtckmdibjkklhkaaQFnExactDealNumbersPAllx0
import Derived.Test.YtckmdibjkklhkaaQFnExactDealNumbersShelfC
import Derived.Test.YtckmdibjkklhkaaQFnExactDealNumbersGivE0
namespace Go.Proofs.Ytckmdibjkklhkaa.PAll
open Go.RowKit Go.Lib Go.Sort Go.Proofs.YtckmdibjkklhkaaW.PrintWords Go.Proofs.YtckmdibjkklhkaaW.PrintLast
set_option linter.unusedVariables false
theorem C_block_lt {w : World} {A : Option Addr} {l : List Int} (h : Kd.C (Kd.int .i64) w A l.length l) : ∀ ad, A = some ad → 0 < l.length → ad.block < w.heap.size := by
  intro ad e hl
  rcases Kd.C_at h with rfl | ⟨b, off, rfl, hc⟩
  · simp at hl
  · injection e with e
    subst e
    exact World.block_lt_of_cell? w ⟨b, off + 0, none⟩ (hc 0 hl)
theorem apart_gives (A : Option Addr) (c : Nat) (l : List Int) (B : Nat) (W : World) (x : Int) (hc : W.cell? ⟨B, 0, none⟩ = some (.slice A l.length c)) (h : Kd.C (Kd.int .i64) W A l.length l) (hl : l.length ≤ 9223372036854775807) :
    FnGives Try.prog 165 #[.pointer (some ⟨B, 0, none⟩)] #[.int .i64 x] (.bool (l.contains x)) W := by
  have HC := Aside0.mk h
  clear h
  unfold FnGives
  go_enter Try.func165, Try.ntmps165
  go_wp2_with (go_at_call 134; refine (contains_calls A c l x _ HC.out hl).mono ?_; rintro e w' ⟨rfl, rfl⟩)
  go_ret
  exact ⟨congrArg (fun b => Ending.returned (Value.bool b)) (by simp), 0, rfl⟩
def impl_apart.f (l0 l1 : List Int) : Option (List Int) := if l0.length < 17592186044416 ∧ l1.length < 4611686018427387904 then some (l0.filter fun x => !l1.contains x) else none
set_option maxHeartbeats 2000000 in
theorem impl_apart.calls (A0 : Option Addr) (c0 : Nat) (l0 : List Int) (A1 : Option Addr) (c1 : Nat) (l1 : List Int) (r : List Int) (w : World) (hr0 : Kd.C (Kd.int .i64) w A0 l0.length l0) (hc0 : l0.length ≤ c0) (hr1 : Kd.C (Kd.int .i64) w A1 l1.length l1) (hc1 : l1.length ≤ c1) (h : impl_apart.f l0 l1 = some r) :
    Calls Try.prog 110 #[.slice A0 l0.length c0, .slice A1 l1.length c1] w fun e w' => ∃ v0_ : Value, e = .returned (v0_) ∧ Kd.R (Kd.int .i64) 2 w' w.heap.size (fun _ => True) v0_ r ∧ Below w.heap.size w w' := by
  unfold impl_apart.f at h
  by_cases hl' : l0.length < 17592186044416 ∧ l1.length < 4611686018427387904
  · rw [if_pos hl'] at h
    obtain rfl := Option.some.inj h
    obtain ⟨hl, hl1⟩ := hl'
    have hclone : ∀ W : World, Below w.heap.size w W → Calls Try.prog 108 #[.slice A0 l0.length c0] W fun e w' => ∃ v0_ : Value, e = .returned (v0_) ∧ Kd.R (Kd.int .i64) 2 w' W.heap.size (fun _ => True) v0_ l0 ∧ Below W.heap.size W w' := fun W hb =>
      slices_Clone_int64_int64.calls A0 c0 l0 l0 W (Kd.C_below hr0 hb) hc0 (by unfold slices_Clone_int64_int64.f; rw [if_pos hl])
    have hblk := C_block_lt hr1
    have key : ∀ (W : World) (v : Value) (B base : Nat), w.heap.size ≤ B → B < base → base ≤ W.heap.size → Below w.heap.size w W → W.cell? ⟨B, 0, none⟩ = some (.slice A1 l1.length c1) → Kd.R (Kd.int .i64) 2 W base (fun _ => True) v l0 →
        Calls Try.prog 164 #[v, .func (.func 165) #[] #[.pointer (some ⟨B, 0, none⟩)]] W fun e w' => ∃ v', e = .returned v' ∧ Kd.R (Kd.int .i64) 2 w' base (fun _ => True) v' (l0.filter fun x => !l1.contains x) ∧ Below base W w' := by
      intro W v B base hwB hB hbase hbW hc hR
      have hC := Kd.C_below hr1 hbW
      obtain ⟨_, inner, hown, hrep⟩ := hR
      have hin : inner = nums .i64 l0 := reps_eq hrep
      subst hin
      refine (delete_own 165 _ (enters_of Try.func165 (by kernel_rfl) rfl) (fun x => l1.contains x) W base v l0 hown hl ?_ ?_).mono ?_
      · intro W' x hb
        exact apart_gives A1 c1 l1 B W' x ((hb.cell (p := ⟨B, 0, none⟩) (by show B < W.heap.size; omega)).trans hc) (Kd.C_below hC hb) (by omega)
      · intro g hg n os dk x hdk
        have hgb := own_base hown g hg
        have hgr := grownBy_sortedI (w := W) (g := g) (n := n) (os := os) dk
        refine apart_gives A1 c1 l1 B _ x ((cell_same ?_).trans hc) ?_ (by omega)
        · exact hgr.block B (by omega) (fun e => by injection e with e; omega)
        · exact Kd.C_foot_ne (g := g) (fun h => h) hC (fun ad he hn => by have := hblk ad he hn; have h2 := hgb; omega) _ ⟨hgr.size, fun i hi hig _ => hgr.block i hi (fun e => by injection e with e; exact hig e)⟩
      · rintro e w' ⟨v', rfl, ho, hg⟩
        refine ⟨v', rfl, Kd.R_of_own ho, (Below.refl _ _).grown hg hbase (fun k hk => own_base hown k hk)⟩
    clear hr0 hr1 hblk
    go_enter Try.func110, Try.ntmps110
    go_wp2_with (first
      | (go_at_call 108; refine (hclone _ (below_alloc (Below.refl _ _) _)).mono ?_; rintro e w1 ⟨v1, rfl, hR1, hb1⟩)
      | (go_at_call 164; go_loud (refine (key _ _ w.heap.size (w.heap.size + 1) (Nat.le_refl _) (by omega) (by have := hb1.size; simp at this; omega) ((below_alloc (Below.refl _ _) _).trans (hb1.mono (by simp))) ((hb1.cell (p := ⟨w.heap.size, 0, none⟩) (by simp)).trans (by simp)) (by simpa using hR1)).mono ?_); rintro e w2 ⟨v2, rfl, hR2, hb2⟩))
    go_ret
    exact ⟨_, rfl, Kd.R_lower hR2 (by omega), (below_alloc (Below.refl _ _) _).trans ((hb1.mono (by simp)).trans (hb2.mono (by omega)))⟩
  · rw [if_neg hl'] at h; cases h
end Go.Proofs.Ytckmdibjkklhkaa.PAll
