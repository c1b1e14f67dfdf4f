/- A smaller copy of texts of this seat, made by pack.py for one law. -/
import Derived.Test.YtckmdibjkklhkaaQFnExactGroupsOfGivM
namespace Go.Proofs.Ytckmdibjkklhkaa.PAll
open Go.RowKit Go.Lib Go.Proofs.Ytckmdibjkklhkaa.Base Go.Proofs.Ytckmdibjkklhkaa.Lem Go.Proofs.YtckmdibjkklhkaaW.PrintWords Go.Proofs.YtckmdibjkklhkaaW.PrintLast
set_option linter.unusedVariables false
theorem below_le {B : Nat} {a b : World} (h : Below B a b) : a.heap.size ≤ b.heap.size := h.size
theorem box_new (w : World) (v : Value) (t : TypeId) : (w.alloc (.cells #[v] t)).cell? ⟨w.heap.size, 0, none⟩ = some v := by simp
theorem box_old {w : World} {b : Nat} {v : Value} (h : w.cell? ⟨b, 0, none⟩ = some v) (o : Obj) : (w.alloc o).cell? ⟨b, 0, none⟩ = some v :=
  ((below_alloc (Below.refl w.heap.size w) o).cell (p := ⟨b, 0, none⟩) (World.block_lt_of_cell? w _ h)).trans h
set_option maxHeartbeats 2000000 in
theorem Own.markDeal {W : World} {lo hi : Nat} {v : Value} {xs : List (List Int)} (w0 : World) (a : Int) (h : Own W w0.heap.size lo hi v xs) (hB : Below w0.heap.size w0 W) (h0 : 0 ≤ a) (hsum : a + total xs ≤ 10000000) (hlen : xs.length ≤ 10000000) :
    Calls Try.prog 35 #[.agg #[v], .int .i64 a] W fun e w' => e = .returned (.int .i64 (a + total xs)) ∧ Own w' w0.heap.size lo hi v (markRows a xs) ∧ Below w0.heap.size w0 w' ∧ Kept W w' (fun k => lo ≤ k ∧ k < hi) := by
  obtain ⟨A, c, rfl, _, _⟩ := h.reads
  have key := fun (X : World) (O : Own X w0.heap.size lo hi (.slice A xs.length c) xs) (hBX : Below w0.heap.size w0 X) => O.mark w0 a hBX h0 hsum hlen
  have HO := Aside0.mk h
  have HB := Aside0.mk hB
  clear h hB hsum hlen
  go_enter Try.func35, Try.ntmps35
  go_wp2_with (go_at_call 49; refine (key _ (HO.out.below (below_alloc (Below.refl _ _) _)) (below_alloc HB.out _)).mono ?_; rintro e w1 ⟨rfl, hO1, hB1, hK1⟩)
  go_ret
  exact ⟨rfl, hO1, hB1, (Kept.of_below (below_alloc (Below.refl _ _) _) _).then_ hK1 (fun k hk => .inl hk)⟩
end Go.Proofs.Ytckmdibjkklhkaa.PAll
