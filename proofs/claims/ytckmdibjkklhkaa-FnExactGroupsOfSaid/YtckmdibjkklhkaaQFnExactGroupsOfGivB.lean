/- A smaller copy of texts of this seat, made by pack.py for one law. -/
import Derived.Test.YtckmdibjkklhkaaQFnExactGroupsOfPAllx0
import Derived.Lib.SliceRun
namespace Go.Proofs.Ytckmdibjkklhkaa.PAll
open Go.RowKit Go.Proofs.YtckmdibjkklhkaaW.PrintWords Go.Proofs.YtckmdibjkklhkaaW.PrintLast
theorem Kd.C_none_nil {k : IntKind} {w : World} {l : List Int} (h : Kd.C (Kd.int k) w none l.length l) : l = [] := by
  cases l with
  | nil => rfl
  | cons x t =>
    obtain ⟨ad, e, _⟩ := h.2.2 (by simp)
    cases e
theorem reps_nums (k : IntKind) (w : World) (base : Nat) (ok : Nat → Prop) (l : List Int) : Reps ((Kd.int k).M w base ok) 1 l (nums k l) := by
  refine ⟨by simp [nums], fun j p hp => ?_⟩
  have hj := (List.getElem?_eq_some_iff.1 hp).1
  show (List.take 1 (List.drop (j * 1) (nums k l))) = [Value.int k p]
  have hn : (nums k l)[j]? = some (Value.int k p) := by simp [nums, hp]
  rw [Nat.mul_one, List.take_one, List.head?_drop, hn]; rfl
theorem reps_eq {k : IntKind} {w : World} {base : Nat} {ok : Nat → Prop} {l : List Int} {cs : List Value} (h : Reps ((Kd.int k).M w base ok) 1 l cs) : cs = nums k l := by
  apply List.ext_getElem?
  intro j
  by_cases hj : j < l.length
  · have h2 := h.2 j _ (List.getElem?_eq_getElem hj)
    change List.take 1 (List.drop (j * 1) cs) = [Value.int k l[j]] at h2
    rw [Nat.mul_one, List.take_one, List.head?_drop] at h2
    have h3 : cs[j]? = some (Value.int k l[j]) := by
      cases hc : cs[j]? with
      | none => rw [hc] at h2; cases h2
      | some v => rw [hc] at h2; injection h2 with h2 _; rw [h2]
    rw [h3]; simp [nums, hj]
  · have := h.1
    rw [List.getElem?_eq_none (by omega), List.getElem?_eq_none (by simp [nums]; omega)]
theorem Kd.R_of_own {k : IntKind} {e : Nat} {w : World} {base : Nat} {v : Value} {l : List Int} (h : w.ownsRow base e 1 v l.length (nums k l)) : Kd.R (Kd.int k) e w base (fun _ => True) v l :=
  ⟨fun _ _ => trivial, nums k l, h, reps_nums k w base _ l⟩
theorem Kd.C_cells {k : IntKind} {w : World} {ad : Addr} {l : List Int} (h : Kd.C (Kd.int k) w (some ad) l.length l) (j : Nat) (u : Value) (hu : (nums k l)[j]? = some u) : w.cell? (ad.add j) = some u := by
  have hj : j < l.length := by have := (List.getElem?_eq_some_iff.1 hu).1; simpa [nums] using this
  obtain ⟨ad', e, hc⟩ := Kd.at_int h (j : Int) (by omega) (by omega)
  cases e
  rw [Int.toNat_natCast] at hc
  rw [hc]
  simp only [nums, List.getElem?_map] at hu
  rw [List.getElem?_eq_getElem hj] at hu
  simp only [Option.map_some] at hu
  rw [← hu]; simp [rd, List.getD, hj]
end Go.Proofs.Ytckmdibjkklhkaa.PAll
