/- A smaller copy of a text of this seat, made by pack.py for one law. -/
import Derived.Test.YtoggoimoameklaaQFnShapesLemA
import Derived.Test.YtoggoimoameklaaQFnShapesBase2
import Derived.Test.YtoggoimoameklaaQFnShapesPAllx1
import Derived.Test.YtoggoimoameklaaQFnShapesPAllx15
import Derived.Test.YtoggoimoameklaaQFnShapesPAllx3
import Derived.Test.YtoggoimoameklaaQFnShapesPAllx5
import Derived.Test.YtoggoimoameklaaQFnShapesPAllx7
namespace Go.Proofs.Ytoggoimoameklaa.Lem
open Go.RowKit Go.Proofs.Ytoggoimoameklaa.PAll Go.Proofs.Ytoggoimoameklaa.Base Go.Proofs.YtoggoimoameklaaW.PrintWords Go.Proofs.YtoggoimoameklaaW.PrintLast Go.Proofs.YtoggoimoameklaaW.PrintMore
set_option linter.unusedVariables false
set_option linter.unusedSimpArgs false
theorem suit_eq {c : Int} (h : Card c) : impl_suit.f c = some (c / 13) := by
  unfold impl_suit.f; rw [card_div h, w64 (by have := h.1; omega) (by have := h.2; omega)]
theorem rank_eq {c : Int} (h : Card c) : impl_rank.f c = some (c % 13) := by
  unfold impl_rank.f; rw [card_mod h]
theorem suitL_len (l : List Int) (s : Int) : (suitL l s).length ≤ l.length := List.length_filter_le _ _
theorem has_eq (l : List Int) (hl : l.length ≤ 2000000) (x : Int) (k : Nat) (hk : l.length < k) : spec_l01Has.f k l x = some (decide (x ∈ l)) := by
  unfold spec_l01Has.f
  have := run_loop (0 : Int) l 1 0 (fun k (_ : Unit) i => spec_l01Has.l0 k l x i) (fun _ y => if y = x then .inr true else .inl ()) (fun _ => false) (fun _ _ => True)
    (by intro k o i _ _ hi; simp only [spec_l01Has.l0]; rw [if_neg (by omega)])
    (by
      intro k o i _ ho hi
      simp only [spec_l01Has.l0]
      rw [if_pos (by omega), if_pos (by omega), rd_nat, wrap_nat i (by omega)]
      by_cases e : l.getD i 0 = x
      · rw [if_pos e, if_pos e]
      · rw [if_neg e, if_neg e])
    (by intros; trivial) l k 0 () rfl (by omega) trivial
  refine this.trans ?_
  congr 1
  clear this hk hl
  induction l with
  | nil => simp [run]
  | cons y t ih =>
    simp only [run]
    by_cases e : y = x
    · simp [e]
    · rw [if_neg e]; simp only; rw [ih]; exact decide_eq_decide.mpr (by simp [Ne.symm e])
def idxL (l : List Int) (x : Int) : Nat → Int
  | i => run (fun (j : Int) y => if x = y then .inr j else .inl (j + 1)) (fun _ => (-1 : Int)) l (i : Int)
theorem idxL_iff (x : Int) (l : List Int) : ∀ i : Nat, 0 ≤ idxL l x i ↔ x ∈ l := by
  induction l with
  | nil => intro i; simp [idxL, run]
  | cons y t ih =>
    intro i
    simp only [idxL, run]
    by_cases e : x = y
    · simp [e]
    · rw [if_neg e]; simp only
      have := ih (i + 1)
      simp only [idxL] at this
      rw [show ((i + 1 : Nat) : Int) = (i : Int) + 1 by omega] at this
      rw [this]; simp [e]
theorem index_eq (l : List Int) (hl : l.length ≤ 2000000) (x : Int) (k : Nat) (hk : l.length < k) : slices_Index_int64_int64.f k l x = some (idxL l x 0) := by
  unfold slices_Index_int64_int64.f
  exact run_loop (0 : Int) l 1 0 (fun k (_ : Int) i => slices_Index_int64_int64.l0 k l x (l.length : Int) i) (fun (j : Int) y => if x = y then .inr j else .inl (j + 1)) (fun _ => (-1 : Int)) (fun i j => j = (i : Int))
    (by intro k o i _ _ hi; simp only [slices_Index_int64_int64.l0]; rw [if_neg (by omega)])
    (by
      intro k o i _ ho hi
      simp only [slices_Index_int64_int64.l0]
      rw [if_pos (by omega), if_pos (by omega), if_pos (by omega), rd_nat, wrap_nat i (by omega)]
      by_cases e : x = l.getD i 0
      · rw [if_pos e, if_pos e, ho]
      · rw [if_neg e, if_neg e])
    (by
      intro o i s' ho hi hs
      by_cases e : x = l.getD i 0
      · rw [if_pos e] at hs; cases hs
      · rw [if_neg e] at hs; injection hs with hs; omega) l k 0 0 rfl (by omega) rfl
theorem contains_eq (l : List Int) (hl : l.length ≤ 2000000) (x : Int) (k : Nat) (hk : l.length < k) : slices_Contains_int64_int64.f k l x = some (decide (x ∈ l)) := by
  unfold slices_Contains_int64_int64.f
  rw [index_eq l hl x k hk, Option.bind_some]
  congr 1; exact decide_eq_decide.mpr (idxL_iff x l 0)
theorem hasRank_eq (l : List Int) (hl : l.length ≤ 2000000) (s b : Int) (hs : 0 ≤ s ∧ s ≤ 1000) (hb : 0 ≤ b ∧ b ≤ 1000) (k : Nat) (hk : l.length < k) : impl_hasRank.f k l s b = some (decide (13 * s + (12 - b) ∈ l)) := by
  unfold impl_hasRank.f
  rw [w64 (n := 13 * s) (by omega) (by omega), w64 (n := 13 * s + 13) (by omega) (by omega), w64 (n := 13 * s + 13 - 1) (by omega) (by omega), w64 (n := 13 * s + 13 - 1 - b) (by omega) (by omega), contains_eq l hl _ k hk, Option.bind_some,
    show 13 * s + 13 - 1 - b = 13 * s + (12 - b) by omega]
def ptOf (cs : List Int) (c : Int) : Int := if 12 - c % 13 < (cs.length : Int) then cs.getD (12 - c % 13).toNat 0 else 0
theorem points_eq (l cs : List Int) (hl : l.length ≤ 2000000) (hc : ∀ x ∈ l, Card x) (hcs : ∀ x ∈ cs, 0 ≤ x ∧ x ≤ 1000) (k : Nat) (hk : l.length < k) : impl_points.f k l cs = some (sumOf (ptOf cs) l) := by
  have hp : ∀ c, 0 ≤ ptOf cs c ∧ ptOf cs c ≤ 1000 := by
    intro c; unfold ptOf; split
    · by_cases h : (12 - c % 13).toNat < cs.length
      · exact hcs _ (getD_mem h)
      · rw [List.getD_eq_getElem?_getD, List.getElem?_eq_none (by omega)]; simp
    · omega
  unfold impl_points.f
  have := fold_loop (0 : Int) l 1 0 (fun k (o : Int) i => impl_points.l0 k cs o l (l.length : Int) i) (fun o x => o + ptOf cs x) id (fun i o => 0 ≤ o ∧ o ≤ 1000 * i)
    (by intro k o i _ _ hi; simp only [impl_points.l0]; rw [if_neg (by omega)]; rfl)
    (by
      intro k o i _ ho hi
      have h := hc _ (getD_mem hi)
      have hpt := hp (l.getD i 0)
      have hm : 0 ≤ l.getD i 0 % 13 ∧ l.getD i 0 % 13 < 13 := by omega
      simp only [impl_points.l0]
      rw [if_pos (by omega), if_pos (by omega), if_pos (by omega), rd_nat, rank_eq h, Option.bind_some, wrap_nat i (by omega), w64 (n := 12 - l.getD i 0 % 13) (by omega) (by omega)]
      have er : rd cs (12 - l.getD i 0 % 13) = cs.getD (12 - l.getD i 0 % 13).toNat 0 := rfl
      by_cases e : 12 - l.getD i 0 % 13 < (cs.length : Int)
      · have ep : ptOf cs (l.getD i 0) = cs.getD (12 - l.getD i 0 % 13).toNat 0 := if_pos e
        rw [if_pos e, if_pos (by omega), er, ← ep, w64 (by omega) (by omega)]
      · have ep : ptOf cs (l.getD i 0) = 0 := if_neg e
        rw [if_neg e, ep]; simp)
    (by intro o i ho hi; have := hp (l.getD i 0); omega) l k 0 0 rfl (by omega) (by omega)
  rw [foldl_sum] at this
  simpa using this
theorem each_card {p : Int → Prop} (h : ∀ n : Nat, n < 52 → p (n : Int)) {c : Int} (hc : Card c) : p c := by
  obtain ⟨n, rfl⟩ := Int.eq_ofNat_of_zero_le hc.1
  exact h n (by have := hc.2; omega)
theorem controls_pt (c : Int) (h : Card c) : ptOf [2, 1] c = max 0 (c % 13 - 10) := each_card (p := fun c => ptOf [2, 1] c = max 0 (c % 13 - 10)) (by decide) h
theorem points_pt (c : Int) (h : Card c) : ptOf [4, 3, 2, 1] c = max 0 (c % 13 - 8) := each_card (p := fun c => ptOf [4, 3, 2, 1] c = max 0 (c % 13 - 8)) (by decide) h
theorem implControls_eq (l : List Int) (hl : l.length ≤ 9223372036854775806) (k : Nat) (hk : l.length < k) : impl_ControlsOf.f k l = some (if Hand l then sumOf (fun c => max 0 (c % 13 - 10)) l else -1) := by
  unfold impl_ControlsOf.f impl_controls.f
  rw [implHand_eq l hl k hk, Option.bind_some]
  by_cases h : Hand l
  · rw [if_pos (by simpa using h), if_pos h, points_eq l _ (by have := h.1; omega) h.2.1 (by decide) k hk, Option.bind_some, Option.bind_some, sumOf_congr _ _ l fun x hx => controls_pt x (h.2.1 x hx)]
  · rw [if_neg (by simpa using h), if_neg h]
theorem implPoints_eq (l : List Int) (hl : l.length ≤ 9223372036854775806) (k : Nat) (hk : l.length < k) : impl_HighCardPoints.f k l = some (if Hand l then sumOf (fun c => max 0 (c % 13 - 8)) l else -1) := by
  unfold impl_HighCardPoints.f impl_highCardPoints.f
  rw [implHand_eq l hl k hk, Option.bind_some]
  by_cases h : Hand l
  · rw [if_pos (by simpa using h), if_pos h, points_eq l _ (by have := h.1; omega) h.2.1 (by decide) k hk, Option.bind_some, Option.bind_some, sumOf_congr _ _ l fun x hx => points_pt x (h.2.1 x hx)]
  · rw [if_neg (by simpa using h), if_neg h]
end Go.Proofs.Ytoggoimoameklaa.Lem
