/- A smaller copy of a text of this seat, made by pack.py for one law. -/
import Derived.Test.YtoggoimoameklaaQFnHandsPAllx0
import Derived.Test.YtoggoimoameklaaQFnHandsShelfC
import Derived.Test.YtoggoimoameklaaQFnHandsGivB
import Derived.Shelf.Strings.Builder1
import Derived.Shelf.Strings.Builder2
import Derived.Shelf.Strings.OnBuilder
import Derived.Shelf.Small.Bits
import Derived.Shelf.Small.Strs
import Derived.Shelf.Strconv.Itoa0
import Derived.Shelf.Strings.Search1
import Derived.Ground.SlgnProg
import Derived.Shelf.SlicesG.Turned
import Derived.Shelf.SlicesG.SearchI
import Derived.Shelf.SlicesE.Index
import Derived.Shelf.SlicesE.Reverse
import Derived.Shelf.SlicesE.Equal
import Derived.Ground.SlgfProg
import Derived.Shelf.SlicesE.IndexFunc
import Derived.Shelf.SlicesE.DeleteFunc
import Derived.Ground.SlgmProg
import Derived.Shelf.SortM.Plain
import Derived.Shelf.SortM.SortNone
import Derived.Test.YtoggoimoameklaaProg
import Derived.Sort.OwnSortedInts
import Derived.Test.YtoggoimoameklaaQFnHandsGivD
namespace Go.Proofs.Ytoggoimoameklaa.PAll
open Go.RowKit Go.Lib Go.Sort Go.Proofs.YtoggoimoameklaaW.PrintWords Go.Proofs.YtoggoimoameklaaW.PrintLast
set_option linter.unusedVariables false
theorem grow_none (w : World) : grow w #[] = w := by simp [grow]
theorem cell_same {w W : World} {B : Nat} (h : W.heap[B]? = w.heap[B]?) : W.cell? ⟨B, 0, none⟩ = w.cell? ⟨B, 0, none⟩ := by simp [World.cell?, h]
theorem ownsRow_cut {w : World} {base g cap q n : Nat} {e : TypeId} {cur : Array Value} {ts : List Int} (hn : n ≤ ts.length) (hbase : base ≤ g) (hb : w.heap[g]? = some (.cells cur e (0, 0)))
    (h1 : ts.length ≤ cap) (h2 : cap ≤ maxLen) (h3 : cur.size = cap * 1) :
    (putRow (Value.int .i64) (Sort.ahead w q) g 0 ts.toArray).ownsRow base e 1 (.slice (some ⟨g, 0, none⟩) n cap) n (nums .i64 (ts.take n)) := by
  have hh := heap_sortedI (n := q) (os := #[]) ts.toArray hb
  rw [grow_none] at hh
  refine ⟨by simp [nums]; omega, .inr ⟨g, cap, _, rfl, hbase, hh, by omega, h2, by simp [putCells, h3], ?_⟩⟩
  have ht := take_putCellsI cur ts (by omega)
  rw [Nat.mul_one]
  have : List.take n (List.take ts.length (putCells (Value.int .i64) 0 ts.toArray cur).toList) = List.take n (ts.map (Value.int .i64)) := by rw [ht]
  rw [List.take_take, Nat.min_eq_left hn] at this
  rw [this]; simp [nums, List.map_take]
theorem delete_own (f : Nat) (lb : Array Value) (eg : ∀ args w, (callFunc f args).run Try.prog w = .ok (.enter f args) w) (p : Int → Bool) (w : World) (base : Nat) (v : Value) (l : List Int)
    (hown : w.ownsRow base 2 1 v l.length (nums .i64 l)) (hl : l.length < 17592186044416) (hp : PredAt Try.prog f lb (fun x : Int => .int .i64 x) p w) (hpo : ∀ g, v.ownBlock = some g → PredOver Try.prog f lb (fun x : Int => .int .i64 x) p g 0 l.length w) :
    Calls Try.prog 141 #[v, .func (.func f) #[] lb] w fun e w' => ∃ v', e = .returned v' ∧ w'.ownsRow base 2 1 v' (l.filter fun x => !p x).length (nums .i64 (l.filter fun x => !p x)) ∧ w.grownBy w' v.ownBlock := by
  rcases hown.2 with ⟨rfl, hn⟩ | ⟨g, cap, cur, rfl, hg, hh, hc, hm, hs, ht⟩
  · have : l = [] := List.eq_nil_of_length_eq_zero hn
    subst this
    clear hp hpo
    have hI := fun W => Try.slices_IndexFunc_empty (α := Int) none 0 (.func (.func f) #[] lb) W
    go_enter Try.func141, Try.ntmps141
    go_wp2_with (go_at_call 155; refine (hI _).mono ?_; rintro e w' ⟨rfl, rfl⟩)
    go_ret
    exact ⟨_, rfl, hown, World.grownBy.refl _ _⟩
  · have hlt : g < w.heap.size := (Array.getElem?_eq_some_iff.1 hh).1
    have hH : Holds (Value.int .i64) w g 0 l.toArray := holds_of_blockI hh (by change List.take (l.length * 1) cur.toList = _ at ht; rw [Nat.mul_one] at ht; exact ht)
    have hO : OneCell (Value.int .i64) := fun _ => rfl
    refine (Try.slices_DeleteFunc (Value.int .i64) hO p f lb eg 0 (fun w => Try.zeroValue2 w) g 0 cap l.toArray w hp (hpo g rfl) hH (by simp; omega) (by simpa using hc)).mono fun e w' ⟨he, q, hw⟩ => ?_
    subst hw
    have hgr : w.grownBy (grow (putRow (Value.int .i64) (Sort.ahead w q) g 0 ((l.toArray.toList.filter fun x => !p x) ++ List.replicate (l.toArray.size - (l.toArray.toList.filter fun x => !p x).length) 0).toArray) #[]) (some g) := grownBy_sortedI _
    rw [grow_none] at hgr
    have hlen : (l.filter fun x => !p x).length ≤ l.length := List.length_filter_le _ _
    have hown' := ownsRow_cut (q := q) (n := (l.filter fun x => !p x).length) (ts := (l.filter fun x => !p x) ++ List.replicate (l.length - (l.filter fun x => !p x).length) 0) (by simp) hg hh (by simp; omega) hm hs
    rw [List.take_left] at hown'
    exact ⟨_, he, hown', hgr⟩
theorem beq_decide (x a : Int) : (x == a) = decide (x = a) := by by_cases h : x = a <;> simp [h]
theorem without_gives (a : Int) (B : Nat) (W : World) (x : Int) (hc : W.cell? ⟨B, 0, none⟩ = some (.int .i64 a)) : FnGives Try.prog 143 #[.pointer (some ⟨B, 0, none⟩)] #[.int .i64 x] (.bool (decide (x = a))) W := by
  unfold FnGives
  go_enter Try.func143, Try.ntmps143
  go_wp2
  go_ret
  exact ⟨congrArg (fun b => Ending.returned (Value.bool b)) (beq_decide x a), 0, rfl⟩
def impl_without.f (l0 : List Int) (a1 : Int) : Option (List Int) := if l0.length < 17592186044416 then some (l0.filter fun x => !decide (x = a1)) else none
set_option maxHeartbeats 2000000 in
theorem impl_without.calls (A0 : Option Addr) (c0 : Nat) (l0 : List Int) (a1 : Int) (r : List Int) (w : World) (hr0 : Kd.C (Kd.int .i64) w A0 l0.length l0) (hc0 : l0.length ≤ c0) (h : impl_without.f l0 a1 = some r) :
    Calls Try.prog 121 #[.slice A0 l0.length c0, .int .i64 a1] w fun e w' => ∃ v0_ : Value, e = .returned (v0_) ∧ Kd.R (Kd.int .i64) 2 w' w.heap.size (fun _ => True) v0_ r ∧ Below w.heap.size w w' := by
  unfold impl_without.f at h
  by_cases hl : l0.length < 17592186044416
  · rw [if_pos hl] at h
    obtain rfl := Option.some.inj h
    have hclone : ∀ W : World, Below w.heap.size w W → Calls Try.prog 142 #[.slice A0 l0.length c0] W fun e w' => ∃ v0_ : Value, e = .returned (v0_) ∧ Kd.R (Kd.int .i64) 2 w' W.heap.size (fun _ => True) v0_ l0 ∧ Below W.heap.size W w' := fun W hb =>
      slices_Clone_int64_int64.calls A0 c0 l0 l0 W (Kd.C_below hr0 hb) hc0 (by unfold slices_Clone_int64_int64.f; rw [if_pos hl])
    have key : ∀ (W : World) (v : Value) (B base : Nat), B < base → base ≤ W.heap.size → W.cell? ⟨B, 0, none⟩ = some (.int .i64 a1) → Kd.R (Kd.int .i64) 2 W base (fun _ => True) v l0 →
        Calls Try.prog 141 #[v, .func (.func 143) #[] #[.pointer (some ⟨B, 0, none⟩)]] W fun e w' => ∃ v', e = .returned v' ∧ Kd.R (Kd.int .i64) 2 w' base (fun _ => True) v' (l0.filter fun x => !decide (x = a1)) ∧ Below base W w' := by
      intro W v B base hB hbase hc hR
      obtain ⟨_, inner, hown, hrep⟩ := hR
      have hin : inner = nums .i64 l0 := reps_eq hrep
      subst hin
      refine (delete_own 143 _ (enters_of Try.func143 (by kernel_rfl) rfl) (fun x => decide (x = a1)) W base v l0 hown hl ?_ ?_).mono ?_
      · intro W' x hb
        exact without_gives a1 B W' x ((hb.cell (p := ⟨B, 0, none⟩) (by show B < W.heap.size; omega)).trans hc)
      · intro g hg n os dk x hdk
        refine without_gives a1 B _ x ((cell_same ?_).trans hc)
        exact (grownBy_sortedI (w := W) (g := g) (n := n) (os := os) dk).block B (by omega) (fun e => by
          have := own_base hown g hg
          injection e with e; omega)
      · rintro e w' ⟨v', rfl, ho, hg⟩
        refine ⟨v', rfl, Kd.R_of_own ho, (Below.refl _ _).grown hg hbase (fun k hk => own_base hown k hk)⟩
    clear hr0
    go_enter Try.func121, Try.ntmps121
    go_wp2_with (first
      | (go_at_call 142; refine (hclone _ (below_alloc (Below.refl _ _) _)).mono ?_; rintro e w1 ⟨v1, rfl, hR1, hb1⟩)
      | (go_at_call 141; go_loud (refine (key _ _ w.heap.size (w.heap.size + 1) (by omega) (by have := hb1.size; simp at this; omega) ((hb1.cell (p := ⟨w.heap.size, 0, none⟩) (by simp)).trans (by simp)) (by simpa using hR1)).mono ?_); rintro e w2 ⟨v2, rfl, hR2, hb2⟩))
    go_ret
    exact ⟨_, rfl, Kd.R_lower hR2 (by omega), (below_alloc (Below.refl _ _) _).trans ((hb1.mono (by simp)).trans (hb2.mono (by omega)))⟩
  · rw [if_neg hl] at h; cases h
end Go.Proofs.Ytoggoimoameklaa.PAll
