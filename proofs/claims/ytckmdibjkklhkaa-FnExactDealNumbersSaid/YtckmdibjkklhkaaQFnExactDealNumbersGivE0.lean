/- A smaller copy of a text of this seat, made by pack.py for one law. -/
import Derived.Test.YtckmdibjkklhkaaQFnExactDealNumbersPAllx0
import Derived.Test.YtckmdibjkklhkaaQFnExactDealNumbersShelfC
import Derived.Test.YtckmdibjkklhkaaQFnExactDealNumbersGivB
import Derived.Test.YtckmdibjkklhkaaQFnExactDealNumbersGivC
import Derived.Test.YtckmdibjkklhkaaQFnExactDealNumbersGivD0
import Derived.Sort.OwnSortedInts
namespace Go.Proofs.Ytckmdibjkklhkaa.PAll
open Go.RowKit Go.Lib Go.Sort Go.Proofs.YtckmdibjkklhkaaW.PrintWords Go.Proofs.YtckmdibjkklhkaaW.PrintLast
set_option linter.unusedVariables false
theorem grow_none (w : World) : grow w #[] = w := by simp [grow]
theorem cell_same {w W : World} {B : Nat} (h : W.heap[B]? = w.heap[B]?) : W.cell? ⟨B, 0, none⟩ = w.cell? ⟨B, 0, none⟩ := by simp [World.cell?, h]
theorem ownsRow_cut {w : World} {base g cap q n : Nat} {e : TypeId} {cur : Array Value} {ts : List Int} (hn : n ≤ ts.length) (hbase : base ≤ g) (hb : w.heap[g]? = some (.cells cur e (0, 0)))
    (h1 : ts.length ≤ cap) (h2 : cap ≤ maxLen) (h3 : cur.size = cap * 1) :
    (putRow (Value.int .i64) (Sort.ahead w q) g 0 ts.toArray).ownsRow base e 1 (.slice (some ⟨g, 0, none⟩) n cap) n (nums .i64 (ts.take n)) := by
  have hh := heap_sortedI (n := q) (os := #[]) ts.toArray hb
  rw [grow_none] at hh
  refine ⟨by simp [nums]; omega, .inr ⟨g, cap, _, rfl, hbase, hh, by omega, h2, by simp [putCells, h3], ?_⟩⟩
  have ht := take_putCellsI cur ts (by omega)
  rw [Nat.mul_one]
  have : List.take n (List.take ts.length (putCells (Value.int .i64) 0 ts.toArray cur).toList) = List.take n (ts.map (Value.int .i64)) := by rw [ht]
  rw [List.take_take, Nat.min_eq_left hn] at this
  rw [this]; simp [nums, List.map_take]
theorem delete_own (f : Nat) (lb : Array Value) (eg : ∀ args w, (callFunc f args).run Try.prog w = .ok (.enter f args) w) (p : Int → Bool) (w : World) (base : Nat) (v : Value) (l : List Int)
    (hown : w.ownsRow base 2 1 v l.length (nums .i64 l)) (hl : l.length < 17592186044416) (hp : PredAt Try.prog f lb (fun x : Int => .int .i64 x) p w) (hpo : ∀ g, v.ownBlock = some g → PredOver Try.prog f lb (fun x : Int => .int .i64 x) p g 0 l.length w) :
    Calls Try.prog 164 #[v, .func (.func f) #[] lb] w fun e w' => ∃ v', e = .returned v' ∧ w'.ownsRow base 2 1 v' (l.filter fun x => !p x).length (nums .i64 (l.filter fun x => !p x)) ∧ w.grownBy w' v.ownBlock := by
  rcases hown.2 with ⟨rfl, hn⟩ | ⟨g, cap, cur, rfl, hg, hh, hc, hm, hs, ht⟩
  · have : l = [] := List.eq_nil_of_length_eq_zero hn
    subst this
    clear hp hpo
    have hI := fun W => Try.slices_IndexFunc_empty (α := Int) none 0 (.func (.func f) #[] lb) W
    go_enter Try.func164, Try.ntmps164
    go_wp2_with (go_at_call 166; refine (hI _).mono ?_; rintro e w' ⟨rfl, rfl⟩)
    go_ret
    exact ⟨_, rfl, hown, World.grownBy.refl _ _⟩
  · have hlt : g < w.heap.size := (Array.getElem?_eq_some_iff.1 hh).1
    have hH : Holds (Value.int .i64) w g 0 l.toArray := holds_of_blockI hh (by change List.take (l.length * 1) cur.toList = _ at ht; rw [Nat.mul_one] at ht; exact ht)
    have hO : OneCell (Value.int .i64) := fun _ => rfl
    refine (Try.slices_DeleteFunc (Value.int .i64) hO p f lb eg 0 (fun w => Try.zeroValue2 w) g 0 cap l.toArray w hp (hpo g rfl) hH (by simp; omega) (by simpa using hc)).mono fun e w' ⟨he, q, hw⟩ => ?_
    subst hw
    have hgr : w.grownBy (grow (putRow (Value.int .i64) (Sort.ahead w q) g 0 ((l.toArray.toList.filter fun x => !p x) ++ List.replicate (l.toArray.size - (l.toArray.toList.filter fun x => !p x).length) 0).toArray) #[]) (some g) := grownBy_sortedI _
    rw [grow_none] at hgr
    have hlen : (l.filter fun x => !p x).length ≤ l.length := List.length_filter_le _ _
    have hown' := ownsRow_cut (q := q) (n := (l.filter fun x => !p x).length) (ts := (l.filter fun x => !p x) ++ List.replicate (l.length - (l.filter fun x => !p x).length) 0) (by simp) hg hh (by simp; omega) hm hs
    rw [List.take_left] at hown'
    exact ⟨_, he, hown', hgr⟩
end Go.Proofs.Ytckmdibjkklhkaa.PAll
