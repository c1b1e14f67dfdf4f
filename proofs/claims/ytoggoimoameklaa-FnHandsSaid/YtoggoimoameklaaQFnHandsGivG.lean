/- A smaller copy of a text of this seat, made by pack.py for one law. -/
import Derived.Test.YtoggoimoameklaaQFnHandsPAllx0
import Derived.Test.YtoggoimoameklaaQFnHandsShelfC
import Derived.Test.YtoggoimoameklaaQFnHandsGivE
import Derived.Lib.LazyBuf
import Derived.Lib.Walk
import Derived.Lib.JoinLaws
import Derived.Lib.AppendZeros
import Derived.Lib.Overlaps
import Derived.Laws.Externs
import Derived.Laws.IdiomCopy
import Derived.Shelf.RegionOpenPlain
import Derived.Lib.AppendZerosOnto
import Derived.Laws.NewBlocks
import Derived.Shelf.Spec.SlicesInsert
namespace Go.Proofs.Ytoggoimoameklaa.PAll
open Go.RowKit Go.Lib Go.Sort Go.Proofs.YtoggoimoameklaaW.PrintWords Go.Proofs.YtoggoimoameklaaW.PrintLast
set_option linter.unusedVariables false
def insAt (l : List Int) (i : Nat) (x : Int) : List Int := l.take i ++ x :: l.drop i
theorem insAt_len (l : List Int) (i : Nat) (x : Int) : (insAt l i x).length = l.length + 1 := by simp [insAt]; omega
theorem insAt_getD (l : List Int) (i : Nat) (x : Int) (h : i ≤ l.length) (j : Nat) : (insAt l i x).getD j 0 = if j < i then l.getD j 0 else if j = i then x else l.getD (j - 1) 0 := by
  have hl : (l.take i).length = i := by simp; omega
  unfold insAt
  rw [List.getD, List.getElem?_append, hl]
  by_cases h1 : j < i
  · rw [if_pos h1, if_pos h1, List.getElem?_take_of_lt h1]; rfl
  · rw [if_neg h1, if_neg h1]
    by_cases h2 : j = i
    · subst h2; rw [if_pos rfl, Nat.sub_self]; rfl
    · rw [if_neg h2, show j - i = (j - 1 - i) + 1 by omega, List.getElem?_cons_succ, List.getElem?_drop, show i + (j - 1 - i) = j - 1 by omega]; rfl
theorem grown_setCell1 (w : World) (a : Addr) (u : Value) : w.grownBy (w.setCell a u) (some a.block) :=
  ⟨rfl, rfl, rfl, by simp, fun k _ hk => Below.heap_setCell w a u k (fun e => hk (by rw [e]))⟩
theorem grown_setCells (b : Nat) : ∀ (vs : List Value) (o : Nat) (w : World), w.grownBy (w.setCells b o vs) (some b)
  | [], _, w => World.grownBy.refl _ _
  | v :: r, o, w => (grown_setCell1 w ⟨b, o, none⟩ v).trans (grown_setCells b r (o + 1) _)
theorem grown_drew (w : World) (row : Option Nat) : w.grownBy w.drew row := ⟨rfl, rfl, rfl, Nat.le_refl _, fun _ _ _ => rfl⟩
theorem rowIs_of_block {w : World} {g T cap : Nat} {cur : Array Value} (h : w.heap[g]? = some (.cells cur T (0, 0))) (hs : cur.size = cap) : w.rowIs g T cap (fun j => cur[j]?.getD default) :=
  ⟨cur, h, hs, fun i hi => by simp [Array.getElem?_eq_getElem (show i < cur.size by omega)]⟩
theorem own_of_rowIs {w : World} {g T cap n base : Nat} {f : Nat → Value} {l : List Int} (h : w.rowIs g T cap f) (hn : n ≤ cap) (hcap : cap ≤ maxLen) (hb : base ≤ g) (hl : l.length = n) (hx : ∀ j, j < n → f j = .int .i64 (l.getD j 0)) :
    w.ownsRow base T 1 (.slice (some ⟨g, 0, none⟩) n cap) n (nums .i64 l) := by
  obtain ⟨c, hc, hs, hi⟩ := h
  refine ⟨by simp [nums, hl], .inr ⟨g, cap, c, rfl, hb, hc, hn, hcap, by omega, ?_⟩⟩
  rw [Nat.mul_one]
  apply List.ext_getElem?
  intro j
  by_cases hj : j < n
  · rw [List.getElem?_take_of_lt hj, Array.getElem?_toList, hi j (by omega), hx j hj]
    simp [nums, List.getD, List.getElem?_eq_getElem (show j < l.length by omega)]
  · rw [List.getElem?_take_eq_none (by omega), List.getElem?_eq_none (by simp [nums]; omega)]
theorem nums_at {k : IntKind} {l : List Int} {j : Nat} (h : j < l.length) : (nums k l)[j]?.getD default = .int k (l.getD j 0) := by
  simp [nums, List.getD, List.getElem?_eq_getElem h]
theorem inserted_cells {w : World} {g T cap base i : Nat} {f : Nat → Value} {l : List Int} {x : Int} (h : w.rowIs g T cap f) (hi : i < l.length) (hroom : l.length + 1 ≤ cap) (hcap : cap ≤ maxLen) (hb : base ≤ g)
    (hf : ∀ j, j < i → f j = .int .i64 (l.getD j 0)) :
    (((w.setCells g (i + 1) (nums .i64 (l.drop i)))).setCells g i [.int .i64 x]).ownsRow base T 1 (.slice (some ⟨g, 0, none⟩) (l.length + 1) cap) (l.length + 1) (nums .i64 (insAt l i x)) := by
  have h2 := rowIs_setCells [.int .i64 x] i _ _ (rowIs_setCells (nums .i64 (l.drop i)) (i + 1) w f h)
  refine own_of_rowIs h2 hroom hcap hb (insAt_len l i x) (fun j hj => ?_)
  rw [insAt_getD l i x (by omega)]
  have hn : (nums .i64 (l.drop i)).length = l.length - i := by simp [nums]
  by_cases h1 : j < i
  · rw [if_pos h1, if_neg (by simp; omega), if_neg (by omega)]; exact hf j h1
  · rw [if_neg h1]
    by_cases h3 : j = i
    · subst h3; rw [if_pos rfl, if_pos (by simp), Nat.sub_self]; rfl
    · rw [if_neg h3, if_neg (by simp; omega), if_pos (by omega), nums_at (by simp; omega)]
      congr 1
      rw [List.getD, List.getD, List.getElem?_drop, show i + (j - (i + 1)) = j - 1 by omega]
theorem inserted_cells' {w : World} {g T cap base i : Nat} {f : Nat → Value} {l : List Int} {x : Int} (h : w.rowIs g T cap f) (hi : i < l.length) (hroom : l.length + 1 ≤ cap) (hcap : cap ≤ maxLen) (hb : base ≤ g)
    (hf : ∀ j, j < i → f j = .int .i64 (l.getD j 0)) :
    ((((w.setCells g i [.int .i64 x])).drew).setCells g (i + 1) (nums .i64 (l.drop i))).ownsRow base T 1 (.slice (some ⟨g, 0, none⟩) (l.length + 1) cap) (l.length + 1) (nums .i64 (insAt l i x)) := by
  have h1' := rowIs_setCells [.int .i64 x] i w f h
  have h1 : ((w.setCells g i [.int .i64 x]).drew).rowIs g T cap (fun j => if i ≤ j ∧ j < i + [Value.int .i64 x].length then [Value.int .i64 x][j - i]?.getD default else f j) := h1'
  have h2 := rowIs_setCells (nums .i64 (l.drop i)) (i + 1) _ _ h1
  refine own_of_rowIs h2 hroom hcap hb (insAt_len l i x) (fun j hj => ?_)
  rw [insAt_getD l i x (by omega)]
  have hn : (nums .i64 (l.drop i)).length = l.length - i := by simp [nums]
  by_cases h1 : j < i
  · rw [if_pos h1, if_neg (by omega), if_neg (by simp; omega)]; exact hf j h1
  · rw [if_neg h1]
    by_cases h3 : j = i
    · subst h3; rw [if_pos rfl, if_neg (by omega), if_pos (by simp), Nat.sub_self]; rfl
    · rw [if_neg h3, if_pos (by omega), nums_at (by simp; omega)]
      congr 1
      rw [List.getD, List.getD, List.getElem?_drop, show i + (j - (i + 1)) = j - 1 by omega]
theorem val_cells {W : World} {vb T : Nat} {x : Int} (hv : W.heap[vb]? = some (.cells #[.int .i64 x] T (0, 0))) : ∀ j v, ([Value.int .i64 x] : List Value)[j]? = some v → W.cell? ⟨vb, 0 + j, none⟩ = some v := by
  intro j v hj
  cases j with
  | zero => simp [World.cell?, hv] at hj ⊢; exact hj
  | succ j => simp at hj
theorem row_cells {W : World} {g T : Nat} {cur : Array Value} {l : List Int} (hh : W.heap[g]? = some (.cells cur T (0, 0))) (hl : l.length ≤ cur.size) (ht : cur.toList.take l.length = nums .i64 l) : ∀ j v, (nums .i64 l)[j]? = some v → W.cell? ⟨g, 0 + j, none⟩ = some v := by
  intro j v hj
  have hjl : j < l.length := by have := (List.getElem?_eq_some_iff.1 hj).1; simpa [nums] using this
  rw [Nat.zero_add, (rowIs_of_block hh rfl).cell (by omega)]
  have h1 : (cur.toList.take l.length)[j]? = some v := by rw [ht]; exact hj
  rw [List.getElem?_take_of_lt hjl, Array.getElem?_toList] at h1
  simp [h1]
theorem one_nums (l : List Int) : ∀ v ∈ nums .i64 l, v.oneCell' = true := by
  intro u hu; simp only [nums, List.mem_map] at hu; obtain ⟨q, _, rfl⟩ := hu; rfl
set_option maxHeartbeats 4000000 in
set_option maxRecDepth 100000 in
theorem insert_shift (W : World) (base g cap i vb : Nat) (cur : Array Value) (l : List Int) (x : Int) (hi : i < l.length) (hroom : l.length + 1 ≤ cap) (hcap : cap ≤ maxLen) (hg : base ≤ g) (hne : vb ≠ g)
    (hh : W.heap[g]? = some (.cells cur 2 (0, 0))) (hs : cur.size = cap) (ht : cur.toList.take l.length = nums .i64 l) (hv : W.heap[vb]? = some (.cells #[.int .i64 x] 2 (0, 0))) :
    Calls Try.prog 147 #[.slice (some ⟨g, 0, none⟩) l.length cap, .int .i64 i, .slice (some ⟨vb, 0, none⟩) 1 1] W fun e w' =>
      e = .returned (.slice (some ⟨g, 0, none⟩) (l.length + 1) cap) ∧ w' = (W.drew.setCells g (i + 1) (nums .i64 (l.drop i))).setCells g i [.int .i64 x] := by
  have hvs := val_cells hv
  have hrow := rowIs_of_block hh hs
  have hcs := row_cells hh (by omega) ht
  have hdr : ((nums .i64 l).drop i) = nums .i64 (l.drop i) := by simp [nums, List.map_drop]
  have hsome : ∀ j, j < l.length + 1 → (W.cell? ⟨g, 0 + j, none⟩).isSome = true := fun j hj => by rw [Nat.zero_add, hrow.cell (by omega)]; rfl
  have hfz : ∀ j, W.frozen? ⟨g, j, none⟩ = false := fun j => by simp [World.frozen?, hh]
  have hdl : (nums .i64 (l.drop i)).length = l.length - i := by simp [nums]
  obtain ⟨i0, hi0, hz0, hz1, hz2⟩ := info_parts info2
  have hsz : (Try.prog.info? 2).map (·.size) = some 1 := by rw [hi0]; simp [hz1]
  obtain ⟨n, hn⟩ : ∃ n, n = l.length := ⟨_, rfl⟩
  obtain ⟨D, hD⟩ : ∃ D, D = nums .i64 (l.drop i) := ⟨_, rfl⟩
  have h1D : ∀ v ∈ D, v.oneCell' = true := by rw [hD]; exact one_nums _
  have hDs : ∀ j v, D[j]? = some v → W.cell? ⟨g, i + j, none⟩ = some v := fun j v hj => by
    rw [hD, ← hdr, List.getElem?_drop] at hj
    have := hcs (i + j) v hj
    rwa [Nat.zero_add] at this
  rw [← hD] at hdl
  rw [← hn] at hi hroom hsome hdl ⊢
  rw [← hD]
  clear hcs hdr ht hD hn
  have hov : ∀ lb cb, (callFunc 158 #[.slice (some ⟨vb, 0, none⟩) 1 1, .slice (some ⟨g, i + 1, none⟩) lb cb]).run Try.prog W = .ok (.value (.bool false)) W := fun lb cb => by
    rw [run_callFunc_extern Try.func158 (by kernel_rfl) (by kernel_rfl) (by kernel_rfl) (e := Extern.SlicesOverlaps.overlaps #[22, 22] #[4]) (by kernel_rfl),
      Lib.run_overlaps_apart W 22 4 2 Try.underlying22 1 (fun w => by simp [sizeOf, typeInfo, hi0, hz1]) ⟨vb, 0, none⟩ ⟨g, i + 1, none⟩ 1 1 lb cb hne 2 2 1 cap (by simp [World.shape?, hv]) (by simp [World.shape?, hh, hs]) (by omega) (by simp [World.frozen?, hv]) (by simp [World.frozen?, hv])]
    rfl
  have hz2' : ¬ ((i : Int) = (n : Int)) := by omega
  have hw1 : IntKind.i64.wrap ((i : Int) + 1) = (i : Int) + 1 := by rw [IntKind.wrap_i64]; unfold maxLen at hcap; omega
  have hb1 : (0 : Int) ≤ (i : Int) + 1 := by omega
  have hin : i ≤ n := by omega
  have htn : ((i : Int) + 1).toNat = i + 1 := by omega
  have hb2 : ¬ (cap = i + 1) := by omega
  have hb3 : (i : Int) ≤ (n : Int) + 1 := by omega
  have hb4 : ¬ (cap = i) := by omega
  have mixed : Try.prog.follows .mixedOrders = true := by kernel_rfl
  have hcp1 : ∀ ty dc sc, (Builtin.copy_ #[22, 22] ty #[.slice (some ⟨g, i + 1, none⟩) (n - i) dc, .slice (some ⟨g, i, none⟩) (n + 1 - i) sc]).run Try.prog W.drew = .ok (goInt D.length) (W.drew.setCells g (i + 1) D) := fun ty dc sc =>
    run_copy_cells W.drew _ _ ty 2 g (i + 1) (n - i) dc ⟨g, i, none⟩ (n + 1 - i) sc D Try.underlying22 hsz (by rw [hdl]; simp only [Nat.min_def]; split <;> omega)
      (fun j v hj => by rw [Addr.add_lit]; exact hDs j v hj)
      (fun j hj => by have := hsome (i + 1 + j) (by omega); rwa [Nat.zero_add] at this) (fun j hj => hfz _) h1D
  obtain ⟨W1, hW1⟩ : ∃ W1, W1 = W.drew.setCells g (i + 1) D := ⟨_, rfl⟩
  have hsp1 : ∀ k, k < n + 1 → (W1.cell? ⟨g, k, none⟩).isSome = true := fun k hk => by
    rw [hW1]
    exact isSome_setCells g _ _ _ (fun j hj => by have := hsome (i + 1 + j) (by omega); rwa [Nat.zero_add] at this) _ (by have := hsome k hk; rwa [Nat.zero_add] at this)
  have hcp2 : ∀ (X : World), (∀ a, X.cell? a = W1.cell? a) → (∀ a, X.frozen? a = W1.frozen? a) → ∀ ty dc, (Builtin.copy_ #[22, 22] ty #[.slice (some ⟨g, i, none⟩) (n + 1 - i) dc, .slice (some ⟨vb, 0, none⟩) 1 1]).run Try.prog X = .ok (goInt [Value.int .i64 x].length) (X.setCells g i [.int .i64 x]) := fun X hXc hXf ty dc =>
    run_copy_cells X _ _ ty 2 g i (n + 1 - i) dc ⟨vb, 0, none⟩ 1 1 [.int .i64 x] Try.underlying22 hsz (by simp only [Nat.min_def, List.length_singleton]; split <;> omega)
      (fun j v hj => by
        rw [Addr.add_lit, hXc, hW1, World.cell?_setCells_out g _ _ _ _ (fun h _ => absurd h hne)]
        exact hvs j v hj)
      (fun j hj => by rw [hXc]; simp only [List.length_singleton] at hj; exact hsp1 _ (by omega)) (fun j hj => by rw [hXf, hW1, World.frozen?_setCells]; exact hfz _) (by simp [Value.oneCell'])
  rw [← hW1] at hcp1
  have hc63 : cap ≤ 9223372036854775807 := by unfold maxLen at hcap; omega
  clear hvs hrow hsome hfz hdl hsz h1D hDs hsp1 hh hv hs hz0 hz1 hz2 hi0
  go_enter Try.func147, Try.ntmps147
  go_wp2_with (simp only [hov])
  go_region_law_o (refine step_copy_runI rfl _ _ 22 22 rfl _ _ (by simp [Act.eval, Act.put]) (by simp [Act.eval, Act.put]) (hcp1 _ _ _) ?_)
  go_wp2_with (at_builtin; refine wpList_copy_runI _ rfl _ _ 22 22 rfl _ _ rfl rfl (hcp2 _ (fun _ => rfl) (fun _ => rfl) _ _) ?_)
  go_ret
  first | exact ⟨rfl, rfl⟩ | exact ⟨rfl, by rw [hW1]⟩
set_option maxHeartbeats 4000000 in
set_option maxRecDepth 100000 in
theorem insert_grow (W : World) (g cap i vb : Nat) (cur : Array Value) (l : List Int) (x : Int) (hi : i < l.length) (hlc : l.length ≤ cap) (hroom : cap < l.length + 1) (hl : l.length < 17592186044415) (hne : vb ≠ g)
    (hh : W.heap[g]? = some (.cells cur 2 (0, 0))) (hs : cur.size = cap) (ht : cur.toList.take l.length = nums .i64 l) (hv : W.heap[vb]? = some (.cells #[.int .i64 x] 2 (0, 0))) :
    Calls Try.prog 147 #[.slice (some ⟨g, 0, none⟩) l.length cap, .int .i64 i, .slice (some ⟨vb, 0, none⟩) 1 1] W fun e w' =>
      e = .returned (.slice (some ⟨W.heap.size, 0, none⟩) (l.length + 1) (grownCap W (l.length + 1) cap 2)) ∧
      w' = (((W.alloc (.cells ((nums .i64 (l.take i)).toArray ++ Builtin.zeroCells (Value.int .i64 0).cells (l.length + 1 - i) ++ Builtin.zeroCells (Value.int .i64 0).cells (grownCap W (l.length + 1) cap 2 - (l.length + 1))) 2)).drew.setCells W.heap.size i [.int .i64 x]).drew).setCells W.heap.size (i + 1) (nums .i64 (l.drop i)) := by
  have hvs := val_cells hv
  have hcs := row_cells hh (by omega) ht
  have hdr : ((nums .i64 l).drop i) = nums .i64 (l.drop i) := by simp [nums, List.map_drop]
  have htk : ((nums .i64 l).take i) = nums .i64 (l.take i) := by simp [nums, List.map_take]
  have hdl : (nums .i64 (l.drop i)).length = l.length - i := by simp [nums]
  have htl : (nums .i64 (l.take i)).length = i := by simp [nums]; omega
  obtain ⟨i0, hi0, hz0, hz1, hz2⟩ := info_parts info2
  have hsz : (Try.prog.info? 2).map (·.size) = some 1 := by rw [hi0]; simp [hz1]
  obtain ⟨n, hn⟩ : ∃ n, n = l.length := ⟨_, rfl⟩
  obtain ⟨D, hD⟩ : ∃ D, D = nums .i64 (l.drop i) := ⟨_, rfl⟩
  obtain ⟨T, hT⟩ : ∃ T, T = nums .i64 (l.take i) := ⟨_, rfl⟩
  have h1D : ∀ v ∈ D, v.oneCell' = true := by rw [hD]; exact one_nums _
  have hDs : ∀ j v, D[j]? = some v → W.cell? ⟨g, i + j, none⟩ = some v := fun j v hj => by
    rw [hD, ← hdr, List.getElem?_drop] at hj
    have := hcs (i + j) v hj
    rwa [Nat.zero_add] at this
  have hTs : ∀ j v, T[j]? = some v → W.cell? ⟨g, j, none⟩ = some v := fun j v hj => by
    rw [hT, ← htk, List.getElem?_take] at hj
    split at hj
    · have := hcs j v hj; rwa [Nat.zero_add] at this
    · cases hj
  have hgw : g < W.heap.size := (Array.getElem?_eq_some_iff.1 hh).1
  have hvw : vb < W.heap.size := (Array.getElem?_eq_some_iff.1 hv).1
  rw [← hD] at hdl
  rw [← hT] at htl
  rw [← hn] at hi hroom hdl hlc hl ⊢
  rw [← hD, ← hT]
  clear hcs hdr ht hD hn htk hT
  have hz2' : ¬ ((i : Int) = (n : Int)) := by omega
  have hz3 : (cap : Int) < (n : Int) + 1 := by omega
  have hkk : (n : Int) + 1 - (i : Int) = ((n + 1 - i : Nat) : Int) := by omega
  have hik : i + (n + 1 - i) = n + 1 := by omega
  have hold : (Builtin.firstCells i0.size i (.slice (some ⟨g, 0, none⟩) i cap)).run Try.prog W.drew = .ok T.toArray W.drew := by
    rw [hz1]
    exact run_firstCells_some W.drew 1 i ⟨g, 0, none⟩ i cap T (by omega) (fun j v hj => by rw [Addr.add_lit, Nat.zero_add]; exact hTs j v hj)
  have hrz : ∀ ty, (Builtin.append_ #[22, 3] ty #[.slice (some ⟨g, 0, none⟩) i cap, .int .i64 ((n : Int) + 1 - (i : Int))]).run Try.prog W =
      .ok (.slice (some ⟨W.heap.size, 0, none⟩) (n + 1) (grownCap W (n + 1) cap 2)) (W.drew.alloc (.cells (T.toArray ++ Builtin.zeroCells (Value.int .i64 0).cells (n + 1 - i) ++ Builtin.zeroCells (Value.int .i64 0).cells (grownCap W (n + 1) cap 2 - (n + 1))) 2)) := fun ty => by
    have h := Lib.run_append_grow_zeros W 22 3 ty 2 i0 (.int .i64 0) .i64 .i64 Try.underlying22 Try.underlying3 hi0 hz0 (some ⟨g, 0, none⟩) i cap T hold (n + 1 - i) (by omega) (by omega) (by omega) (by omega) (by rw [hz2]; omega) (by rw [hz2, hik]; exact growslice_fits hroom (by omega))
    rw [hik] at h
    rw [hkk]
    exact h
  obtain ⟨G, hG⟩ : ∃ G, G = grownCap W (n + 1) cap 2 := ⟨_, rfl⟩
  obtain ⟨ROW, hROW⟩ : ∃ ROW : Array Value, ROW = T.toArray ++ Builtin.zeroCells (Value.int .i64 0).cells (n + 1 - i) ++ Builtin.zeroCells (Value.int .i64 0).cells (G - (n + 1)) := ⟨_, rfl⟩
  rw [← hG] at hrz ⊢
  rw [← hROW] at hrz ⊢
  have hRl : n + 1 ≤ ROW.size := by rw [hROW]; simp [Builtin.zeroCells, Value.cells]; omega
  obtain ⟨W1, hW1⟩ : ∃ W1, W1 = W.drew.alloc (.cells ROW 2) := ⟨_, rfl⟩
  rw [← hW1] at hrz
  have hN : ∀ j, j < n + 1 → (W1.cell? ⟨W.heap.size, j, none⟩).isSome = true := fun j hj => by
    rw [hW1, World.cell?_alloc_at (w := W.drew) ROW _ W.heap.size j rfl, Array.getElem?_eq_getElem (by omega)]; rfl
  have hNf : ∀ j, W1.frozen? ⟨W.heap.size, j, none⟩ = false := fun j => by rw [hW1]; exact World.frozen?_alloc_at (w := W.drew) ROW _ W.heap.size j rfl
  have hOg : ∀ j v, W.cell? ⟨g, j, none⟩ = some v → W1.cell? ⟨g, j, none⟩ = some v := fun j v h => by rw [hW1, World.cell?_alloc_past (w := W.drew) _ g j hgw]; exact h
  have hOv : ∀ j v, W.cell? ⟨vb, j, none⟩ = some v → W1.cell? ⟨vb, j, none⟩ = some v := fun j v h => by rw [hW1, World.cell?_alloc_past (w := W.drew) _ vb j hvw]; exact h
  have hcpA : ∀ (X : World), (∀ a, X.cell? a = W1.cell? a) → (∀ a, X.frozen? a = W1.frozen? a) → ∀ ty dc, (Builtin.copy_ #[22, 22] ty #[.slice (some ⟨W.heap.size, i, none⟩) (n + 1 - i) dc, .slice (some ⟨vb, 0, none⟩) 1 1]).run Try.prog X = .ok (goInt [Value.int .i64 x].length) (X.setCells W.heap.size i [.int .i64 x]) := fun X hXc hXf ty dc =>
    run_copy_cells X _ _ ty 2 W.heap.size i (n + 1 - i) dc ⟨vb, 0, none⟩ 1 1 [.int .i64 x] Try.underlying22 hsz (by simp only [Nat.min_def, List.length_singleton]; split <;> omega)
      (fun j v hj => by rw [Addr.add_lit, hXc]; exact hOv _ v (hvs j v hj))
      (fun j hj => by rw [hXc]; simp only [List.length_singleton] at hj; exact hN _ (by omega)) (fun j hj => by rw [hXf]; exact hNf _) (by simp [Value.oneCell'])
  have hGn : n + 1 ≤ G := by rw [hG]; exact grownCap_ge W _ _ _
  have hG63 : G ≤ 9223372036854775807 := by
    have := grownCap_le_maxLen W (n + 1) cap 2 (by unfold maxLen; omega)
    rw [← hG] at this
    unfold maxLen at this
    omega
  have hGi : ¬ (G = i) := by omega
  have hGim : ¬ (G = i + 1) := by omega
  have hci : ¬ (cap = i) := by omega
  have hgN : g ≠ W.heap.size := by omega
  have hcpB : ∀ (X : World), (∀ a, X.cell? a = (W1.setCells W.heap.size i [.int .i64 x]).cell? a) → (∀ a, X.frozen? a = (W1.setCells W.heap.size i [.int .i64 x]).frozen? a) → ∀ ty dc sc, (Builtin.copy_ #[22, 22] ty #[.slice (some ⟨W.heap.size, i + 1, none⟩) (n - i) dc, .slice (some ⟨g, i, none⟩) (n - i) sc]).run Try.prog X = .ok (goInt D.length) (X.setCells W.heap.size (i + 1) D) := fun X hXc hXf ty dc sc =>
    run_copy_cells X _ _ ty 2 W.heap.size (i + 1) (n - i) dc ⟨g, i, none⟩ (n - i) sc D Try.underlying22 hsz (by rw [hdl]; simp only [Nat.min_def]; split <;> omega)
      (fun j v hj => by
        rw [Addr.add_lit, hXc, World.cell?_setCells_out _ _ _ _ _ (fun h _ => absurd h hgN)]
        exact hOg _ v (hDs j v hj))
      (fun j hj => by rw [hXc]; exact isSome_setCells _ _ _ _ (fun t ht => hN _ (by simp only [List.length_singleton] at ht; omega)) _ (hN _ (by omega)))
      (fun j hj => by rw [hXf, World.frozen?_setCells]; exact hNf _) h1D
  subst hW1
  have hE1 : ∀ a, ((W.alloc (.cells ROW 2)).drew).cell? a = (W.drew.alloc (.cells ROW 2)).cell? a := fun _ => rfl
  have hE2 : ∀ a, ((W.alloc (.cells ROW 2)).drew).frozen? a = (W.drew.alloc (.cells ROW 2)).frozen? a := fun _ => rfl
  have hF1 : ∀ a, (((W.alloc (.cells ROW 2)).drew.setCells W.heap.size i [.int .i64 x]).drew).cell? a = ((W.drew.alloc (.cells ROW 2)).setCells W.heap.size i [.int .i64 x]).cell? a := fun _ => rfl
  have hF2 : ∀ a, (((W.alloc (.cells ROW 2)).drew.setCells W.heap.size i [.int .i64 x]).drew).frozen? a = ((W.drew.alloc (.cells ROW 2)).setCells W.heap.size i [.int .i64 x]).frozen? a := fun _ => rfl
  have hw1 : IntKind.i64.wrap ((i : Int) + 1) = (i : Int) + 1 := by rw [IntKind.wrap_i64]; omega
  have hb1 : (0 : Int) ≤ (i : Int) + 1 := by omega
  have hin : i ≤ n := by omega
  have htn : ((i : Int) + 1).toNat = i + 1 := by omega
  have hb3 : (i : Int) ≤ (n : Int) := by omega
  have mixed : Try.prog.follows .mixedOrders = true := by kernel_rfl
  clear hkk hik hold hROW hG hRl hvs hDs hTs h1D hz0 hz1 hz2 hi0 hsz hh hv hs hN hNf hOg hOv hdl htl
  go_enter Try.func147, Try.ntmps147
  go_wp2_with (first
    | (at_builtin; refine Lib.wpList_append_run _ rfl _ _ _ _ rfl _ _ rfl rfl _ _ (hrz _) ?_)
    | (at_builtin; refine wpList_copy_runI _ rfl _ _ 22 22 rfl _ _ rfl rfl (hcpA _ hE1 hE2 _ _) ?_)
    | (at_builtin; refine wpList_copy_runI _ rfl _ _ 22 22 rfl _ _ rfl rfl (hcpB _ (fun _ => rfl) (fun _ => rfl) _ _ _) ?_))
  go_region_law_o (refine step_copy_runI rfl _ _ 22 22 rfl (.slice (some ⟨W.heap.size, i + 1, none⟩) (n - i) (G - (i + 1))) (.slice (some ⟨g, i, none⟩) (n - i) (cap - i)) (by simp [Act.eval, Act.put]) (by simp [Act.eval, Act.put]) (hcpB _ hF1 hF2 3 (G - (i + 1)) (cap - i)) ?_)
  go_wp2
  go_ret
  exact ⟨rfl, rfl⟩
set_option maxHeartbeats 4000000 in
set_option maxRecDepth 100000 in
theorem insert_end (W : World) (base vb : Nat) (v : Value) (l : List Int) (x : Int) (hown : W.ownsRow base 2 1 v l.length (nums .i64 l)) (hl : l.length < 17592186044415) (hbase : base ≤ W.heap.size)
    (hv : W.heap[vb]? = some (.cells #[.int .i64 x] 2 (0, 0))) :
    Calls Try.prog 147 #[v, .int .i64 l.length, .slice (some ⟨vb, 0, none⟩) 1 1] W fun e w' =>
      ∃ v', e = .returned v' ∧ w'.ownsRow base 2 1 v' (l.length + 1) (nums .i64 (l ++ [x])) ∧ W.grownBy w' v.ownBlock := by
  have hvs := val_cells hv
  have hnn := Aside0.mk (show nums .i64 l ++ [.int .i64 x] = nums .i64 (l ++ [x]) by simp [nums])
  obtain ⟨i0, hi0, hz0, hz1, hz2⟩ := info_parts info2
  have hadd : ∀ j u, ([Value.int .i64 x] : List Value)[j]? = some u → W.cell? ((⟨vb, 0, none⟩ : Addr).add j) = some u := fun j u hj => by rw [Addr.add_lit]; exact hvs j u hj
  obtain ⟨n, hn⟩ : ∃ n, n = l.length := ⟨_, rfl⟩
  have HO := Aside0.mk hown
  have HV := Aside0.mk hadd
  clear hvs hadd hv
  rcases hown.2 with ⟨rfl, h0⟩ | ⟨g, cap, cur, rfl, hg, hh, hc, hm, hs, ht⟩
  · rw [h0] at hn
    subst hn
    have hle : l = [] := List.eq_nil_of_length_eq_zero h0
    subst hle
    clear hown h0
    go_enter Try.func147, Try.ntmps147
    go_wp2_with (at_builtin; refine wpList_append_own _ rfl _ _ 22 rfl base 2 i0 (.int .i64 0) 1 8 Try.underlying22 hi0 hz0 hz1 hz2 rfl (by decide) _ _ _ rfl HO.out ⟨vb, 0, none⟩ 1 1 [.int .i64 x] rfl rfl HV.out (by simp [Value.oneCell']) (by simp [maxLen]) (by simp) hbase ?_)
    intro v' w1 ho hgr hnil
    go_wp2
    go_ret
    exact ⟨_, rfl, by simpa [nums] using ho, hgr⟩
  · have HG := Aside0.mk hm
    clear hown hh hs ht hm
    rw [← hn] at hl hc HO ⊢
    clear hn
    have hn63 : n ≤ 9223372036854775807 := by omega
    by_cases hcn : cap = n
    all_goals
     go_enter Try.func147, Try.ntmps147
     go_wp2_with (at_builtin; refine wpList_append_own _ rfl _ _ 22 rfl base 2 i0 (.int .i64 0) 1 8 Try.underlying22 hi0 hz0 hz1 hz2 rfl (by decide) _ _ _ rfl HO.out ⟨vb, 0, none⟩ 1 1 [.int .i64 x] rfl rfl HV.out (by simp [Value.oneCell']) (by unfold maxLen; omega) (by omega) hbase ?_)
     intro v' w1 ho hgr hnil
     go_wp2
     go_ret
     exact ⟨_, rfl, by rw [← hnn.out]; exact ho, hgr⟩
theorem insert_own (W : World) (base vb i : Nat) (v : Value) (l : List Int) (x : Int) (hi : i ≤ l.length) (hown : W.ownsRow base 2 1 v l.length (nums .i64 l)) (hl : l.length < 17592186044415) (hbase : base ≤ W.heap.size)
    (hv : W.heap[vb]? = some (.cells #[.int .i64 x] 2 (0, 0))) (hne : v.ownBlock ≠ some vb) :
    Calls Try.prog 147 #[v, .int .i64 i, .slice (some ⟨vb, 0, none⟩) 1 1] W fun e w' =>
      ∃ v', e = .returned v' ∧ w'.ownsRow base 2 1 v' (l.length + 1) (nums .i64 (insAt l i x)) ∧ W.grownBy w' v.ownBlock := by
  by_cases hie : i = l.length
  · subst hie
    refine (insert_end W base vb v l x hown hl hbase hv).mono fun e w' h => ?_
    have : insAt l l.length x = l ++ [x] := by simp [insAt]
    rw [this]; exact h
  · have hi' : i < l.length := by omega
    rcases hown.2 with ⟨rfl, h0⟩ | ⟨g, cap, cur, rfl, hg, hh, hc, hm, hs, ht⟩
    · omega
    · rw [Nat.mul_one] at hs ht
      have hvg : vb ≠ g := fun e => hne (by rw [e]; simp [Value.ownBlock])
      have hcell : ∀ j, j < i → cur[j]?.getD default = .int .i64 (l.getD j 0) := fun j hj => by
        have h1 : (cur.toList.take l.length)[j]? = (nums .i64 l)[j]? := by rw [ht]
        rw [List.getElem?_take_of_lt (by omega), Array.getElem?_toList] at h1
        rw [h1]; exact nums_at (by omega)
      have hob : (Value.slice (some ⟨g, 0, none⟩) l.length cap).ownBlock = some g := by simp [Value.ownBlock]
      by_cases hroom : l.length + 1 ≤ cap
      · refine (insert_shift W base g cap i vb cur l x hi' hroom hm hg hvg hh hs ht hv).mono ?_
        rintro e w' ⟨rfl, rfl⟩
        refine ⟨_, rfl, inserted_cells (w := W.drew) (rowIs_of_block hh hs) hi' hroom hm hg hcell, ?_⟩
        rw [hob]
        exact ((grown_drew W _).trans (grown_setCells g _ _ _)).trans (grown_setCells g _ _ _)
      · refine (insert_grow W g cap i vb cur l x hi' hc (by omega) hl hvg hh hs ht hv).mono ?_
        rintro e w' ⟨rfl, rfl⟩
        have hG := grownCap_ge W (l.length + 1) cap 2
        have hGm := grownCap_le_maxLen W (l.length + 1) cap 2 (by unfold maxLen; omega)
        obtain ⟨G, hGe⟩ : ∃ G, G = grownCap W (l.length + 1) cap 2 := ⟨_, rfl⟩
        rw [← hGe] at hG hGm ⊢
        obtain ⟨ROW, hROW⟩ : ∃ ROW : Array Value, ROW = (nums .i64 (l.take i)).toArray ++ Builtin.zeroCells (Value.int .i64 0).cells (l.length + 1 - i) ++ Builtin.zeroCells (Value.int .i64 0).cells (G - (l.length + 1)) := ⟨_, rfl⟩
        have hlt : (nums .i64 (l.take i)).length = i := by simp [nums]; omega
        have hRs : ROW.size = G := by rw [hROW]; simp [Builtin.zeroCells, Value.cells, hlt]; omega
        have hR : (W.alloc (.cells ROW 2)).drew.rowIs W.heap.size 2 G (fun j => ROW[j]?.getD default) := rowIs_of_block (w := (W.alloc (.cells ROW 2)).drew) (by exact heap_alloc_new W _) hRs
        rw [← hROW]
        refine ⟨_, rfl, inserted_cells' hR hi' hG hGm hbase (fun j hj => ?_), ?_⟩
        · have h1 : ROW[j]? = (nums .i64 (l.take i))[j]? := by
            rw [hROW, Array.append_assoc, Array.getElem?_append_left (by simp [hlt]; exact hj)]; simp
          rw [h1, nums_at (by simp; omega), List.getD, List.getD, List.getElem?_take_of_lt hj]
        · have hnew : ∀ (X : World) (vs : List Value) (o : Nat), W.grownBy X (some g) → W.grownBy (X.setCells W.heap.size o vs) (some g) := fun X vs o h =>
            h.andThen (grown_setCells W.heap.size vs o X) (fun j hj => by injection hj with hj; exact .inl (by omega))
          rw [hob]
          exact hnew _ _ _ ((hnew _ _ _ ((World.grownBy_alloc W _ _).trans (grown_drew _ _))).trans (grown_drew _ _))
end Go.Proofs.Ytoggoimoameklaa.PAll
