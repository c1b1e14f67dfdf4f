/- A smaller copy of texts of this seat, made by pack.py for one law. -/
import Derived.Test.YtckmdibjkklhkaaQFnExactGroupsOfPAllx0
import Derived.Test.YtckmdibjkklhkaaQFnExactGroupsOfLemA
import Derived.Test.YtckmdibjkklhkaaQFnExactGroupsOfLemP
import Derived.Test.YtckmdibjkklhkaaQFnExactGroupsOfGivJ
import Derived.Laws.Tables
import Derived.Laws.Rows
import Derived.Deep.LoopGhost
import Derived.Test.YtckmdibjkklhkaaQFnExactGroupsOfPAllx1
namespace Go.Proofs.Ytckmdibjkklhkaa.PAll
open Go.RowKit Go.Lib Go.Proofs.Ytckmdibjkklhkaa.Base Go.Proofs.Ytckmdibjkklhkaa.Lem Go.Proofs.YtckmdibjkklhkaaW.PrintWords Go.Proofs.YtckmdibjkklhkaaW.PrintLast
set_option linter.unusedVariables false
theorem hand_at {w : World} {A : Option Addr} {ds : List (List Int)} (h : Kd.C (Kd.slice 2 (Kd.int .i64)) w A ds.length ds) (hp : 0 < ds.length) :
    ∃ b off, A = some ⟨b, off, none⟩ ∧ b < w.heap.size ∧ ∀ j, j < ds.length → ∃ As cs, w.cell? ⟨b, off + j, none⟩ = some (.slice As (ds.getD j []).length cs) ∧ (ds.getD j []).length ≤ cs ∧ Kd.C (Kd.int .i64) w As (ds.getD j []).length (ds.getD j []) := by
  obtain ⟨hn, hm, hc⟩ := h
  obtain ⟨ad, rfl, hj⟩ := hc hp
  have each : ∀ j, j < ds.length → ∃ As cs, w.cell? (ad.add j) = some (.slice As (ds.getD j []).length cs) ∧ (ds.getD j []).length ≤ cs ∧ Kd.C (Kd.int .i64) w As (ds.getD j []).length (ds.getD j []) := by
    intro j hlt
    obtain ⟨cs, h1, ⟨A', c', rfl, hle, hC⟩, h3⟩ := hj j _ (List.getElem?_eq_getElem hlt)
    have e : ds.getD j [] = ds[j] := by simp [List.getD, hlt]
    rw [e]
    have := h3 0 _ rfl
    exact ⟨A', c', by simpa [Kd.slice] using this, hle, hC⟩
  obtain ⟨b, off, sp⟩ := ad
  obtain ⟨_, _, hx0, _⟩ := each 0 hp
  have hs : sp = none := cell_spot (b := b) (o := off) (by simpa [Addr.add] using hx0)
  subst hs
  refine ⟨b, off, rfl, World.block_lt_of_cell? w ⟨b, off, none⟩ (by simpa [Addr.add] using hx0), fun j hj => ?_⟩
  have := each j hj
  rwa [Addr.add_lit] at this
def Dealing (A : Option Addr) (c : Nat) (ds : List (List Int)) (w : World) (s i : Nat) (W : World) : Prop :=
  Below w.heap.size w W ∧ W.heap[w.heap.size]? = some (.cells #[.slice A 4 c] 27 (0, 0)) ∧ W.heap[w.heap.size + 1]? = some (.cells (bools (seenB (seenL ds s i))).toArray 81 (0, 0)) ∧
    (seenL ds s i).Nodup ∧ ∀ j, j < s → Hand (ds.getD j []) ∧ (ds.getD j []).length = (ds.getD 0 []).length
def Z52 : Array Value := (bools (seenB [])).toArray
theorem wpList_alloc_arr {P : Program} {ops : Array Oper} {rest : List Oper} {o : Oper} {a : Act} {w : World} {Q : Exit → Act → World → Prop} (hgd : o.guard = none) (t : TypeId) (Z : Array Value) (ho : o.op = .alloc t)
    (hz : (P.info? t).bind (·.zero) = some (.agg Z)) (h : wpList P ops Q rest (a.put o.dst (.pointer (some ⟨w.heap.size, 0, none⟩))) (w.alloc (.cells Z t))) : wpList P ops Q (o :: rest) a w := by
  refine wpList_plain hgd fun K hK => ?_
  unfold Oper.wp execOp
  cases hq : P.info? t with
  | none => rw [hq] at hz; cases hz
  | some i =>
    have hz' : i.zero = some (.agg Z) := by rw [hq] at hz; exact hz
    simp [ho, Instr.alloc, zeroValue, typeInfo, hq, hz', newVar, newRow, Value.cells]
    exact hK _ _ h
theorem wpList_build_arr {P : Program} {ops : Array Oper} {rest : List Oper} {o : Oper} {a : Act} {w : World} {Q : Exit → Act → World → Prop} (hgd : o.guard = none) (t : TypeId) (Z : Array Value) (ho : o.op = .build t #[])
    (hZ : P.built t [] = some Z) (h : wpList P ops Q rest (a.put o.dst (.agg Z)) w) : wpList P ops Q (o :: rest) a w :=
  wpList_build hgd t #[] ho (by simp [hZ]) (by simpa [hZ] using h)
theorem setRow_alloc (w : World) (Z : Array Value) (t : TypeId) : (w.alloc (.cells Z t)).setRow w.heap.size Z = w.alloc (.cells Z t) := by
  unfold World.setRow World.alloc
  congr 1
  apply Array.ext_getElem?
  intro k
  rw [Array.getElem?_modify]
  split
  · rename_i e; subst e; simp
  · rfl
theorem wpList_store_arr {P : Program} {ops : Array Oper} {rest : List Oper} {o : Oper} {a : Act} {W0 : World} {Q : Exit → Act → World → Prop} (hgd : o.guard = none) (t : TypeId) (Z : Array Value) (x y : Operand) (ho : o.op = .store t x y)
    (hx : a.eval x = .pointer (some ⟨W0.heap.size, 0, none⟩)) (hy : a.eval y = .agg Z) (hi : (P.info? t).map (·.size) = some Z.size) (h1 : Z.all (·.oneCell') = true)
    (h : wpList P ops Q rest (a.put o.dst undef) (W0.alloc (.cells Z t))) : wpList P ops Q (o :: rest) a (W0.alloc (.cells Z t)) := by
  refine wpList_store_row hgd t x y ho W0.heap.size Z hx hy t Z (heap_alloc_new W0 _) hi rfl h1 ?_
  rw [setRow_alloc]; exact h
theorem bools_get (l : List Int) (c : Int) (h : Card c) : (bools (seenB l)).toArray[c.toNat]? = some (.bool (decide (c ∈ l))) := by
  have h1 := h.1; have h2 := h.2
  have hc : c.toNat < 52 := by omega
  have := seenB_get l c h
  have hl : c.toNat < (seenB l).length := by rw [seenB_len]; exact hc
  simp only [bools, List.getElem?_toArray, List.getElem?_map, List.getElem?_eq_getElem hl, Option.map_some]
  rw [List.getD, List.getElem?_eq_getElem hl] at this
  simp only [Option.getD_some] at this
  rw [this]
theorem bools_set (l : List Int) (c : Int) (h : Card c) : (bools (seenB l)).toArray.setIfInBounds c.toNat (.bool true) = (bools (seenB (l ++ [c]))).toArray := by
  rw [← seenB_set l c h]
  simp [bools]
theorem Dealing.enter {A : Option Addr} {c : Nat} {ds : List (List Int)} {w W : World} {s : Nat} (h : Dealing A c ds w s (ds.getD s []).length W) (hs : s < ds.length)
    (hH : Hand (ds.getD s []) ∧ (ds.getD s []).length = (ds.getD 0 []).length) : Dealing A c ds w (s + 1) 0 W := by
  obtain ⟨hB, h0, h1, h2, h3⟩ := h
  rw [seenL_next ds s hs] at h1 h2
  refine ⟨hB, h0, h1, h2, fun j hj => ?_⟩
  by_cases e : j = s
  · subst e; exact hH
  · exact h3 j (by omega)
theorem Dealing.drewN {A : Option Addr} {c : Nat} {ds : List (List Int)} {w W : World} {s i : Nat} (h : Dealing A c ds w s i W) (n : Nat) : Dealing A c ds w s i (W.drewN n) :=
  ⟨below_drewN' h.1 n, h.2.1, h.2.2.1, h.2.2.2.1, h.2.2.2.2⟩
theorem Dealing.put {A : Option Addr} {c : Nat} {ds : List (List Int)} {w W : World} {s i : Nat} (h : Dealing A c ds w s i W) (hi : i < (ds.getD s []).length) (hc : Card ((ds.getD s []).getD i 0)) (hn : (ds.getD s []).getD i 0 ∉ seenL ds s i) :
    Dealing A c ds w s (i + 1) (W.setCell ⟨w.heap.size + 1, ((ds.getD s []).getD i 0).toNat, none⟩ (.bool true)) := by
  obtain ⟨hB, h0, h1, h2, h3⟩ := h
  refine ⟨hB.setCell (by show w.heap.size ≤ w.heap.size + 1; omega) _, ?_, ?_, seen_nodup_step hi h2 hn, h3⟩
  · rw [Below.heap_setCell _ _ _ _ (by show w.heap.size ≠ w.heap.size + 1; omega)]; exact h0
  · have := heap_setCell_same W (w.heap.size + 1) ((ds.getD s []).getD i 0).toNat _ _ (.bool true) h1
    rw [this, bools_set _ _ hc, seenL_step ds s i hi]
def impl_IsDeal.f (l0 : List (List Int)) : Option Bool := if ∀ x ∈ l0, x.length ≤ 2000000 then some (decide (Deal l0)) else none
set_option maxHeartbeats 4000000 in
set_option maxRecDepth 100000 in
theorem impl_IsDeal.calls (A0_0 : Option Addr) (c0_0 : Nat) (l0_0 : List (List Int)) (r : Bool) (w : World) (hr0_0 : Kd.C (Kd.slice 2 (Kd.int .i64)) w A0_0 l0_0.length l0_0) (hc0_0 : l0_0.length ≤ c0_0) (h : impl_IsDeal.f l0_0 = some r) :
    Calls Try.prog 29 #[.agg #[.slice A0_0 l0_0.length c0_0]] w fun e w' => e = .returned (.bool r) ∧ Below w.heap.size w w' := by
  unfold impl_IsDeal.f at h
  by_cases hb : ∀ x ∈ l0_0, x.length ≤ 2000000
  · rw [if_pos hb] at h
    obtain rfl := Option.some.inj h
    clear h
    by_cases h4 : l0_0.length = 4
    · obtain ⟨b, off, rfl, hbw, hel⟩ := hand_at hr0_0 (by omega)
      have HE := Aside0.mk hel
      have HB := Aside0.mk hb
      have H4 := Aside0.mk h4
      clear hr0_0 hel hb
      rw [h4] at hc0_0 ⊢
      clear h4
      obtain ⟨ds, hds⟩ : ∃ ds, ds = l0_0 := ⟨_, rfl⟩
      rw [← hds] at HE HB H4 ⊢
      clear hds l0_0
      have HZ := Aside0.mk (show (Try.prog.info? 81).bind (·.zero) = some (.agg Z52) by kernel_rfl)
      have HBU := Aside0.mk (show Try.prog.built 81 [] = some Z52 by kernel_rfl)
      have HI := Aside0.mk (show (Try.prog.info? 81).map (·.size) = some Z52.size by kernel_rfl)
      have HO := Aside0.mk (show Z52.all (·.oneCell') = true by kernel_rfl)
      go_enter Try.func29, Try.ntmps29
      go_wp2_with (first
        | (refine wpList_build_arr rfl _ Z52 rfl HBU.out ?_)
        | (refine wpList_alloc_arr rfl _ Z52 rfl HZ.out ?_)
        | (refine wpList_store_arr rfl 81 Z52 _ _ rfl rfl rfl HI.out HO.out ?_))
      have hD0 : Dealing (some ⟨b, off, none⟩) c0_0 ds w 0 0 ((w.alloc (.cells #[.slice (some ⟨b, off, none⟩) 4 c0_0] 27)).alloc (.cells Z52 81)) :=
        ⟨below_alloc (below_alloc (Below.refl _ _) _) _, ((below_alloc (Below.refl _ _) _).block w.heap.size (by simp)).trans (heap_alloc_new w _), by
          have h1 := heap_alloc_new (w.alloc (.cells #[.slice (some ⟨b, off, none⟩) 4 c0_0] 27)) (.cells Z52 81)
          rw [World.size_alloc] at h1
          have h2 : seenL ds 0 0 = [] := by simp [seenL]
          rw [h2]; exact h1, by simp [seenL], fun j hj => by omega⟩
      have HD0 := Aside0.mk hD0
      clear hD0 HZ HBU HI HO
      go_loopg [16] 4 (fun kq s W => ∃ j : Nat, j + kq = 4 ∧ s = .int .i64 j ∧ Dealing (some ⟨b, off, none⟩) c0_0 ds w j 0 W)
      case atStart => exact ⟨0, rfl, rfl, HD0.out⟩
      case round =>
        obtain ⟨j, hj, rfl, hD⟩ := hrel
        have HD := Aside0.mk hD
        clear hD HD0
        by_cases hlt : j < 4
        · obtain ⟨As, cs, hcell, hle, hC⟩ := HE.out j (by rw [H4.out]; exact hlt)
          obtain ⟨A0', c0', hcell0, _, _⟩ := HE.out 0 (by rw [H4.out]; omega)
          have hmem : ds.getD j [] ∈ ds := getD_mem_rows (by rw [H4.out]; exact hlt)
          have hL2 := HB.out _ hmem
          obtain ⟨L, hL⟩ : ∃ L, L = ds.getD j [] := ⟨_, rfl⟩
          obtain ⟨n0, hn0⟩ : ∃ n0, n0 = (ds.getD 0 []).length := ⟨_, rfl⟩
          rw [← hL] at hcell hle hC hL2
          rw [← hn0] at hcell0
          have HL := Aside0.mk hL
          have HN0 := Aside0.mk hn0
          clear hL hn0 hmem
          have hx : wr.cell? ⟨b, off + j, none⟩ = some (.slice As L.length cs) := (HD.out.1.cell (p := ⟨b, off + j, none⟩) hbw).trans hcell
          have hx0 : wr.cell? ⟨b, off, none⟩ = some (.slice A0' n0 c0') := by have := (HD.out.1.cell (p := ⟨b, off + 0, none⟩) hbw).trans hcell0; simpa using this
          have hbx : wr.cell? ⟨w.heap.size, 0, none⟩ = some (.slice (some ⟨b, off, none⟩) 4 c0_0) := by simp [World.cell?, HD.out.2.1]
          have HC := Aside0.mk hC
          have hh := fun (W : World) (hbW : Below w.heap.size w W) => impl_IsHand.calls (L.length + 1) As cs L (decide (Hand L)) W (Kd.C_below HC.out hbW) hle (implHand_eq L (by omega) _ (by omega))
          clear hcell hcell0 hC
          have hret : ¬ (Hand L ∧ L.length = n0) → decide (Deal ds) = false := fun hb => decide_eq_false (not_deal_hand (s := j) (by rw [H4.out]; exact hlt) (by rw [← HL.out, ← HN0.out]; exact hb))
          by_cases hH : Hand L
          · rw [decide_eq_true hH] at hh
            by_cases hn : L.length = n0
            · have e1 : ((L.length : Int) == (n0 : Int)) = true := by simp; omega
              have e2 : ((L.length : Int) != (n0 : Int)) = false := by simp; omega
              have HN := Aside0.mk hn
              have HH := Aside0.mk hH
              clear hn hret hH
              go_wp2_with (go_at_call 95; refine (hh _ HD.out.1).mono ?_; rintro e w' ⟨rfl, ⟨nd, rfl⟩⟩)
              have HD1 := Aside0.mk (HD.out.drewN nd)
              clear hx hx0 hbx HD
              go_loopg [35] L.length (fun kq i W => ∃ m : Nat, m + kq = L.length ∧ i = .int .i64 m ∧ Dealing (some ⟨b, off, none⟩) c0_0 ds w j m W)
              case atStart => exact ⟨0, by omega, rfl, HD1.out⟩
              case round =>
                obtain ⟨m, hm, rfl, hD2⟩ := hrel
                have HD2 := Aside0.mk hD2
                clear hD2 HD1
                by_cases hlt2 : m < L.length
                · rcases Kd.C_at HC.out with hnil | ⟨bs, os, hAs, hcc⟩
                  · rw [hnil] at hlt2; simp at hlt2
                  · have hblk := C_block_lt HC.out _ hAs (by omega)
                    subst hAs
                    have hcell := hcc m hlt2
                    have hcard : Card (L.getD m 0) := HH.out.2.1 _ (getD_mem hlt2)
                    obtain ⟨x, hx⟩ : ∃ x, x = L.getD m 0 := ⟨_, rfl⟩
                    rw [← hx] at hcell hcard
                    have HX := Aside0.mk (hx.trans (by rw [HL.out]) : x = (ds.getD j []).getD m 0)
                    clear hcc hx
                    have hv : wr.cell? ⟨bs, os + m, none⟩ = some (.int .i64 x) := (HD2.out.1.cell (p := ⟨bs, os + m, none⟩) hblk).trans hcell
                    have hx0 : 0 ≤ x := hcard.1
                    have hx1 : x < 52 := by have := hcard.2; omega
                    have hxn : x.toNat < 52 := by omega
                    have hs : wr.cell? ⟨w.heap.size + 1, x.toNat, none⟩ = some (.bool (decide (x ∈ seenL ds j m))) := by
                      have := bools_get (seenL ds j m) x hcard
                      simp [World.cell?, HD2.out.2.2.1] at this ⊢
                      exact this
                    have hf : wr.frozen? ⟨w.heap.size + 1, x.toNat, none⟩ = false := by simp [World.frozen?, HD2.out.2.2.1]
                    have hi2 : m < (ds.getD j []).length := by rw [← HL.out]; exact hlt2
                    have HCA := Aside0.mk hcard
                    clear hcell hcard hblk
                    by_cases hin : x ∈ seenL ds j m
                    · rw [decide_eq_true hin] at hs
                      have HR := Aside0.mk (decide_eq_false (not_deal_twice (d := ds) (s := j) (i := m) (by rw [H4.out]; exact hlt) hi2 (by rw [← HX.out]; exact hin)))
                      clear hin hi2
                      go_wp2
                      go_ret
                      exact ⟨by rw [HR.out]; rfl, HD2.out.1⟩
                    · rw [decide_eq_false hin] at hs
                      have HP := Aside0.mk (HD2.out.put hi2 (by rw [← HX.out]; exact HCA.out) (by rw [← HX.out]; exact hin))
                      rw [← HX.out] at HP
                      clear hin hi2
                      go_wp2
                      go_roundg (L.length - (m + 1))
                      case measure => omega
                      case rel => exact ⟨m + 1, by omega, by go_num, HP.out⟩
                · have hme : m = L.length := by omega
                  have HE2 := Aside0.mk (Dealing.enter (s := j) (by rw [← HL.out, ← hme]; exact HD2.out) (by rw [H4.out]; exact hlt) (by rw [← HL.out, ← HN0.out]; exact ⟨HH.out, HN.out⟩))
                  clear hme
                  go_wp2
                  go_roundg (4 - (j + 1))
                  case measure => omega
                  case rel => exact ⟨j + 1, by omega, by go_num, HE2.out⟩
            · have e1 : ((L.length : Int) == (n0 : Int)) = false := by simp; omega
              have e2 : ((L.length : Int) != (n0 : Int)) = true := by simp; omega
              have HR := Aside0.mk (hret (fun h => hn h.2))
              clear hn hret hH
              go_wp2_with (go_at_call 95; refine (hh _ HD.out.1).mono ?_; rintro e w' ⟨rfl, ⟨nd, rfl⟩⟩)
              go_ret
              exact ⟨by rw [HR.out]; rfl, below_drewN' HD.out.1 _⟩
          · rw [decide_eq_false hH] at hh
            have HR := Aside0.mk (hret (fun h => hH h.1))
            clear hret hH
            go_wp2_with (go_at_call 95; refine (hh _ HD.out.1).mono ?_; rintro e w' ⟨rfl, ⟨nd, rfl⟩⟩)
            go_ret
            exact ⟨by rw [HR.out]; rfl, below_drewN' HD.out.1 nd⟩
        · have hje : j = 4 := by omega
          go_wp2
          go_ret
          subst hje
          exact ⟨by rw [decide_eq_true (deal_of H4.out HD.out.2.2.2.2 HD.out.2.2.2.1)]; rfl, HD.out.1⟩
    · have hn : ¬ Deal l0_0 := fun hd => h4 hd.1
      rw [decide_eq_false hn]
      have e1 : ((l0_0.length : Int) == 4) = false := by simp; omega
      have e2 : ((l0_0.length : Int) != 4) = true := by simp; omega
      clear h4 hn hb hr0_0
      go_enter Try.func29, Try.ntmps29
      go_wp2
      go_ret
      exact ⟨rfl, below_alloc (Below.refl _ _) _⟩
  · rw [if_neg hb] at h; cases h
end Go.Proofs.Ytckmdibjkklhkaa.PAll
