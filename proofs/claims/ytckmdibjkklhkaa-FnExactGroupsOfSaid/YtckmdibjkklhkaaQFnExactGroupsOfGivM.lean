/- A smaller copy of texts of this seat, made by pack.py for one law. -/
import Derived.Test.YtckmdibjkklhkaaQFnExactGroupsOfBase2
import Derived.Test.YtckmdibjkklhkaaQFnExactGroupsOfLemD0
import Derived.Test.YtckmdibjkklhkaaQFnExactGroupsOfPAllx6
namespace Go.Proofs.Ytckmdibjkklhkaa.PAll
open Go.RowKit Go.Lib Go.Proofs.Ytckmdibjkklhkaa.Base Go.Proofs.Ytckmdibjkklhkaa.Lem Go.Proofs.YtckmdibjkklhkaaW.PrintWords Go.Proofs.YtckmdibjkklhkaaW.PrintLast
set_option linter.unusedVariables false
def total : List (List Int) → Nat
  | [] => 0
  | x :: t => x.length + total t
def markRows (a : Int) : List (List Int) → List (List Int)
  | [] => []
  | x :: t => marks a x.length :: markRows (a + x.length) t
theorem markRows_len : ∀ (l : List (List Int)) (a : Int), (markRows a l).length = l.length
  | [], _ => rfl
  | x :: t, a => by simp [markRows, markRows_len t]
theorem total_append : ∀ (l m : List (List Int)), total (l ++ m) = total l + total m
  | [], m => by simp [total]
  | x :: t, m => by simp [total, total_append t m]; omega
theorem markRows_append : ∀ (l m : List (List Int)) (a : Int), markRows a (l ++ m) = markRows a l ++ markRows (a + total l) m
  | [], m, a => by simp [markRows, total]
  | x :: t, m, a => by
    have e : a + (x.length : Int) + (total t : Int) = a + ((x.length + total t : Nat) : Int) := by omega
    simp only [List.cons_append, markRows, total, markRows_append t m, e]
theorem total_take_le (l : List (List Int)) (j : Nat) : total (l.take j) ≤ total l := by
  have := total_append (l.take j) (l.drop j)
  rw [List.take_append_drop] at this; omega
def partly (a : Int) (l : List (List Int)) (j : Nat) : List (List Int) := markRows a (l.take j) ++ l.drop j
theorem partly_get (a : Int) (l : List (List Int)) (j : Nat) (h : j < l.length) : (partly a l j).getD j [] = l[j] := by
  have hm : (markRows a (l.take j)).length = j := by rw [markRows_len]; simp; omega
  unfold partly
  rw [List.getD, List.getElem?_append_right (by omega), hm, Nat.sub_self, List.getElem?_drop, Nat.add_zero, List.getElem?_eq_getElem h]; rfl
theorem take_snoc_rows (l : List (List Int)) (j : Nat) (h : j < l.length) : l.take (j + 1) = l.take j ++ [l[j]] := by
  rw [List.take_succ_eq_append_getElem h]
theorem partly_set (a : Int) (l : List (List Int)) (j : Nat) (h : j < l.length) : (partly a l j).set j (marks (a + total (l.take j)) l[j].length) = partly a l (j + 1) := by
  have hm : (markRows a (l.take j)).length = j := by rw [markRows_len]; simp; omega
  unfold partly
  rw [List.set_append, if_neg (by omega), hm, Nat.sub_self, take_snoc_rows l j h, markRows_append, List.drop_eq_getElem_cons h, List.set_cons_zero, List.append_assoc]
  rfl
theorem total_snoc (l : List (List Int)) (j : Nat) (h : j < l.length) : total (l.take (j + 1)) = total (l.take j) + l[j].length := by
  rw [take_snoc_rows l j h, total_append]; simp [total]
def Marking (ok : Nat → Prop) (v : Value) (l : List (List Int)) (a : Int) (w0 w : World) (k i : Value) (W : World) : Prop :=
  ∃ j : Nat, j ≤ l.length ∧ i = .int .i64 j ∧ k = .int .i64 (a + total (l.take j)) ∧ Kd.S (Kd.slice 2 (Kd.int .i64)) 37 W w0.heap.size ok v (partly a l j) ∧ Below w0.heap.size w0 W ∧ Kept w W ok
set_option maxHeartbeats 4000000 in
set_option maxRecDepth 100000 in
theorem markRows_calls (ok : Nat → Prop) (v : Value) (l : List (List Int)) (a : Int) (w0 w : World) (hB : Below w0.heap.size w0 w) (hS : Kd.S (Kd.slice 2 (Kd.int .i64)) 37 w w0.heap.size ok v l)
    (h0 : 0 ≤ a) (hsum : a + total l ≤ 10000000) (hlen : l.length ≤ 10000000) :
    Calls Try.prog 49 #[v, .int .i64 a] w fun e w' => e = .returned (.int .i64 (a + total l)) ∧ Kd.S (Kd.slice 2 (Kd.int .i64)) 37 w' w0.heap.size ok v (markRows a l) ∧ Below w0.heap.size w0 w' ∧ Kept w w' ok := by
  have hp0 : partly a l 0 = l := by simp [partly, markRows]
  have hpn : partly a l l.length = markRows a l := by simp [partly]
  have HS := Aside0.mk hS
  have HB := Aside0.mk hB
  have HP0 := Aside0.mk hp0
  have HPN := Aside0.mk hpn
  clear hB hp0 hpn
  by_cases hz : l.length = 0
  · have : l = [] := List.eq_nil_of_length_eq_zero hz
    subst this
    obtain ⟨A, c, rfl⟩ := Kd.S_slice hS
    clear hS hsum hz hlen
    go_enter Try.func49, Try.ntmps49
    go_wp2
    go_loop [1, 5] (fun k i => k = .int .i64 a ∧ i = .int .i64 0) (fun _ _ => 0)
    case atStart => exact ⟨rfl, rfl⟩
    case round =>
      obtain ⟨rfl, rfl⟩ := hrel
      go_wp2
      go_ret
      exact ⟨by simp [total], HS.out, HB.out, Kept.refl _ _⟩
  · obtain ⟨g, cap, rfl, _⟩ := Kd.S_form hS (by omega)
    have hpos : 0 < l.length := by omega
    clear hS hz
    have HSUM := Aside0.mk hsum
    clear hsum
    go_enter Try.func49, Try.ntmps49
    go_wp2
    go_loopw [1, 5] (fun k i W => Marking ok (.slice (some ⟨g, 0, none⟩) l.length cap) l a w0 w k i W) (fun _ i _ => l.length - (intOf i).toNat)
    case atStart => exact ⟨0, by omega, rfl, by simp [total], by rw [HP0.out]; exact HS.out, HB.out, Kept.refl _ _⟩
    case round =>
      obtain ⟨j, hj, rfl, rfl, hS, hB, hK⟩ := hrel
      have HSj := Aside0.mk hS
      have HBj := Aside0.mk hB
      have HKj := Aside0.mk hK
      clear hS hB hK
      by_cases hlt : j < l.length
      · obtain ⟨oki, c, hcl, hM, hcell, hoki, hH⟩ := Kd.S_lend HSj.out [] (j : Int) (by omega) (by omega)
        obtain ⟨u, rfl, hR⟩ := hM
        rw [Int.toNat_natCast, partly_get a l j hlt] at hR
        have hu : wr.cell? ⟨g, j, none⟩ = some u := by have := hcell 0 u rfl; simpa [Kd.slice] using this
        have hsn := total_snoc l j hlt
        have htl := total_take_le l (j + 1)
        have hsum := HSUM.out
        have hm := mark_eq l[j] (by omega) (a + total (l.take j)) (by omega) (by omega) (l[j].length + 1) (by omega)
        have hcall := laws_markInt64S.calls (l[j].length + 1) (fun k => some k = u.ownBlock) u l[j] (a + total (l.take j)) _ _ w0 wr HBj.out (Kd.R_tight rfl hR) hm
        have HU := Aside0.mk hR.1
        have HOK := Aside0.mk hoki
        have HHH := Aside0.mk hH
        have HSN := Aside0.mk hsn
        clear hcell hcl hR hsn hm hoki hH hsum htl
        go_wp2_with (go_at_call 43; refine (hcall).mono ?_; rintro e w1 ⟨rfl, hR1, hB1, hK1⟩)
        go_roundw
        case rel =>
          have hset : Kd.S (Kd.slice 2 (Kd.int .i64)) 37 w1 w0.heap.size ok (.slice (some ⟨g, 0, none⟩) l.length cap) ((partly a l j).set (j : Int).toNat (marks (a + total (l.take j)) l[j].length)) :=
            Kd.H_back (Kd.H_kept HHH.out hK1 (fun k _ hn hs => hn (HU.out k hs.symm))) (okp := fun k => some k = u.ownBlock) ⟨u, rfl, Kd.R_tight rfl hR1⟩ (fun k hk => HU.out k hk.symm)
          rw [Int.toNat_natCast, partly_set a l j hlt] at hset
          refine ⟨j + 1, by omega, by go_num, ?_, hset, hB1, HKj.out.then_ hK1 (fun k hk => .inl (HOK.out k (HU.out k hk.symm)).1)⟩
          rw [HSN.out]; go_num
        case measure => simp [intOf]; omega
      · go_wp2
        go_ret
        have hje : j = l.length := by omega
        subst hje
        exact ⟨by rw [List.take_length]; rfl, by rw [← HPN.out]; exact HSj.out, HBj.out, HKj.out⟩
def Own (W : World) (b lo hi : Nat) (v : Value) (xs : List (List Int)) : Prop := Kd.S (Kd.slice 2 (Kd.int .i64)) 37 W b (fun k => lo ≤ k ∧ k < hi) v xs
section
variable {W w1 W2 : World} {b lo hi n c : Nat} {v : Value} {A : Option Addr} {xs : List (List Int)}
theorem Own.of_made {ok : Nat → Prop} (h : Kd.S (Kd.slice 2 (Kd.int .i64)) 37 w1 W.heap.size ok v xs) (hb : b ≤ W.heap.size) : Own w1 b W.heap.size w1.heap.size v xs :=
  Kd.S_lower (Kd.S_mono (Kd.S_bound h) (fun _ hk => ⟨hk.2.1, hk.2.2.1⟩)) hb
theorem Own.below (h : Own W b lo hi v xs) (hb : Below W.heap.size W W2) : Own W2 b lo hi v xs := Kd.S_below h hb
theorem Own.drewN (h : Own W b lo hi v xs) (m : Nat) : Own (W.drewN m) b lo hi v xs := Kd.S_drewN h m
theorem Own.drew (h : Own W b lo hi v xs) : Own W.drew b lo hi v xs := Kd.S_drew h
theorem Own.kept {lo2 hi2 : Nat} (h : Own W b lo hi v xs) (hk : Kept W W2 (fun k => lo2 ≤ k ∧ k < hi2)) (hd : hi ≤ lo2 ∨ hi2 ≤ lo) : Own W2 b lo hi v xs :=
  Kd.S_kept h hk (fun k h1 h2 => by omega)
theorem Own.reads (h : Own W b lo hi v xs) : ∃ A c, v = .slice A xs.length c ∧ xs.length ≤ c ∧ Kd.C (Kd.slice 2 (Kd.int .i64)) W A xs.length xs := Kd.S_reads h
theorem Own.C (h : Own W b lo hi (.slice A n c) xs) : n = xs.length ∧ xs.length ≤ c ∧ Kd.C (Kd.slice 2 (Kd.int .i64)) W A xs.length xs := by
  obtain ⟨A', c', hv, hc, hC⟩ := Kd.S_reads h
  injection hv with h1 h2 h3
  subst h1; subst h3
  exact ⟨h2, hc, hC⟩
theorem Own.mark (w0 : World) (a : Int) (h : Own W w0.heap.size lo hi v xs) (hB : Below w0.heap.size w0 W) (h0 : 0 ≤ a) (hsum : a + total xs ≤ 10000000) (hlen : xs.length ≤ 10000000) :
    Calls Try.prog 49 #[v, .int .i64 a] W fun e w' => e = .returned (.int .i64 (a + total xs)) ∧ Own w' w0.heap.size lo hi v (markRows a xs) ∧ Below w0.heap.size w0 w' ∧ Kept W w' (fun k => lo ≤ k ∧ k < hi) :=
  markRows_calls _ v xs a w0 W hB h h0 hsum hlen
end
def Own1 (W : World) (b lo hi : Nat) (v : Value) (xs : List Int) : Prop := Kd.R (Kd.int .i64) 2 W b (fun k => lo ≤ k ∧ k < hi) v xs
section
variable {W w1 W2 : World} {b lo hi n c : Nat} {v : Value} {A : Option Addr} {xs : List Int}
theorem Own1.of_made {ok : Nat → Prop} (h : Kd.R (Kd.int .i64) 2 w1 W.heap.size ok v xs) (hb : b ≤ W.heap.size) : Own1 w1 b W.heap.size w1.heap.size v xs :=
  Kd.R_lower (Kd.R_mono (Kd.R_bound h) (fun _ hk => ⟨hk.2.1, hk.2.2.1⟩)) hb
theorem Own1.below (h : Own1 W b lo hi v xs) (hb : Below W.heap.size W W2) : Own1 W2 b lo hi v xs := Kd.R_below h hb
theorem Own1.drewN (h : Own1 W b lo hi v xs) (m : Nat) : Own1 (W.drewN m) b lo hi v xs := Kd.R_drewN h m
theorem Own1.drew (h : Own1 W b lo hi v xs) : Own1 W.drew b lo hi v xs := Kd.R_drew h
theorem Own1.kept {lo2 hi2 : Nat} (h : Own1 W b lo hi v xs) (hk : Kept W W2 (fun k => lo2 ≤ k ∧ k < hi2)) (hd : hi ≤ lo2 ∨ hi2 ≤ lo) : Own1 W2 b lo hi v xs :=
  Kd.R_kept h hk (fun k h1 h2 => by omega)
theorem Own1.reads (h : Own1 W b lo hi v xs) : ∃ A c, v = .slice A xs.length c ∧ xs.length ≤ c ∧ Kd.C (Kd.int .i64) W A xs.length xs := Kd.R_reads h
theorem Own1.C (h : Own1 W b lo hi (.slice A n c) xs) : n = xs.length ∧ xs.length ≤ c ∧ Kd.C (Kd.int .i64) W A xs.length xs := by
  obtain ⟨A', c', hv, hc, hC⟩ := Kd.R_reads h
  injection hv with h1 h2 h3
  subst h1; subst h3
  exact ⟨h2, hc, hC⟩
theorem Own1.mark (w0 : World) (a : Int) (h : Own1 W w0.heap.size lo hi v xs) (hB : Below w0.heap.size w0 W) (h0 : 0 ≤ a) (hsum : a + xs.length ≤ 10000000) :
    Calls Try.prog 43 #[v, .int .i64 a] W fun e w' => e = .returned (.int .i64 (a + xs.length)) ∧ Own1 w' w0.heap.size lo hi v (marks a xs.length) ∧ Below w0.heap.size w0 w' ∧ Kept W w' (fun k => lo ≤ k ∧ k < hi) := by
  refine (laws_markInt64S.calls (xs.length + 1) (fun k => some k = v.ownBlock) v xs a _ _ w0 W hB (Kd.R_tight rfl h) (mark_eq xs (by omega) a h0 (by omega) (xs.length + 1) (by omega))).mono ?_
  rintro e w' ⟨rfl, hR, hB', hK⟩
  exact ⟨rfl, Kd.R_mono (Kd.R_tight rfl hR) (fun k hk => h.1 k hk.symm), hB', hK.mono (fun k hk => h.1 k hk.symm)⟩
end
end Go.Proofs.Ytckmdibjkklhkaa.PAll
