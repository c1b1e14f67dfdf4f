/- A smaller copy of texts of this seat, made by pack.py for one law. -/
import Derived.Test.YtckmdibjkklhkaaQFnExactGroupsOfPAllx0
import Derived.Test.YtckmdibjkklhkaaQFnExactGroupsOfGivC
import Derived.Test.YtckmdibjkklhkaaQFnExactGroupsOfGivM
import Derived.Test.YtckmdibjkklhkaaQFnExactGroupsOfGivK
import Derived.Lib.AppendZeros
namespace Go.Proofs.Ytckmdibjkklhkaa.PAll
open Go.RowKit Go.Lib Go.Sort Go.Proofs.Ytckmdibjkklhkaa.Base Go.Proofs.YtckmdibjkklhkaaW.PrintWords Go.Proofs.YtckmdibjkklhkaaW.PrintLast
set_option linter.unusedVariables false
set_option maxHeartbeats 4000000 in
set_option maxRecDepth 100000 in
theorem grow_nil (n : Nat) (w : World) (hn : n ≤ 1099511627776) : Calls Try.prog 193 #[.slice none 0 0, .int .i64 n] w fun e w' => ∃ v, e = .returned v ∧ Kd.R (Kd.int .i64) 2 w' w.heap.size (fun _ => True) v [] ∧ Below w.heap.size w w' := by
  by_cases h0 : n = 0
  · subst h0
    go_enter Try.func193, Try.ntmps193
    go_wp2
    go_ret
    exact ⟨_, rfl, Kd.R_nil _ _ _ _ _, Below.refl _ _⟩
  · obtain ⟨i0, hi0, hz0, hz1, hz2⟩ := info_parts info2
    have hrun : ∀ ty, _ := fun ty => Lib.run_append_nil_zeros (P := Try.prog) w 37 3 ty 2 i0 (.int .i64 0) .i64 .i64 Try.underlying37 Try.underlying3 hi0 hz0 n (by omega) (by omega) (by omega) (by rw [hz2]; omega)
    have hG := grownCap_ge w n 0 2
    have hGm := grownCap_le_maxLen w n 0 2 (by unfold maxLen; omega)
    obtain ⟨G, hGe⟩ : ∃ G, G = grownCap w n 0 2 := ⟨_, rfl⟩
    obtain ⟨ROW, hROW⟩ : ∃ ROW : Array Value, ROW = Builtin.zeroCells (Value.int .i64 0).cells n ++ Builtin.zeroCells (Value.int .i64 0).cells (G - n) := ⟨_, rfl⟩
    rw [← hGe] at hG hGm hrun
    rw [← hROW] at hrun
    have hs : ROW.size = G := by rw [hROW]; simp [Builtin.zeroCells, Value.cells]; omega
    have HS := Aside0.mk hs
    have HGM := Aside0.mk hGm
    have p1 : (0 : Int) ≤ (n : Int) := by omega
    have p2 : decide ((n : Int) < 0) = false := by simp
    have p3 : (0 : Int) < (n : Int) := by omega
    clear hROW hGe hs hz0 hz1 hz2 hi0 h0 hGm
    go_enter Try.func193, Try.ntmps193
    go_wp2_with (at_builtin; refine Lib.wpList_append_run _ rfl _ _ _ _ rfl _ _ rfl rfl _ _ (hrun _) ?_)
    go_ret
    refine ⟨_, rfl, ?_, below_alloc (below_drew (Below.refl _ _)) _⟩
    refine ⟨fun _ _ => trivial, [], ⟨rfl, .inr ⟨w.heap.size, G, ROW, rfl, Nat.le_refl _, by exact heap_alloc_new w.drew _, Nat.zero_le _, HGM.out, by rw [HS.out, show (Kd.int .i64).sz = 1 from rfl, Nat.mul_one], by simp⟩⟩, reps_nums .i64 _ _ _ []⟩
theorem flat_len : ∀ ds : List (List Int), ds.flatten.length = total ds
  | [] => rfl
  | x :: t => by simp [total, flat_len t]
theorem flat_take (ds : List (List Int)) (j : Nat) (h : j < ds.length) : (ds.take (j + 1)).flatten = (ds.take j).flatten ++ ds.getD j [] := by
  have e : ds.getD j [] = ds[j] := by simp [List.getD, h]
  rw [take_snoc_rows ds j h, List.flatten_append, e]; simp
set_option maxHeartbeats 4000000 in
set_option maxRecDepth 100000 in
theorem concat_calls (A : Option Addr) (c : Nat) (ds : List (List Int)) (w : World) (hr : Kd.C (Kd.slice 2 (Kd.int .i64)) w A ds.length ds) (ht : total ds ≤ 1099511627776) :
    Calls Try.prog 168 #[.slice A ds.length c] w fun e w' => ∃ v, e = .returned v ∧ Kd.R (Kd.int .i64) 2 w' w.heap.size (fun _ => True) v ds.flatten ∧ Below w.heap.size w w' := by
  have hel : 0 < ds.length → ∃ b off, A = some ⟨b, off, none⟩ ∧ b < w.heap.size ∧ ∀ j, j < ds.length → ∃ As cs, w.cell? ⟨b, off + j, none⟩ = some (.slice As (ds.getD j []).length cs) ∧ (ds.getD j []).length ≤ cs ∧ Kd.C (Kd.int .i64) w As (ds.getD j []).length (ds.getD j []) := hand_at hr
  have HE := Aside0.mk hel
  have hn := hr.2.1
  have HT := Aside0.mk ht
  have hgrow := fun W => grow_nil (total ds) W ht
  clear hr hel ht
  go_enter Try.func168, Try.ntmps168
  go_wp2
  go_loop [3, 11] (fun s i => ∃ j : Nat, j ≤ ds.length ∧ i = .int .i64 j ∧ s = .int .i64 (total (ds.take j))) (fun _ i => ds.length - (intOf i).toNat)
  case atStart => exact ⟨0, Nat.zero_le _, rfl, by simp [total]⟩
  case round =>
    obtain ⟨j, hj, rfl, rfl⟩ := hrel
    by_cases hlt : j < ds.length
    · obtain ⟨b, off, rfl, hbw, hjj⟩ := HE.out (by omega)
      obtain ⟨As, cs, hcell, hle, hC⟩ := hjj j hlt
      have hsn := total_snoc ds j hlt
      have e : ds.getD j [] = ds[j] := by simp [List.getD, hlt]
      rw [e] at hcell
      have hle2 := total_take_le ds (j + 1)
      have hs : (total (ds.take j) : Int) + (ds[j].length : Int) = ((total (ds.take (j + 1)) : Nat) : Int) := by omega
      have hb0 : total (ds.take (j + 1)) ≤ 1099511627776 := by have := HT.out; omega
      have q1 : decide (((total (ds.take (j + 1)) : Nat) : Int) < 0) = false := by simp
      obtain ⟨T1, hT1⟩ : ∃ T1, T1 = total (ds.take (j + 1)) := ⟨_, rfl⟩
      obtain ⟨T0, hT0⟩ : ∃ T0, T0 = total (ds.take j) := ⟨_, rfl⟩
      obtain ⟨Lj, hLj⟩ : ∃ Lj, Lj = ds[j].length := ⟨_, rfl⟩
      rw [← hT1, ← hT0, ← hLj] at hs
      rw [← hT1] at hb0 q1
      rw [← hLj] at hcell
      rw [← hT0]
      have HT1 := Aside0.mk hT1
      have q0 : (T0 : Int) + (Lj : Int) ≤ 1099511627776 := by omega
      have q2 : decide ((T0 : Int) + (Lj : Int) < 0) = false := decide_eq_false (by omega)
      have HS := Aside0.mk hs
      clear hs hsn hle2 hT1 hT0 hLj hjj hC hle e q1 hb0
      go_wp2
      go_round
      case rel => exact ⟨j + 1, by omega, by go_num, by rw [← HT1.out, HS.out]⟩
      case measure => simp [intOf]; omega
    · have hje : j = ds.length := by omega
      have hTe : total (ds.take j) = total ds := by rw [hje, List.take_length]
      rw [hTe]
      clear hje hTe
      go_wp2_with (go_at_call 193; refine (hgrow _).mono ?_; rintro e w1 ⟨v1, rfl, hR1, hb1⟩)
      have HR1 := Aside0.mk hR1
      have HB1 := Aside0.mk hb1
      clear hR1 hb1
      go_loopw [6, 27] (fun v i W => ∃ j : Nat, j ≤ ds.length ∧ i = .int .i64 j ∧ Aside0 (Kd.R (Kd.int .i64) 2 W w.heap.size (fun _ => True) v (ds.take j).flatten) ∧ Aside0 (Below w.heap.size w W)) (fun _ i _ => ds.length - (intOf i).toNat)
      case atStart => exact ⟨0, Nat.zero_le _, rfl, ⟨by simpa using HR1.out⟩, HB1⟩
      case round =>
        obtain ⟨m, hm, rfl, HR, HB⟩ := hrel
        by_cases hlt2 : m < ds.length
        · obtain ⟨b, off, rfl, hbw, hjj⟩ := HE.out (by omega)
          obtain ⟨As, cs, hcell, hle, hC⟩ := hjj m hlt2
          have hx : wr.cell? ⟨b, off + m, none⟩ = some (.slice As (ds.getD m []).length cs) := (HB.out.cell (p := ⟨b, off + m, none⟩) hbw).trans hcell
          have hCm := Aside0.mk (Kd.C_below hC HB.out)
          have hlen : ((ds.take m).flatten.length + (ds.getD m []).length) * 8 ≤ 140737488355328 := by
            have h1 := flat_take ds m hlt2
            have h2 := congrArg List.length h1
            rw [List.length_append, flat_len] at h2
            have h3 := total_take_le ds (m + 1)
            have h4 := HT.out
            omega
          have HF := Aside0.mk (flat_take ds m hlt2)
          have HSZ := Aside0.mk HB.out.size
          obtain ⟨L, hL⟩ : ∃ L, L = ds.getD m [] := ⟨_, rfl⟩
          rw [← hL] at hx hCm hlen HF
          have HL := Aside0.mk hlen
          clear hcell hle hC hjj hlen hL
          go_wp2_with (at_builtin; refine Kd.R_append_row (Value.int .i64) (0 : Int) (h1 := fun _ => rfl) (w0 := w) w.heap.size rfl _ _ 37 2 (.int .i64 0) 8 rfl Try.underlying37 info2 rfl (by decide) _ _ L As L.length cs (fun _ => True) rfl rfl (fun _ _ => trivial) HR.out hCm.out HB.out HSZ.out HL.out ?_; intro v2 w2 hR2 hb2 hg2 hat2)
          go_roundw
          case rel => exact ⟨m + 1, by omega, by go_num, ⟨by rw [HF.out]; exact hR2⟩, ⟨hb2⟩⟩
          case measure => simp [intOf]; omega
        · go_wp2
          go_ret
          have hme : m = ds.length := by omega
          have h2 := HR.out
          rw [hme, List.take_length] at h2
          exact ⟨_, rfl, h2, HB.out⟩
def impl_cardsOf.f (l0 : List (List Int)) : Option (List Int) := if total l0 ≤ 1099511627776 then some (sortL l0.flatten) else none
set_option maxHeartbeats 2000000 in
theorem impl_cardsOf.calls (A0 : Option Addr) (c0 : Nat) (l0 : List (List Int)) (r : List Int) (w : World) (hr0 : Kd.C (Kd.slice 2 (Kd.int .i64)) w A0 l0.length l0) (hc0 : l0.length ≤ c0) (h : impl_cardsOf.f l0 = some r) :
    Calls Try.prog 120 #[.slice A0 l0.length c0] w fun e w' => ∃ v0_ : Value, e = .returned (v0_) ∧ Kd.R (Kd.int .i64) 2 w' w.heap.size (fun _ => True) v0_ r ∧ Below w.heap.size w w' := by
  unfold impl_cardsOf.f at h
  by_cases ht : total l0 ≤ 1099511627776
  · rw [if_pos ht] at h
    obtain rfl := Option.some.inj h
    have hcc := concat_calls A0 c0 l0 w hr0 ht
    have hsort := fun (W : World) (v : Value) (hB : Below w.heap.size w W) (hR : Kd.R (Kd.int .i64) 2 W w.heap.size (fun _ => True) v l0.flatten) =>
      slices_Sort_int64_int64.calls (fun _ => True) v l0.flatten (sortL l0.flatten) w W hB hR (by unfold slices_Sort_int64_int64.f sortL; rw [if_pos (by rw [flat_len]; omega)])
    clear hr0 h ht
    go_enter Try.func120, Try.ntmps120
    go_wp2_with (go_at_call 168; refine hcc.mono ?_; rintro e w1 ⟨v1, rfl, hR1, hb1⟩)
    go_wp2_with (go_at_call 167; refine (hsort _ _ hb1 hR1).mono ?_; rintro e w2 ⟨rfl, hR2, hb2, hk2⟩)
    go_ret
    exact ⟨_, rfl, Kd.R_mono hR2 (fun _ _ => trivial), hb2⟩
  · rw [if_neg ht] at h; cases h
end Go.Proofs.Ytckmdibjkklhkaa.PAll
