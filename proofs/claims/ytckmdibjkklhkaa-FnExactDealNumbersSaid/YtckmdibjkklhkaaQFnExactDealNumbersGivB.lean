/- A smaller copy of a text of this seat, made by pack.py for one law. -/
import Derived.Test.YtckmdibjkklhkaaQFnExactDealNumbersPAllx0
import Derived.Lib.SliceRun
namespace Go.Proofs.Ytckmdibjkklhkaa.PAll
open Go.RowKit Go.Proofs.YtckmdibjkklhkaaW.PrintWords Go.Proofs.YtckmdibjkklhkaaW.PrintLast
theorem Kd.C_none_nil {k : IntKind} {w : World} {l : List Int} (h : Kd.C (Kd.int k) w none l.length l) : l = [] := by
  cases l with
  | nil => rfl
  | cons x t =>
    obtain ⟨ad, e, _⟩ := h.2.2 (by simp)
    cases e
theorem reps_nums (k : IntKind) (w : World) (base : Nat) (ok : Nat → Prop) (l : List Int) : Reps ((Kd.int k).M w base ok) 1 l (nums k l) := by
  refine ⟨by simp [nums], fun j p hp => ?_⟩
  have hj := (List.getElem?_eq_some_iff.1 hp).1
  show (List.take 1 (List.drop (j * 1) (nums k l))) = [Value.int k p]
  have hn : (nums k l)[j]? = some (Value.int k p) := by simp [nums, hp]
  rw [Nat.mul_one, List.take_one, List.head?_drop, hn]; rfl
theorem reps_eq {k : IntKind} {w : World} {base : Nat} {ok : Nat → Prop} {l : List Int} {cs : List Value} (h : Reps ((Kd.int k).M w base ok) 1 l cs) : cs = nums k l := by
  apply List.ext_getElem?
  intro j
  by_cases hj : j < l.length
  · have h2 := h.2 j _ (List.getElem?_eq_getElem hj)
    change List.take 1 (List.drop (j * 1) cs) = [Value.int k l[j]] at h2
    rw [Nat.mul_one, List.take_one, List.head?_drop] at h2
    have h3 : cs[j]? = some (Value.int k l[j]) := by
      cases hc : cs[j]? with
      | none => rw [hc] at h2; cases h2
      | some v => rw [hc] at h2; injection h2 with h2 _; rw [h2]
    rw [h3]; simp [nums, hj]
  · have := h.1
    rw [List.getElem?_eq_none (by omega), List.getElem?_eq_none (by simp [nums]; omega)]
theorem Kd.R_of_own {k : IntKind} {e : Nat} {w : World} {base : Nat} {v : Value} {l : List Int} (h : w.ownsRow base e 1 v l.length (nums k l)) : Kd.R (Kd.int k) e w base (fun _ => True) v l :=
  ⟨fun _ _ => trivial, nums k l, h, reps_nums k w base _ l⟩
theorem Kd.C_cells {k : IntKind} {w : World} {ad : Addr} {l : List Int} (h : Kd.C (Kd.int k) w (some ad) l.length l) (j : Nat) (u : Value) (hu : (nums k l)[j]? = some u) : w.cell? (ad.add j) = some u := by
  have hj : j < l.length := by have := (List.getElem?_eq_some_iff.1 hu).1; simpa [nums] using this
  obtain ⟨ad', e, hc⟩ := Kd.at_int h (j : Int) (by omega) (by omega)
  cases e
  rw [Int.toNat_natCast] at hc
  rw [hc]
  simp only [nums, List.getElem?_map] at hu
  rw [List.getElem?_eq_getElem hj] at hu
  simp only [Option.map_some] at hu
  rw [← hu]; simp [rd, List.getD, hj]
def slices_Clone_int64_int64.f (l0 : List Int) : Option (List Int) := if l0.length < 17592186044416 then some l0 else none
set_option maxHeartbeats 2000000 in
set_option maxRecDepth 100000 in
theorem slices_Clone_int64_int64.calls (A0 : Option Addr) (c0 : Nat) (l0 : List Int) (r : List Int) (w : World) (hr0 : Kd.C (Kd.int .i64) w A0 l0.length l0) (hc0 : l0.length ≤ c0) (h : slices_Clone_int64_int64.f l0 = some r) :
    Calls Try.prog 108 #[.slice A0 l0.length c0] w fun e w' => ∃ v0_ : Value, e = .returned (v0_) ∧ Kd.R (Kd.int .i64) 2 w' w.heap.size (fun _ => True) v0_ r ∧ Below w.heap.size w w' := by
  unfold slices_Clone_int64_int64.f at h
  by_cases hl : l0.length < 17592186044416
  · rw [if_pos hl] at h
    obtain rfl := Option.some.inj h
    have HR0 := Aside0.mk hr0
    have HL := Aside0.mk hl
    clear hr0 hl h
    have q22 : ∀ (w : World) (a : Option Addr) (n c n' c' : Nat), (binOp .eql 37 (.slice a n c) (.slice none n' c')).run Try.prog w = .ok (.bool a.isNone) w := fun w a n c n' c' => Lib.run_eql_slice_nil w _ _ a n c n' c' Try.underlying37
    cases A0 with
    | none =>
      have hn := Kd.C_none_nil HR0.out
      subst hn
      go_enter Try.func108, Try.ntmps108
      go_wp2
      go_ret
      exact ⟨_, rfl, Kd.R_nil _ _ _ _ _, Below.refl _ _⟩
    | some ad =>
      obtain ⟨i0, hi, hz0, hz1, hz2⟩ := info_parts info2
      go_enter Try.func108, Try.ntmps108
      go_wp2_with (at_builtin; refine wpList_append_own _ rfl _ _ 37 rfl w.heap.size 2 i0 (.int .i64 0) 1 8 Try.underlying37 hi hz0 hz1 hz2 rfl (by decide) _ _ _ rfl (World.ownsRow_made w #[] 0 (Nat.le_refl _) (Nat.zero_le _) (by simp)) ad l0.length c0 (nums .i64 l0) rfl ?qc1 ?qc2 ?qc3 ?qc4 ?qc5 ?qc6 ?_)
      case qc1 => simp [nums]
      case qc2 => intro j u hj; exact pw_cell_below (below_alloc (Below.refl _ _) _) (Kd.C_cells HR0.out j u hj)
      case qc3 => intro u hu; simp only [nums, List.mem_map] at hu; obtain ⟨q, _, rfl⟩ := hu; rfl
      case qc4 => have := HL.out; rw [Nat.zero_add]; unfold maxLen; omega
      case qc5 => have := HL.out; rw [Nat.zero_add]; omega
      case qc6 => simp
      intro v' w1 hown hgrow hnil
      go_wp2
      go_ret
      refine ⟨_, rfl, Kd.R_of_own (by simpa using hown), ?_⟩
      exact ((Below.refl _ w).alloc (Nat.le_refl _) _).grown hgrow (by simp) (by intro k hk; simp [Value.ownBlock] at hk; omega)
  · rw [if_neg hl] at h; cases h
end Go.Proofs.Ytckmdibjkklhkaa.PAll
