/- A smaller copy of texts of this seat, made by pack.py for one law. -/
import Derived.Test.YtckmdibjkklhkaaQFnExactGroupsOfPAllx0
import Derived.Deep.Matrix
import Derived.Deep.Fields
import Derived.Lib.SmallJoins
namespace Go.Proofs.Ytckmdibjkklhkaa.PAll
open Go.RowKit Go.Deep Go.ChangeShapes Go.WideShapes Go.Proofs.YtckmdibjkklhkaaW.PrintWords
set_option linter.unusedVariables false
def RowsIn (w : World) (A : Option Addr) (n c : Nat) (ds : List (List Int)) : Prop :=
  n = ds.length ∧ ds.length ≤ c ∧ Kd.C (Kd.slice 2 (Kd.int .i64)) w A ds.length ds ∧ ∀ y ∈ ds, ∀ x ∈ y, (Lit.int .i64 x).wf = true
theorem open_rows {H : Type} {enc : TypeId × Value → H} {P : Program} {w : World} {held : Bool} {t e q : TypeId} {fuel : Nat} {cs : List Value} {x : DataW H × List MemPlace} (ht : P.underlying t = some (.slice e)) (he : P.underlying e = some (.slice q)) (hq : P.underlying q = some (.int .i64))
    (ce : P.cellsOf e = 1) (cq : P.cellsOf q = 1) (h : DataW.trod enc P w 0 (fun _ => true) held fuel t cs = some x) : ∃ A n c ds, cs = [.slice A n c] ∧ RowsIn w A n c ds := by
  rcases open_int_rows ht he hq ce cq h with ⟨rfl, _⟩ | ⟨a, len, cap, A, L, C, Z, rfl, _, hlc, hcm, _, hr⟩
  · exact ⟨none, 0, 0, [], rfl, rfl, Nat.le_refl _, Kd.C_nil _ _, by simp⟩
  · have each : ∀ r, r < len → ∃ y : List Int, L r = y.length ∧ Kd.C (Kd.int .i64) w (A r) y.length y ∧ (∀ x ∈ y, (Lit.int .i64 x).wf = true) ∧ y.length ≤ C r := by
      intro r hlt
      obtain ⟨_, h1, h2, h3, h4, h5, h6⟩ := hr r (by omega)
      have hrow : (A r = none ∧ L r = 0 ∧ C r = 0 ∧ Z r = []) ∨ ∃ x, A r = some x ∧ L r ≤ C r ∧ C r ≤ maxLen ∧ (Z r).length = C r ∧ (∀ i, i < (Z r).length → w.cell? (x.add i) = some (.int .i64 ((Z r).getD i 0))) ∧ ∀ n ∈ Z r, (Lit.int .i64 n).wf = true := by
        cases hA : A r with
        | none =>
          have hc := h5 hA
          exact .inl ⟨rfl, by omega, hc, List.eq_nil_of_length_eq_zero (by omega)⟩
        | some a' => exact .inr ⟨a', rfl, h1, h2, h3, fun i hi => (h6 a' hA).2 i (by omega), h4⟩
      obtain ⟨y, e1, e2, _, e4, e5⟩ := ReadsInt.ofRowC hrow
      exact ⟨y, e1, Kd.C_of_reads (d := (0 : Int)) (h1 := fun _ => rfl) e2, e4, e5⟩
    obtain ⟨y, hy⟩ := choose_lt each
    refine ⟨some a, len, cap, (List.range len).map y, rfl, by simp, by simpa using hlc, ?_, ?_⟩
    · refine ⟨by simp, by simp; unfold maxLen at hcm; omega, fun hp => ⟨a, rfl, fun j p hj => ?_⟩⟩
      have hlt : j < len := by have := (List.getElem?_eq_some_iff.1 hj).1; simpa using this
      rw [List.getElem?_map, List.getElem?_range hlt] at hj
      injection hj with hj
      subst hj
      obtain ⟨e1, e2, e3, e4⟩ := hy j hlt
      refine ⟨[.slice (A j) (y j).length (C j)], rfl, ⟨A j, C j, rfl, e4, e2⟩, fun i u hu => ?_⟩
      cases i with
      | zero =>
        have := (hr j (by omega)).1
        rw [e1] at this
        simp at hu
        subst hu
        simpa [Kd.slice] using this
      | succ i => simp at hu
    · intro z hz v hv
      obtain ⟨j, hj, rfl⟩ := List.mem_map.1 hz
      exact (hy j (List.mem_range.1 hj)).2.2.1 v hv
theorem array1 {α : Type} {cs : Array α} (h : cs.size = 1) : ∃ c0, cs = #[c0] := by
  obtain ⟨l⟩ := cs
  match l, h with
  | [c0], _ => exact ⟨c0, rfl⟩
theorem open_deal {H : Type} {enc : TypeId × Value → H} {P : Program} {w : World} {held : Bool} {r : Reach} {b0 : Nat} {t e q : TypeId} {f0 : Field} {v : Value} {d : DataW H} {p : List MemPlace} (hs : P.underlying t = some (.struct #[f0])) (hone : oneCellFields P #[f0] = true) (hC : P.cellsOf t = 1)
    (ht : P.underlying f0.type = some (.slice e)) (he : P.underlying e = some (.slice q)) (hq : P.underlying q = some (.int .i64)) (ce : P.cellsOf e = 1) (cq : P.cellsOf q = 1)
    (hv : Value.okWide P w r b0 t v) (h : DataW.Trod enc P w 0 (fun _ => true) held t v d p) : ∃ A n c ds, v = .agg #[.slice A n c] ∧ RowsIn w A n c ds := by
  obtain ⟨cs, rfl, hsz⟩ := okWide_struct hs hv
  obtain ⟨c0, rfl⟩ := array1 (hsz.trans hC)
  obtain ⟨fuel, hf⟩ := h
  obtain ⟨xs, n, _, _, hl, hlen, hfs⟩ := DataW.trod_struct hs hf
  match xs, hlen with
  | [y0], _ =>
    have h0 := hfs 0 f0 rfl
    obtain ⟨o0, k0⟩ := hone_of hone 0 f0 rfl
    have h1 : DataW.trod enc P w 0 (fun _ => true) held n f0.type [c0] = some y0 := by simpa [Value.cells, o0, k0] using h0
    obtain ⟨A, m, c, ds, e1, hr⟩ := open_rows ht he hq ce cq h1
    injection e1 with e1
    exact ⟨A, m, c, ds, by rw [e1], hr⟩
theorem rows_len {w : World} {A : Option Addr} {n : Nat} {ds : List (List Int)} (h : Kd.C (Kd.slice 2 (Kd.int .i64)) w A n ds) : ds.length ≤ 9223372036854775807 ∧ ∀ x ∈ ds, x.length ≤ 9223372036854775807 := by
  obtain ⟨hn, hm, hc⟩ := h
  refine ⟨by omega, fun x hx => ?_⟩
  obtain ⟨j, hj, rfl⟩ := List.getElem_of_mem hx
  obtain ⟨ad, _, hjj⟩ := hc (by omega)
  obtain ⟨cs, _, ⟨A', c', _, _, hC⟩, _⟩ := hjj j _ (List.getElem?_eq_getElem hj)
  exact hC.2.1
end Go.Proofs.Ytckmdibjkklhkaa.PAll
