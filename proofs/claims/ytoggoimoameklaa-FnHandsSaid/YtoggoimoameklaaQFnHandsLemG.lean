/- A smaller copy of a text of this seat, made by pack.py for one law. -/
import Derived.Test.YtoggoimoameklaaQFnHandsLemC
import Derived.Test.YtoggoimoameklaaQFnHandsLemD
import Derived.Test.YtoggoimoameklaaQFnHandsPAllx29
import Derived.Test.YtoggoimoameklaaQFnHandsPAllx31
namespace Go.Proofs.Ytoggoimoameklaa.Lem
open Go.RowKit Go.Proofs.Ytoggoimoameklaa.PAll Go.Proofs.Ytoggoimoameklaa.Base Go.Proofs.YtoggoimoameklaaW.PrintWords Go.Proofs.YtoggoimoameklaaW.PrintLast Go.Proofs.YtoggoimoameklaaW.PrintMore
set_option linter.unusedVariables false
set_option linter.unusedSimpArgs false
def insL (x : Int) : List Int → List Int
  | [] => [x]
  | y :: t => if y > x then x :: y :: t else y :: insL x t
theorem insL_len (x : Int) : ∀ l : List Int, (insL x l).length = l.length + 1
  | [] => rfl
  | y :: t => by simp only [insL]; split <;> simp [insL_len x t]
theorem put_l0 (l : List Int) (hl : l.length ≤ 2000000) (x : Int) : ∀ (t : List Int) (k i : Nat) (o : List Int) (d : Bool), l.drop i = t → t.length + 2 ≤ k → i ≤ l.length → o.length + t.length + (if d = true then 0 else 1) ≤ 4000000 →
    spec_l01Put.l0 k l x o d (i : Int) = some (o ++ if d = true then t else insL x t) := by
  intro t
  induction t with
  | nil =>
    intro k i o d ht hk hil ho
    obtain ⟨k, rfl⟩ := succ_of (d := 0) (k := k) (by omega)
    have := drop_nil_le ht
    simp only [spec_l01Put.l0]
    rw [if_neg (by omega)]
    cases d
    · simp at ho
      rw [if_neg (by simp), if_pos (by omega)]; simp [insL]
    · simp
  | cons y t ih =>
    intro k i o d ht hk hil ho
    obtain ⟨hi, hx, ht'⟩ := drop_cons ht (0 : Int)
    simp only [List.length_cons] at hk ho
    obtain ⟨k, rfl⟩ := succ_of (d := 0) (k := k) (by omega)
    simp only [spec_l01Put.l0]
    rw [if_pos (by omega), rd_nat, hx, wrap_nat i (by omega)]
    cases d
    · simp only [Bool.false_eq_true, if_false] at ho
      rw [if_neg (by simp), if_pos (by omega)]
      by_cases e : y > x
      · rw [if_pos e, if_pos (by omega), Option.bind_some, if_pos (by simp; omega), ih k (i + 1) _ true ht' (by omega) (by omega) (by simp; omega)]
        simp [insL, e]
      · rw [if_neg e, if_pos (by omega), ih k (i + 1) _ false ht' (by omega) (by omega) (by simp; omega)]
        simp [insL, e]
    · simp only [if_true] at ho
      rw [if_pos rfl, if_pos (by omega), if_pos (by omega), ih k (i + 1) _ true ht' (by omega) (by omega) (by simp; omega)]
      simp
theorem put_eq (l : List Int) (hl : l.length ≤ 2000000) (x : Int) (k : Nat) (hk : l.length + 2 ≤ k) : spec_l01Put.f k l x = some (insL x l) := by
  unfold spec_l01Put.f
  have := put_l0 l hl x l k 0 [] false rfl hk (by omega) (by simp; omega)
  simpa using this
theorem foldl_ins_len (l : List Int) : ∀ o : List Int, (l.foldl (fun o x => insL x o) o).length = o.length + l.length := by
  induction l with
  | nil => intro o; simp
  | cons x t ih => intro o; rw [List.foldl_cons, ih, insL_len]; simp; omega
def sortedL (l : List Int) : List Int := l.foldl (fun o x => insL x o) []
theorem sortedL_len (l : List Int) : (sortedL l).length = l.length := by unfold sortedL; rw [foldl_ins_len]; simp
theorem sorted_eq (l : List Int) (hl : l.length ≤ 1000) (k : Nat) (hk : l.length + 1200 ≤ k) : spec_l01Sorted.f k l = some (sortedL l) := by
  unfold spec_l01Sorted.f
  exact fold_loop (0 : Int) l 1 1100 (fun k (o : List Int) i => spec_l01Sorted.l0 k l o i) (fun o x => insL x o) id (fun i o => o.length = i)
    (by intro k o i _ _ hi; simp only [spec_l01Sorted.l0]; rw [if_neg (by omega)]; rfl)
    (by
      intro k o i hB ho hi
      simp only [spec_l01Sorted.l0]
      rw [if_pos (by omega), if_pos (by omega), rd_nat, put_eq o (by omega) _ k (by omega), Option.bind_some, wrap_nat i (by omega)])
    (by intro o i ho hi; rw [insL_len, ho]) l k 0 [] rfl (by omega) (by simp)
theorem shuf_l1 (l : List Int) : ∀ (d : Nat) (k : Nat) (o : List Int) (a s : Int), Src l a s → o.length = 52 → d < 52 → d < k →
    ∃ x a' s', spec_l01Shuffled.l1 k o (d : Int) l a s = some (x, a', s') ∧ Src l a' s' ∧ x.length = 52
  | 0, k, o, a, s, S, ho, hd, hk => by
    obtain ⟨k, rfl⟩ := succ_of hk
    simp only [spec_l01Shuffled.l1]
    rw [if_neg (by omega)]
    exact ⟨o, a, s, rfl, S, ho⟩
  | d + 1, k, o, a, s, S, ho, hd, hk => by
    obtain ⟨k, rfl⟩ := succ_of hk
    simp only [spec_l01Shuffled.l1]
    obtain ⟨r, a1, s1, e, S1, r0, r1⟩ := next_eq S (((d + 1 : Nat) : Int) + 1)
    rw [if_pos (by omega), w64 (n := ((d + 1 : Nat) : Int) + 1) (by omega) (by omega), e]
    simp only [Option.bind_some]
    have := r1 (by omega)
    rw [if_pos (by omega), if_pos (by omega), if_pos (by omega), if_pos (by omega), w64 (n := ((d + 1 : Nat) : Int) - 1) (by omega) (by omega), show ((d + 1 : Nat) : Int) - 1 = (d : Int) by omega]
    exact shuf_l1 l d k _ a1 s1 S1 (by simp [ho]) (by omega) (by omega)
theorem shuf_l0 (l : List Int) (a s : Int) (S : Src l a s) : ∀ (d k i : Nat) (o : List Int), i + d = 52 → o.length = i → d + 60 ≤ k →
    ∃ x a' s', spec_l01Shuffled.l0 k o (i : Int) l a s = some (x, a', s') ∧ Src l a' s' ∧ x.length = 52
  | 0, k, i, o, hi, ho, hk => by
    obtain ⟨k, rfl⟩ := succ_of (d := 0) (k := k) (by omega)
    simp only [spec_l01Shuffled.l0]
    rw [if_neg (by omega)]
    exact shuf_l1 l 51 k o a s S (by omega) (by omega) (by omega)
  | d + 1, k, i, o, hi, ho, hk => by
    obtain ⟨k, rfl⟩ := succ_of (d := 0) (k := k) (by omega)
    simp only [spec_l01Shuffled.l0]
    rw [if_pos (by omega), if_pos (by omega), wrap_nat i (by omega)]
    exact shuf_l0 l a s S d k (i + 1) _ (by omega) (by simp [ho]) (by omega)
theorem shuffled_eq {l : List Int} {a s : Int} (S : Src l a s) (k : Nat) (hk : 200 ≤ k) : ∃ x a' s', spec_l01Shuffled.f k l a s = some (x, a', s') ∧ Src l a' s' ∧ x.length = 52 := by
  unfold spec_l01Shuffled.f
  exact shuf_l0 l a s S 52 k 0 [] (by omega) rfl (by omega)
theorem drawHand_eq {l : List Int} {a s : Int} (S : Src l a s) (n : Int) (h0 : 0 ≤ n) (h1 : n ≤ 52) (k : Nat) (hk : 1500 ≤ k) : ∃ x a' s', spec_l01DrawHand.f k l a s n = some (x, a', s') ∧ Src l a' s' ∧ (x.length : Int) = n := by
  unfold spec_l01DrawHand.f
  obtain ⟨x, a1, s1, e, S1, hx⟩ := shuffled_eq S k (by omega)
  rw [e]; simp only [Option.bind_some]
  have hl : (x.take n.toNat).length = n.toNat := by rw [List.length_take]; omega
  rw [if_pos h0, if_pos (by omega), sorted_eq _ (by omega) k (by omega), Option.bind_some]
  exact ⟨_, _, _, rfl, S1, by rw [sortedL_len, hl]; omega⟩
theorem drawAny_j0 {l : List Int} {a s : Int} (S : Src l a s) (x : List Int) (hx : x.length ≤ 13) (k : Nat) (hk : 1600 ≤ k) : ∃ y a' s', spec_l01DrawAny.j0 k x l a s = some (y, a', s') ∧ Src l a' s' ∧ y.length ≤ 14 := by
  obtain ⟨k, rfl⟩ := succ_of (d := 0) (k := k) (by omega)
  simp only [spec_l01DrawAny.j0]
  obtain ⟨r, a1, s1, e, S1, r0, r1⟩ := next_eq S 24
  rw [e]; simp only [Option.bind_some]
  by_cases c0 : r = 0
  · rw [if_pos c0, if_pos (by omega)]; exact ⟨_, _, _, rfl, S1, by simp; omega⟩
  · rw [if_neg c0]
    by_cases c1 : r = 1
    · rw [if_pos c1, if_pos (by omega)]; exact ⟨_, _, _, rfl, S1, by simp; omega⟩
    · rw [if_neg c1]
      by_cases c2 : r = 2
      · rw [if_pos c2, if_pos (by simp; omega)]; exact ⟨_, _, _, rfl, S1, by simp; omega⟩
      · rw [if_neg c2]
        by_cases c3 : r = 3
        · rw [if_pos c3]
          by_cases c4 : (x.length : Int) > 1
          · rw [if_pos c4, if_pos (by omega), if_pos (by omega)]; exact ⟨_, _, _, rfl, S1, by simp; omega⟩
          · rw [if_neg c4]; exact ⟨_, _, _, rfl, S1, by omega⟩
        · rw [if_neg c3]
          by_cases c5 : r = 4
          · rw [if_pos c5]
            obtain ⟨z, a2, s2, e2, S2, hz⟩ := shuffled_eq S1 k (by omega)
            rw [e2]; simp only [Option.bind_some]
            have hl : (z.take 14).length = 14 := by rw [List.length_take]; omega
            rw [if_pos (by omega), sorted_eq _ (by omega) k (by omega), Option.bind_some]
            exact ⟨_, _, _, rfl, S2, by rw [sortedL_len, hl]; omega⟩
          · rw [if_neg c5]; exact ⟨_, _, _, rfl, S1, by omega⟩
theorem drawAny_eq {l : List Int} {a s : Int} (S : Src l a s) (k : Nat) (hk : 1600 ≤ k) : ∃ y a' s', spec_l01DrawAny.f k l a s = some (y, a', s') ∧ Src l a' s' ∧ y.length ≤ 14 := by
  unfold spec_l01DrawAny.f
  obtain ⟨x, a1, s1, e1, S1, h1⟩ := drawHand_eq S 13 (by omega) (by omega) k (by omega)
  rw [e1]; simp only [Option.bind_some]
  obtain ⟨r, a2, s2, e2, S2, r0, r1⟩ := next_eq S1 2
  rw [e2]; simp only [Option.bind_some]
  by_cases c : r = 0
  · rw [if_pos c]
    obtain ⟨n, a3, s3, e3, S3, n0, n1⟩ := next_eq S2 14
    have n2 := n1 (by omega)
    rw [e3]; simp only [Option.bind_some]
    obtain ⟨y, a4, s4, e4, S4, h4⟩ := drawHand_eq S3 n n0 (by omega) k (by omega)
    rw [e4]; simp only [Option.bind_some]
    exact drawAny_j0 S4 y (by omega) k (by omega)
  · rw [if_neg c]
    exact drawAny_j0 S2 x (by omega) k (by omega)
end Go.Proofs.Ytoggoimoameklaa.Lem
