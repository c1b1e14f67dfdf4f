/- A smaller copy of a text of this seat, made by pack.py for one law. -/
import Derived.Test.YtoggoimoameklaaQFnExactHandTextLemD
import Derived.Test.YtoggoimoameklaaQFnExactHandTextPAllx15
import Derived.Test.YtoggoimoameklaaQFnExactHandTextPAllx17
import Derived.Test.YtoggoimoameklaaQFnExactHandTextPAllx5
import Derived.Test.YtoggoimoameklaaQFnExactHandTextPAllx9
import Derived.Test.YtoggoimoameklaaQFnExactHandTextPAllx33
import Derived.Test.YtoggoimoameklaaQFnExactHandTextPAllx39
import Derived.Test.YtoggoimoameklaaQFnExactHandTextPAllx11
import Derived.Test.YtoggoimoameklaaQFnExactHandTextPAllx41
namespace Go.Proofs.Ytoggoimoameklaa.Lem
open Go.RowKit Go.Proofs.Ytoggoimoameklaa.PAll Go.Proofs.Ytoggoimoameklaa.Base Go.Proofs.YtoggoimoameklaaW.PrintWords Go.Proofs.YtoggoimoameklaaW.PrintLast Go.Proofs.YtoggoimoameklaaW.PrintMore
set_option linter.unusedVariables false
set_option linter.unusedSimpArgs false
theorem getD_set (x : List Int) (a : Nat) (v : Int) (p : Nat) : (x.set a v).getD p 0 = if a = p ∧ p < x.length then v else x.getD p 0 := by
  simp only [List.getD, List.getElem?_set]
  by_cases e : a = p
  · subst e
    by_cases h : a < x.length
    · simp [h]
    · simp [h]
  · simp [e]
theorem getD_ext (x y : List Int) (h : x.length = y.length) (e : ∀ p, p < x.length → x.getD p 0 = y.getD p 0) : x = y := by
  apply List.ext_getElem h
  intro p h1 h2
  have := e p h1
  simpa [List.getD, h1, h2] using this
theorem reverse_l0 (n : Nat) (hn : n ≤ 2000000) : ∀ (d k i : Nat) (x : List Int), x.length = n → i + d ≤ n → d < k →
    ∃ y, slices_Reverse_int64_int64.l0 k x (i : Int) ((i : Int) + (d : Int) - 1) = some y ∧ y.length = n ∧ ∀ p, p < n → y.getD p 0 = if i ≤ p ∧ p < i + d then x.getD (i + (i + d) - 1 - p) 0 else x.getD p 0
  | 0, k, i, x, hx, hd, hk => by
    obtain ⟨k, rfl⟩ := succ_of hk
    exact ⟨x, by rw [slices_Reverse_int64_int64.l0, if_neg (by omega)], hx, fun p hp => by rw [if_neg (by omega)]⟩
  | 1, k, i, x, hx, hd, hk => by
    obtain ⟨k, rfl⟩ := succ_of hk
    refine ⟨x, by rw [slices_Reverse_int64_int64.l0, if_neg (by omega)], hx, fun p hp => ?_⟩
    split
    · rw [show i + (i + 1) - 1 - p = p by omega]
    · rfl
  | d + 2, k, i, x, hx, hd, hk => by
    obtain ⟨k, rfl⟩ := succ_of hk
    have ej : (i : Int) + ((d + 2 : Nat) : Int) - 1 = ((i + d + 1 : Nat) : Int) := by omega
    rw [ej]
    rw [slices_Reverse_int64_int64.l0, if_pos (by omega), if_pos (by omega), if_pos (by omega), if_pos (by omega), if_pos (by omega), rd_nat, rd_nat, Int.toNat_natCast, Int.toNat_natCast, wrap_nat i (by omega), w64 (by omega) (by omega)]
    obtain ⟨y, e, hy, hp⟩ := reverse_l0 n hn d k (i + 1) ((x.set i (x.getD (i + d + 1) 0)).set (i + d + 1) (x.getD i 0)) (by simp [hx]) (by omega) (by omega)
    refine ⟨y, ?_, hy, fun p hpn => ?_⟩
    · rw [← e]; congr 1; omega
    · rw [hp p hpn]
      simp only [getD_set, List.length_set, hx]
      by_cases c1 : i + 1 ≤ p ∧ p < i + 1 + d
      · rw [if_pos c1, if_neg (by omega), if_neg (by omega), if_pos (by omega)]
        congr 1; omega
      · rw [if_neg c1]
        by_cases c2 : p = i + d + 1
        · rw [if_pos (by omega), if_pos (by omega)]; congr 1; omega
        · rw [if_neg (by omega)]
          by_cases c3 : p = i
          · rw [if_pos (by omega), if_pos (by omega)]; congr 1; omega
          · rw [if_neg (by omega), if_neg (by omega)]
theorem reverse_eq (x : List Int) (hx : x.length ≤ 2000000) (k : Nat) (hk : x.length < k) : slices_Reverse_int64_int64.f k x = some x.reverse := by
  unfold slices_Reverse_int64_int64.f
  obtain ⟨y, e, hy, hp⟩ := reverse_l0 x.length hx x.length k 0 x rfl (by omega) hk
  rw [w64 (by omega) (by omega)]
  rw [show ((0 : Nat) : Int) + (x.length : Int) - 1 = (x.length : Int) - 1 by omega] at e
  rw [show (0 : Int) = ((0 : Nat) : Int) from rfl, e]
  congr 1
  refine getD_ext _ _ (by simp [hy]) fun p hp' => ?_
  rw [hp p (by omega), if_pos (by omega)]
  have hl : p < x.length := by omega
  simp only [List.getD, List.getElem?_reverse hl]
  rw [show 0 + (0 + x.length) - 1 - p = x.length - 1 - p by omega]
theorem descending_up (l : List Int) (hl : l.length ≤ 2000000) (h : Cards l) (k : Nat) (hk : l.length < k) : impl_descending.f k l = some l.reverse := by
  unfold impl_descending.f
  have e1 : slices_Clone_int64_int64.f l = some l := by unfold slices_Clone_int64_int64.f; rw [if_pos (by omega)]
  have e2 : slices_Sort_int64_int64.f l = some l := by
    unfold slices_Sort_int64_int64.f; rw [if_pos (by omega)]
    congr 1
    exact List.mergeSort_of_pairwise (h.2.imp fun hab => by simp; omega)
  rw [e1, Option.bind_some, e2, Option.bind_some, reverse_eq l hl k hk, Option.bind_some]
abbrev ranksBytes : ByteArray := ⟨#[50, 51, 52, 53, 54, 55, 56, 57, 84, 74, 81, 75, 65]⟩
def rankN (c : Int) : Int := bt ranksBytes (c % 13)
def byteOf (n : Int) : UInt8 := UInt8.ofNat n.toNat
def rankB (c : Int) : UInt8 := byteOf (rankN c)
def suitT (l : List Int) (s : Int) : List UInt8 := (suitL l s).reverse.map rankB
def textB (b : List UInt8) : ByteArray := ⟨b.toArray⟩
theorem textB_append (a b : List UInt8) : textB a ++ textB b = textB (a ++ b) := by
  apply ByteArray.ext
  simp [textB]
theorem textB_size (a : List UInt8) : (textB a).size = a.length := by simp [textB, ByteArray.size]
theorem specText_l1 (l sl : List Int) (hl : sl.length ≤ 2000000) (hc : ∀ x ∈ sl, Card x) (x4 : Int) : ∀ (i k : Nat) (o : List UInt8), i ≤ sl.length → o.length + i ≤ 4000000 →
    spec_l02Text.l1 (k + i + 1) l (textB o) x4 sl ((i : Int) - 1) = spec_l02Text.l1 (k + 1) l (textB (o ++ ((sl.take i).reverse.map rankB))) x4 sl (-1)
  | 0, k, o, hi, ho => by simp
  | i + 1, k, o, hi, ho => by
    have hx : Card (sl.getD i 0) := hc _ (getD_mem (by omega))
    have h0 := hx.1; have h1 := hx.2
    rw [show k + (i + 1) + 1 = k + i + 1 + 1 from by omega, show ((i + 1 : Nat) : Int) - 1 = (i : Int) by omega]
    rw [spec_l02Text.l1, if_pos (by omega)]
    unfold spec_l01Ranks.f
    rw [Option.bind_some, if_pos (by omega), if_pos (by omega), rd_nat, card_mod hx, if_pos (by omega), if_pos (by show sl.getD i 0 % 13 < (13 : Int); omega), Option.bind_some]
    have e1 : strOfNums [bt ⟨#[50, 51, 52, 53, 54, 55, 56, 57, 84, 74, 81, 75, 65]⟩ (sl.getD i 0 % 13)] = textB [rankB (sl.getD i 0)] := rfl
    rw [e1, textB_append, textB_size, textB_size, if_pos (by simp; omega), w64 (by omega) (by omega), specText_l1 l sl hl hc x4 i k _ (by omega) (by simp; omega)]
    have e2 : sl.take (i + 1) = sl.take i ++ [sl.getD i 0] := by
      rw [List.take_add_one]; simp [List.getD, List.getElem?_eq_getElem (show i < sl.length by omega)]
    rw [e2]; simp
theorem suitT_len (l : List Int) (s : Int) : (suitT l s).length ≤ l.length := by simp [suitT]; exact suitL_len l s
theorem specText_step (l : List Int) (hl : l.length ≤ 13) (hc : ∀ x ∈ l, Card x) (k s : Nat) (o : List UInt8) (hs : s ≤ 3) (hk : l.length < k) (ho : o.length ≤ 1000) :
    spec_l02Text.l0 (k + (suitL l s).length + 2) l (textB o) (s : Int) = if 0 < s then spec_l02Text.l0 k l (textB (o ++ suitT l s ++ [46])) ((s : Int) - 1) else spec_l02Text.l0 k l (textB (o ++ suitT l s)) ((s : Int) - 1) := by
  have hn := suitL_len l s
  have hcs : ∀ x ∈ suitL l s, Card x := fun x hx => hc x (List.mem_filter.mp hx).1
  have hT := suitT_len l s
  rw [show k + (suitL l s).length + 2 = k + (suitL l s).length + 1 + 1 from rfl, spec_l02Text.l0, if_pos (by omega), l01Suit_eq l (by omega) hc s _ (by omega), Option.bind_some, w64 (by omega) (by omega),
    specText_l1 l (suitL l s) (by omega) hcs s (suitL l s).length k o (Nat.le_refl _) (by omega), List.take_length]
  change spec_l02Text.l1 (k + 1) l (textB (o ++ suitT l s)) (s : Int) (suitL l s) (-1) = _
  rw [spec_l02Text.l1, if_neg (by omega), w64 (by omega) (by omega)]
  by_cases z : 0 < s
  · rw [if_pos (by omega), if_pos z, textB_size, if_pos (by simp; omega)]
    rw [show (textB (o ++ suitT l s) ++ (⟨#[46]⟩ : ByteArray)) = textB (o ++ suitT l s ++ [46]) from textB_append _ [46]]
  · rw [if_neg (by omega), if_neg z]
def handT (l : List Int) : List UInt8 := suitT l 3 ++ [46] ++ suitT l 2 ++ [46] ++ suitT l 1 ++ [46] ++ suitT l 0
theorem specText_eq (l : List Int) (hl : l.length ≤ 13) (hc : ∀ x ∈ l, Card x) (k : Nat) (hk : 100 ≤ k) : spec_l02Text.f k l = some (textB (handT l)) := by
  unfold spec_l02Text.f
  have n3 := suitL_len l 3
  have n2 := suitL_len l 2
  have n1 := suitL_len l 1
  have n0 := suitL_len l 0
  have t3 := suitT_len l 3
  have t2 := suitT_len l 2
  have t1 := suitT_len l 1
  have t0 := suitT_len l 0
  obtain ⟨m, rfl⟩ : ∃ m, k = ((((m + 20 + (suitL l 0).length + 2) + (suitL l 1).length + 2) + (suitL l 2).length + 2) + (suitL l 3).length + 2) := ⟨k - (20 + (suitL l 0).length + 2 + (suitL l 1).length + 2 + (suitL l 2).length + 2 + (suitL l 3).length + 2), by omega⟩
  refine (specText_step l hl hc _ 3 [] (by omega) (by omega) (by simp)).trans ?_
  rw [if_pos (by omega)]
  refine (specText_step l hl hc _ 2 _ (by omega) (by omega) (by simp; omega)).trans ?_
  rw [if_pos (by omega)]
  refine (specText_step l hl hc _ 1 _ (by omega) (by omega) (by simp; omega)).trans ?_
  rw [if_pos (by omega)]
  refine (specText_step l hl hc _ 0 _ (by omega) (by omega) (by simp; omega)).trans ?_
  rw [if_neg (by omega), spec_l02Text.l0, if_neg (by omega)]
  simp only [handT, List.nil_append]
  rfl
theorem implText_l1 (x0 : List Int) (x3 : List ByteArray) (x4 : Int) (x : List Int) (hx : x.length ≤ 2000000) (hc : ∀ c ∈ x, Card c) : ∀ (t : List Int) (k i : Nat) (o : List Int), x.drop i = t → o.length + t.length ≤ 4000000 →
    impl_handText.l1 (k + t.length + 1) x0 x3 x4 o x (x.length : Int) (i : Int) = if x3.length < 8796093022208 then impl_handText.l0 k x0 (x3 ++ [strOfNums (o ++ t.map rankN)]) (wrap64 (x4 - 1)) else none := by
  intro t
  induction t with
  | nil =>
    intro k i o ht ho
    have := drop_nil_le ht
    rw [List.length_nil, Nat.add_zero, impl_handText.l1, if_neg (by omega)]; simp
  | cons c t ih =>
    intro k i o ht ho
    obtain ⟨hi, hx', ht'⟩ := drop_cons ht (0 : Int)
    have hcc : Card c := hc c (by rw [← hx']; exact getD_mem hi)
    have h0 := hcc.1; have h1 := hcc.2
    simp only [List.length_cons] at ho ⊢
    rw [show k + (t.length + 1) + 1 = k + t.length + 1 + 1 from by omega, impl_handText.l1, if_pos (by omega), if_pos (by omega), if_pos (by omega), rd_nat, hx', rank_eq hcc, Option.bind_some, if_pos (by omega), if_pos (by omega), if_pos (by omega), wrap_nat i (by omega)]
    refine (ih k (i + 1) _ ht' (by simp; omega)).trans ?_
    simp [rankN]
theorem str_rank (t : List Int) : strOfNums ([] ++ t.map rankN) = textB (t.map rankB) := by
  unfold strOfNums textB
  congr 2
  rw [List.nil_append, List.map_map]; rfl
theorem implText_step (l : List Int) (hl : l.length ≤ 13) (h : Cards l) (k s : Nat) (o : List ByteArray) (hs : s ≤ 3) (hk : l.length + 10 < k) (ho : o.length ≤ 1000) :
    impl_handText.l0 (k + (suitL l s).length + 2) l o (s : Int) = impl_handText.l0 k l (o ++ [textB (suitT l s)]) ((s : Int) - 1) := by
  have hn := suitL_len l s
  have hcs : Cards (suitL l s) := suitL_cards h
  rw [show k + (suitL l s).length + 2 = k + (suitL l s).length + 1 + 1 from rfl, impl_handText.l0, if_pos (by omega), ofSuit_eq l (by omega) h.1 s _ (by omega), Option.bind_some, descending_up _ (by omega) hcs _ (by omega), Option.bind_some]
  have := implText_l1 l o s (suitL l s).reverse (by simp; omega) (fun c hc => hcs.1 c (by simpa using hc)) (suitL l s).reverse k 0 [] rfl (by simp; omega)
  rw [List.length_reverse] at this
  refine Eq.trans ?_ (this.trans ?_)
  · rw [List.length_reverse]; rfl
  · rw [if_pos (by omega), w64 (by omega) (by omega), str_rank]; rfl
theorem implText_eq (l : List Int) (hl : l.length ≤ 13) (h : Cards l) (k : Nat) (hk : 200 ≤ k) : impl_handText.f k l = some (textB (handT l)) := by
  unfold impl_handText.f
  have n3 := suitL_len l 3
  have n2 := suitL_len l 2
  have n1 := suitL_len l 1
  have n0 := suitL_len l 0
  obtain ⟨m, rfl⟩ : ∃ m, k = ((((m + 30 + (suitL l 0).length + 2) + (suitL l 1).length + 2) + (suitL l 2).length + 2) + (suitL l 3).length + 2) := ⟨k - (30 + (suitL l 0).length + 2 + (suitL l 1).length + 2 + (suitL l 2).length + 2 + (suitL l 3).length + 2), by omega⟩
  refine (implText_step l hl h _ 3 [] (by omega) (by omega) (by simp)).trans ?_
  refine (implText_step l hl h _ 2 _ (by omega) (by omega) (by simp)).trans ?_
  refine (implText_step l hl h _ 1 _ (by omega) (by omega) (by simp)).trans ?_
  refine (implText_step l hl h _ 0 _ (by omega) (by omega) (by simp)).trans ?_
  rw [impl_handText.l0, if_neg (by omega)]
  have e : strings_Join.f ([] ++ [textB (suitT l 3)] ++ [textB (suitT l 2)] ++ [textB (suitT l 1)] ++ [textB (suitT l 0)]) (⟨#[46]⟩ : ByteArray) = some (textB (handT l)) := by
    have t3 := suitT_len l 3
    have t2 := suitT_len l 2
    have t1 := suitT_len l 1
    have t0 := suitT_len l 0
    have j : Lib.join (([] ++ [textB (suitT l 3)] ++ [textB (suitT l 2)] ++ [textB (suitT l 1)] ++ [textB (suitT l 0)]).map (fun b : ByteArray => b.data.toList)) ((⟨#[46]⟩ : ByteArray).data.toList) = handT l := by
      simp [Lib.join, textB, handT, List.intercalate]
    unfold strings_Join.f
    rw [j, if_pos ⟨by simp, by simp [handT]; omega⟩]; rfl
  exact (congrArg (fun o => o.bind fun t => some t) e)
theorem specHandText_eq (l : List Int) (hl : l.length ≤ 2000000) (k : Nat) (hk : l.length + 300 ≤ k) : spec_HandText.f k l = some (if Hand l then textB (handT l) else ⟨#[]⟩) := by
  unfold spec_HandText.f
  rw [specHand_eq l (by omega) k (by omega), Option.bind_some]
  by_cases h : Hand l
  · rw [if_pos (by simpa using h), if_pos h, specText_eq l h.1 h.2.1 k (by omega), Option.bind_some]
  · rw [if_neg (by simpa using h), if_neg h]
theorem implHandText_eq (l : List Int) (hl : l.length ≤ 2000000) (k : Nat) (hk : l.length + 300 ≤ k) : impl_HandText.f k l = some (if Hand l then textB (handT l) else ⟨#[]⟩) := by
  unfold impl_HandText.f
  rw [implHand_eq l (by omega) k (by omega), Option.bind_some]
  by_cases h : Hand l
  · rw [if_pos (by simpa using h), if_pos h, implText_eq l h.1 h.2 k (by omega), Option.bind_some]
  · rw [if_neg (by simpa using h), if_neg h]
end Go.Proofs.Ytoggoimoameklaa.Lem
