/- Reading a card: the reference's search and the library's IndexByte find the same place; both CardOf agree. -/
import Derived.Test.YtmimhnmaggkmmaaLemA
import Derived.Test.YtmimhnmaggkmmaaGivA
import Derived.Test.YtmimhnmaggkmmaaPAllx14
import Derived.Test.YtmimhnmaggkmmaaPAllx22
import Derived.Test.YtmimhnmaggkmmaaPAllx6
namespace Go.Proofs.Ytmimhnmaggkmmaa.Lem
open Go.RowKit Go.Proofs.Ytmimhnmaggkmmaa.PAll Go.Proofs.Ytmimhnmaggkmmaa.Base Go.Proofs.YtmimhnmaggkmmaaW.PrintWords Go.Proofs.YtmimhnmaggkmmaaW.PrintLast Go.Proofs.YtmimhnmaggkmmaaW.PrintMore
set_option linter.unusedVariables false
set_option linter.unusedSimpArgs false

abbrev suitsB : ByteArray := ⟨#[67, 68, 72, 83]⟩
abbrev ranksB : ByteArray := ⟨#[50, 51, 52, 53, 54, 55, 56, 57, 84, 74, 81, 75, 65]⟩
theorem find_suits : ∀ n : Nat, n < 256 → spec_l01Find.f 20 suitsB (n : Int) = some (Lib.indexByte suitsB.data.toList n.toUInt8) := by decide +kernel
theorem find_ranks : ∀ n : Nat, n < 256 → spec_l01Find.f 20 ranksB (n : Int) = some (Lib.indexByte ranksB.data.toList n.toUInt8) := by decide +kernel
theorem find_suit_eq (s : ByteArray) (i : Int) : spec_l01Find.f 20 suitsB (bt s i) = strings_IndexByte.f suitsB (bt s i) := by
  have h := bt_range s i
  obtain ⟨n, hn⟩ := Int.eq_ofNat_of_zero_le h.1
  rw [hn, find_suits n (by omega)]; unfold strings_IndexByte.f; rw [Int.toNat_natCast]
theorem find_rank_eq (s : ByteArray) (i : Int) : spec_l01Find.f 20 ranksB (bt s i) = strings_IndexByte.f ranksB (bt s i) := by
  have h := bt_range s i
  obtain ⟨n, hn⟩ := Int.eq_ofNat_of_zero_le h.1
  rw [hn, find_ranks n (by omega)]; unfold strings_IndexByte.f; rw [Int.toNat_natCast]
def cardOf (a b : Int) : Int := if (0 ≤ a ∧ a ≤ 3) ∧ 0 ≤ b ∧ b ≤ 12 then wrap64 (wrap64 (13 * a) + b) else -1
theorem specCardOf_eq (a b : Int) : spec_CardOf.f a b = some (cardOf a b) := by
  unfold spec_CardOf.f cardOf
  simp only [l01In_eq, Option.bind_some]
  by_cases h : (0 ≤ a ∧ a ≤ 3) <;> by_cases h2 : (0 ≤ b ∧ b ≤ 12) <;> simp [h, h2]
theorem implCardOf_eq (a b : Int) : impl_CardOf.f a b = some (cardOf a b) := by
  unfold impl_CardOf.f impl_isSuit.f cardOf
  simp only [within_eq, Option.bind_some]
  by_cases h : (0 ≤ a ∧ a ≤ 3) <;> by_cases h2 : (0 ≤ b ∧ b ≤ 12) <;> simp [h, h2]
/-- what ReadCard returns -/
def readCard (s : ByteArray) : Int × Bool :=
  if s.size = 2 then (if cardOf (Lib.indexByte suitsB.data.toList (bt s 0).toNat.toUInt8) (Lib.indexByte ranksB.data.toList (bt s 1).toNat.toUInt8) < 0 then (0, false)
    else (cardOf (Lib.indexByte suitsB.data.toList (bt s 0).toNat.toUInt8) (Lib.indexByte ranksB.data.toList (bt s 1).toNat.toUInt8), true)) else (0, false)
theorem implReadCard_eq (s : ByteArray) : impl_ReadCard.f s = some (readCard s) := by
  unfold impl_ReadCard.f readCard
  by_cases h : s.size = 2
  · rw [if_pos (by omega), if_pos (by omega), if_pos h]
    unfold strings_IndexByte.f
    rw [Option.bind_some, if_pos (by omega), Option.bind_some, implCardOf_eq, Option.bind_some]
    split <;> rfl
  · rw [if_neg (by omega), if_neg h]
theorem specReadCard_eq (s : ByteArray) : spec_ReadCard.f 20 s = some (readCard s) := by
  unfold spec_ReadCard.f readCard
  by_cases h : s.size = 2
  · rw [if_pos (by omega), if_pos h]
    unfold spec_l01Suits.f spec_l01Ranks.f
    rw [Option.bind_some, if_pos (by omega)]
    rw [show spec_l01Find.f 20 ⟨#[67, 68, 72, 83]⟩ (bt s 0) = _ from find_suit_eq s 0]
    unfold strings_IndexByte.f
    rw [Option.bind_some, Option.bind_some, if_pos (by omega)]
    rw [show spec_l01Find.f 20 ⟨#[50, 51, 52, 53, 54, 55, 56, 57, 84, 74, 81, 75, 65]⟩ (bt s 1) = _ from find_rank_eq s 1]
    unfold strings_IndexByte.f
    rw [Option.bind_some, specCardOf_eq, Option.bind_some]
    split <;> rfl
  · rw [if_neg (by omega), if_neg h]
end Go.Proofs.Ytmimhnmaggkmmaa.Lem
