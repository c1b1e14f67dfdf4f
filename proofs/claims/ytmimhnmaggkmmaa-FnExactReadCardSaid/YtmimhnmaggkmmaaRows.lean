/-
  No cell of these rows narrows 'for every input' (looked for: loops, veiled, ifaces, maps, wideKeys, modest, calm, conditions, laid).
  DERIVED. THE GIVEN ROWS OF THIS SEAT. 12 by the template 'for every input the law returns true; each argument reads behind the call as it read before'; 0 by the template 'total and deterministic' (their statements: YtmimhnmaggkmmaaTotals.lean).
  GIVEN WITH THE SEED: the statements are not yours to turn. If you find one false, say at which input.
  Laid BY PROGRAM, IN A SANDBOX (cutbox-rows.mjs): the forced cells as the released guide's own fill.sh prints them over the translation f16c3099869a1a1a… (all of the seat's roots in one cut). By AI agents, Wed Nov 11 2026. No macro, syntax, notation, axiom, sorry.
-/
import Derived.Test.YtmimhnmaggkmmaaChecked
import GoSem.Claim
import GoSem.ClaimJoined
import GoSem.ClaimMapViews
import Derived.JoinedTies
import Derived.KernelRfl
namespace Go.Proofs.Ytmimhnmaggkmmaa
/- THE CELL 'sum', in the pinned program and in every row, IS THE sha256 OF THE DUMP (.gsa) THAT YtmimhnmaggkmmaaProg.lean LOADS. Nothing in Lean hashes anything: it is a label: what it is worth is what the hold of that sum in a sandbox is worth. -/
noncomputable def Try.pinned : Pinned := { name := "ytmimhnmaggkmmaa", sum := "f16c3099869a1a1a1a5a9b040774e52a388dca34770a92ceaf1f0bfdce14ef7f", checked := Try.checked }
namespace Rows
def none {H : Type} : Left H := { results := [], args := [] }

/-- 'laws.FnExactConstants': WHATEVER THE INPUT: true; the input reads as it did. -/
def fnExactConstantsSpec : ChangeSpec := { name := "fnExactConstants", fn := fun _ => fun
  | [] => { results := [.lit (.bool true)], args := [] }
  | _ => none }
def fnExactConstantsRow : OpenClaim := { program := "ytmimhnmaggkmmaa", sum := "f16c3099869a1a1a1a5a9b040774e52a388dca34770a92ceaf1f0bfdce14ef7f", func := "loop.example/g00854/laws.FnExactConstants", spec := "fnExactConstants", apart := false }
def FnExactConstantsSaid : Prop := fnExactConstantsRow.holds Try.pinned (OpenSpec.ofChange fnExactConstantsSpec)

/-- ITS FALSE NEIGHBOUR: 'it returns false'. Refute it at one input. -/
def fnExactConstantsWrong : ChangeSpec := { name := "fnExactConstants", fn := fun _ => fun
  | [] => { results := [.lit (.bool false)], args := [] }
  | _ => none }
def FnExactConstantsWrongFalsely : Prop := fnExactConstantsRow.holds Try.pinned (OpenSpec.ofChange fnExactConstantsWrong)

/-- 'laws.FnExactIsCall': WHATEVER THE INPUT: true; the input reads as it did. -/
def fnExactIsCallSpec : ChangeSpec := { name := "fnExactIsCall", fn := fun _ => fun
  | [d] => { results := [.lit (.bool true)], args := [d] }
  | _ => none }
def fnExactIsCallRow : OpenClaim := { program := "ytmimhnmaggkmmaa", sum := "f16c3099869a1a1a1a5a9b040774e52a388dca34770a92ceaf1f0bfdce14ef7f", func := "loop.example/g00854/laws.FnExactIsCall", spec := "fnExactIsCall", apart := false }
def FnExactIsCallSaid : Prop := fnExactIsCallRow.holds Try.pinned (OpenSpec.ofChange fnExactIsCallSpec)

/-- ITS FALSE NEIGHBOUR: 'it returns false'. Refute it at one input. -/
def fnExactIsCallWrong : ChangeSpec := { name := "fnExactIsCall", fn := fun _ => fun
  | [d] => { results := [.lit (.bool false)], args := [d] }
  | _ => none }
def FnExactIsCallWrongFalsely : Prop := fnExactIsCallRow.holds Try.pinned (OpenSpec.ofChange fnExactIsCallWrong)

/-- 'laws.FnExactBidOf': WHATEVER THE INPUT: true; the input reads as it did. -/
def fnExactBidOfSpec : ChangeSpec := { name := "fnExactBidOf", fn := fun _ => fun
  | [d1, d2] => { results := [.lit (.bool true)], args := [d1, d2] }
  | _ => none }
def fnExactBidOfRow : OpenClaim := { program := "ytmimhnmaggkmmaa", sum := "f16c3099869a1a1a1a5a9b040774e52a388dca34770a92ceaf1f0bfdce14ef7f", func := "loop.example/g00854/laws.FnExactBidOf", spec := "fnExactBidOf", apart := false }
def FnExactBidOfSaid : Prop := fnExactBidOfRow.holds Try.pinned (OpenSpec.ofChange fnExactBidOfSpec)

/-- ITS FALSE NEIGHBOUR: 'it returns false'. Refute it at one input. -/
def fnExactBidOfWrong : ChangeSpec := { name := "fnExactBidOf", fn := fun _ => fun
  | [d1, d2] => { results := [.lit (.bool false)], args := [d1, d2] }
  | _ => none }
def FnExactBidOfWrongFalsely : Prop := fnExactBidOfRow.holds Try.pinned (OpenSpec.ofChange fnExactBidOfWrong)

/-- 'laws.FnExactCardOf': WHATEVER THE INPUT: true; the input reads as it did. -/
def fnExactCardOfSpec : ChangeSpec := { name := "fnExactCardOf", fn := fun _ => fun
  | [d1, d2] => { results := [.lit (.bool true)], args := [d1, d2] }
  | _ => none }
def fnExactCardOfRow : OpenClaim := { program := "ytmimhnmaggkmmaa", sum := "f16c3099869a1a1a1a5a9b040774e52a388dca34770a92ceaf1f0bfdce14ef7f", func := "loop.example/g00854/laws.FnExactCardOf", spec := "fnExactCardOf", apart := false }
def FnExactCardOfSaid : Prop := fnExactCardOfRow.holds Try.pinned (OpenSpec.ofChange fnExactCardOfSpec)

/-- ITS FALSE NEIGHBOUR: 'it returns false'. Refute it at one input. -/
def fnExactCardOfWrong : ChangeSpec := { name := "fnExactCardOf", fn := fun _ => fun
  | [d1, d2] => { results := [.lit (.bool false)], args := [d1, d2] }
  | _ => none }
def FnExactCardOfWrongFalsely : Prop := fnExactCardOfRow.holds Try.pinned (OpenSpec.ofChange fnExactCardOfWrong)

/-- 'laws.FnExactLevelOf': WHATEVER THE INPUT: true; the input reads as it did. -/
def fnExactLevelOfSpec : ChangeSpec := { name := "fnExactLevelOf", fn := fun _ => fun
  | [d] => { results := [.lit (.bool true)], args := [d] }
  | _ => none }
def fnExactLevelOfRow : OpenClaim := { program := "ytmimhnmaggkmmaa", sum := "f16c3099869a1a1a1a5a9b040774e52a388dca34770a92ceaf1f0bfdce14ef7f", func := "loop.example/g00854/laws.FnExactLevelOf", spec := "fnExactLevelOf", apart := false }
def FnExactLevelOfSaid : Prop := fnExactLevelOfRow.holds Try.pinned (OpenSpec.ofChange fnExactLevelOfSpec)

/-- ITS FALSE NEIGHBOUR: 'it returns false'. Refute it at one input. -/
def fnExactLevelOfWrong : ChangeSpec := { name := "fnExactLevelOf", fn := fun _ => fun
  | [d] => { results := [.lit (.bool false)], args := [d] }
  | _ => none }
def FnExactLevelOfWrongFalsely : Prop := fnExactLevelOfRow.holds Try.pinned (OpenSpec.ofChange fnExactLevelOfWrong)

/-- 'laws.FnExactRankOf': WHATEVER THE INPUT: true; the input reads as it did. -/
def fnExactRankOfSpec : ChangeSpec := { name := "fnExactRankOf", fn := fun _ => fun
  | [d] => { results := [.lit (.bool true)], args := [d] }
  | _ => none }
def fnExactRankOfRow : OpenClaim := { program := "ytmimhnmaggkmmaa", sum := "f16c3099869a1a1a1a5a9b040774e52a388dca34770a92ceaf1f0bfdce14ef7f", func := "loop.example/g00854/laws.FnExactRankOf", spec := "fnExactRankOf", apart := false }
def FnExactRankOfSaid : Prop := fnExactRankOfRow.holds Try.pinned (OpenSpec.ofChange fnExactRankOfSpec)

/-- ITS FALSE NEIGHBOUR: 'it returns false'. Refute it at one input. -/
def fnExactRankOfWrong : ChangeSpec := { name := "fnExactRankOf", fn := fun _ => fun
  | [d] => { results := [.lit (.bool false)], args := [d] }
  | _ => none }
def FnExactRankOfWrongFalsely : Prop := fnExactRankOfRow.holds Try.pinned (OpenSpec.ofChange fnExactRankOfWrong)

/-- 'laws.FnExactSuitOf': WHATEVER THE INPUT: true; the input reads as it did. -/
def fnExactSuitOfSpec : ChangeSpec := { name := "fnExactSuitOf", fn := fun _ => fun
  | [d] => { results := [.lit (.bool true)], args := [d] }
  | _ => none }
def fnExactSuitOfRow : OpenClaim := { program := "ytmimhnmaggkmmaa", sum := "f16c3099869a1a1a1a5a9b040774e52a388dca34770a92ceaf1f0bfdce14ef7f", func := "loop.example/g00854/laws.FnExactSuitOf", spec := "fnExactSuitOf", apart := false }
def FnExactSuitOfSaid : Prop := fnExactSuitOfRow.holds Try.pinned (OpenSpec.ofChange fnExactSuitOfSpec)

/-- ITS FALSE NEIGHBOUR: 'it returns false'. Refute it at one input. -/
def fnExactSuitOfWrong : ChangeSpec := { name := "fnExactSuitOf", fn := fun _ => fun
  | [d] => { results := [.lit (.bool false)], args := [d] }
  | _ => none }
def FnExactSuitOfWrongFalsely : Prop := fnExactSuitOfRow.holds Try.pinned (OpenSpec.ofChange fnExactSuitOfWrong)

/-- 'laws.FnExactCardText': WHATEVER THE INPUT: true; the input reads as it did. -/
def fnExactCardTextSpec : ChangeSpec := { name := "fnExactCardText", fn := fun _ => fun
  | [d] => { results := [.lit (.bool true)], args := [d] }
  | _ => none }
def fnExactCardTextRow : OpenClaim := { program := "ytmimhnmaggkmmaa", sum := "f16c3099869a1a1a1a5a9b040774e52a388dca34770a92ceaf1f0bfdce14ef7f", func := "loop.example/g00854/laws.FnExactCardText", spec := "fnExactCardText", apart := false }
def FnExactCardTextSaid : Prop := fnExactCardTextRow.holds Try.pinned (OpenSpec.ofChange fnExactCardTextSpec)

/-- ITS FALSE NEIGHBOUR: 'it returns false'. Refute it at one input. -/
def fnExactCardTextWrong : ChangeSpec := { name := "fnExactCardText", fn := fun _ => fun
  | [d] => { results := [.lit (.bool false)], args := [d] }
  | _ => none }
def FnExactCardTextWrongFalsely : Prop := fnExactCardTextRow.holds Try.pinned (OpenSpec.ofChange fnExactCardTextWrong)

/-- 'laws.FnExactBinomial': WHATEVER THE INPUT: true; the input reads as it did. -/
def fnExactBinomialSpec : ChangeSpec := { name := "fnExactBinomial", fn := fun _ => fun
  | [d1, d2] => { results := [.lit (.bool true)], args := [d1, d2] }
  | _ => none }
def fnExactBinomialRow : OpenClaim := { program := "ytmimhnmaggkmmaa", sum := "f16c3099869a1a1a1a5a9b040774e52a388dca34770a92ceaf1f0bfdce14ef7f", func := "loop.example/g00854/laws.FnExactBinomial", spec := "fnExactBinomial", apart := false }
def FnExactBinomialSaid : Prop := fnExactBinomialRow.holds Try.pinned (OpenSpec.ofChange fnExactBinomialSpec)

/-- ITS FALSE NEIGHBOUR: 'it returns false'. Refute it at one input. -/
def fnExactBinomialWrong : ChangeSpec := { name := "fnExactBinomial", fn := fun _ => fun
  | [d1, d2] => { results := [.lit (.bool false)], args := [d1, d2] }
  | _ => none }
def FnExactBinomialWrongFalsely : Prop := fnExactBinomialRow.holds Try.pinned (OpenSpec.ofChange fnExactBinomialWrong)

/-- 'laws.FnExactIsHand': WHATEVER THE INPUT: true; the input reads as it did. -/
def fnExactIsHandSpec : ChangeSpec := { name := "fnExactIsHand", fn := fun _ => fun
  | [d] => { results := [.lit (.bool true)], args := [d] }
  | _ => none }
def fnExactIsHandRow : OpenClaim := { program := "ytmimhnmaggkmmaa", sum := "f16c3099869a1a1a1a5a9b040774e52a388dca34770a92ceaf1f0bfdce14ef7f", func := "loop.example/g00854/laws.FnExactIsHand", spec := "fnExactIsHand", apart := false }
def FnExactIsHandSaid : Prop := fnExactIsHandRow.holds Try.pinned (OpenSpec.ofChange fnExactIsHandSpec)

/-- ITS FALSE NEIGHBOUR: 'it returns false'. Refute it at one input. -/
def fnExactIsHandWrong : ChangeSpec := { name := "fnExactIsHand", fn := fun _ => fun
  | [d] => { results := [.lit (.bool false)], args := [d] }
  | _ => none }
def FnExactIsHandWrongFalsely : Prop := fnExactIsHandRow.holds Try.pinned (OpenSpec.ofChange fnExactIsHandWrong)

/-- 'laws.FnBinomial': WHATEVER THE INPUT: true; the input reads as it did. -/
def fnBinomialSpec : ChangeSpec := { name := "fnBinomial", fn := fun _ => fun
  | [d] => { results := [.lit (.bool true)], args := [d] }
  | _ => none }
def fnBinomialRow : OpenClaim := { program := "ytmimhnmaggkmmaa", sum := "f16c3099869a1a1a1a5a9b040774e52a388dca34770a92ceaf1f0bfdce14ef7f", func := "loop.example/g00854/laws.FnBinomial", spec := "fnBinomial", apart := false }
def FnBinomialSaid : Prop := fnBinomialRow.holds Try.pinned (OpenSpec.ofChange fnBinomialSpec)

/-- ITS FALSE NEIGHBOUR: 'it returns false'. Refute it at one input. -/
def fnBinomialWrong : ChangeSpec := { name := "fnBinomial", fn := fun _ => fun
  | [d] => { results := [.lit (.bool false)], args := [d] }
  | _ => none }
def FnBinomialWrongFalsely : Prop := fnBinomialRow.holds Try.pinned (OpenSpec.ofChange fnBinomialWrong)

/-- 'laws.FnExactReadCard': WHATEVER THE INPUT: true; the input reads as it did. -/
def fnExactReadCardSpec : ChangeSpec := { name := "fnExactReadCard", fn := fun _ => fun
  | [d] => { results := [.lit (.bool true)], args := [d] }
  | _ => none }
def fnExactReadCardRow : OpenClaim := { program := "ytmimhnmaggkmmaa", sum := "f16c3099869a1a1a1a5a9b040774e52a388dca34770a92ceaf1f0bfdce14ef7f", func := "loop.example/g00854/laws.FnExactReadCard", spec := "fnExactReadCard", inPlace := ["internal/bytealg.IndexByteString"], apart := false }
def FnExactReadCardSaid : Prop := fnExactReadCardRow.holds Try.pinned (OpenSpec.ofChange fnExactReadCardSpec)

/-- ITS FALSE NEIGHBOUR: 'it returns false'. Refute it at one input. -/
def fnExactReadCardWrong : ChangeSpec := { name := "fnExactReadCard", fn := fun _ => fun
  | [d] => { results := [.lit (.bool false)], args := [d] }
  | _ => none }
def FnExactReadCardWrongFalsely : Prop := fnExactReadCardRow.holds Try.pinned (OpenSpec.ofChange fnExactReadCardWrong)

/- THE SECOND FORM. 'bulk': how many values and letters a reading holds, each counted each time it is reached (what is shared counts as often as it is met; a slice's spare places count too). A statement '..UptoSaid' is the law's where the arguments, and the package variables that the reading takes, are together of bulk at most 1048576: NARROWER than '..Said'. Prove '..Said' where nothing that the law and all that it calls make is longer than what came in: it says more and counts as full. Else prove '..UptoSaid'. A law counts once. -/
mutual
def uptoBulk {H : Type} : DataW H → Nat
  | .lit (.string bytes) => bytes.length + 1
  | .lit _ => 1
  | .nil => 1
  | .ptr d => uptoBulk d + 1
  | .slice elems spare => uptoBulkAll elems + uptoBulkAll spare + 1
  | .agg parts => uptoBulkAll parts + 1
  | .iface _ d => uptoBulk d + 1
  | .map entries => uptoBulkEntries entries + 1
  | .held _ => 1
def uptoBulkAll {H : Type} : List (DataW H) → Nat
  | [] => 0
  | d :: r => uptoBulk d + uptoBulkAll r
def uptoBulkEntries {H : Type} : List (Lit × DataW H) → Nat
  | [] => 0
  | x :: r => uptoBulkEntry x + uptoBulkEntries r
def uptoBulkEntry {H : Type} : Lit × DataW H → Nat
  | (.string bytes, d) => bytes.length + uptoBulk d + 1
  | (_, d) => uptoBulk d + 1
 end
def uptoSmall : (H : Type) → List (DataW H) → Bool := fun _ ds => decide (uptoBulkAll ds ≤ 1048576)
def OpenSpec.upto (s : _root_.Go.ChangeSpec) : _root_.Go.OpenSpec := { _root_.Go.OpenSpec.ofChange s with cond := some uptoSmall }

/-- 'laws.FnExactConstants', WHERE WHAT IT READS IS OF BULK AT MOST 1048576: true; the input reads as it did. -/
def fnExactConstantsUptoRow : OpenClaim := { program := "ytmimhnmaggkmmaa", sum := "f16c3099869a1a1a1a5a9b040774e52a388dca34770a92ceaf1f0bfdce14ef7f", func := "loop.example/g00854/laws.FnExactConstants", spec := "fnExactConstants", apart := false, narrowed := true }
def FnExactConstantsUptoSaid : Prop := fnExactConstantsUptoRow.holds Try.pinned (OpenSpec.upto fnExactConstantsSpec)

/-- 'laws.FnExactIsCall', WHERE WHAT IT READS IS OF BULK AT MOST 1048576: true; the input reads as it did. -/
def fnExactIsCallUptoRow : OpenClaim := { program := "ytmimhnmaggkmmaa", sum := "f16c3099869a1a1a1a5a9b040774e52a388dca34770a92ceaf1f0bfdce14ef7f", func := "loop.example/g00854/laws.FnExactIsCall", spec := "fnExactIsCall", apart := false, narrowed := true }
def FnExactIsCallUptoSaid : Prop := fnExactIsCallUptoRow.holds Try.pinned (OpenSpec.upto fnExactIsCallSpec)

/-- 'laws.FnExactBidOf', WHERE WHAT IT READS IS OF BULK AT MOST 1048576: true; the input reads as it did. -/
def fnExactBidOfUptoRow : OpenClaim := { program := "ytmimhnmaggkmmaa", sum := "f16c3099869a1a1a1a5a9b040774e52a388dca34770a92ceaf1f0bfdce14ef7f", func := "loop.example/g00854/laws.FnExactBidOf", spec := "fnExactBidOf", apart := false, narrowed := true }
def FnExactBidOfUptoSaid : Prop := fnExactBidOfUptoRow.holds Try.pinned (OpenSpec.upto fnExactBidOfSpec)

/-- 'laws.FnExactCardOf', WHERE WHAT IT READS IS OF BULK AT MOST 1048576: true; the input reads as it did. -/
def fnExactCardOfUptoRow : OpenClaim := { program := "ytmimhnmaggkmmaa", sum := "f16c3099869a1a1a1a5a9b040774e52a388dca34770a92ceaf1f0bfdce14ef7f", func := "loop.example/g00854/laws.FnExactCardOf", spec := "fnExactCardOf", apart := false, narrowed := true }
def FnExactCardOfUptoSaid : Prop := fnExactCardOfUptoRow.holds Try.pinned (OpenSpec.upto fnExactCardOfSpec)

/-- 'laws.FnExactLevelOf', WHERE WHAT IT READS IS OF BULK AT MOST 1048576: true; the input reads as it did. -/
def fnExactLevelOfUptoRow : OpenClaim := { program := "ytmimhnmaggkmmaa", sum := "f16c3099869a1a1a1a5a9b040774e52a388dca34770a92ceaf1f0bfdce14ef7f", func := "loop.example/g00854/laws.FnExactLevelOf", spec := "fnExactLevelOf", apart := false, narrowed := true }
def FnExactLevelOfUptoSaid : Prop := fnExactLevelOfUptoRow.holds Try.pinned (OpenSpec.upto fnExactLevelOfSpec)

/-- 'laws.FnExactRankOf', WHERE WHAT IT READS IS OF BULK AT MOST 1048576: true; the input reads as it did. -/
def fnExactRankOfUptoRow : OpenClaim := { program := "ytmimhnmaggkmmaa", sum := "f16c3099869a1a1a1a5a9b040774e52a388dca34770a92ceaf1f0bfdce14ef7f", func := "loop.example/g00854/laws.FnExactRankOf", spec := "fnExactRankOf", apart := false, narrowed := true }
def FnExactRankOfUptoSaid : Prop := fnExactRankOfUptoRow.holds Try.pinned (OpenSpec.upto fnExactRankOfSpec)

/-- 'laws.FnExactSuitOf', WHERE WHAT IT READS IS OF BULK AT MOST 1048576: true; the input reads as it did. -/
def fnExactSuitOfUptoRow : OpenClaim := { program := "ytmimhnmaggkmmaa", sum := "f16c3099869a1a1a1a5a9b040774e52a388dca34770a92ceaf1f0bfdce14ef7f", func := "loop.example/g00854/laws.FnExactSuitOf", spec := "fnExactSuitOf", apart := false, narrowed := true }
def FnExactSuitOfUptoSaid : Prop := fnExactSuitOfUptoRow.holds Try.pinned (OpenSpec.upto fnExactSuitOfSpec)

/-- 'laws.FnExactCardText', WHERE WHAT IT READS IS OF BULK AT MOST 1048576: true; the input reads as it did. -/
def fnExactCardTextUptoRow : OpenClaim := { program := "ytmimhnmaggkmmaa", sum := "f16c3099869a1a1a1a5a9b040774e52a388dca34770a92ceaf1f0bfdce14ef7f", func := "loop.example/g00854/laws.FnExactCardText", spec := "fnExactCardText", apart := false, narrowed := true }
def FnExactCardTextUptoSaid : Prop := fnExactCardTextUptoRow.holds Try.pinned (OpenSpec.upto fnExactCardTextSpec)

/-- 'laws.FnExactBinomial', WHERE WHAT IT READS IS OF BULK AT MOST 1048576: true; the input reads as it did. -/
def fnExactBinomialUptoRow : OpenClaim := { program := "ytmimhnmaggkmmaa", sum := "f16c3099869a1a1a1a5a9b040774e52a388dca34770a92ceaf1f0bfdce14ef7f", func := "loop.example/g00854/laws.FnExactBinomial", spec := "fnExactBinomial", apart := false, narrowed := true }
def FnExactBinomialUptoSaid : Prop := fnExactBinomialUptoRow.holds Try.pinned (OpenSpec.upto fnExactBinomialSpec)

/-- 'laws.FnExactIsHand', WHERE WHAT IT READS IS OF BULK AT MOST 1048576: true; the input reads as it did. -/
def fnExactIsHandUptoRow : OpenClaim := { program := "ytmimhnmaggkmmaa", sum := "f16c3099869a1a1a1a5a9b040774e52a388dca34770a92ceaf1f0bfdce14ef7f", func := "loop.example/g00854/laws.FnExactIsHand", spec := "fnExactIsHand", apart := false, narrowed := true }
def FnExactIsHandUptoSaid : Prop := fnExactIsHandUptoRow.holds Try.pinned (OpenSpec.upto fnExactIsHandSpec)

/-- 'laws.FnBinomial', WHERE WHAT IT READS IS OF BULK AT MOST 1048576: true; the input reads as it did. -/
def fnBinomialUptoRow : OpenClaim := { program := "ytmimhnmaggkmmaa", sum := "f16c3099869a1a1a1a5a9b040774e52a388dca34770a92ceaf1f0bfdce14ef7f", func := "loop.example/g00854/laws.FnBinomial", spec := "fnBinomial", apart := false, narrowed := true }
def FnBinomialUptoSaid : Prop := fnBinomialUptoRow.holds Try.pinned (OpenSpec.upto fnBinomialSpec)

/-- 'laws.FnExactReadCard', WHERE WHAT IT READS IS OF BULK AT MOST 1048576: true; the input reads as it did. -/
def fnExactReadCardUptoRow : OpenClaim := { program := "ytmimhnmaggkmmaa", sum := "f16c3099869a1a1a1a5a9b040774e52a388dca34770a92ceaf1f0bfdce14ef7f", func := "loop.example/g00854/laws.FnExactReadCard", spec := "fnExactReadCard", inPlace := ["internal/bytealg.IndexByteString"], apart := false, narrowed := true }
def FnExactReadCardUptoSaid : Prop := fnExactReadCardUptoRow.holds Try.pinned (OpenSpec.upto fnExactReadCardSpec)

end Rows
end Go.Proofs.Ytmimhnmaggkmmaa
