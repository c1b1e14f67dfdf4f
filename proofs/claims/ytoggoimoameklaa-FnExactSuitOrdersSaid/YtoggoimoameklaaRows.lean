/-
  No cell of these rows narrows 'for every input' (looked for: loops, veiled, ifaces, maps, wideKeys, modest, calm, conditions, laid).
  DERIVED. THE GIVEN ROWS OF THIS SEAT. 22 by the template 'for every input the law returns true; each argument reads behind the call as it read before'; 0 by the template 'total and deterministic' (their statements: YtoggoimoameklaaTotals.lean).
  GIVEN WITH THE SEED: the statements are not yours to turn. If you find one false, say at which input.
  Laid BY PROGRAM, IN A SANDBOX (cutbox-rows.mjs): the forced cells as the released guide's own fill.sh prints them over the translation 5fd08c1b616b8126… (all of the seat's roots in one cut). By AI agents, Wed Nov 11 2026. No macro, syntax, notation, axiom, sorry.
-/
import Derived.Test.YtoggoimoameklaaChecked
import GoSem.Claim
import GoSem.ClaimJoined
import GoSem.ClaimMapViews
import Derived.JoinedTies
import Derived.KernelRfl
namespace Go.Proofs.Ytoggoimoameklaa
/- THE CELL 'sum', in the pinned program and in every row, IS THE sha256 OF THE DUMP (.gsa) THAT YtoggoimoameklaaProg.lean LOADS. Nothing in Lean hashes anything: it is a label: what it is worth is what the hold of that sum in a sandbox is worth. -/
noncomputable def Try.pinned : Pinned := { name := "ytoggoimoameklaa", sum := "5fd08c1b616b812689d8eb6c4889cd8cca020c16946d59bd0228be436c9c3bae", checked := Try.checked }
namespace Rows
def none {H : Type} : Left H := { results := [], args := [] }

/-- 'laws.FnExactControlsOf': WHATEVER THE INPUT: true; the input reads as it did. -/
def fnExactControlsOfSpec : ChangeSpec := { name := "fnExactControlsOf", fn := fun _ => fun
  | [d] => { results := [.lit (.bool true)], args := [d] }
  | _ => none }
def fnExactControlsOfRow : OpenClaim := { program := "ytoggoimoameklaa", sum := "5fd08c1b616b812689d8eb6c4889cd8cca020c16946d59bd0228be436c9c3bae", func := "loop.example/g00854/laws.FnExactControlsOf", spec := "fnExactControlsOf", apart := false }
def FnExactControlsOfSaid : Prop := fnExactControlsOfRow.holds Try.pinned (OpenSpec.ofChange fnExactControlsOfSpec)

/-- ITS FALSE NEIGHBOUR: 'it returns false'. Refute it at one input. -/
def fnExactControlsOfWrong : ChangeSpec := { name := "fnExactControlsOf", fn := fun _ => fun
  | [d] => { results := [.lit (.bool false)], args := [d] }
  | _ => none }
def FnExactControlsOfWrongFalsely : Prop := fnExactControlsOfRow.holds Try.pinned (OpenSpec.ofChange fnExactControlsOfWrong)

/-- 'laws.FnExactHighCardPoints': WHATEVER THE INPUT: true; the input reads as it did. -/
def fnExactHighCardPointsSpec : ChangeSpec := { name := "fnExactHighCardPoints", fn := fun _ => fun
  | [d] => { results := [.lit (.bool true)], args := [d] }
  | _ => none }
def fnExactHighCardPointsRow : OpenClaim := { program := "ytoggoimoameklaa", sum := "5fd08c1b616b812689d8eb6c4889cd8cca020c16946d59bd0228be436c9c3bae", func := "loop.example/g00854/laws.FnExactHighCardPoints", spec := "fnExactHighCardPoints", apart := false }
def FnExactHighCardPointsSaid : Prop := fnExactHighCardPointsRow.holds Try.pinned (OpenSpec.ofChange fnExactHighCardPointsSpec)

/-- ITS FALSE NEIGHBOUR: 'it returns false'. Refute it at one input. -/
def fnExactHighCardPointsWrong : ChangeSpec := { name := "fnExactHighCardPoints", fn := fun _ => fun
  | [d] => { results := [.lit (.bool false)], args := [d] }
  | _ => none }
def FnExactHighCardPointsWrongFalsely : Prop := fnExactHighCardPointsRow.holds Try.pinned (OpenSpec.ofChange fnExactHighCardPointsWrong)

/-- 'laws.FnExactHonorsOf': WHATEVER THE INPUT: true; the input reads as it did. -/
def fnExactHonorsOfSpec : ChangeSpec := { name := "fnExactHonorsOf", fn := fun _ => fun
  | [d1, d2] => { results := [.lit (.bool true)], args := [d1, d2] }
  | _ => none }
def fnExactHonorsOfRow : OpenClaim := { program := "ytoggoimoameklaa", sum := "5fd08c1b616b812689d8eb6c4889cd8cca020c16946d59bd0228be436c9c3bae", func := "loop.example/g00854/laws.FnExactHonorsOf", spec := "fnExactHonorsOf", apart := false }
def FnExactHonorsOfSaid : Prop := fnExactHonorsOfRow.holds Try.pinned (OpenSpec.ofChange fnExactHonorsOfSpec)

/-- ITS FALSE NEIGHBOUR: 'it returns false'. Refute it at one input. -/
def fnExactHonorsOfWrong : ChangeSpec := { name := "fnExactHonorsOf", fn := fun _ => fun
  | [d1, d2] => { results := [.lit (.bool false)], args := [d1, d2] }
  | _ => none }
def FnExactHonorsOfWrongFalsely : Prop := fnExactHonorsOfRow.holds Try.pinned (OpenSpec.ofChange fnExactHonorsOfWrong)

/-- 'laws.FnExactCardsOfSuit': WHATEVER THE INPUT: true; the input reads as it did. -/
def fnExactCardsOfSuitSpec : ChangeSpec := { name := "fnExactCardsOfSuit", fn := fun _ => fun
  | [d1, d2] => { results := [.lit (.bool true)], args := [d1, d2] }
  | _ => none }
def fnExactCardsOfSuitRow : OpenClaim := { program := "ytoggoimoameklaa", sum := "5fd08c1b616b812689d8eb6c4889cd8cca020c16946d59bd0228be436c9c3bae", func := "loop.example/g00854/laws.FnExactCardsOfSuit", spec := "fnExactCardsOfSuit", apart := false }
def FnExactCardsOfSuitSaid : Prop := fnExactCardsOfSuitRow.holds Try.pinned (OpenSpec.ofChange fnExactCardsOfSuitSpec)

/-- ITS FALSE NEIGHBOUR: 'it returns false'. Refute it at one input. -/
def fnExactCardsOfSuitWrong : ChangeSpec := { name := "fnExactCardsOfSuit", fn := fun _ => fun
  | [d1, d2] => { results := [.lit (.bool false)], args := [d1, d2] }
  | _ => none }
def FnExactCardsOfSuitWrongFalsely : Prop := fnExactCardsOfSuitRow.holds Try.pinned (OpenSpec.ofChange fnExactCardsOfSuitWrong)

/-- 'laws.FnExactShapeOf': WHATEVER THE INPUT: true; the input reads as it did. -/
def fnExactShapeOfSpec : ChangeSpec := { name := "fnExactShapeOf", fn := fun _ => fun
  | [d] => { results := [.lit (.bool true)], args := [d] }
  | _ => none }
def fnExactShapeOfRow : OpenClaim := { program := "ytoggoimoameklaa", sum := "5fd08c1b616b812689d8eb6c4889cd8cca020c16946d59bd0228be436c9c3bae", func := "loop.example/g00854/laws.FnExactShapeOf", spec := "fnExactShapeOf", apart := false }
def FnExactShapeOfSaid : Prop := fnExactShapeOfRow.holds Try.pinned (OpenSpec.ofChange fnExactShapeOfSpec)

/-- ITS FALSE NEIGHBOUR: 'it returns false'. Refute it at one input. -/
def fnExactShapeOfWrong : ChangeSpec := { name := "fnExactShapeOf", fn := fun _ => fun
  | [d] => { results := [.lit (.bool false)], args := [d] }
  | _ => none }
def FnExactShapeOfWrongFalsely : Prop := fnExactShapeOfRow.holds Try.pinned (OpenSpec.ofChange fnExactShapeOfWrong)

/-- 'laws.FnCards': WHATEVER THE INPUT: true; the input reads as it did. -/
def fnCardsSpec : ChangeSpec := { name := "fnCards", fn := fun _ => fun
  | [d] => { results := [.lit (.bool true)], args := [d] }
  | _ => none }
def fnCardsRow : OpenClaim := { program := "ytoggoimoameklaa", sum := "5fd08c1b616b812689d8eb6c4889cd8cca020c16946d59bd0228be436c9c3bae", func := "loop.example/g00854/laws.FnCards", spec := "fnCards", inPlace := ["internal/bytealg.IndexByteString"], apart := false }
def FnCardsSaid : Prop := fnCardsRow.holds Try.pinned (OpenSpec.ofChange fnCardsSpec)

/-- ITS FALSE NEIGHBOUR: 'it returns false'. Refute it at one input. -/
def fnCardsWrong : ChangeSpec := { name := "fnCards", fn := fun _ => fun
  | [d] => { results := [.lit (.bool false)], args := [d] }
  | _ => none }
def FnCardsWrongFalsely : Prop := fnCardsRow.holds Try.pinned (OpenSpec.ofChange fnCardsWrong)

/-- 'laws.FnExactHandNumber': WHATEVER THE INPUT: true; the input reads as it did. -/
def fnExactHandNumberSpec : ChangeSpec := { name := "fnExactHandNumber", fn := fun _ => fun
  | [d] => { results := [.lit (.bool true)], args := [d] }
  | _ => none }
def fnExactHandNumberRow : OpenClaim := { program := "ytoggoimoameklaa", sum := "5fd08c1b616b812689d8eb6c4889cd8cca020c16946d59bd0228be436c9c3bae", func := "loop.example/g00854/laws.FnExactHandNumber", spec := "fnExactHandNumber", apart := false }
def FnExactHandNumberSaid : Prop := fnExactHandNumberRow.holds Try.pinned (OpenSpec.ofChange fnExactHandNumberSpec)

/-- ITS FALSE NEIGHBOUR: 'it returns false'. Refute it at one input. -/
def fnExactHandNumberWrong : ChangeSpec := { name := "fnExactHandNumber", fn := fun _ => fun
  | [d] => { results := [.lit (.bool false)], args := [d] }
  | _ => none }
def FnExactHandNumberWrongFalsely : Prop := fnExactHandNumberRow.holds Try.pinned (OpenSpec.ofChange fnExactHandNumberWrong)

/-- 'laws.FnExactLosersOf': WHATEVER THE INPUT: true; the input reads as it did. -/
def fnExactLosersOfSpec : ChangeSpec := { name := "fnExactLosersOf", fn := fun _ => fun
  | [d] => { results := [.lit (.bool true)], args := [d] }
  | _ => none }
def fnExactLosersOfRow : OpenClaim := { program := "ytoggoimoameklaa", sum := "5fd08c1b616b812689d8eb6c4889cd8cca020c16946d59bd0228be436c9c3bae", func := "loop.example/g00854/laws.FnExactLosersOf", spec := "fnExactLosersOf", apart := false }
def FnExactLosersOfSaid : Prop := fnExactLosersOfRow.holds Try.pinned (OpenSpec.ofChange fnExactLosersOfSpec)

/-- ITS FALSE NEIGHBOUR: 'it returns false'. Refute it at one input. -/
def fnExactLosersOfWrong : ChangeSpec := { name := "fnExactLosersOf", fn := fun _ => fun
  | [d] => { results := [.lit (.bool false)], args := [d] }
  | _ => none }
def FnExactLosersOfWrongFalsely : Prop := fnExactLosersOfRow.holds Try.pinned (OpenSpec.ofChange fnExactLosersOfWrong)

/-- 'laws.FnExactQuickTricks': WHATEVER THE INPUT: true; the input reads as it did. -/
def fnExactQuickTricksSpec : ChangeSpec := { name := "fnExactQuickTricks", fn := fun _ => fun
  | [d] => { results := [.lit (.bool true)], args := [d] }
  | _ => none }
def fnExactQuickTricksRow : OpenClaim := { program := "ytoggoimoameklaa", sum := "5fd08c1b616b812689d8eb6c4889cd8cca020c16946d59bd0228be436c9c3bae", func := "loop.example/g00854/laws.FnExactQuickTricks", spec := "fnExactQuickTricks", apart := false }
def FnExactQuickTricksSaid : Prop := fnExactQuickTricksRow.holds Try.pinned (OpenSpec.ofChange fnExactQuickTricksSpec)

/-- ITS FALSE NEIGHBOUR: 'it returns false'. Refute it at one input. -/
def fnExactQuickTricksWrong : ChangeSpec := { name := "fnExactQuickTricks", fn := fun _ => fun
  | [d] => { results := [.lit (.bool false)], args := [d] }
  | _ => none }
def FnExactQuickTricksWrongFalsely : Prop := fnExactQuickTricksRow.holds Try.pinned (OpenSpec.ofChange fnExactQuickTricksWrong)

/-- 'laws.FnExactUnrankSubset': WHATEVER THE INPUT: true; the input reads as it did. -/
def fnExactUnrankSubsetSpec : ChangeSpec := { name := "fnExactUnrankSubset", fn := fun _ => fun
  | [d1, d2, d3] => { results := [.lit (.bool true)], args := [d1, d2, d3] }
  | _ => none }
def fnExactUnrankSubsetRow : OpenClaim := { program := "ytoggoimoameklaa", sum := "5fd08c1b616b812689d8eb6c4889cd8cca020c16946d59bd0228be436c9c3bae", func := "loop.example/g00854/laws.FnExactUnrankSubset", spec := "fnExactUnrankSubset", apart := false }
def FnExactUnrankSubsetSaid : Prop := fnExactUnrankSubsetRow.holds Try.pinned (OpenSpec.ofChange fnExactUnrankSubsetSpec)

/-- ITS FALSE NEIGHBOUR: 'it returns false'. Refute it at one input. -/
def fnExactUnrankSubsetWrong : ChangeSpec := { name := "fnExactUnrankSubset", fn := fun _ => fun
  | [d1, d2, d3] => { results := [.lit (.bool false)], args := [d1, d2, d3] }
  | _ => none }
def FnExactUnrankSubsetWrongFalsely : Prop := fnExactUnrankSubsetRow.holds Try.pinned (OpenSpec.ofChange fnExactUnrankSubsetWrong)

/-- 'laws.FnExactRankSubset': WHATEVER THE INPUT: true; the input reads as it did. -/
def fnExactRankSubsetSpec : ChangeSpec := { name := "fnExactRankSubset", fn := fun _ => fun
  | [d1, d2] => { results := [.lit (.bool true)], args := [d1, d2] }
  | _ => none }
def fnExactRankSubsetRow : OpenClaim := { program := "ytoggoimoameklaa", sum := "5fd08c1b616b812689d8eb6c4889cd8cca020c16946d59bd0228be436c9c3bae", func := "loop.example/g00854/laws.FnExactRankSubset", spec := "fnExactRankSubset", unfollowed := true, recurses := true, apart := false }
def FnExactRankSubsetSaid : Prop := fnExactRankSubsetRow.holds Try.pinned (OpenSpec.ofChange fnExactRankSubsetSpec)

/-- ITS FALSE NEIGHBOUR: 'it returns false'. Refute it at one input. -/
def fnExactRankSubsetWrong : ChangeSpec := { name := "fnExactRankSubset", fn := fun _ => fun
  | [d1, d2] => { results := [.lit (.bool false)], args := [d1, d2] }
  | _ => none }
def FnExactRankSubsetWrongFalsely : Prop := fnExactRankSubsetRow.holds Try.pinned (OpenSpec.ofChange fnExactRankSubsetWrong)

/-- 'laws.FnExactHandWithout': WHATEVER THE INPUT: true; the input reads as it did. -/
def fnExactHandWithoutSpec : ChangeSpec := { name := "fnExactHandWithout", fn := fun _ => fun
  | [d1, d2] => { results := [.lit (.bool true)], args := [d1, d2] }
  | _ => none }
def fnExactHandWithoutRow : OpenClaim := { program := "ytoggoimoameklaa", sum := "5fd08c1b616b812689d8eb6c4889cd8cca020c16946d59bd0228be436c9c3bae", func := "loop.example/g00854/laws.FnExactHandWithout", spec := "fnExactHandWithout", unfollowed := true, recurses := true, apart := false }
def FnExactHandWithoutSaid : Prop := fnExactHandWithoutRow.holds Try.pinned (OpenSpec.ofChange fnExactHandWithoutSpec)

/-- ITS FALSE NEIGHBOUR: 'it returns false'. Refute it at one input. -/
def fnExactHandWithoutWrong : ChangeSpec := { name := "fnExactHandWithout", fn := fun _ => fun
  | [d1, d2] => { results := [.lit (.bool false)], args := [d1, d2] }
  | _ => none }
def FnExactHandWithoutWrongFalsely : Prop := fnExactHandWithoutRow.holds Try.pinned (OpenSpec.ofChange fnExactHandWithoutWrong)

/-- 'laws.FnExactHandOfNumber': WHATEVER THE INPUT: true; the input reads as it did. -/
def fnExactHandOfNumberSpec : ChangeSpec := { name := "fnExactHandOfNumber", fn := fun _ => fun
  | [d1, d2] => { results := [.lit (.bool true)], args := [d1, d2] }
  | _ => none }
def fnExactHandOfNumberRow : OpenClaim := { program := "ytoggoimoameklaa", sum := "5fd08c1b616b812689d8eb6c4889cd8cca020c16946d59bd0228be436c9c3bae", func := "loop.example/g00854/laws.FnExactHandOfNumber", spec := "fnExactHandOfNumber", apart := false }
def FnExactHandOfNumberSaid : Prop := fnExactHandOfNumberRow.holds Try.pinned (OpenSpec.ofChange fnExactHandOfNumberSpec)

/-- ITS FALSE NEIGHBOUR: 'it returns false'. Refute it at one input. -/
def fnExactHandOfNumberWrong : ChangeSpec := { name := "fnExactHandOfNumber", fn := fun _ => fun
  | [d1, d2] => { results := [.lit (.bool false)], args := [d1, d2] }
  | _ => none }
def FnExactHandOfNumberWrongFalsely : Prop := fnExactHandOfNumberRow.holds Try.pinned (OpenSpec.ofChange fnExactHandOfNumberWrong)

/-- 'laws.FnExactNextSubset': WHATEVER THE INPUT: true; the input reads as it did. -/
def fnExactNextSubsetSpec : ChangeSpec := { name := "fnExactNextSubset", fn := fun _ => fun
  | [d1, d2] => { results := [.lit (.bool true)], args := [d1, d2] }
  | _ => none }
def fnExactNextSubsetRow : OpenClaim := { program := "ytoggoimoameklaa", sum := "5fd08c1b616b812689d8eb6c4889cd8cca020c16946d59bd0228be436c9c3bae", func := "loop.example/g00854/laws.FnExactNextSubset", spec := "fnExactNextSubset", unfollowed := true, recurses := true, apart := false }
def FnExactNextSubsetSaid : Prop := fnExactNextSubsetRow.holds Try.pinned (OpenSpec.ofChange fnExactNextSubsetSpec)

/-- ITS FALSE NEIGHBOUR: 'it returns false'. Refute it at one input. -/
def fnExactNextSubsetWrong : ChangeSpec := { name := "fnExactNextSubset", fn := fun _ => fun
  | [d1, d2] => { results := [.lit (.bool false)], args := [d1, d2] }
  | _ => none }
def FnExactNextSubsetWrongFalsely : Prop := fnExactNextSubsetRow.holds Try.pinned (OpenSpec.ofChange fnExactNextSubsetWrong)

/-- 'laws.FnSubsets': WHATEVER THE INPUT: true; the input reads as it did. -/
def fnSubsetsSpec : ChangeSpec := { name := "fnSubsets", fn := fun _ => fun
  | [d] => { results := [.lit (.bool true)], args := [d] }
  | _ => none }
def fnSubsetsRow : OpenClaim := { program := "ytoggoimoameklaa", sum := "5fd08c1b616b812689d8eb6c4889cd8cca020c16946d59bd0228be436c9c3bae", func := "loop.example/g00854/laws.FnSubsets", spec := "fnSubsets", unfollowed := true, recurses := true, apart := false }
def FnSubsetsSaid : Prop := fnSubsetsRow.holds Try.pinned (OpenSpec.ofChange fnSubsetsSpec)

/-- ITS FALSE NEIGHBOUR: 'it returns false'. Refute it at one input. -/
def fnSubsetsWrong : ChangeSpec := { name := "fnSubsets", fn := fun _ => fun
  | [d] => { results := [.lit (.bool false)], args := [d] }
  | _ => none }
def FnSubsetsWrongFalsely : Prop := fnSubsetsRow.holds Try.pinned (OpenSpec.ofChange fnSubsetsWrong)

/-- 'laws.FnHandParts': WHATEVER THE INPUT: true; the input reads as it did. -/
def fnHandPartsSpec : ChangeSpec := { name := "fnHandParts", fn := fun _ => fun
  | [d] => { results := [.lit (.bool true)], args := [d] }
  | _ => none }
def fnHandPartsRow : OpenClaim := { program := "ytoggoimoameklaa", sum := "5fd08c1b616b812689d8eb6c4889cd8cca020c16946d59bd0228be436c9c3bae", func := "loop.example/g00854/laws.FnHandParts", spec := "fnHandParts", apart := false }
def FnHandPartsSaid : Prop := fnHandPartsRow.holds Try.pinned (OpenSpec.ofChange fnHandPartsSpec)

/-- ITS FALSE NEIGHBOUR: 'it returns false'. Refute it at one input. -/
def fnHandPartsWrong : ChangeSpec := { name := "fnHandParts", fn := fun _ => fun
  | [d] => { results := [.lit (.bool false)], args := [d] }
  | _ => none }
def FnHandPartsWrongFalsely : Prop := fnHandPartsRow.holds Try.pinned (OpenSpec.ofChange fnHandPartsWrong)

/-- 'laws.FnExactHandWith': WHATEVER THE INPUT: true; the input reads as it did. -/
def fnExactHandWithSpec : ChangeSpec := { name := "fnExactHandWith", fn := fun _ => fun
  | [d1, d2] => { results := [.lit (.bool true)], args := [d1, d2] }
  | _ => none }
def fnExactHandWithRow : OpenClaim := { program := "ytoggoimoameklaa", sum := "5fd08c1b616b812689d8eb6c4889cd8cca020c16946d59bd0228be436c9c3bae", func := "loop.example/g00854/laws.FnExactHandWith", spec := "fnExactHandWith", inPlace := ["slices.overlaps[int64]"], apart := false }
def FnExactHandWithSaid : Prop := fnExactHandWithRow.holds Try.pinned (OpenSpec.ofChange fnExactHandWithSpec)

/-- ITS FALSE NEIGHBOUR: 'it returns false'. Refute it at one input. -/
def fnExactHandWithWrong : ChangeSpec := { name := "fnExactHandWith", fn := fun _ => fun
  | [d1, d2] => { results := [.lit (.bool false)], args := [d1, d2] }
  | _ => none }
def FnExactHandWithWrongFalsely : Prop := fnExactHandWithRow.holds Try.pinned (OpenSpec.ofChange fnExactHandWithWrong)

/-- 'laws.FnHands': WHATEVER THE INPUT: true; the input reads as it did. -/
def fnHandsSpec : ChangeSpec := { name := "fnHands", fn := fun _ => fun
  | [d] => { results := [.lit (.bool true)], args := [d] }
  | _ => none }
def fnHandsRow : OpenClaim := { program := "ytoggoimoameklaa", sum := "5fd08c1b616b812689d8eb6c4889cd8cca020c16946d59bd0228be436c9c3bae", func := "loop.example/g00854/laws.FnHands", spec := "fnHands", inPlace := ["slices.overlaps[int64]"], unfollowed := true, recurses := true, apart := false }
def FnHandsSaid : Prop := fnHandsRow.holds Try.pinned (OpenSpec.ofChange fnHandsSpec)

/-- ITS FALSE NEIGHBOUR: 'it returns false'. Refute it at one input. -/
def fnHandsWrong : ChangeSpec := { name := "fnHands", fn := fun _ => fun
  | [d] => { results := [.lit (.bool false)], args := [d] }
  | _ => none }
def FnHandsWrongFalsely : Prop := fnHandsRow.holds Try.pinned (OpenSpec.ofChange fnHandsWrong)

/-- 'laws.FnExactSuitOrders': WHATEVER THE INPUT: true; the input reads as it did. -/
def fnExactSuitOrdersSpec : ChangeSpec := { name := "fnExactSuitOrders", fn := fun _ => fun
  | [d] => { results := [.lit (.bool true)], args := [d] }
  | _ => none }
def fnExactSuitOrdersRow : OpenClaim := { program := "ytoggoimoameklaa", sum := "5fd08c1b616b812689d8eb6c4889cd8cca020c16946d59bd0228be436c9c3bae", func := "loop.example/g00854/laws.FnExactSuitOrders", spec := "fnExactSuitOrders", recurses := true, apart := false }
def FnExactSuitOrdersSaid : Prop := fnExactSuitOrdersRow.holds Try.pinned (OpenSpec.ofChange fnExactSuitOrdersSpec)

/-- ITS FALSE NEIGHBOUR: 'it returns false'. Refute it at one input. -/
def fnExactSuitOrdersWrong : ChangeSpec := { name := "fnExactSuitOrders", fn := fun _ => fun
  | [d] => { results := [.lit (.bool false)], args := [d] }
  | _ => none }
def FnExactSuitOrdersWrongFalsely : Prop := fnExactSuitOrdersRow.holds Try.pinned (OpenSpec.ofChange fnExactSuitOrdersWrong)

/-- 'laws.FnExactPatternOf': WHATEVER THE INPUT: true; the input reads as it did. -/
def fnExactPatternOfSpec : ChangeSpec := { name := "fnExactPatternOf", fn := fun _ => fun
  | [d] => { results := [.lit (.bool true)], args := [d] }
  | _ => none }
def fnExactPatternOfRow : OpenClaim := { program := "ytoggoimoameklaa", sum := "5fd08c1b616b812689d8eb6c4889cd8cca020c16946d59bd0228be436c9c3bae", func := "loop.example/g00854/laws.FnExactPatternOf", spec := "fnExactPatternOf", recurses := true, apart := false }
def FnExactPatternOfSaid : Prop := fnExactPatternOfRow.holds Try.pinned (OpenSpec.ofChange fnExactPatternOfSpec)

/-- ITS FALSE NEIGHBOUR: 'it returns false'. Refute it at one input. -/
def fnExactPatternOfWrong : ChangeSpec := { name := "fnExactPatternOf", fn := fun _ => fun
  | [d] => { results := [.lit (.bool false)], args := [d] }
  | _ => none }
def FnExactPatternOfWrongFalsely : Prop := fnExactPatternOfRow.holds Try.pinned (OpenSpec.ofChange fnExactPatternOfWrong)

/-- 'laws.FnExactHandText': WHATEVER THE INPUT: true; the input reads as it did. -/
def fnExactHandTextSpec : ChangeSpec := { name := "fnExactHandText", fn := fun _ => fun
  | [d] => { results := [.lit (.bool true)], args := [d] }
  | _ => none }
def fnExactHandTextRow : OpenClaim := { program := "ytoggoimoameklaa", sum := "5fd08c1b616b812689d8eb6c4889cd8cca020c16946d59bd0228be436c9c3bae", func := "loop.example/g00854/laws.FnExactHandText", spec := "fnExactHandText", inPlace := ["internal/abi.NoEscape", "internal/bytealg.MakeNoZero"], recurses := true, apart := false }
def FnExactHandTextSaid : Prop := fnExactHandTextRow.holds Try.pinned (OpenSpec.ofChange fnExactHandTextSpec)

/-- ITS FALSE NEIGHBOUR: 'it returns false'. Refute it at one input. -/
def fnExactHandTextWrong : ChangeSpec := { name := "fnExactHandText", fn := fun _ => fun
  | [d] => { results := [.lit (.bool false)], args := [d] }
  | _ => none }
def FnExactHandTextWrongFalsely : Prop := fnExactHandTextRow.holds Try.pinned (OpenSpec.ofChange fnExactHandTextWrong)

/-- 'laws.FnShapes': WHATEVER THE INPUT: true; the input reads as it did. -/
def fnShapesSpec : ChangeSpec := { name := "fnShapes", fn := fun _ => fun
  | [d] => { results := [.lit (.bool true)], args := [d] }
  | _ => none }
def fnShapesRow : OpenClaim := { program := "ytoggoimoameklaa", sum := "5fd08c1b616b812689d8eb6c4889cd8cca020c16946d59bd0228be436c9c3bae", func := "loop.example/g00854/laws.FnShapes", spec := "fnShapes", recurses := true, apart := false }
def FnShapesSaid : Prop := fnShapesRow.holds Try.pinned (OpenSpec.ofChange fnShapesSpec)

/-- ITS FALSE NEIGHBOUR: 'it returns false'. Refute it at one input. -/
def fnShapesWrong : ChangeSpec := { name := "fnShapes", fn := fun _ => fun
  | [d] => { results := [.lit (.bool false)], args := [d] }
  | _ => none }
def FnShapesWrongFalsely : Prop := fnShapesRow.holds Try.pinned (OpenSpec.ofChange fnShapesWrong)

/- THE SECOND FORM. 'bulk': how many values and letters a reading holds, each counted each time it is reached (what is shared counts as often as it is met; a slice's spare places count too). A statement '..UptoSaid' is the law's where the arguments, and the package variables that the reading takes, are together of bulk at most 1048576: NARROWER than '..Said'. Prove '..Said' where nothing that the law and all that it calls make is longer than what came in: it says more and counts as full. Else prove '..UptoSaid'. A law counts once. -/
mutual
def uptoBulk {H : Type} : DataW H → Nat
  | .lit (.string bytes) => bytes.length + 1
  | .lit _ => 1
  | .nil => 1
  | .ptr d => uptoBulk d + 1
  | .slice elems spare => uptoBulkAll elems + uptoBulkAll spare + 1
  | .agg parts => uptoBulkAll parts + 1
  | .iface _ d => uptoBulk d + 1
  | .map entries => uptoBulkEntries entries + 1
  | .held _ => 1
def uptoBulkAll {H : Type} : List (DataW H) → Nat
  | [] => 0
  | d :: r => uptoBulk d + uptoBulkAll r
def uptoBulkEntries {H : Type} : List (Lit × DataW H) → Nat
  | [] => 0
  | x :: r => uptoBulkEntry x + uptoBulkEntries r
def uptoBulkEntry {H : Type} : Lit × DataW H → Nat
  | (.string bytes, d) => bytes.length + uptoBulk d + 1
  | (_, d) => uptoBulk d + 1
 end
def uptoSmall : (H : Type) → List (DataW H) → Bool := fun _ ds => decide (uptoBulkAll ds ≤ 1048576)
def OpenSpec.upto (s : _root_.Go.ChangeSpec) : _root_.Go.OpenSpec := { _root_.Go.OpenSpec.ofChange s with cond := some uptoSmall }

/-- 'laws.FnExactControlsOf', WHERE WHAT IT READS IS OF BULK AT MOST 1048576: true; the input reads as it did. -/
def fnExactControlsOfUptoRow : OpenClaim := { program := "ytoggoimoameklaa", sum := "5fd08c1b616b812689d8eb6c4889cd8cca020c16946d59bd0228be436c9c3bae", func := "loop.example/g00854/laws.FnExactControlsOf", spec := "fnExactControlsOf", apart := false, narrowed := true }
def FnExactControlsOfUptoSaid : Prop := fnExactControlsOfUptoRow.holds Try.pinned (OpenSpec.upto fnExactControlsOfSpec)

/-- 'laws.FnExactHighCardPoints', WHERE WHAT IT READS IS OF BULK AT MOST 1048576: true; the input reads as it did. -/
def fnExactHighCardPointsUptoRow : OpenClaim := { program := "ytoggoimoameklaa", sum := "5fd08c1b616b812689d8eb6c4889cd8cca020c16946d59bd0228be436c9c3bae", func := "loop.example/g00854/laws.FnExactHighCardPoints", spec := "fnExactHighCardPoints", apart := false, narrowed := true }
def FnExactHighCardPointsUptoSaid : Prop := fnExactHighCardPointsUptoRow.holds Try.pinned (OpenSpec.upto fnExactHighCardPointsSpec)

/-- 'laws.FnExactHonorsOf', WHERE WHAT IT READS IS OF BULK AT MOST 1048576: true; the input reads as it did. -/
def fnExactHonorsOfUptoRow : OpenClaim := { program := "ytoggoimoameklaa", sum := "5fd08c1b616b812689d8eb6c4889cd8cca020c16946d59bd0228be436c9c3bae", func := "loop.example/g00854/laws.FnExactHonorsOf", spec := "fnExactHonorsOf", apart := false, narrowed := true }
def FnExactHonorsOfUptoSaid : Prop := fnExactHonorsOfUptoRow.holds Try.pinned (OpenSpec.upto fnExactHonorsOfSpec)

/-- 'laws.FnExactCardsOfSuit', WHERE WHAT IT READS IS OF BULK AT MOST 1048576: true; the input reads as it did. -/
def fnExactCardsOfSuitUptoRow : OpenClaim := { program := "ytoggoimoameklaa", sum := "5fd08c1b616b812689d8eb6c4889cd8cca020c16946d59bd0228be436c9c3bae", func := "loop.example/g00854/laws.FnExactCardsOfSuit", spec := "fnExactCardsOfSuit", apart := false, narrowed := true }
def FnExactCardsOfSuitUptoSaid : Prop := fnExactCardsOfSuitUptoRow.holds Try.pinned (OpenSpec.upto fnExactCardsOfSuitSpec)

/-- 'laws.FnExactShapeOf', WHERE WHAT IT READS IS OF BULK AT MOST 1048576: true; the input reads as it did. -/
def fnExactShapeOfUptoRow : OpenClaim := { program := "ytoggoimoameklaa", sum := "5fd08c1b616b812689d8eb6c4889cd8cca020c16946d59bd0228be436c9c3bae", func := "loop.example/g00854/laws.FnExactShapeOf", spec := "fnExactShapeOf", apart := false, narrowed := true }
def FnExactShapeOfUptoSaid : Prop := fnExactShapeOfUptoRow.holds Try.pinned (OpenSpec.upto fnExactShapeOfSpec)

/-- 'laws.FnCards', WHERE WHAT IT READS IS OF BULK AT MOST 1048576: true; the input reads as it did. -/
def fnCardsUptoRow : OpenClaim := { program := "ytoggoimoameklaa", sum := "5fd08c1b616b812689d8eb6c4889cd8cca020c16946d59bd0228be436c9c3bae", func := "loop.example/g00854/laws.FnCards", spec := "fnCards", inPlace := ["internal/bytealg.IndexByteString"], apart := false, narrowed := true }
def FnCardsUptoSaid : Prop := fnCardsUptoRow.holds Try.pinned (OpenSpec.upto fnCardsSpec)

/-- 'laws.FnExactHandNumber', WHERE WHAT IT READS IS OF BULK AT MOST 1048576: true; the input reads as it did. -/
def fnExactHandNumberUptoRow : OpenClaim := { program := "ytoggoimoameklaa", sum := "5fd08c1b616b812689d8eb6c4889cd8cca020c16946d59bd0228be436c9c3bae", func := "loop.example/g00854/laws.FnExactHandNumber", spec := "fnExactHandNumber", apart := false, narrowed := true }
def FnExactHandNumberUptoSaid : Prop := fnExactHandNumberUptoRow.holds Try.pinned (OpenSpec.upto fnExactHandNumberSpec)

/-- 'laws.FnExactLosersOf', WHERE WHAT IT READS IS OF BULK AT MOST 1048576: true; the input reads as it did. -/
def fnExactLosersOfUptoRow : OpenClaim := { program := "ytoggoimoameklaa", sum := "5fd08c1b616b812689d8eb6c4889cd8cca020c16946d59bd0228be436c9c3bae", func := "loop.example/g00854/laws.FnExactLosersOf", spec := "fnExactLosersOf", apart := false, narrowed := true }
def FnExactLosersOfUptoSaid : Prop := fnExactLosersOfUptoRow.holds Try.pinned (OpenSpec.upto fnExactLosersOfSpec)

/-- 'laws.FnExactQuickTricks', WHERE WHAT IT READS IS OF BULK AT MOST 1048576: true; the input reads as it did. -/
def fnExactQuickTricksUptoRow : OpenClaim := { program := "ytoggoimoameklaa", sum := "5fd08c1b616b812689d8eb6c4889cd8cca020c16946d59bd0228be436c9c3bae", func := "loop.example/g00854/laws.FnExactQuickTricks", spec := "fnExactQuickTricks", apart := false, narrowed := true }
def FnExactQuickTricksUptoSaid : Prop := fnExactQuickTricksUptoRow.holds Try.pinned (OpenSpec.upto fnExactQuickTricksSpec)

/-- 'laws.FnExactUnrankSubset', WHERE WHAT IT READS IS OF BULK AT MOST 1048576: true; the input reads as it did. -/
def fnExactUnrankSubsetUptoRow : OpenClaim := { program := "ytoggoimoameklaa", sum := "5fd08c1b616b812689d8eb6c4889cd8cca020c16946d59bd0228be436c9c3bae", func := "loop.example/g00854/laws.FnExactUnrankSubset", spec := "fnExactUnrankSubset", apart := false, narrowed := true }
def FnExactUnrankSubsetUptoSaid : Prop := fnExactUnrankSubsetUptoRow.holds Try.pinned (OpenSpec.upto fnExactUnrankSubsetSpec)

/-- 'laws.FnExactRankSubset', WHERE WHAT IT READS IS OF BULK AT MOST 1048576: true; the input reads as it did. -/
def fnExactRankSubsetUptoRow : OpenClaim := { program := "ytoggoimoameklaa", sum := "5fd08c1b616b812689d8eb6c4889cd8cca020c16946d59bd0228be436c9c3bae", func := "loop.example/g00854/laws.FnExactRankSubset", spec := "fnExactRankSubset", unfollowed := true, recurses := true, apart := false, narrowed := true }
def FnExactRankSubsetUptoSaid : Prop := fnExactRankSubsetUptoRow.holds Try.pinned (OpenSpec.upto fnExactRankSubsetSpec)

/-- 'laws.FnExactHandWithout', WHERE WHAT IT READS IS OF BULK AT MOST 1048576: true; the input reads as it did. -/
def fnExactHandWithoutUptoRow : OpenClaim := { program := "ytoggoimoameklaa", sum := "5fd08c1b616b812689d8eb6c4889cd8cca020c16946d59bd0228be436c9c3bae", func := "loop.example/g00854/laws.FnExactHandWithout", spec := "fnExactHandWithout", unfollowed := true, recurses := true, apart := false, narrowed := true }
def FnExactHandWithoutUptoSaid : Prop := fnExactHandWithoutUptoRow.holds Try.pinned (OpenSpec.upto fnExactHandWithoutSpec)

/-- 'laws.FnExactHandOfNumber', WHERE WHAT IT READS IS OF BULK AT MOST 1048576: true; the input reads as it did. -/
def fnExactHandOfNumberUptoRow : OpenClaim := { program := "ytoggoimoameklaa", sum := "5fd08c1b616b812689d8eb6c4889cd8cca020c16946d59bd0228be436c9c3bae", func := "loop.example/g00854/laws.FnExactHandOfNumber", spec := "fnExactHandOfNumber", apart := false, narrowed := true }
def FnExactHandOfNumberUptoSaid : Prop := fnExactHandOfNumberUptoRow.holds Try.pinned (OpenSpec.upto fnExactHandOfNumberSpec)

/-- 'laws.FnExactNextSubset', WHERE WHAT IT READS IS OF BULK AT MOST 1048576: true; the input reads as it did. -/
def fnExactNextSubsetUptoRow : OpenClaim := { program := "ytoggoimoameklaa", sum := "5fd08c1b616b812689d8eb6c4889cd8cca020c16946d59bd0228be436c9c3bae", func := "loop.example/g00854/laws.FnExactNextSubset", spec := "fnExactNextSubset", unfollowed := true, recurses := true, apart := false, narrowed := true }
def FnExactNextSubsetUptoSaid : Prop := fnExactNextSubsetUptoRow.holds Try.pinned (OpenSpec.upto fnExactNextSubsetSpec)

/-- 'laws.FnSubsets', WHERE WHAT IT READS IS OF BULK AT MOST 1048576: true; the input reads as it did. -/
def fnSubsetsUptoRow : OpenClaim := { program := "ytoggoimoameklaa", sum := "5fd08c1b616b812689d8eb6c4889cd8cca020c16946d59bd0228be436c9c3bae", func := "loop.example/g00854/laws.FnSubsets", spec := "fnSubsets", unfollowed := true, recurses := true, apart := false, narrowed := true }
def FnSubsetsUptoSaid : Prop := fnSubsetsUptoRow.holds Try.pinned (OpenSpec.upto fnSubsetsSpec)

/-- 'laws.FnHandParts', WHERE WHAT IT READS IS OF BULK AT MOST 1048576: true; the input reads as it did. -/
def fnHandPartsUptoRow : OpenClaim := { program := "ytoggoimoameklaa", sum := "5fd08c1b616b812689d8eb6c4889cd8cca020c16946d59bd0228be436c9c3bae", func := "loop.example/g00854/laws.FnHandParts", spec := "fnHandParts", apart := false, narrowed := true }
def FnHandPartsUptoSaid : Prop := fnHandPartsUptoRow.holds Try.pinned (OpenSpec.upto fnHandPartsSpec)

/-- 'laws.FnExactHandWith', WHERE WHAT IT READS IS OF BULK AT MOST 1048576: true; the input reads as it did. -/
def fnExactHandWithUptoRow : OpenClaim := { program := "ytoggoimoameklaa", sum := "5fd08c1b616b812689d8eb6c4889cd8cca020c16946d59bd0228be436c9c3bae", func := "loop.example/g00854/laws.FnExactHandWith", spec := "fnExactHandWith", inPlace := ["slices.overlaps[int64]"], apart := false, narrowed := true }
def FnExactHandWithUptoSaid : Prop := fnExactHandWithUptoRow.holds Try.pinned (OpenSpec.upto fnExactHandWithSpec)

/-- 'laws.FnHands', WHERE WHAT IT READS IS OF BULK AT MOST 1048576: true; the input reads as it did. -/
def fnHandsUptoRow : OpenClaim := { program := "ytoggoimoameklaa", sum := "5fd08c1b616b812689d8eb6c4889cd8cca020c16946d59bd0228be436c9c3bae", func := "loop.example/g00854/laws.FnHands", spec := "fnHands", inPlace := ["slices.overlaps[int64]"], unfollowed := true, recurses := true, apart := false, narrowed := true }
def FnHandsUptoSaid : Prop := fnHandsUptoRow.holds Try.pinned (OpenSpec.upto fnHandsSpec)

/-- 'laws.FnExactSuitOrders', WHERE WHAT IT READS IS OF BULK AT MOST 1048576: true; the input reads as it did. -/
def fnExactSuitOrdersUptoRow : OpenClaim := { program := "ytoggoimoameklaa", sum := "5fd08c1b616b812689d8eb6c4889cd8cca020c16946d59bd0228be436c9c3bae", func := "loop.example/g00854/laws.FnExactSuitOrders", spec := "fnExactSuitOrders", recurses := true, apart := false, narrowed := true }
def FnExactSuitOrdersUptoSaid : Prop := fnExactSuitOrdersUptoRow.holds Try.pinned (OpenSpec.upto fnExactSuitOrdersSpec)

/-- 'laws.FnExactPatternOf', WHERE WHAT IT READS IS OF BULK AT MOST 1048576: true; the input reads as it did. -/
def fnExactPatternOfUptoRow : OpenClaim := { program := "ytoggoimoameklaa", sum := "5fd08c1b616b812689d8eb6c4889cd8cca020c16946d59bd0228be436c9c3bae", func := "loop.example/g00854/laws.FnExactPatternOf", spec := "fnExactPatternOf", recurses := true, apart := false, narrowed := true }
def FnExactPatternOfUptoSaid : Prop := fnExactPatternOfUptoRow.holds Try.pinned (OpenSpec.upto fnExactPatternOfSpec)

/-- 'laws.FnExactHandText', WHERE WHAT IT READS IS OF BULK AT MOST 1048576: true; the input reads as it did. -/
def fnExactHandTextUptoRow : OpenClaim := { program := "ytoggoimoameklaa", sum := "5fd08c1b616b812689d8eb6c4889cd8cca020c16946d59bd0228be436c9c3bae", func := "loop.example/g00854/laws.FnExactHandText", spec := "fnExactHandText", inPlace := ["internal/abi.NoEscape", "internal/bytealg.MakeNoZero"], recurses := true, apart := false, narrowed := true }
def FnExactHandTextUptoSaid : Prop := fnExactHandTextUptoRow.holds Try.pinned (OpenSpec.upto fnExactHandTextSpec)

/-- 'laws.FnShapes', WHERE WHAT IT READS IS OF BULK AT MOST 1048576: true; the input reads as it did. -/
def fnShapesUptoRow : OpenClaim := { program := "ytoggoimoameklaa", sum := "5fd08c1b616b812689d8eb6c4889cd8cca020c16946d59bd0228be436c9c3bae", func := "loop.example/g00854/laws.FnShapes", spec := "fnShapes", recurses := true, apart := false, narrowed := true }
def FnShapesUptoSaid : Prop := fnShapesUptoRow.holds Try.pinned (OpenSpec.upto fnShapesSpec)

end Rows
end Go.Proofs.Ytoggoimoameklaa
