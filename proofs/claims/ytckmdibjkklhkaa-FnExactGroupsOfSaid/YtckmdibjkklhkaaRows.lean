/-
  No cell of these rows narrows 'for every input' (looked for: loops, veiled, ifaces, maps, wideKeys, modest, calm, conditions, laid).
  DERIVED. THE GIVEN ROWS OF THIS SEAT. 23 by the template 'for every input the law returns true; each argument reads behind the call as it read before'; 0 by the template 'total and deterministic' (their statements: YtckmdibjkklhkaaTotals.lean).
  GIVEN WITH THE SEED: the statements are not yours to turn. If you find one false, say at which input.
  Laid BY PROGRAM, IN A SANDBOX (cutbox-rows.mjs): the forced cells as the released guide's own fill.sh prints them over the translation 97677f5997ccc2c3… (all of the seat's roots in one cut). By AI agents, Wed Nov 11 2026. No macro, syntax, notation, axiom, sorry.
-/
import Derived.Test.YtckmdibjkklhkaaChecked
import GoSem.Claim
import GoSem.ClaimJoined
import GoSem.ClaimMapViews
import Derived.JoinedTies
import Derived.KernelRfl
namespace Go.Proofs.Ytckmdibjkklhkaa
/- THE CELL 'sum', in the pinned program and in every row, IS THE sha256 OF THE DUMP (.gsa) THAT YtckmdibjkklhkaaProg.lean LOADS. Nothing in Lean hashes anything: it is a label: what it is worth is what the hold of that sum in a sandbox is worth. -/
noncomputable def Try.pinned : Pinned := { name := "ytckmdibjkklhkaa", sum := "97677f5997ccc2c35ea8eaf987f98a03e997f441b21e21c95b5871213b2aa261", checked := Try.checked }
namespace Rows
def none {H : Type} : Left H := { results := [], args := [] }

/-- 'laws.FnExactIsDeal': WHATEVER THE INPUT: true; the input reads as it did. -/
def fnExactIsDealSpec : ChangeSpec := { name := "fnExactIsDeal", fn := fun _ => fun
  | [d] => { results := [.lit (.bool true)], args := [d] }
  | _ => none }
def fnExactIsDealRow : OpenClaim := { program := "ytckmdibjkklhkaa", sum := "97677f5997ccc2c35ea8eaf987f98a03e997f441b21e21c95b5871213b2aa261", func := "loop.example/g00854/laws.FnExactIsDeal", spec := "fnExactIsDeal", apart := false }
def FnExactIsDealSaid : Prop := fnExactIsDealRow.holds Try.pinned (OpenSpec.ofChange fnExactIsDealSpec)

/-- ITS FALSE NEIGHBOUR: 'it returns false'. Refute it at one input. -/
def fnExactIsDealWrong : ChangeSpec := { name := "fnExactIsDeal", fn := fun _ => fun
  | [d] => { results := [.lit (.bool false)], args := [d] }
  | _ => none }
def FnExactIsDealWrongFalsely : Prop := fnExactIsDealRow.holds Try.pinned (OpenSpec.ofChange fnExactIsDealWrong)

/-- 'laws.FnExactHolderOf': WHATEVER THE INPUT: true; the input reads as it did. -/
def fnExactHolderOfSpec : ChangeSpec := { name := "fnExactHolderOf", fn := fun _ => fun
  | [d1, d2] => { results := [.lit (.bool true)], args := [d1, d2] }
  | _ => none }
def fnExactHolderOfRow : OpenClaim := { program := "ytckmdibjkklhkaa", sum := "97677f5997ccc2c35ea8eaf987f98a03e997f441b21e21c95b5871213b2aa261", func := "loop.example/g00854/laws.FnExactHolderOf", spec := "fnExactHolderOf", unfollowed := true, recurses := true, apart := false }
def FnExactHolderOfSaid : Prop := fnExactHolderOfRow.holds Try.pinned (OpenSpec.ofChange fnExactHolderOfSpec)

/-- ITS FALSE NEIGHBOUR: 'it returns false'. Refute it at one input. -/
def fnExactHolderOfWrong : ChangeSpec := { name := "fnExactHolderOf", fn := fun _ => fun
  | [d1, d2] => { results := [.lit (.bool false)], args := [d1, d2] }
  | _ => none }
def FnExactHolderOfWrongFalsely : Prop := fnExactHolderOfRow.holds Try.pinned (OpenSpec.ofChange fnExactHolderOfWrong)

/-- 'laws.FnExactRotateDeal': WHATEVER THE INPUT: true; the input reads as it did. -/
def fnExactRotateDealSpec : ChangeSpec := { name := "fnExactRotateDeal", fn := fun _ => fun
  | [d1, d2] => { results := [.lit (.bool true)], args := [d1, d2] }
  | _ => none }
def fnExactRotateDealRow : OpenClaim := { program := "ytckmdibjkklhkaa", sum := "97677f5997ccc2c35ea8eaf987f98a03e997f441b21e21c95b5871213b2aa261", func := "loop.example/g00854/laws.FnExactRotateDeal", spec := "fnExactRotateDeal", unfollowed := true, recurses := true, apart := false }
def FnExactRotateDealSaid : Prop := fnExactRotateDealRow.holds Try.pinned (OpenSpec.ofChange fnExactRotateDealSpec)

/-- ITS FALSE NEIGHBOUR: 'it returns false'. Refute it at one input. -/
def fnExactRotateDealWrong : ChangeSpec := { name := "fnExactRotateDeal", fn := fun _ => fun
  | [d1, d2] => { results := [.lit (.bool false)], args := [d1, d2] }
  | _ => none }
def FnExactRotateDealWrongFalsely : Prop := fnExactRotateDealRow.holds Try.pinned (OpenSpec.ofChange fnExactRotateDealWrong)

/-- 'laws.FnExactMirrorDeal': WHATEVER THE INPUT: true; the input reads as it did. -/
def fnExactMirrorDealSpec : ChangeSpec := { name := "fnExactMirrorDeal", fn := fun _ => fun
  | [d] => { results := [.lit (.bool true)], args := [d] }
  | _ => none }
def fnExactMirrorDealRow : OpenClaim := { program := "ytckmdibjkklhkaa", sum := "97677f5997ccc2c35ea8eaf987f98a03e997f441b21e21c95b5871213b2aa261", func := "loop.example/g00854/laws.FnExactMirrorDeal", spec := "fnExactMirrorDeal", unfollowed := true, recurses := true, apart := false }
def FnExactMirrorDealSaid : Prop := fnExactMirrorDealRow.holds Try.pinned (OpenSpec.ofChange fnExactMirrorDealSpec)

/-- ITS FALSE NEIGHBOUR: 'it returns false'. Refute it at one input. -/
def fnExactMirrorDealWrong : ChangeSpec := { name := "fnExactMirrorDeal", fn := fun _ => fun
  | [d] => { results := [.lit (.bool false)], args := [d] }
  | _ => none }
def FnExactMirrorDealWrongFalsely : Prop := fnExactMirrorDealRow.holds Try.pinned (OpenSpec.ofChange fnExactMirrorDealWrong)

/-- 'laws.FnExactDealOfNumbers': WHATEVER THE INPUT: true; the input reads as it did. -/
def fnExactDealOfNumbersSpec : ChangeSpec := { name := "fnExactDealOfNumbers", fn := fun _ => fun
  | [d1, d2] => { results := [.lit (.bool true)], args := [d1, d2] }
  | _ => none }
def fnExactDealOfNumbersRow : OpenClaim := { program := "ytckmdibjkklhkaa", sum := "97677f5997ccc2c35ea8eaf987f98a03e997f441b21e21c95b5871213b2aa261", func := "loop.example/g00854/laws.FnExactDealOfNumbers", spec := "fnExactDealOfNumbers", unfollowed := true, recurses := true, apart := false }
def FnExactDealOfNumbersSaid : Prop := fnExactDealOfNumbersRow.holds Try.pinned (OpenSpec.ofChange fnExactDealOfNumbersSpec)

/-- ITS FALSE NEIGHBOUR: 'it returns false'. Refute it at one input. -/
def fnExactDealOfNumbersWrong : ChangeSpec := { name := "fnExactDealOfNumbers", fn := fun _ => fun
  | [d1, d2] => { results := [.lit (.bool false)], args := [d1, d2] }
  | _ => none }
def FnExactDealOfNumbersWrongFalsely : Prop := fnExactDealOfNumbersRow.holds Try.pinned (OpenSpec.ofChange fnExactDealOfNumbersWrong)

/-- 'laws.FnExactDealOfHolders': WHATEVER THE INPUT: true; the input reads as it did. -/
def fnExactDealOfHoldersSpec : ChangeSpec := { name := "fnExactDealOfHolders", fn := fun _ => fun
  | [d] => { results := [.lit (.bool true)], args := [d] }
  | _ => none }
def fnExactDealOfHoldersRow : OpenClaim := { program := "ytckmdibjkklhkaa", sum := "97677f5997ccc2c35ea8eaf987f98a03e997f441b21e21c95b5871213b2aa261", func := "loop.example/g00854/laws.FnExactDealOfHolders", spec := "fnExactDealOfHolders", unfollowed := true, recurses := true, apart := false }
def FnExactDealOfHoldersSaid : Prop := fnExactDealOfHoldersRow.holds Try.pinned (OpenSpec.ofChange fnExactDealOfHoldersSpec)

/-- ITS FALSE NEIGHBOUR: 'it returns false'. Refute it at one input. -/
def fnExactDealOfHoldersWrong : ChangeSpec := { name := "fnExactDealOfHolders", fn := fun _ => fun
  | [d] => { results := [.lit (.bool false)], args := [d] }
  | _ => none }
def FnExactDealOfHoldersWrongFalsely : Prop := fnExactDealOfHoldersRow.holds Try.pinned (OpenSpec.ofChange fnExactDealOfHoldersWrong)

/-- 'laws.FnExactCardsOfDeal': WHATEVER THE INPUT: true; the input reads as it did. -/
def fnExactCardsOfDealSpec : ChangeSpec := { name := "fnExactCardsOfDeal", fn := fun _ => fun
  | [d] => { results := [.lit (.bool true)], args := [d] }
  | _ => none }
def fnExactCardsOfDealRow : OpenClaim := { program := "ytckmdibjkklhkaa", sum := "97677f5997ccc2c35ea8eaf987f98a03e997f441b21e21c95b5871213b2aa261", func := "loop.example/g00854/laws.FnExactCardsOfDeal", spec := "fnExactCardsOfDeal", recurses := true, apart := false }
def FnExactCardsOfDealSaid : Prop := fnExactCardsOfDealRow.holds Try.pinned (OpenSpec.ofChange fnExactCardsOfDealSpec)

/-- ITS FALSE NEIGHBOUR: 'it returns false'. Refute it at one input. -/
def fnExactCardsOfDealWrong : ChangeSpec := { name := "fnExactCardsOfDeal", fn := fun _ => fun
  | [d] => { results := [.lit (.bool false)], args := [d] }
  | _ => none }
def FnExactCardsOfDealWrongFalsely : Prop := fnExactCardsOfDealRow.holds Try.pinned (OpenSpec.ofChange fnExactCardsOfDealWrong)

/-- 'laws.FnExactPermuteSuits': WHATEVER THE INPUT: true; the input reads as it did. -/
def fnExactPermuteSuitsSpec : ChangeSpec := { name := "fnExactPermuteSuits", fn := fun _ => fun
  | [d1, d2] => { results := [.lit (.bool true)], args := [d1, d2] }
  | _ => none }
def fnExactPermuteSuitsRow : OpenClaim := { program := "ytckmdibjkklhkaa", sum := "97677f5997ccc2c35ea8eaf987f98a03e997f441b21e21c95b5871213b2aa261", func := "loop.example/g00854/laws.FnExactPermuteSuits", spec := "fnExactPermuteSuits", unfollowed := true, recurses := true, apart := false }
def FnExactPermuteSuitsSaid : Prop := fnExactPermuteSuitsRow.holds Try.pinned (OpenSpec.ofChange fnExactPermuteSuitsSpec)

/-- ITS FALSE NEIGHBOUR: 'it returns false'. Refute it at one input. -/
def fnExactPermuteSuitsWrong : ChangeSpec := { name := "fnExactPermuteSuits", fn := fun _ => fun
  | [d1, d2] => { results := [.lit (.bool false)], args := [d1, d2] }
  | _ => none }
def FnExactPermuteSuitsWrongFalsely : Prop := fnExactPermuteSuitsRow.holds Try.pinned (OpenSpec.ofChange fnExactPermuteSuitsWrong)

/-- 'laws.FnExactExchangeCards': WHATEVER THE INPUT: true; the input reads as it did. -/
def fnExactExchangeCardsSpec : ChangeSpec := { name := "fnExactExchangeCards", fn := fun _ => fun
  | [d1, d2, d3] => { results := [.lit (.bool true)], args := [d1, d2, d3] }
  | _ => none }
def fnExactExchangeCardsRow : OpenClaim := { program := "ytckmdibjkklhkaa", sum := "97677f5997ccc2c35ea8eaf987f98a03e997f441b21e21c95b5871213b2aa261", func := "loop.example/g00854/laws.FnExactExchangeCards", spec := "fnExactExchangeCards", unfollowed := true, recurses := true, apart := false }
def FnExactExchangeCardsSaid : Prop := fnExactExchangeCardsRow.holds Try.pinned (OpenSpec.ofChange fnExactExchangeCardsSpec)

/-- ITS FALSE NEIGHBOUR: 'it returns false'. Refute it at one input. -/
def fnExactExchangeCardsWrong : ChangeSpec := { name := "fnExactExchangeCards", fn := fun _ => fun
  | [d1, d2, d3] => { results := [.lit (.bool false)], args := [d1, d2, d3] }
  | _ => none }
def FnExactExchangeCardsWrongFalsely : Prop := fnExactExchangeCardsRow.holds Try.pinned (OpenSpec.ofChange fnExactExchangeCardsWrong)

/-- 'laws.FnExactDealText': WHATEVER THE INPUT: true; the input reads as it did. -/
def fnExactDealTextSpec : ChangeSpec := { name := "fnExactDealText", fn := fun _ => fun
  | [d] => { results := [.lit (.bool true)], args := [d] }
  | _ => none }
def fnExactDealTextRow : OpenClaim := { program := "ytckmdibjkklhkaa", sum := "97677f5997ccc2c35ea8eaf987f98a03e997f441b21e21c95b5871213b2aa261", func := "loop.example/g00854/laws.FnExactDealText", spec := "fnExactDealText", inPlace := ["internal/abi.NoEscape", "internal/bytealg.MakeNoZero"], recurses := true, apart := false }
def FnExactDealTextSaid : Prop := fnExactDealTextRow.holds Try.pinned (OpenSpec.ofChange fnExactDealTextSpec)

/-- ITS FALSE NEIGHBOUR: 'it returns false'. Refute it at one input. -/
def fnExactDealTextWrong : ChangeSpec := { name := "fnExactDealText", fn := fun _ => fun
  | [d] => { results := [.lit (.bool false)], args := [d] }
  | _ => none }
def FnExactDealTextWrongFalsely : Prop := fnExactDealTextRow.holds Try.pinned (OpenSpec.ofChange fnExactDealTextWrong)

/-- 'laws.FnExactEquivalentCards': WHATEVER THE INPUT: true; the input reads as it did. -/
def fnExactEquivalentCardsSpec : ChangeSpec := { name := "fnExactEquivalentCards", fn := fun _ => fun
  | [d1, d2] => { results := [.lit (.bool true)], args := [d1, d2] }
  | _ => none }
def fnExactEquivalentCardsRow : OpenClaim := { program := "ytckmdibjkklhkaa", sum := "97677f5997ccc2c35ea8eaf987f98a03e997f441b21e21c95b5871213b2aa261", func := "loop.example/g00854/laws.FnExactEquivalentCards", spec := "fnExactEquivalentCards", unfollowed := true, recurses := true, apart := false }
def FnExactEquivalentCardsSaid : Prop := fnExactEquivalentCardsRow.holds Try.pinned (OpenSpec.ofChange fnExactEquivalentCardsSpec)

/-- ITS FALSE NEIGHBOUR: 'it returns false'. Refute it at one input. -/
def fnExactEquivalentCardsWrong : ChangeSpec := { name := "fnExactEquivalentCards", fn := fun _ => fun
  | [d1, d2] => { results := [.lit (.bool false)], args := [d1, d2] }
  | _ => none }
def FnExactEquivalentCardsWrongFalsely : Prop := fnExactEquivalentCardsRow.holds Try.pinned (OpenSpec.ofChange fnExactEquivalentCardsWrong)

/-- 'laws.FnExactGroupsOf': WHATEVER THE INPUT: true; the input reads as it did. -/
def fnExactGroupsOfSpec : ChangeSpec := { name := "fnExactGroupsOf", fn := fun _ => fun
  | [d1, d2] => { results := [.lit (.bool true)], args := [d1, d2] }
  | _ => none }
def fnExactGroupsOfRow : OpenClaim := { program := "ytckmdibjkklhkaa", sum := "97677f5997ccc2c35ea8eaf987f98a03e997f441b21e21c95b5871213b2aa261", func := "loop.example/g00854/laws.FnExactGroupsOf", spec := "fnExactGroupsOf", recurses := true, apart := false }
def FnExactGroupsOfSaid : Prop := fnExactGroupsOfRow.holds Try.pinned (OpenSpec.ofChange fnExactGroupsOfSpec)

/-- ITS FALSE NEIGHBOUR: 'it returns false'. Refute it at one input. -/
def fnExactGroupsOfWrong : ChangeSpec := { name := "fnExactGroupsOf", fn := fun _ => fun
  | [d1, d2] => { results := [.lit (.bool false)], args := [d1, d2] }
  | _ => none }
def FnExactGroupsOfWrongFalsely : Prop := fnExactGroupsOfRow.holds Try.pinned (OpenSpec.ofChange fnExactGroupsOfWrong)

/-- 'laws.FnExactHolderLists': WHATEVER THE INPUT: true; the input reads as it did. -/
def fnExactHolderListsSpec : ChangeSpec := { name := "fnExactHolderLists", fn := fun _ => fun
  | [d] => { results := [.lit (.bool true)], args := [d] }
  | _ => none }
def fnExactHolderListsRow : OpenClaim := { program := "ytckmdibjkklhkaa", sum := "97677f5997ccc2c35ea8eaf987f98a03e997f441b21e21c95b5871213b2aa261", func := "loop.example/g00854/laws.FnExactHolderLists", spec := "fnExactHolderLists", unfollowed := true, recurses := true, apart := false }
def FnExactHolderListsSaid : Prop := fnExactHolderListsRow.holds Try.pinned (OpenSpec.ofChange fnExactHolderListsSpec)

/-- ITS FALSE NEIGHBOUR: 'it returns false'. Refute it at one input. -/
def fnExactHolderListsWrong : ChangeSpec := { name := "fnExactHolderLists", fn := fun _ => fun
  | [d] => { results := [.lit (.bool false)], args := [d] }
  | _ => none }
def FnExactHolderListsWrongFalsely : Prop := fnExactHolderListsRow.holds Try.pinned (OpenSpec.ofChange fnExactHolderListsWrong)

/-- 'laws.FnDealSymmetries': WHATEVER THE INPUT: true; the input reads as it did. -/
def fnDealSymmetriesSpec : ChangeSpec := { name := "fnDealSymmetries", fn := fun _ => fun
  | [d] => { results := [.lit (.bool true)], args := [d] }
  | _ => none }
def fnDealSymmetriesRow : OpenClaim := { program := "ytckmdibjkklhkaa", sum := "97677f5997ccc2c35ea8eaf987f98a03e997f441b21e21c95b5871213b2aa261", func := "loop.example/g00854/laws.FnDealSymmetries", spec := "fnDealSymmetries", unfollowed := true, recurses := true, apart := false }
def FnDealSymmetriesSaid : Prop := fnDealSymmetriesRow.holds Try.pinned (OpenSpec.ofChange fnDealSymmetriesSpec)

/-- ITS FALSE NEIGHBOUR: 'it returns false'. Refute it at one input. -/
def fnDealSymmetriesWrong : ChangeSpec := { name := "fnDealSymmetries", fn := fun _ => fun
  | [d] => { results := [.lit (.bool false)], args := [d] }
  | _ => none }
def FnDealSymmetriesWrongFalsely : Prop := fnDealSymmetriesRow.holds Try.pinned (OpenSpec.ofChange fnDealSymmetriesWrong)

/-- 'laws.FnExactDealNumbers': WHATEVER THE INPUT: true; the input reads as it did. -/
def fnExactDealNumbersSpec : ChangeSpec := { name := "fnExactDealNumbers", fn := fun _ => fun
  | [d] => { results := [.lit (.bool true)], args := [d] }
  | _ => none }
def fnExactDealNumbersRow : OpenClaim := { program := "ytckmdibjkklhkaa", sum := "97677f5997ccc2c35ea8eaf987f98a03e997f441b21e21c95b5871213b2aa261", func := "loop.example/g00854/laws.FnExactDealNumbers", spec := "fnExactDealNumbers", unfollowed := true, recurses := true, apart := false }
def FnExactDealNumbersSaid : Prop := fnExactDealNumbersRow.holds Try.pinned (OpenSpec.ofChange fnExactDealNumbersSpec)

/-- ITS FALSE NEIGHBOUR: 'it returns false'. Refute it at one input. -/
def fnExactDealNumbersWrong : ChangeSpec := { name := "fnExactDealNumbers", fn := fun _ => fun
  | [d] => { results := [.lit (.bool false)], args := [d] }
  | _ => none }
def FnExactDealNumbersWrongFalsely : Prop := fnExactDealNumbersRow.holds Try.pinned (OpenSpec.ofChange fnExactDealNumbersWrong)

/-- 'laws.FnExactRelativeDeal': WHATEVER THE INPUT: true; the input reads as it did. -/
def fnExactRelativeDealSpec : ChangeSpec := { name := "fnExactRelativeDeal", fn := fun _ => fun
  | [d] => { results := [.lit (.bool true)], args := [d] }
  | _ => none }
def fnExactRelativeDealRow : OpenClaim := { program := "ytckmdibjkklhkaa", sum := "97677f5997ccc2c35ea8eaf987f98a03e997f441b21e21c95b5871213b2aa261", func := "loop.example/g00854/laws.FnExactRelativeDeal", spec := "fnExactRelativeDeal", unfollowed := true, recurses := true, apart := false }
def FnExactRelativeDealSaid : Prop := fnExactRelativeDealRow.holds Try.pinned (OpenSpec.ofChange fnExactRelativeDealSpec)

/-- ITS FALSE NEIGHBOUR: 'it returns false'. Refute it at one input. -/
def fnExactRelativeDealWrong : ChangeSpec := { name := "fnExactRelativeDeal", fn := fun _ => fun
  | [d] => { results := [.lit (.bool false)], args := [d] }
  | _ => none }
def FnExactRelativeDealWrongFalsely : Prop := fnExactRelativeDealRow.holds Try.pinned (OpenSpec.ofChange fnExactRelativeDealWrong)

/-- 'laws.FnRelative': WHATEVER THE INPUT: true; the input reads as it did. -/
def fnRelativeSpec : ChangeSpec := { name := "fnRelative", fn := fun _ => fun
  | [d] => { results := [.lit (.bool true)], args := [d] }
  | _ => none }
def fnRelativeRow : OpenClaim := { program := "ytckmdibjkklhkaa", sum := "97677f5997ccc2c35ea8eaf987f98a03e997f441b21e21c95b5871213b2aa261", func := "loop.example/g00854/laws.FnRelative", spec := "fnRelative", unfollowed := true, recurses := true, apart := false }
def FnRelativeSaid : Prop := fnRelativeRow.holds Try.pinned (OpenSpec.ofChange fnRelativeSpec)

/-- ITS FALSE NEIGHBOUR: 'it returns false'. Refute it at one input. -/
def fnRelativeWrong : ChangeSpec := { name := "fnRelative", fn := fun _ => fun
  | [d] => { results := [.lit (.bool false)], args := [d] }
  | _ => none }
def FnRelativeWrongFalsely : Prop := fnRelativeRow.holds Try.pinned (OpenSpec.ofChange fnRelativeWrong)

/-- 'laws.FnExchange': WHATEVER THE INPUT: true; the input reads as it did. -/
def fnExchangeSpec : ChangeSpec := { name := "fnExchange", fn := fun _ => fun
  | [d] => { results := [.lit (.bool true)], args := [d] }
  | _ => none }
def fnExchangeRow : OpenClaim := { program := "ytckmdibjkklhkaa", sum := "97677f5997ccc2c35ea8eaf987f98a03e997f441b21e21c95b5871213b2aa261", func := "loop.example/g00854/laws.FnExchange", spec := "fnExchange", unfollowed := true, recurses := true, apart := false }
def FnExchangeSaid : Prop := fnExchangeRow.holds Try.pinned (OpenSpec.ofChange fnExchangeSpec)

/-- ITS FALSE NEIGHBOUR: 'it returns false'. Refute it at one input. -/
def fnExchangeWrong : ChangeSpec := { name := "fnExchange", fn := fun _ => fun
  | [d] => { results := [.lit (.bool false)], args := [d] }
  | _ => none }
def FnExchangeWrongFalsely : Prop := fnExchangeRow.holds Try.pinned (OpenSpec.ofChange fnExchangeWrong)

/-- 'laws.FnGroups': WHATEVER THE INPUT: true; the input reads as it did. -/
def fnGroupsSpec : ChangeSpec := { name := "fnGroups", fn := fun _ => fun
  | [d] => { results := [.lit (.bool true)], args := [d] }
  | _ => none }
def fnGroupsRow : OpenClaim := { program := "ytckmdibjkklhkaa", sum := "97677f5997ccc2c35ea8eaf987f98a03e997f441b21e21c95b5871213b2aa261", func := "loop.example/g00854/laws.FnGroups", spec := "fnGroups", unfollowed := true, recurses := true, apart := false }
def FnGroupsSaid : Prop := fnGroupsRow.holds Try.pinned (OpenSpec.ofChange fnGroupsSpec)

/-- ITS FALSE NEIGHBOUR: 'it returns false'. Refute it at one input. -/
def fnGroupsWrong : ChangeSpec := { name := "fnGroups", fn := fun _ => fun
  | [d] => { results := [.lit (.bool false)], args := [d] }
  | _ => none }
def FnGroupsWrongFalsely : Prop := fnGroupsRow.holds Try.pinned (OpenSpec.ofChange fnGroupsWrong)

/-- 'laws.FnNumbers': WHATEVER THE INPUT: true; the input reads as it did. -/
def fnNumbersSpec : ChangeSpec := { name := "fnNumbers", fn := fun _ => fun
  | [d] => { results := [.lit (.bool true)], args := [d] }
  | _ => none }
def fnNumbersRow : OpenClaim := { program := "ytckmdibjkklhkaa", sum := "97677f5997ccc2c35ea8eaf987f98a03e997f441b21e21c95b5871213b2aa261", func := "loop.example/g00854/laws.FnNumbers", spec := "fnNumbers", unfollowed := true, recurses := true, apart := false }
def FnNumbersSaid : Prop := fnNumbersRow.holds Try.pinned (OpenSpec.ofChange fnNumbersSpec)

/-- ITS FALSE NEIGHBOUR: 'it returns false'. Refute it at one input. -/
def fnNumbersWrong : ChangeSpec := { name := "fnNumbers", fn := fun _ => fun
  | [d] => { results := [.lit (.bool false)], args := [d] }
  | _ => none }
def FnNumbersWrongFalsely : Prop := fnNumbersRow.holds Try.pinned (OpenSpec.ofChange fnNumbersWrong)

/-- 'laws.FnExactSameUpToSuits': WHATEVER THE INPUT: true; the input reads as it did. -/
def fnExactSameUpToSuitsSpec : ChangeSpec := { name := "fnExactSameUpToSuits", fn := fun _ => fun
  | [d1, d2, d3] => { results := [.lit (.bool true)], args := [d1, d2, d3] }
  | _ => none }
def fnExactSameUpToSuitsRow : OpenClaim := { program := "ytckmdibjkklhkaa", sum := "97677f5997ccc2c35ea8eaf987f98a03e997f441b21e21c95b5871213b2aa261", func := "loop.example/g00854/laws.FnExactSameUpToSuits", spec := "fnExactSameUpToSuits", unfollowed := true, recurses := true, apart := false }
def FnExactSameUpToSuitsSaid : Prop := fnExactSameUpToSuitsRow.holds Try.pinned (OpenSpec.ofChange fnExactSameUpToSuitsSpec)

/-- ITS FALSE NEIGHBOUR: 'it returns false'. Refute it at one input. -/
def fnExactSameUpToSuitsWrong : ChangeSpec := { name := "fnExactSameUpToSuits", fn := fun _ => fun
  | [d1, d2, d3] => { results := [.lit (.bool false)], args := [d1, d2, d3] }
  | _ => none }
def FnExactSameUpToSuitsWrongFalsely : Prop := fnExactSameUpToSuitsRow.holds Try.pinned (OpenSpec.ofChange fnExactSameUpToSuitsWrong)

/-- 'laws.FnCanonicalDeal': WHATEVER THE INPUT: true; the input reads as it did. -/
def fnCanonicalDealSpec : ChangeSpec := { name := "fnCanonicalDeal", fn := fun _ => fun
  | [d] => { results := [.lit (.bool true)], args := [d] }
  | _ => none }
def fnCanonicalDealRow : OpenClaim := { program := "ytckmdibjkklhkaa", sum := "97677f5997ccc2c35ea8eaf987f98a03e997f441b21e21c95b5871213b2aa261", func := "loop.example/g00854/laws.FnCanonicalDeal", spec := "fnCanonicalDeal", unfollowed := true, recurses := true, apart := false }
def FnCanonicalDealSaid : Prop := fnCanonicalDealRow.holds Try.pinned (OpenSpec.ofChange fnCanonicalDealSpec)

/-- ITS FALSE NEIGHBOUR: 'it returns false'. Refute it at one input. -/
def fnCanonicalDealWrong : ChangeSpec := { name := "fnCanonicalDeal", fn := fun _ => fun
  | [d] => { results := [.lit (.bool false)], args := [d] }
  | _ => none }
def FnCanonicalDealWrongFalsely : Prop := fnCanonicalDealRow.holds Try.pinned (OpenSpec.ofChange fnCanonicalDealWrong)

/-- 'laws.FnExactCanonicalDeal': WHATEVER THE INPUT: true; the input reads as it did. -/
def fnExactCanonicalDealSpec : ChangeSpec := { name := "fnExactCanonicalDeal", fn := fun _ => fun
  | [d1, d2] => { results := [.lit (.bool true)], args := [d1, d2] }
  | _ => none }
def fnExactCanonicalDealRow : OpenClaim := { program := "ytckmdibjkklhkaa", sum := "97677f5997ccc2c35ea8eaf987f98a03e997f441b21e21c95b5871213b2aa261", func := "loop.example/g00854/laws.FnExactCanonicalDeal", spec := "fnExactCanonicalDeal", unfollowed := true, recurses := true, apart := false }
def FnExactCanonicalDealSaid : Prop := fnExactCanonicalDealRow.holds Try.pinned (OpenSpec.ofChange fnExactCanonicalDealSpec)

/-- ITS FALSE NEIGHBOUR: 'it returns false'. Refute it at one input. -/
def fnExactCanonicalDealWrong : ChangeSpec := { name := "fnExactCanonicalDeal", fn := fun _ => fun
  | [d1, d2] => { results := [.lit (.bool false)], args := [d1, d2] }
  | _ => none }
def FnExactCanonicalDealWrongFalsely : Prop := fnExactCanonicalDealRow.holds Try.pinned (OpenSpec.ofChange fnExactCanonicalDealWrong)

/- THE SECOND FORM. 'bulk': how many values and letters a reading holds, each counted each time it is reached (what is shared counts as often as it is met; a slice's spare places count too). A statement '..UptoSaid' is the law's where the arguments, and the package variables that the reading takes, are together of bulk at most 1048576: NARROWER than '..Said'. Prove '..Said' where nothing that the law and all that it calls make is longer than what came in: it says more and counts as full. Else prove '..UptoSaid'. A law counts once. -/
mutual
def uptoBulk {H : Type} : DataW H → Nat
  | .lit (.string bytes) => bytes.length + 1
  | .lit _ => 1
  | .nil => 1
  | .ptr d => uptoBulk d + 1
  | .slice elems spare => uptoBulkAll elems + uptoBulkAll spare + 1
  | .agg parts => uptoBulkAll parts + 1
  | .iface _ d => uptoBulk d + 1
  | .map entries => uptoBulkEntries entries + 1
  | .held _ => 1
def uptoBulkAll {H : Type} : List (DataW H) → Nat
  | [] => 0
  | d :: r => uptoBulk d + uptoBulkAll r
def uptoBulkEntries {H : Type} : List (Lit × DataW H) → Nat
  | [] => 0
  | x :: r => uptoBulkEntry x + uptoBulkEntries r
def uptoBulkEntry {H : Type} : Lit × DataW H → Nat
  | (.string bytes, d) => bytes.length + uptoBulk d + 1
  | (_, d) => uptoBulk d + 1
 end
def uptoSmall : (H : Type) → List (DataW H) → Bool := fun _ ds => decide (uptoBulkAll ds ≤ 1048576)
def OpenSpec.upto (s : _root_.Go.ChangeSpec) : _root_.Go.OpenSpec := { _root_.Go.OpenSpec.ofChange s with cond := some uptoSmall }

/-- 'laws.FnExactIsDeal', WHERE WHAT IT READS IS OF BULK AT MOST 1048576: true; the input reads as it did. -/
def fnExactIsDealUptoRow : OpenClaim := { program := "ytckmdibjkklhkaa", sum := "97677f5997ccc2c35ea8eaf987f98a03e997f441b21e21c95b5871213b2aa261", func := "loop.example/g00854/laws.FnExactIsDeal", spec := "fnExactIsDeal", apart := false, narrowed := true }
def FnExactIsDealUptoSaid : Prop := fnExactIsDealUptoRow.holds Try.pinned (OpenSpec.upto fnExactIsDealSpec)

/-- 'laws.FnExactHolderOf', WHERE WHAT IT READS IS OF BULK AT MOST 1048576: true; the input reads as it did. -/
def fnExactHolderOfUptoRow : OpenClaim := { program := "ytckmdibjkklhkaa", sum := "97677f5997ccc2c35ea8eaf987f98a03e997f441b21e21c95b5871213b2aa261", func := "loop.example/g00854/laws.FnExactHolderOf", spec := "fnExactHolderOf", unfollowed := true, recurses := true, apart := false, narrowed := true }
def FnExactHolderOfUptoSaid : Prop := fnExactHolderOfUptoRow.holds Try.pinned (OpenSpec.upto fnExactHolderOfSpec)

/-- 'laws.FnExactRotateDeal', WHERE WHAT IT READS IS OF BULK AT MOST 1048576: true; the input reads as it did. -/
def fnExactRotateDealUptoRow : OpenClaim := { program := "ytckmdibjkklhkaa", sum := "97677f5997ccc2c35ea8eaf987f98a03e997f441b21e21c95b5871213b2aa261", func := "loop.example/g00854/laws.FnExactRotateDeal", spec := "fnExactRotateDeal", unfollowed := true, recurses := true, apart := false, narrowed := true }
def FnExactRotateDealUptoSaid : Prop := fnExactRotateDealUptoRow.holds Try.pinned (OpenSpec.upto fnExactRotateDealSpec)

/-- 'laws.FnExactMirrorDeal', WHERE WHAT IT READS IS OF BULK AT MOST 1048576: true; the input reads as it did. -/
def fnExactMirrorDealUptoRow : OpenClaim := { program := "ytckmdibjkklhkaa", sum := "97677f5997ccc2c35ea8eaf987f98a03e997f441b21e21c95b5871213b2aa261", func := "loop.example/g00854/laws.FnExactMirrorDeal", spec := "fnExactMirrorDeal", unfollowed := true, recurses := true, apart := false, narrowed := true }
def FnExactMirrorDealUptoSaid : Prop := fnExactMirrorDealUptoRow.holds Try.pinned (OpenSpec.upto fnExactMirrorDealSpec)

/-- 'laws.FnExactDealOfNumbers', WHERE WHAT IT READS IS OF BULK AT MOST 1048576: true; the input reads as it did. -/
def fnExactDealOfNumbersUptoRow : OpenClaim := { program := "ytckmdibjkklhkaa", sum := "97677f5997ccc2c35ea8eaf987f98a03e997f441b21e21c95b5871213b2aa261", func := "loop.example/g00854/laws.FnExactDealOfNumbers", spec := "fnExactDealOfNumbers", unfollowed := true, recurses := true, apart := false, narrowed := true }
def FnExactDealOfNumbersUptoSaid : Prop := fnExactDealOfNumbersUptoRow.holds Try.pinned (OpenSpec.upto fnExactDealOfNumbersSpec)

/-- 'laws.FnExactDealOfHolders', WHERE WHAT IT READS IS OF BULK AT MOST 1048576: true; the input reads as it did. -/
def fnExactDealOfHoldersUptoRow : OpenClaim := { program := "ytckmdibjkklhkaa", sum := "97677f5997ccc2c35ea8eaf987f98a03e997f441b21e21c95b5871213b2aa261", func := "loop.example/g00854/laws.FnExactDealOfHolders", spec := "fnExactDealOfHolders", unfollowed := true, recurses := true, apart := false, narrowed := true }
def FnExactDealOfHoldersUptoSaid : Prop := fnExactDealOfHoldersUptoRow.holds Try.pinned (OpenSpec.upto fnExactDealOfHoldersSpec)

/-- 'laws.FnExactCardsOfDeal', WHERE WHAT IT READS IS OF BULK AT MOST 1048576: true; the input reads as it did. -/
def fnExactCardsOfDealUptoRow : OpenClaim := { program := "ytckmdibjkklhkaa", sum := "97677f5997ccc2c35ea8eaf987f98a03e997f441b21e21c95b5871213b2aa261", func := "loop.example/g00854/laws.FnExactCardsOfDeal", spec := "fnExactCardsOfDeal", recurses := true, apart := false, narrowed := true }
def FnExactCardsOfDealUptoSaid : Prop := fnExactCardsOfDealUptoRow.holds Try.pinned (OpenSpec.upto fnExactCardsOfDealSpec)

/-- 'laws.FnExactPermuteSuits', WHERE WHAT IT READS IS OF BULK AT MOST 1048576: true; the input reads as it did. -/
def fnExactPermuteSuitsUptoRow : OpenClaim := { program := "ytckmdibjkklhkaa", sum := "97677f5997ccc2c35ea8eaf987f98a03e997f441b21e21c95b5871213b2aa261", func := "loop.example/g00854/laws.FnExactPermuteSuits", spec := "fnExactPermuteSuits", unfollowed := true, recurses := true, apart := false, narrowed := true }
def FnExactPermuteSuitsUptoSaid : Prop := fnExactPermuteSuitsUptoRow.holds Try.pinned (OpenSpec.upto fnExactPermuteSuitsSpec)

/-- 'laws.FnExactExchangeCards', WHERE WHAT IT READS IS OF BULK AT MOST 1048576: true; the input reads as it did. -/
def fnExactExchangeCardsUptoRow : OpenClaim := { program := "ytckmdibjkklhkaa", sum := "97677f5997ccc2c35ea8eaf987f98a03e997f441b21e21c95b5871213b2aa261", func := "loop.example/g00854/laws.FnExactExchangeCards", spec := "fnExactExchangeCards", unfollowed := true, recurses := true, apart := false, narrowed := true }
def FnExactExchangeCardsUptoSaid : Prop := fnExactExchangeCardsUptoRow.holds Try.pinned (OpenSpec.upto fnExactExchangeCardsSpec)

/-- 'laws.FnExactDealText', WHERE WHAT IT READS IS OF BULK AT MOST 1048576: true; the input reads as it did. -/
def fnExactDealTextUptoRow : OpenClaim := { program := "ytckmdibjkklhkaa", sum := "97677f5997ccc2c35ea8eaf987f98a03e997f441b21e21c95b5871213b2aa261", func := "loop.example/g00854/laws.FnExactDealText", spec := "fnExactDealText", inPlace := ["internal/abi.NoEscape", "internal/bytealg.MakeNoZero"], recurses := true, apart := false, narrowed := true }
def FnExactDealTextUptoSaid : Prop := fnExactDealTextUptoRow.holds Try.pinned (OpenSpec.upto fnExactDealTextSpec)

/-- 'laws.FnExactEquivalentCards', WHERE WHAT IT READS IS OF BULK AT MOST 1048576: true; the input reads as it did. -/
def fnExactEquivalentCardsUptoRow : OpenClaim := { program := "ytckmdibjkklhkaa", sum := "97677f5997ccc2c35ea8eaf987f98a03e997f441b21e21c95b5871213b2aa261", func := "loop.example/g00854/laws.FnExactEquivalentCards", spec := "fnExactEquivalentCards", unfollowed := true, recurses := true, apart := false, narrowed := true }
def FnExactEquivalentCardsUptoSaid : Prop := fnExactEquivalentCardsUptoRow.holds Try.pinned (OpenSpec.upto fnExactEquivalentCardsSpec)

/-- 'laws.FnExactGroupsOf', WHERE WHAT IT READS IS OF BULK AT MOST 1048576: true; the input reads as it did. -/
def fnExactGroupsOfUptoRow : OpenClaim := { program := "ytckmdibjkklhkaa", sum := "97677f5997ccc2c35ea8eaf987f98a03e997f441b21e21c95b5871213b2aa261", func := "loop.example/g00854/laws.FnExactGroupsOf", spec := "fnExactGroupsOf", recurses := true, apart := false, narrowed := true }
def FnExactGroupsOfUptoSaid : Prop := fnExactGroupsOfUptoRow.holds Try.pinned (OpenSpec.upto fnExactGroupsOfSpec)

/-- 'laws.FnExactHolderLists', WHERE WHAT IT READS IS OF BULK AT MOST 1048576: true; the input reads as it did. -/
def fnExactHolderListsUptoRow : OpenClaim := { program := "ytckmdibjkklhkaa", sum := "97677f5997ccc2c35ea8eaf987f98a03e997f441b21e21c95b5871213b2aa261", func := "loop.example/g00854/laws.FnExactHolderLists", spec := "fnExactHolderLists", unfollowed := true, recurses := true, apart := false, narrowed := true }
def FnExactHolderListsUptoSaid : Prop := fnExactHolderListsUptoRow.holds Try.pinned (OpenSpec.upto fnExactHolderListsSpec)

/-- 'laws.FnDealSymmetries', WHERE WHAT IT READS IS OF BULK AT MOST 1048576: true; the input reads as it did. -/
def fnDealSymmetriesUptoRow : OpenClaim := { program := "ytckmdibjkklhkaa", sum := "97677f5997ccc2c35ea8eaf987f98a03e997f441b21e21c95b5871213b2aa261", func := "loop.example/g00854/laws.FnDealSymmetries", spec := "fnDealSymmetries", unfollowed := true, recurses := true, apart := false, narrowed := true }
def FnDealSymmetriesUptoSaid : Prop := fnDealSymmetriesUptoRow.holds Try.pinned (OpenSpec.upto fnDealSymmetriesSpec)

/-- 'laws.FnExactDealNumbers', WHERE WHAT IT READS IS OF BULK AT MOST 1048576: true; the input reads as it did. -/
def fnExactDealNumbersUptoRow : OpenClaim := { program := "ytckmdibjkklhkaa", sum := "97677f5997ccc2c35ea8eaf987f98a03e997f441b21e21c95b5871213b2aa261", func := "loop.example/g00854/laws.FnExactDealNumbers", spec := "fnExactDealNumbers", unfollowed := true, recurses := true, apart := false, narrowed := true }
def FnExactDealNumbersUptoSaid : Prop := fnExactDealNumbersUptoRow.holds Try.pinned (OpenSpec.upto fnExactDealNumbersSpec)

/-- 'laws.FnExactRelativeDeal', WHERE WHAT IT READS IS OF BULK AT MOST 1048576: true; the input reads as it did. -/
def fnExactRelativeDealUptoRow : OpenClaim := { program := "ytckmdibjkklhkaa", sum := "97677f5997ccc2c35ea8eaf987f98a03e997f441b21e21c95b5871213b2aa261", func := "loop.example/g00854/laws.FnExactRelativeDeal", spec := "fnExactRelativeDeal", unfollowed := true, recurses := true, apart := false, narrowed := true }
def FnExactRelativeDealUptoSaid : Prop := fnExactRelativeDealUptoRow.holds Try.pinned (OpenSpec.upto fnExactRelativeDealSpec)

/-- 'laws.FnRelative', WHERE WHAT IT READS IS OF BULK AT MOST 1048576: true; the input reads as it did. -/
def fnRelativeUptoRow : OpenClaim := { program := "ytckmdibjkklhkaa", sum := "97677f5997ccc2c35ea8eaf987f98a03e997f441b21e21c95b5871213b2aa261", func := "loop.example/g00854/laws.FnRelative", spec := "fnRelative", unfollowed := true, recurses := true, apart := false, narrowed := true }
def FnRelativeUptoSaid : Prop := fnRelativeUptoRow.holds Try.pinned (OpenSpec.upto fnRelativeSpec)

/-- 'laws.FnExchange', WHERE WHAT IT READS IS OF BULK AT MOST 1048576: true; the input reads as it did. -/
def fnExchangeUptoRow : OpenClaim := { program := "ytckmdibjkklhkaa", sum := "97677f5997ccc2c35ea8eaf987f98a03e997f441b21e21c95b5871213b2aa261", func := "loop.example/g00854/laws.FnExchange", spec := "fnExchange", unfollowed := true, recurses := true, apart := false, narrowed := true }
def FnExchangeUptoSaid : Prop := fnExchangeUptoRow.holds Try.pinned (OpenSpec.upto fnExchangeSpec)

/-- 'laws.FnGroups', WHERE WHAT IT READS IS OF BULK AT MOST 1048576: true; the input reads as it did. -/
def fnGroupsUptoRow : OpenClaim := { program := "ytckmdibjkklhkaa", sum := "97677f5997ccc2c35ea8eaf987f98a03e997f441b21e21c95b5871213b2aa261", func := "loop.example/g00854/laws.FnGroups", spec := "fnGroups", unfollowed := true, recurses := true, apart := false, narrowed := true }
def FnGroupsUptoSaid : Prop := fnGroupsUptoRow.holds Try.pinned (OpenSpec.upto fnGroupsSpec)

/-- 'laws.FnNumbers', WHERE WHAT IT READS IS OF BULK AT MOST 1048576: true; the input reads as it did. -/
def fnNumbersUptoRow : OpenClaim := { program := "ytckmdibjkklhkaa", sum := "97677f5997ccc2c35ea8eaf987f98a03e997f441b21e21c95b5871213b2aa261", func := "loop.example/g00854/laws.FnNumbers", spec := "fnNumbers", unfollowed := true, recurses := true, apart := false, narrowed := true }
def FnNumbersUptoSaid : Prop := fnNumbersUptoRow.holds Try.pinned (OpenSpec.upto fnNumbersSpec)

/-- 'laws.FnExactSameUpToSuits', WHERE WHAT IT READS IS OF BULK AT MOST 1048576: true; the input reads as it did. -/
def fnExactSameUpToSuitsUptoRow : OpenClaim := { program := "ytckmdibjkklhkaa", sum := "97677f5997ccc2c35ea8eaf987f98a03e997f441b21e21c95b5871213b2aa261", func := "loop.example/g00854/laws.FnExactSameUpToSuits", spec := "fnExactSameUpToSuits", unfollowed := true, recurses := true, apart := false, narrowed := true }
def FnExactSameUpToSuitsUptoSaid : Prop := fnExactSameUpToSuitsUptoRow.holds Try.pinned (OpenSpec.upto fnExactSameUpToSuitsSpec)

/-- 'laws.FnCanonicalDeal', WHERE WHAT IT READS IS OF BULK AT MOST 1048576: true; the input reads as it did. -/
def fnCanonicalDealUptoRow : OpenClaim := { program := "ytckmdibjkklhkaa", sum := "97677f5997ccc2c35ea8eaf987f98a03e997f441b21e21c95b5871213b2aa261", func := "loop.example/g00854/laws.FnCanonicalDeal", spec := "fnCanonicalDeal", unfollowed := true, recurses := true, apart := false, narrowed := true }
def FnCanonicalDealUptoSaid : Prop := fnCanonicalDealUptoRow.holds Try.pinned (OpenSpec.upto fnCanonicalDealSpec)

/-- 'laws.FnExactCanonicalDeal', WHERE WHAT IT READS IS OF BULK AT MOST 1048576: true; the input reads as it did. -/
def fnExactCanonicalDealUptoRow : OpenClaim := { program := "ytckmdibjkklhkaa", sum := "97677f5997ccc2c35ea8eaf987f98a03e997f441b21e21c95b5871213b2aa261", func := "loop.example/g00854/laws.FnExactCanonicalDeal", spec := "fnExactCanonicalDeal", unfollowed := true, recurses := true, apart := false, narrowed := true }
def FnExactCanonicalDealUptoSaid : Prop := fnExactCanonicalDealUptoRow.holds Try.pinned (OpenSpec.upto fnExactCanonicalDealSpec)

end Rows
end Go.Proofs.Ytckmdibjkklhkaa
