/-
  No cell of these rows narrows 'for every input' (looked for: loops, veiled, ifaces, maps, wideKeys, modest, calm, conditions, laid).
  DERIVED. THE GIVEN ROWS OF THIS SEAT. 19 by the template 'for every input the law returns true; each argument reads behind the call as it read before'; 0 by the template 'total and deterministic' (their statements: YtakepkjcmgcepaaTotals.lean).
  GIVEN WITH THE SEED: the statements are not yours to turn. If you find one false, say at which input.
  Laid BY PROGRAM, IN A SANDBOX (cutbox-rows.mjs): the forced cells as the released guide's own fill.sh prints them over the translation cb6e2941e9fbb87b… (all of the seat's roots in one cut). By AI agents, Wed Nov 11 2026. No macro, syntax, notation, axiom, sorry.
-/
import Derived.Test.YtakepkjcmgcepaaChecked
import GoSem.Claim
import GoSem.ClaimJoined
import GoSem.ClaimMapViews
import Derived.JoinedTies
import Derived.KernelRfl
namespace Go.Proofs.Ytakepkjcmgcepaa
/- THE CELL 'sum', in the pinned program and in every row, IS THE sha256 OF THE DUMP (.gsa) THAT YtakepkjcmgcepaaProg.lean LOADS. Nothing in Lean hashes anything: it is a label: what it is worth is what the hold of that sum in a sandbox is worth. -/
noncomputable def Try.pinned : Pinned := { name := "ytakepkjcmgcepaa", sum := "cb6e2941e9fbb87b276bd733e9414fdd6ed6a29d9e3060b25d4d734566681544", checked := Try.checked }
namespace Rows
def none {H : Type} : Left H := { results := [], args := [] }

/-- 'laws.FnExactIsPlainPlay': WHATEVER THE INPUT: true; the input reads as it did. -/
def fnExactIsPlainPlaySpec : ChangeSpec := { name := "fnExactIsPlainPlay", fn := fun _ => fun
  | [d] => { results := [.lit (.bool true)], args := [d] }
  | _ => none }
def fnExactIsPlainPlayRow : OpenClaim := { program := "ytakepkjcmgcepaa", sum := "cb6e2941e9fbb87b276bd733e9414fdd6ed6a29d9e3060b25d4d734566681544", func := "loop.example/g00854/laws.FnExactIsPlainPlay", spec := "fnExactIsPlainPlay", apart := false }
def FnExactIsPlainPlaySaid : Prop := fnExactIsPlainPlayRow.holds Try.pinned (OpenSpec.ofChange fnExactIsPlainPlaySpec)

/-- ITS FALSE NEIGHBOUR: 'it returns false'. Refute it at one input. -/
def fnExactIsPlainPlayWrong : ChangeSpec := { name := "fnExactIsPlainPlay", fn := fun _ => fun
  | [d] => { results := [.lit (.bool false)], args := [d] }
  | _ => none }
def FnExactIsPlainPlayWrongFalsely : Prop := fnExactIsPlainPlayRow.holds Try.pinned (OpenSpec.ofChange fnExactIsPlainPlayWrong)

/-- 'laws.FnExactWinnerOf': WHATEVER THE INPUT: true; the input reads as it did. -/
def fnExactWinnerOfSpec : ChangeSpec := { name := "fnExactWinnerOf", fn := fun _ => fun
  | [d1, d2, d3] => { results := [.lit (.bool true)], args := [d1, d2, d3] }
  | _ => none }
def fnExactWinnerOfRow : OpenClaim := { program := "ytakepkjcmgcepaa", sum := "cb6e2941e9fbb87b276bd733e9414fdd6ed6a29d9e3060b25d4d734566681544", func := "loop.example/g00854/laws.FnExactWinnerOf", spec := "fnExactWinnerOf", apart := false }
def FnExactWinnerOfSaid : Prop := fnExactWinnerOfRow.holds Try.pinned (OpenSpec.ofChange fnExactWinnerOfSpec)

/-- ITS FALSE NEIGHBOUR: 'it returns false'. Refute it at one input. -/
def fnExactWinnerOfWrong : ChangeSpec := { name := "fnExactWinnerOf", fn := fun _ => fun
  | [d1, d2, d3] => { results := [.lit (.bool false)], args := [d1, d2, d3] }
  | _ => none }
def FnExactWinnerOfWrongFalsely : Prop := fnExactWinnerOfRow.holds Try.pinned (OpenSpec.ofChange fnExactWinnerOfWrong)

/-- 'laws.FnExactTrickLeaders': WHATEVER THE INPUT: true; the input reads as it did. -/
def fnExactTrickLeadersSpec : ChangeSpec := { name := "fnExactTrickLeaders", fn := fun _ => fun
  | [d] => { results := [.lit (.bool true)], args := [d] }
  | _ => none }
def fnExactTrickLeadersRow : OpenClaim := { program := "ytakepkjcmgcepaa", sum := "cb6e2941e9fbb87b276bd733e9414fdd6ed6a29d9e3060b25d4d734566681544", func := "loop.example/g00854/laws.FnExactTrickLeaders", spec := "fnExactTrickLeaders", apart := false }
def FnExactTrickLeadersSaid : Prop := fnExactTrickLeadersRow.holds Try.pinned (OpenSpec.ofChange fnExactTrickLeadersSpec)

/-- ITS FALSE NEIGHBOUR: 'it returns false'. Refute it at one input. -/
def fnExactTrickLeadersWrong : ChangeSpec := { name := "fnExactTrickLeaders", fn := fun _ => fun
  | [d] => { results := [.lit (.bool false)], args := [d] }
  | _ => none }
def FnExactTrickLeadersWrongFalsely : Prop := fnExactTrickLeadersRow.holds Try.pinned (OpenSpec.ofChange fnExactTrickLeadersWrong)

/-- 'laws.FnExactTricksOfSides': WHATEVER THE INPUT: true; the input reads as it did. -/
def fnExactTricksOfSidesSpec : ChangeSpec := { name := "fnExactTricksOfSides", fn := fun _ => fun
  | [d] => { results := [.lit (.bool true)], args := [d] }
  | _ => none }
def fnExactTricksOfSidesRow : OpenClaim := { program := "ytakepkjcmgcepaa", sum := "cb6e2941e9fbb87b276bd733e9414fdd6ed6a29d9e3060b25d4d734566681544", func := "loop.example/g00854/laws.FnExactTricksOfSides", spec := "fnExactTricksOfSides", apart := false }
def FnExactTricksOfSidesSaid : Prop := fnExactTricksOfSidesRow.holds Try.pinned (OpenSpec.ofChange fnExactTricksOfSidesSpec)

/-- ITS FALSE NEIGHBOUR: 'it returns false'. Refute it at one input. -/
def fnExactTricksOfSidesWrong : ChangeSpec := { name := "fnExactTricksOfSides", fn := fun _ => fun
  | [d] => { results := [.lit (.bool false)], args := [d] }
  | _ => none }
def FnExactTricksOfSidesWrongFalsely : Prop := fnExactTricksOfSidesRow.holds Try.pinned (OpenSpec.ofChange fnExactTricksOfSidesWrong)

/-- 'laws.FnExactPlayText': WHATEVER THE INPUT: true; the input reads as it did. -/
def fnExactPlayTextSpec : ChangeSpec := { name := "fnExactPlayText", fn := fun _ => fun
  | [d] => { results := [.lit (.bool true)], args := [d] }
  | _ => none }
def fnExactPlayTextRow : OpenClaim := { program := "ytakepkjcmgcepaa", sum := "cb6e2941e9fbb87b276bd733e9414fdd6ed6a29d9e3060b25d4d734566681544", func := "loop.example/g00854/laws.FnExactPlayText", spec := "fnExactPlayText", inPlace := ["internal/abi.NoEscape", "internal/bytealg.MakeNoZero"], unfollowed := true, recurses := true, apart := false }
def FnExactPlayTextSaid : Prop := fnExactPlayTextRow.holds Try.pinned (OpenSpec.ofChange fnExactPlayTextSpec)

/-- ITS FALSE NEIGHBOUR: 'it returns false'. Refute it at one input. -/
def fnExactPlayTextWrong : ChangeSpec := { name := "fnExactPlayText", fn := fun _ => fun
  | [d] => { results := [.lit (.bool false)], args := [d] }
  | _ => none }
def FnExactPlayTextWrongFalsely : Prop := fnExactPlayTextRow.holds Try.pinned (OpenSpec.ofChange fnExactPlayTextWrong)

/-- 'laws.FnExactIsLoosePlay': WHATEVER THE INPUT: true; the input reads as it did. -/
def fnExactIsLoosePlaySpec : ChangeSpec := { name := "fnExactIsLoosePlay", fn := fun _ => fun
  | [d1, d2] => { results := [.lit (.bool true)], args := [d1, d2] }
  | _ => none }
def fnExactIsLoosePlayRow : OpenClaim := { program := "ytakepkjcmgcepaa", sum := "cb6e2941e9fbb87b276bd733e9414fdd6ed6a29d9e3060b25d4d734566681544", func := "loop.example/g00854/laws.FnExactIsLoosePlay", spec := "fnExactIsLoosePlay", unfollowed := true, recurses := true, apart := false }
def FnExactIsLoosePlaySaid : Prop := fnExactIsLoosePlayRow.holds Try.pinned (OpenSpec.ofChange fnExactIsLoosePlaySpec)

/-- ITS FALSE NEIGHBOUR: 'it returns false'. Refute it at one input. -/
def fnExactIsLoosePlayWrong : ChangeSpec := { name := "fnExactIsLoosePlay", fn := fun _ => fun
  | [d1, d2] => { results := [.lit (.bool false)], args := [d1, d2] }
  | _ => none }
def FnExactIsLoosePlayWrongFalsely : Prop := fnExactIsLoosePlayRow.holds Try.pinned (OpenSpec.ofChange fnExactIsLoosePlayWrong)

/-- 'laws.FnExactIsPlay': WHATEVER THE INPUT: true; the input reads as it did. -/
def fnExactIsPlaySpec : ChangeSpec := { name := "fnExactIsPlay", fn := fun _ => fun
  | [d1, d2] => { results := [.lit (.bool true)], args := [d1, d2] }
  | _ => none }
def fnExactIsPlayRow : OpenClaim := { program := "ytakepkjcmgcepaa", sum := "cb6e2941e9fbb87b276bd733e9414fdd6ed6a29d9e3060b25d4d734566681544", func := "loop.example/g00854/laws.FnExactIsPlay", spec := "fnExactIsPlay", unfollowed := true, recurses := true, apart := false }
def FnExactIsPlaySaid : Prop := fnExactIsPlayRow.holds Try.pinned (OpenSpec.ofChange fnExactIsPlaySpec)

/-- ITS FALSE NEIGHBOUR: 'it returns false'. Refute it at one input. -/
def fnExactIsPlayWrong : ChangeSpec := { name := "fnExactIsPlay", fn := fun _ => fun
  | [d1, d2] => { results := [.lit (.bool false)], args := [d1, d2] }
  | _ => none }
def FnExactIsPlayWrongFalsely : Prop := fnExactIsPlayRow.holds Try.pinned (OpenSpec.ofChange fnExactIsPlayWrong)

/-- 'laws.FnExactTurnOf': WHATEVER THE INPUT: true; the input reads as it did. -/
def fnExactTurnOfSpec : ChangeSpec := { name := "fnExactTurnOf", fn := fun _ => fun
  | [d1, d2] => { results := [.lit (.bool true)], args := [d1, d2] }
  | _ => none }
def fnExactTurnOfRow : OpenClaim := { program := "ytakepkjcmgcepaa", sum := "cb6e2941e9fbb87b276bd733e9414fdd6ed6a29d9e3060b25d4d734566681544", func := "loop.example/g00854/laws.FnExactTurnOf", spec := "fnExactTurnOf", unfollowed := true, recurses := true, apart := false }
def FnExactTurnOfSaid : Prop := fnExactTurnOfRow.holds Try.pinned (OpenSpec.ofChange fnExactTurnOfSpec)

/-- ITS FALSE NEIGHBOUR: 'it returns false'. Refute it at one input. -/
def fnExactTurnOfWrong : ChangeSpec := { name := "fnExactTurnOf", fn := fun _ => fun
  | [d1, d2] => { results := [.lit (.bool false)], args := [d1, d2] }
  | _ => none }
def FnExactTurnOfWrongFalsely : Prop := fnExactTurnOfRow.holds Try.pinned (OpenSpec.ofChange fnExactTurnOfWrong)

/-- 'laws.FnExactIsClaim': WHATEVER THE INPUT: true; the input reads as it did. -/
def fnExactIsClaimSpec : ChangeSpec := { name := "fnExactIsClaim", fn := fun _ => fun
  | [d1, d2, d3] => { results := [.lit (.bool true)], args := [d1, d2, d3] }
  | _ => none }
def fnExactIsClaimRow : OpenClaim := { program := "ytakepkjcmgcepaa", sum := "cb6e2941e9fbb87b276bd733e9414fdd6ed6a29d9e3060b25d4d734566681544", func := "loop.example/g00854/laws.FnExactIsClaim", spec := "fnExactIsClaim", unfollowed := true, recurses := true, apart := false }
def FnExactIsClaimSaid : Prop := fnExactIsClaimRow.holds Try.pinned (OpenSpec.ofChange fnExactIsClaimSpec)

/-- ITS FALSE NEIGHBOUR: 'it returns false'. Refute it at one input. -/
def fnExactIsClaimWrong : ChangeSpec := { name := "fnExactIsClaim", fn := fun _ => fun
  | [d1, d2, d3] => { results := [.lit (.bool false)], args := [d1, d2, d3] }
  | _ => none }
def FnExactIsClaimWrongFalsely : Prop := fnExactIsClaimRow.holds Try.pinned (OpenSpec.ofChange fnExactIsClaimWrong)

/-- 'laws.FnExactLegalCards': WHATEVER THE INPUT: true; the input reads as it did. -/
def fnExactLegalCardsSpec : ChangeSpec := { name := "fnExactLegalCards", fn := fun _ => fun
  | [d1, d2] => { results := [.lit (.bool true)], args := [d1, d2] }
  | _ => none }
def fnExactLegalCardsRow : OpenClaim := { program := "ytakepkjcmgcepaa", sum := "cb6e2941e9fbb87b276bd733e9414fdd6ed6a29d9e3060b25d4d734566681544", func := "loop.example/g00854/laws.FnExactLegalCards", spec := "fnExactLegalCards", unfollowed := true, recurses := true, apart := false }
def FnExactLegalCardsSaid : Prop := fnExactLegalCardsRow.holds Try.pinned (OpenSpec.ofChange fnExactLegalCardsSpec)

/-- ITS FALSE NEIGHBOUR: 'it returns false'. Refute it at one input. -/
def fnExactLegalCardsWrong : ChangeSpec := { name := "fnExactLegalCards", fn := fun _ => fun
  | [d1, d2] => { results := [.lit (.bool false)], args := [d1, d2] }
  | _ => none }
def FnExactLegalCardsWrongFalsely : Prop := fnExactLegalCardsRow.holds Try.pinned (OpenSpec.ofChange fnExactLegalCardsWrong)

/-- 'laws.FnExactIsEstablished': WHATEVER THE INPUT: true; the input reads as it did. -/
def fnExactIsEstablishedSpec : ChangeSpec := { name := "fnExactIsEstablished", fn := fun _ => fun
  | [d1, d2, d3] => { results := [.lit (.bool true)], args := [d1, d2, d3] }
  | _ => none }
def fnExactIsEstablishedRow : OpenClaim := { program := "ytakepkjcmgcepaa", sum := "cb6e2941e9fbb87b276bd733e9414fdd6ed6a29d9e3060b25d4d734566681544", func := "loop.example/g00854/laws.FnExactIsEstablished", spec := "fnExactIsEstablished", unfollowed := true, recurses := true, apart := false }
def FnExactIsEstablishedSaid : Prop := fnExactIsEstablishedRow.holds Try.pinned (OpenSpec.ofChange fnExactIsEstablishedSpec)

/-- ITS FALSE NEIGHBOUR: 'it returns false'. Refute it at one input. -/
def fnExactIsEstablishedWrong : ChangeSpec := { name := "fnExactIsEstablished", fn := fun _ => fun
  | [d1, d2, d3] => { results := [.lit (.bool false)], args := [d1, d2, d3] }
  | _ => none }
def FnExactIsEstablishedWrongFalsely : Prop := fnExactIsEstablishedRow.holds Try.pinned (OpenSpec.ofChange fnExactIsEstablishedWrong)

/-- 'laws.FnExactCardsLeft': WHATEVER THE INPUT: true; the input reads as it did. -/
def fnExactCardsLeftSpec : ChangeSpec := { name := "fnExactCardsLeft", fn := fun _ => fun
  | [d1, d2] => { results := [.lit (.bool true)], args := [d1, d2] }
  | _ => none }
def fnExactCardsLeftRow : OpenClaim := { program := "ytakepkjcmgcepaa", sum := "cb6e2941e9fbb87b276bd733e9414fdd6ed6a29d9e3060b25d4d734566681544", func := "loop.example/g00854/laws.FnExactCardsLeft", spec := "fnExactCardsLeft", unfollowed := true, recurses := true, apart := false }
def FnExactCardsLeftSaid : Prop := fnExactCardsLeftRow.holds Try.pinned (OpenSpec.ofChange fnExactCardsLeftSpec)

/-- ITS FALSE NEIGHBOUR: 'it returns false'. Refute it at one input. -/
def fnExactCardsLeftWrong : ChangeSpec := { name := "fnExactCardsLeft", fn := fun _ => fun
  | [d1, d2] => { results := [.lit (.bool false)], args := [d1, d2] }
  | _ => none }
def FnExactCardsLeftWrongFalsely : Prop := fnExactCardsLeftRow.holds Try.pinned (OpenSpec.ofChange fnExactCardsLeftWrong)

/-- 'laws.FnExactAddCard': WHATEVER THE INPUT: true; the input reads as it did. -/
def fnExactAddCardSpec : ChangeSpec := { name := "fnExactAddCard", fn := fun _ => fun
  | [d1, d2, d3] => { results := [.lit (.bool true)], args := [d1, d2, d3] }
  | _ => none }
def fnExactAddCardRow : OpenClaim := { program := "ytakepkjcmgcepaa", sum := "cb6e2941e9fbb87b276bd733e9414fdd6ed6a29d9e3060b25d4d734566681544", func := "loop.example/g00854/laws.FnExactAddCard", spec := "fnExactAddCard", unfollowed := true, recurses := true, apart := false }
def FnExactAddCardSaid : Prop := fnExactAddCardRow.holds Try.pinned (OpenSpec.ofChange fnExactAddCardSpec)

/-- ITS FALSE NEIGHBOUR: 'it returns false'. Refute it at one input. -/
def fnExactAddCardWrong : ChangeSpec := { name := "fnExactAddCard", fn := fun _ => fun
  | [d1, d2, d3] => { results := [.lit (.bool false)], args := [d1, d2, d3] }
  | _ => none }
def FnExactAddCardWrongFalsely : Prop := fnExactAddCardRow.holds Try.pinned (OpenSpec.ofChange fnExactAddCardWrong)

/-- 'laws.FnExactLeastTricks': WHATEVER THE INPUT: true; the input reads as it did. -/
def fnExactLeastTricksSpec : ChangeSpec := { name := "fnExactLeastTricks", fn := fun _ => fun
  | [d1, d2, d3] => { results := [.lit (.bool true)], args := [d1, d2, d3] }
  | _ => none }
def fnExactLeastTricksRow : OpenClaim := { program := "ytakepkjcmgcepaa", sum := "cb6e2941e9fbb87b276bd733e9414fdd6ed6a29d9e3060b25d4d734566681544", func := "loop.example/g00854/laws.FnExactLeastTricks", spec := "fnExactLeastTricks", unfollowed := true, recurses := true, apart := false }
def FnExactLeastTricksSaid : Prop := fnExactLeastTricksRow.holds Try.pinned (OpenSpec.ofChange fnExactLeastTricksSpec)

/-- ITS FALSE NEIGHBOUR: 'it returns false'. Refute it at one input. -/
def fnExactLeastTricksWrong : ChangeSpec := { name := "fnExactLeastTricks", fn := fun _ => fun
  | [d1, d2, d3] => { results := [.lit (.bool false)], args := [d1, d2, d3] }
  | _ => none }
def FnExactLeastTricksWrongFalsely : Prop := fnExactLeastTricksRow.holds Try.pinned (OpenSpec.ofChange fnExactLeastTricksWrong)

/-- 'laws.FnExactClaimTotals': WHATEVER THE INPUT: true; the input reads as it did. -/
def fnExactClaimTotalsSpec : ChangeSpec := { name := "fnExactClaimTotals", fn := fun _ => fun
  | [d1, d2, d3] => { results := [.lit (.bool true)], args := [d1, d2, d3] }
  | _ => none }
def fnExactClaimTotalsRow : OpenClaim := { program := "ytakepkjcmgcepaa", sum := "cb6e2941e9fbb87b276bd733e9414fdd6ed6a29d9e3060b25d4d734566681544", func := "loop.example/g00854/laws.FnExactClaimTotals", spec := "fnExactClaimTotals", unfollowed := true, recurses := true, apart := false }
def FnExactClaimTotalsSaid : Prop := fnExactClaimTotalsRow.holds Try.pinned (OpenSpec.ofChange fnExactClaimTotalsSpec)

/-- ITS FALSE NEIGHBOUR: 'it returns false'. Refute it at one input. -/
def fnExactClaimTotalsWrong : ChangeSpec := { name := "fnExactClaimTotals", fn := fun _ => fun
  | [d1, d2, d3] => { results := [.lit (.bool false)], args := [d1, d2, d3] }
  | _ => none }
def FnExactClaimTotalsWrongFalsely : Prop := fnExactClaimTotalsRow.holds Try.pinned (OpenSpec.ofChange fnExactClaimTotalsWrong)

/-- 'laws.FnExactClaimHolds': WHATEVER THE INPUT: true; the input reads as it did. -/
def fnExactClaimHoldsSpec : ChangeSpec := { name := "fnExactClaimHolds", fn := fun _ => fun
  | [d1, d2, d3] => { results := [.lit (.bool true)], args := [d1, d2, d3] }
  | _ => none }
def fnExactClaimHoldsRow : OpenClaim := { program := "ytakepkjcmgcepaa", sum := "cb6e2941e9fbb87b276bd733e9414fdd6ed6a29d9e3060b25d4d734566681544", func := "loop.example/g00854/laws.FnExactClaimHolds", spec := "fnExactClaimHolds", unfollowed := true, recurses := true, apart := false }
def FnExactClaimHoldsSaid : Prop := fnExactClaimHoldsRow.holds Try.pinned (OpenSpec.ofChange fnExactClaimHoldsSpec)

/-- ITS FALSE NEIGHBOUR: 'it returns false'. Refute it at one input. -/
def fnExactClaimHoldsWrong : ChangeSpec := { name := "fnExactClaimHolds", fn := fun _ => fun
  | [d1, d2, d3] => { results := [.lit (.bool false)], args := [d1, d2, d3] }
  | _ => none }
def FnExactClaimHoldsWrongFalsely : Prop := fnExactClaimHoldsRow.holds Try.pinned (OpenSpec.ofChange fnExactClaimHoldsWrong)

/-- 'laws.FnExactRevokesOf': WHATEVER THE INPUT: true; the input reads as it did. -/
def fnExactRevokesOfSpec : ChangeSpec := { name := "fnExactRevokesOf", fn := fun _ => fun
  | [d1, d2] => { results := [.lit (.bool true)], args := [d1, d2] }
  | _ => none }
def fnExactRevokesOfRow : OpenClaim := { program := "ytakepkjcmgcepaa", sum := "cb6e2941e9fbb87b276bd733e9414fdd6ed6a29d9e3060b25d4d734566681544", func := "loop.example/g00854/laws.FnExactRevokesOf", spec := "fnExactRevokesOf", unfollowed := true, recurses := true, apart := false }
def FnExactRevokesOfSaid : Prop := fnExactRevokesOfRow.holds Try.pinned (OpenSpec.ofChange fnExactRevokesOfSpec)

/-- ITS FALSE NEIGHBOUR: 'it returns false'. Refute it at one input. -/
def fnExactRevokesOfWrong : ChangeSpec := { name := "fnExactRevokesOf", fn := fun _ => fun
  | [d1, d2] => { results := [.lit (.bool false)], args := [d1, d2] }
  | _ => none }
def FnExactRevokesOfWrongFalsely : Prop := fnExactRevokesOfRow.holds Try.pinned (OpenSpec.ofChange fnExactRevokesOfWrong)

/-- 'laws.FnExactTransfersOf': WHATEVER THE INPUT: true; the input reads as it did. -/
def fnExactTransfersOfSpec : ChangeSpec := { name := "fnExactTransfersOf", fn := fun _ => fun
  | [d1, d2] => { results := [.lit (.bool true)], args := [d1, d2] }
  | _ => none }
def fnExactTransfersOfRow : OpenClaim := { program := "ytakepkjcmgcepaa", sum := "cb6e2941e9fbb87b276bd733e9414fdd6ed6a29d9e3060b25d4d734566681544", func := "loop.example/g00854/laws.FnExactTransfersOf", spec := "fnExactTransfersOf", unfollowed := true, recurses := true, apart := false }
def FnExactTransfersOfSaid : Prop := fnExactTransfersOfRow.holds Try.pinned (OpenSpec.ofChange fnExactTransfersOfSpec)

/-- ITS FALSE NEIGHBOUR: 'it returns false'. Refute it at one input. -/
def fnExactTransfersOfWrong : ChangeSpec := { name := "fnExactTransfersOf", fn := fun _ => fun
  | [d1, d2] => { results := [.lit (.bool false)], args := [d1, d2] }
  | _ => none }
def FnExactTransfersOfWrongFalsely : Prop := fnExactTransfersOfRow.holds Try.pinned (OpenSpec.ofChange fnExactTransfersOfWrong)

/-- 'laws.FnExactAdjustedTricks': WHATEVER THE INPUT: true; the input reads as it did. -/
def fnExactAdjustedTricksSpec : ChangeSpec := { name := "fnExactAdjustedTricks", fn := fun _ => fun
  | [d1, d2] => { results := [.lit (.bool true)], args := [d1, d2] }
  | _ => none }
def fnExactAdjustedTricksRow : OpenClaim := { program := "ytakepkjcmgcepaa", sum := "cb6e2941e9fbb87b276bd733e9414fdd6ed6a29d9e3060b25d4d734566681544", func := "loop.example/g00854/laws.FnExactAdjustedTricks", spec := "fnExactAdjustedTricks", unfollowed := true, recurses := true, apart := false }
def FnExactAdjustedTricksSaid : Prop := fnExactAdjustedTricksRow.holds Try.pinned (OpenSpec.ofChange fnExactAdjustedTricksSpec)

/-- ITS FALSE NEIGHBOUR: 'it returns false'. Refute it at one input. -/
def fnExactAdjustedTricksWrong : ChangeSpec := { name := "fnExactAdjustedTricks", fn := fun _ => fun
  | [d1, d2] => { results := [.lit (.bool false)], args := [d1, d2] }
  | _ => none }
def FnExactAdjustedTricksWrongFalsely : Prop := fnExactAdjustedTricksRow.holds Try.pinned (OpenSpec.ofChange fnExactAdjustedTricksWrong)

/- THE SECOND FORM. 'bulk': how many values and letters a reading holds, each counted each time it is reached (what is shared counts as often as it is met; a slice's spare places count too). A statement '..UptoSaid' is the law's where the arguments, and the package variables that the reading takes, are together of bulk at most 1048576: NARROWER than '..Said'. Prove '..Said' where nothing that the law and all that it calls make is longer than what came in: it says more and counts as full. Else prove '..UptoSaid'. A law counts once. -/
mutual
def uptoBulk {H : Type} : DataW H → Nat
  | .lit (.string bytes) => bytes.length + 1
  | .lit _ => 1
  | .nil => 1
  | .ptr d => uptoBulk d + 1
  | .slice elems spare => uptoBulkAll elems + uptoBulkAll spare + 1
  | .agg parts => uptoBulkAll parts + 1
  | .iface _ d => uptoBulk d + 1
  | .map entries => uptoBulkEntries entries + 1
  | .held _ => 1
def uptoBulkAll {H : Type} : List (DataW H) → Nat
  | [] => 0
  | d :: r => uptoBulk d + uptoBulkAll r
def uptoBulkEntries {H : Type} : List (Lit × DataW H) → Nat
  | [] => 0
  | x :: r => uptoBulkEntry x + uptoBulkEntries r
def uptoBulkEntry {H : Type} : Lit × DataW H → Nat
  | (.string bytes, d) => bytes.length + uptoBulk d + 1
  | (_, d) => uptoBulk d + 1
 end
def uptoSmall : (H : Type) → List (DataW H) → Bool := fun _ ds => decide (uptoBulkAll ds ≤ 1048576)
def OpenSpec.upto (s : _root_.Go.ChangeSpec) : _root_.Go.OpenSpec := { _root_.Go.OpenSpec.ofChange s with cond := some uptoSmall }

/-- 'laws.FnExactIsPlainPlay', WHERE WHAT IT READS IS OF BULK AT MOST 1048576: true; the input reads as it did. -/
def fnExactIsPlainPlayUptoRow : OpenClaim := { program := "ytakepkjcmgcepaa", sum := "cb6e2941e9fbb87b276bd733e9414fdd6ed6a29d9e3060b25d4d734566681544", func := "loop.example/g00854/laws.FnExactIsPlainPlay", spec := "fnExactIsPlainPlay", apart := false, narrowed := true }
def FnExactIsPlainPlayUptoSaid : Prop := fnExactIsPlainPlayUptoRow.holds Try.pinned (OpenSpec.upto fnExactIsPlainPlaySpec)

/-- 'laws.FnExactWinnerOf', WHERE WHAT IT READS IS OF BULK AT MOST 1048576: true; the input reads as it did. -/
def fnExactWinnerOfUptoRow : OpenClaim := { program := "ytakepkjcmgcepaa", sum := "cb6e2941e9fbb87b276bd733e9414fdd6ed6a29d9e3060b25d4d734566681544", func := "loop.example/g00854/laws.FnExactWinnerOf", spec := "fnExactWinnerOf", apart := false, narrowed := true }
def FnExactWinnerOfUptoSaid : Prop := fnExactWinnerOfUptoRow.holds Try.pinned (OpenSpec.upto fnExactWinnerOfSpec)

/-- 'laws.FnExactTrickLeaders', WHERE WHAT IT READS IS OF BULK AT MOST 1048576: true; the input reads as it did. -/
def fnExactTrickLeadersUptoRow : OpenClaim := { program := "ytakepkjcmgcepaa", sum := "cb6e2941e9fbb87b276bd733e9414fdd6ed6a29d9e3060b25d4d734566681544", func := "loop.example/g00854/laws.FnExactTrickLeaders", spec := "fnExactTrickLeaders", apart := false, narrowed := true }
def FnExactTrickLeadersUptoSaid : Prop := fnExactTrickLeadersUptoRow.holds Try.pinned (OpenSpec.upto fnExactTrickLeadersSpec)

/-- 'laws.FnExactTricksOfSides', WHERE WHAT IT READS IS OF BULK AT MOST 1048576: true; the input reads as it did. -/
def fnExactTricksOfSidesUptoRow : OpenClaim := { program := "ytakepkjcmgcepaa", sum := "cb6e2941e9fbb87b276bd733e9414fdd6ed6a29d9e3060b25d4d734566681544", func := "loop.example/g00854/laws.FnExactTricksOfSides", spec := "fnExactTricksOfSides", apart := false, narrowed := true }
def FnExactTricksOfSidesUptoSaid : Prop := fnExactTricksOfSidesUptoRow.holds Try.pinned (OpenSpec.upto fnExactTricksOfSidesSpec)

/-- 'laws.FnExactPlayText', WHERE WHAT IT READS IS OF BULK AT MOST 1048576: true; the input reads as it did. -/
def fnExactPlayTextUptoRow : OpenClaim := { program := "ytakepkjcmgcepaa", sum := "cb6e2941e9fbb87b276bd733e9414fdd6ed6a29d9e3060b25d4d734566681544", func := "loop.example/g00854/laws.FnExactPlayText", spec := "fnExactPlayText", inPlace := ["internal/abi.NoEscape", "internal/bytealg.MakeNoZero"], unfollowed := true, recurses := true, apart := false, narrowed := true }
def FnExactPlayTextUptoSaid : Prop := fnExactPlayTextUptoRow.holds Try.pinned (OpenSpec.upto fnExactPlayTextSpec)

/-- 'laws.FnExactIsLoosePlay', WHERE WHAT IT READS IS OF BULK AT MOST 1048576: true; the input reads as it did. -/
def fnExactIsLoosePlayUptoRow : OpenClaim := { program := "ytakepkjcmgcepaa", sum := "cb6e2941e9fbb87b276bd733e9414fdd6ed6a29d9e3060b25d4d734566681544", func := "loop.example/g00854/laws.FnExactIsLoosePlay", spec := "fnExactIsLoosePlay", unfollowed := true, recurses := true, apart := false, narrowed := true }
def FnExactIsLoosePlayUptoSaid : Prop := fnExactIsLoosePlayUptoRow.holds Try.pinned (OpenSpec.upto fnExactIsLoosePlaySpec)

/-- 'laws.FnExactIsPlay', WHERE WHAT IT READS IS OF BULK AT MOST 1048576: true; the input reads as it did. -/
def fnExactIsPlayUptoRow : OpenClaim := { program := "ytakepkjcmgcepaa", sum := "cb6e2941e9fbb87b276bd733e9414fdd6ed6a29d9e3060b25d4d734566681544", func := "loop.example/g00854/laws.FnExactIsPlay", spec := "fnExactIsPlay", unfollowed := true, recurses := true, apart := false, narrowed := true }
def FnExactIsPlayUptoSaid : Prop := fnExactIsPlayUptoRow.holds Try.pinned (OpenSpec.upto fnExactIsPlaySpec)

/-- 'laws.FnExactTurnOf', WHERE WHAT IT READS IS OF BULK AT MOST 1048576: true; the input reads as it did. -/
def fnExactTurnOfUptoRow : OpenClaim := { program := "ytakepkjcmgcepaa", sum := "cb6e2941e9fbb87b276bd733e9414fdd6ed6a29d9e3060b25d4d734566681544", func := "loop.example/g00854/laws.FnExactTurnOf", spec := "fnExactTurnOf", unfollowed := true, recurses := true, apart := false, narrowed := true }
def FnExactTurnOfUptoSaid : Prop := fnExactTurnOfUptoRow.holds Try.pinned (OpenSpec.upto fnExactTurnOfSpec)

/-- 'laws.FnExactIsClaim', WHERE WHAT IT READS IS OF BULK AT MOST 1048576: true; the input reads as it did. -/
def fnExactIsClaimUptoRow : OpenClaim := { program := "ytakepkjcmgcepaa", sum := "cb6e2941e9fbb87b276bd733e9414fdd6ed6a29d9e3060b25d4d734566681544", func := "loop.example/g00854/laws.FnExactIsClaim", spec := "fnExactIsClaim", unfollowed := true, recurses := true, apart := false, narrowed := true }
def FnExactIsClaimUptoSaid : Prop := fnExactIsClaimUptoRow.holds Try.pinned (OpenSpec.upto fnExactIsClaimSpec)

/-- 'laws.FnExactLegalCards', WHERE WHAT IT READS IS OF BULK AT MOST 1048576: true; the input reads as it did. -/
def fnExactLegalCardsUptoRow : OpenClaim := { program := "ytakepkjcmgcepaa", sum := "cb6e2941e9fbb87b276bd733e9414fdd6ed6a29d9e3060b25d4d734566681544", func := "loop.example/g00854/laws.FnExactLegalCards", spec := "fnExactLegalCards", unfollowed := true, recurses := true, apart := false, narrowed := true }
def FnExactLegalCardsUptoSaid : Prop := fnExactLegalCardsUptoRow.holds Try.pinned (OpenSpec.upto fnExactLegalCardsSpec)

/-- 'laws.FnExactIsEstablished', WHERE WHAT IT READS IS OF BULK AT MOST 1048576: true; the input reads as it did. -/
def fnExactIsEstablishedUptoRow : OpenClaim := { program := "ytakepkjcmgcepaa", sum := "cb6e2941e9fbb87b276bd733e9414fdd6ed6a29d9e3060b25d4d734566681544", func := "loop.example/g00854/laws.FnExactIsEstablished", spec := "fnExactIsEstablished", unfollowed := true, recurses := true, apart := false, narrowed := true }
def FnExactIsEstablishedUptoSaid : Prop := fnExactIsEstablishedUptoRow.holds Try.pinned (OpenSpec.upto fnExactIsEstablishedSpec)

/-- 'laws.FnExactCardsLeft', WHERE WHAT IT READS IS OF BULK AT MOST 1048576: true; the input reads as it did. -/
def fnExactCardsLeftUptoRow : OpenClaim := { program := "ytakepkjcmgcepaa", sum := "cb6e2941e9fbb87b276bd733e9414fdd6ed6a29d9e3060b25d4d734566681544", func := "loop.example/g00854/laws.FnExactCardsLeft", spec := "fnExactCardsLeft", unfollowed := true, recurses := true, apart := false, narrowed := true }
def FnExactCardsLeftUptoSaid : Prop := fnExactCardsLeftUptoRow.holds Try.pinned (OpenSpec.upto fnExactCardsLeftSpec)

/-- 'laws.FnExactAddCard', WHERE WHAT IT READS IS OF BULK AT MOST 1048576: true; the input reads as it did. -/
def fnExactAddCardUptoRow : OpenClaim := { program := "ytakepkjcmgcepaa", sum := "cb6e2941e9fbb87b276bd733e9414fdd6ed6a29d9e3060b25d4d734566681544", func := "loop.example/g00854/laws.FnExactAddCard", spec := "fnExactAddCard", unfollowed := true, recurses := true, apart := false, narrowed := true }
def FnExactAddCardUptoSaid : Prop := fnExactAddCardUptoRow.holds Try.pinned (OpenSpec.upto fnExactAddCardSpec)

/-- 'laws.FnExactLeastTricks', WHERE WHAT IT READS IS OF BULK AT MOST 1048576: true; the input reads as it did. -/
def fnExactLeastTricksUptoRow : OpenClaim := { program := "ytakepkjcmgcepaa", sum := "cb6e2941e9fbb87b276bd733e9414fdd6ed6a29d9e3060b25d4d734566681544", func := "loop.example/g00854/laws.FnExactLeastTricks", spec := "fnExactLeastTricks", unfollowed := true, recurses := true, apart := false, narrowed := true }
def FnExactLeastTricksUptoSaid : Prop := fnExactLeastTricksUptoRow.holds Try.pinned (OpenSpec.upto fnExactLeastTricksSpec)

/-- 'laws.FnExactClaimTotals', WHERE WHAT IT READS IS OF BULK AT MOST 1048576: true; the input reads as it did. -/
def fnExactClaimTotalsUptoRow : OpenClaim := { program := "ytakepkjcmgcepaa", sum := "cb6e2941e9fbb87b276bd733e9414fdd6ed6a29d9e3060b25d4d734566681544", func := "loop.example/g00854/laws.FnExactClaimTotals", spec := "fnExactClaimTotals", unfollowed := true, recurses := true, apart := false, narrowed := true }
def FnExactClaimTotalsUptoSaid : Prop := fnExactClaimTotalsUptoRow.holds Try.pinned (OpenSpec.upto fnExactClaimTotalsSpec)

/-- 'laws.FnExactClaimHolds', WHERE WHAT IT READS IS OF BULK AT MOST 1048576: true; the input reads as it did. -/
def fnExactClaimHoldsUptoRow : OpenClaim := { program := "ytakepkjcmgcepaa", sum := "cb6e2941e9fbb87b276bd733e9414fdd6ed6a29d9e3060b25d4d734566681544", func := "loop.example/g00854/laws.FnExactClaimHolds", spec := "fnExactClaimHolds", unfollowed := true, recurses := true, apart := false, narrowed := true }
def FnExactClaimHoldsUptoSaid : Prop := fnExactClaimHoldsUptoRow.holds Try.pinned (OpenSpec.upto fnExactClaimHoldsSpec)

/-- 'laws.FnExactRevokesOf', WHERE WHAT IT READS IS OF BULK AT MOST 1048576: true; the input reads as it did. -/
def fnExactRevokesOfUptoRow : OpenClaim := { program := "ytakepkjcmgcepaa", sum := "cb6e2941e9fbb87b276bd733e9414fdd6ed6a29d9e3060b25d4d734566681544", func := "loop.example/g00854/laws.FnExactRevokesOf", spec := "fnExactRevokesOf", unfollowed := true, recurses := true, apart := false, narrowed := true }
def FnExactRevokesOfUptoSaid : Prop := fnExactRevokesOfUptoRow.holds Try.pinned (OpenSpec.upto fnExactRevokesOfSpec)

/-- 'laws.FnExactTransfersOf', WHERE WHAT IT READS IS OF BULK AT MOST 1048576: true; the input reads as it did. -/
def fnExactTransfersOfUptoRow : OpenClaim := { program := "ytakepkjcmgcepaa", sum := "cb6e2941e9fbb87b276bd733e9414fdd6ed6a29d9e3060b25d4d734566681544", func := "loop.example/g00854/laws.FnExactTransfersOf", spec := "fnExactTransfersOf", unfollowed := true, recurses := true, apart := false, narrowed := true }
def FnExactTransfersOfUptoSaid : Prop := fnExactTransfersOfUptoRow.holds Try.pinned (OpenSpec.upto fnExactTransfersOfSpec)

/-- 'laws.FnExactAdjustedTricks', WHERE WHAT IT READS IS OF BULK AT MOST 1048576: true; the input reads as it did. -/
def fnExactAdjustedTricksUptoRow : OpenClaim := { program := "ytakepkjcmgcepaa", sum := "cb6e2941e9fbb87b276bd733e9414fdd6ed6a29d9e3060b25d4d734566681544", func := "loop.example/g00854/laws.FnExactAdjustedTricks", spec := "fnExactAdjustedTricks", unfollowed := true, recurses := true, apart := false, narrowed := true }
def FnExactAdjustedTricksUptoSaid : Prop := fnExactAdjustedTricksUptoRow.holds Try.pinned (OpenSpec.upto fnExactAdjustedTricksSpec)

end Rows
end Go.Proofs.Ytakepkjcmgcepaa
