/-
  No cell of these rows narrows 'for every input' (looked for: loops, veiled, ifaces, maps, wideKeys, modest, calm, conditions, laid).
  DERIVED. THE GIVEN ROWS OF THIS SEAT. 9 by the template 'for every input the law returns true; each argument reads behind the call as it read before'; 0 by the template 'total and deterministic' (their statements: YtnkdjddnppajaaaTotals.lean).
  GIVEN WITH THE SEED: the statements are not yours to turn. If you find one false, say at which input.
  Laid BY PROGRAM, IN A SANDBOX (cutbox-rows.mjs): the forced cells as the released guide's own fill.sh prints them over the translation f1554aa86026739b… (all of the seat's roots in one cut). By AI agents, Wed Nov 11 2026. No macro, syntax, notation, axiom, sorry.
-/
import Derived.Test.YtnkdjddnppajaaaChecked
import GoSem.Claim
import GoSem.ClaimJoined
import GoSem.ClaimMapViews
import Derived.JoinedTies
import Derived.KernelRfl
namespace Go.Proofs.Ytnkdjddnppajaaa
/- THE CELL 'sum', in the pinned program and in every row, IS THE sha256 OF THE DUMP (.gsa) THAT YtnkdjddnppajaaaProg.lean LOADS. Nothing in Lean hashes anything: it is a label: what it is worth is what the hold of that sum in a sandbox is worth. -/
noncomputable def Try.pinned : Pinned := { name := "ytnkdjddnppajaaa", sum := "f1554aa86026739b78a7f61f43b32d1c9e2b185fe24769199830f745bd9e9c20", checked := Try.checked }
namespace Rows
def none {H : Type} : Left H := { results := [], args := [] }

/-- 'laws.FnExactImpsOf': WHATEVER THE INPUT: true; the input reads as it did. -/
def fnExactImpsOfSpec : ChangeSpec := { name := "fnExactImpsOf", fn := fun _ => fun
  | [d] => { results := [.lit (.bool true)], args := [d] }
  | _ => none }
def fnExactImpsOfRow : OpenClaim := { program := "ytnkdjddnppajaaa", sum := "f1554aa86026739b78a7f61f43b32d1c9e2b185fe24769199830f745bd9e9c20", func := "loop.example/g00854/laws.FnExactImpsOf", spec := "fnExactImpsOf", apart := false }
def FnExactImpsOfSaid : Prop := fnExactImpsOfRow.holds Try.pinned (OpenSpec.ofChange fnExactImpsOfSpec)

/-- ITS FALSE NEIGHBOUR: 'it returns false'. Refute it at one input. -/
def fnExactImpsOfWrong : ChangeSpec := { name := "fnExactImpsOf", fn := fun _ => fun
  | [d] => { results := [.lit (.bool false)], args := [d] }
  | _ => none }
def FnExactImpsOfWrongFalsely : Prop := fnExactImpsOfRow.holds Try.pinned (OpenSpec.ofChange fnExactImpsOfWrong)

/-- 'laws.FnExactIsFraction': WHATEVER THE INPUT: true; the input reads as it did. -/
def fnExactIsFractionSpec : ChangeSpec := { name := "fnExactIsFraction", fn := fun _ => fun
  | [d] => { results := [.lit (.bool true)], args := [d] }
  | _ => none }
def fnExactIsFractionRow : OpenClaim := { program := "ytnkdjddnppajaaa", sum := "f1554aa86026739b78a7f61f43b32d1c9e2b185fe24769199830f745bd9e9c20", func := "loop.example/g00854/laws.FnExactIsFraction", spec := "fnExactIsFraction", apart := false }
def FnExactIsFractionSaid : Prop := fnExactIsFractionRow.holds Try.pinned (OpenSpec.ofChange fnExactIsFractionSpec)

/-- ITS FALSE NEIGHBOUR: 'it returns false'. Refute it at one input. -/
def fnExactIsFractionWrong : ChangeSpec := { name := "fnExactIsFraction", fn := fun _ => fun
  | [d] => { results := [.lit (.bool false)], args := [d] }
  | _ => none }
def FnExactIsFractionWrongFalsely : Prop := fnExactIsFractionRow.holds Try.pinned (OpenSpec.ofChange fnExactIsFractionWrong)

/-- 'laws.FnExactVictoryPoints': WHATEVER THE INPUT: true; the input reads as it did. -/
def fnExactVictoryPointsSpec : ChangeSpec := { name := "fnExactVictoryPoints", fn := fun _ => fun
  | [d1, d2] => { results := [.lit (.bool true)], args := [d1, d2] }
  | _ => none }
def fnExactVictoryPointsRow : OpenClaim := { program := "ytnkdjddnppajaaa", sum := "f1554aa86026739b78a7f61f43b32d1c9e2b185fe24769199830f745bd9e9c20", func := "loop.example/g00854/laws.FnExactVictoryPoints", spec := "fnExactVictoryPoints", apart := false }
def FnExactVictoryPointsSaid : Prop := fnExactVictoryPointsRow.holds Try.pinned (OpenSpec.ofChange fnExactVictoryPointsSpec)

/-- ITS FALSE NEIGHBOUR: 'it returns false'. Refute it at one input. -/
def fnExactVictoryPointsWrong : ChangeSpec := { name := "fnExactVictoryPoints", fn := fun _ => fun
  | [d1, d2] => { results := [.lit (.bool false)], args := [d1, d2] }
  | _ => none }
def FnExactVictoryPointsWrongFalsely : Prop := fnExactVictoryPointsRow.holds Try.pinned (OpenSpec.ofChange fnExactVictoryPointsWrong)

/-- 'laws.FnVictory': WHATEVER THE INPUT: true; the input reads as it did. -/
def fnVictorySpec : ChangeSpec := { name := "fnVictory", fn := fun _ => fun
  | [d] => { results := [.lit (.bool true)], args := [d] }
  | _ => none }
def fnVictoryRow : OpenClaim := { program := "ytnkdjddnppajaaa", sum := "f1554aa86026739b78a7f61f43b32d1c9e2b185fe24769199830f745bd9e9c20", func := "loop.example/g00854/laws.FnVictory", spec := "fnVictory", apart := false }
def FnVictorySaid : Prop := fnVictoryRow.holds Try.pinned (OpenSpec.ofChange fnVictorySpec)

/-- ITS FALSE NEIGHBOUR: 'it returns false'. Refute it at one input. -/
def fnVictoryWrong : ChangeSpec := { name := "fnVictory", fn := fun _ => fun
  | [d] => { results := [.lit (.bool false)], args := [d] }
  | _ => none }
def FnVictoryWrongFalsely : Prop := fnVictoryRow.holds Try.pinned (OpenSpec.ofChange fnVictoryWrong)

/-- 'laws.FnExactCompareFractions': WHATEVER THE INPUT: true; the input reads as it did. -/
def fnExactCompareFractionsSpec : ChangeSpec := { name := "fnExactCompareFractions", fn := fun _ => fun
  | [d1, d2] => { results := [.lit (.bool true)], args := [d1, d2] }
  | _ => none }
def fnExactCompareFractionsRow : OpenClaim := { program := "ytnkdjddnppajaaa", sum := "f1554aa86026739b78a7f61f43b32d1c9e2b185fe24769199830f745bd9e9c20", func := "loop.example/g00854/laws.FnExactCompareFractions", spec := "fnExactCompareFractions", apart := false }
def FnExactCompareFractionsSaid : Prop := fnExactCompareFractionsRow.holds Try.pinned (OpenSpec.ofChange fnExactCompareFractionsSpec)

/-- ITS FALSE NEIGHBOUR: 'it returns false'. Refute it at one input. -/
def fnExactCompareFractionsWrong : ChangeSpec := { name := "fnExactCompareFractions", fn := fun _ => fun
  | [d1, d2] => { results := [.lit (.bool false)], args := [d1, d2] }
  | _ => none }
def FnExactCompareFractionsWrongFalsely : Prop := fnExactCompareFractionsRow.holds Try.pinned (OpenSpec.ofChange fnExactCompareFractionsWrong)

/-- 'laws.FnExactMakeFraction': WHATEVER THE INPUT: true; the input reads as it did. -/
def fnExactMakeFractionSpec : ChangeSpec := { name := "fnExactMakeFraction", fn := fun _ => fun
  | [d1, d2] => { results := [.lit (.bool true)], args := [d1, d2] }
  | _ => none }
def fnExactMakeFractionRow : OpenClaim := { program := "ytnkdjddnppajaaa", sum := "f1554aa86026739b78a7f61f43b32d1c9e2b185fe24769199830f745bd9e9c20", func := "loop.example/g00854/laws.FnExactMakeFraction", spec := "fnExactMakeFraction", apart := false }
def FnExactMakeFractionSaid : Prop := fnExactMakeFractionRow.holds Try.pinned (OpenSpec.ofChange fnExactMakeFractionSpec)

/-- ITS FALSE NEIGHBOUR: 'it returns false'. Refute it at one input. -/
def fnExactMakeFractionWrong : ChangeSpec := { name := "fnExactMakeFraction", fn := fun _ => fun
  | [d1, d2] => { results := [.lit (.bool false)], args := [d1, d2] }
  | _ => none }
def FnExactMakeFractionWrongFalsely : Prop := fnExactMakeFractionRow.holds Try.pinned (OpenSpec.ofChange fnExactMakeFractionWrong)

/-- 'laws.FnExactAddFractions': WHATEVER THE INPUT: true; the input reads as it did. -/
def fnExactAddFractionsSpec : ChangeSpec := { name := "fnExactAddFractions", fn := fun _ => fun
  | [d1, d2] => { results := [.lit (.bool true)], args := [d1, d2] }
  | _ => none }
def fnExactAddFractionsRow : OpenClaim := { program := "ytnkdjddnppajaaa", sum := "f1554aa86026739b78a7f61f43b32d1c9e2b185fe24769199830f745bd9e9c20", func := "loop.example/g00854/laws.FnExactAddFractions", spec := "fnExactAddFractions", apart := false }
def FnExactAddFractionsSaid : Prop := fnExactAddFractionsRow.holds Try.pinned (OpenSpec.ofChange fnExactAddFractionsSpec)

/-- ITS FALSE NEIGHBOUR: 'it returns false'. Refute it at one input. -/
def fnExactAddFractionsWrong : ChangeSpec := { name := "fnExactAddFractions", fn := fun _ => fun
  | [d1, d2] => { results := [.lit (.bool false)], args := [d1, d2] }
  | _ => none }
def FnExactAddFractionsWrongFalsely : Prop := fnExactAddFractionsRow.holds Try.pinned (OpenSpec.ofChange fnExactAddFractionsWrong)

/-- 'laws.FnExactTimesFraction': WHATEVER THE INPUT: true; the input reads as it did. -/
def fnExactTimesFractionSpec : ChangeSpec := { name := "fnExactTimesFraction", fn := fun _ => fun
  | [d1, d2] => { results := [.lit (.bool true)], args := [d1, d2] }
  | _ => none }
def fnExactTimesFractionRow : OpenClaim := { program := "ytnkdjddnppajaaa", sum := "f1554aa86026739b78a7f61f43b32d1c9e2b185fe24769199830f745bd9e9c20", func := "loop.example/g00854/laws.FnExactTimesFraction", spec := "fnExactTimesFraction", apart := false }
def FnExactTimesFractionSaid : Prop := fnExactTimesFractionRow.holds Try.pinned (OpenSpec.ofChange fnExactTimesFractionSpec)

/-- ITS FALSE NEIGHBOUR: 'it returns false'. Refute it at one input. -/
def fnExactTimesFractionWrong : ChangeSpec := { name := "fnExactTimesFraction", fn := fun _ => fun
  | [d1, d2] => { results := [.lit (.bool false)], args := [d1, d2] }
  | _ => none }
def FnExactTimesFractionWrongFalsely : Prop := fnExactTimesFractionRow.holds Try.pinned (OpenSpec.ofChange fnExactTimesFractionWrong)

/-- 'laws.FnFractions': WHATEVER THE INPUT: true; the input reads as it did. -/
def fnFractionsSpec : ChangeSpec := { name := "fnFractions", fn := fun _ => fun
  | [d] => { results := [.lit (.bool true)], args := [d] }
  | _ => none }
def fnFractionsRow : OpenClaim := { program := "ytnkdjddnppajaaa", sum := "f1554aa86026739b78a7f61f43b32d1c9e2b185fe24769199830f745bd9e9c20", func := "loop.example/g00854/laws.FnFractions", spec := "fnFractions", apart := false }
def FnFractionsSaid : Prop := fnFractionsRow.holds Try.pinned (OpenSpec.ofChange fnFractionsSpec)

/-- ITS FALSE NEIGHBOUR: 'it returns false'. Refute it at one input. -/
def fnFractionsWrong : ChangeSpec := { name := "fnFractions", fn := fun _ => fun
  | [d] => { results := [.lit (.bool false)], args := [d] }
  | _ => none }
def FnFractionsWrongFalsely : Prop := fnFractionsRow.holds Try.pinned (OpenSpec.ofChange fnFractionsWrong)

/- THE SECOND FORM. 'bulk': how many values and letters a reading holds, each counted each time it is reached (what is shared counts as often as it is met; a slice's spare places count too). A statement '..UptoSaid' is the law's where the arguments, and the package variables that the reading takes, are together of bulk at most 1048576: NARROWER than '..Said'. Prove '..Said' where nothing that the law and all that it calls make is longer than what came in: it says more and counts as full. Else prove '..UptoSaid'. A law counts once. -/
mutual
def uptoBulk {H : Type} : DataW H → Nat
  | .lit (.string bytes) => bytes.length + 1
  | .lit _ => 1
  | .nil => 1
  | .ptr d => uptoBulk d + 1
  | .slice elems spare => uptoBulkAll elems + uptoBulkAll spare + 1
  | .agg parts => uptoBulkAll parts + 1
  | .iface _ d => uptoBulk d + 1
  | .map entries => uptoBulkEntries entries + 1
  | .held _ => 1
def uptoBulkAll {H : Type} : List (DataW H) → Nat
  | [] => 0
  | d :: r => uptoBulk d + uptoBulkAll r
def uptoBulkEntries {H : Type} : List (Lit × DataW H) → Nat
  | [] => 0
  | x :: r => uptoBulkEntry x + uptoBulkEntries r
def uptoBulkEntry {H : Type} : Lit × DataW H → Nat
  | (.string bytes, d) => bytes.length + uptoBulk d + 1
  | (_, d) => uptoBulk d + 1
 end
def uptoSmall : (H : Type) → List (DataW H) → Bool := fun _ ds => decide (uptoBulkAll ds ≤ 1048576)
def OpenSpec.upto (s : _root_.Go.ChangeSpec) : _root_.Go.OpenSpec := { _root_.Go.OpenSpec.ofChange s with cond := some uptoSmall }

/-- 'laws.FnExactImpsOf', WHERE WHAT IT READS IS OF BULK AT MOST 1048576: true; the input reads as it did. -/
def fnExactImpsOfUptoRow : OpenClaim := { program := "ytnkdjddnppajaaa", sum := "f1554aa86026739b78a7f61f43b32d1c9e2b185fe24769199830f745bd9e9c20", func := "loop.example/g00854/laws.FnExactImpsOf", spec := "fnExactImpsOf", apart := false, narrowed := true }
def FnExactImpsOfUptoSaid : Prop := fnExactImpsOfUptoRow.holds Try.pinned (OpenSpec.upto fnExactImpsOfSpec)

/-- 'laws.FnExactIsFraction', WHERE WHAT IT READS IS OF BULK AT MOST 1048576: true; the input reads as it did. -/
def fnExactIsFractionUptoRow : OpenClaim := { program := "ytnkdjddnppajaaa", sum := "f1554aa86026739b78a7f61f43b32d1c9e2b185fe24769199830f745bd9e9c20", func := "loop.example/g00854/laws.FnExactIsFraction", spec := "fnExactIsFraction", apart := false, narrowed := true }
def FnExactIsFractionUptoSaid : Prop := fnExactIsFractionUptoRow.holds Try.pinned (OpenSpec.upto fnExactIsFractionSpec)

/-- 'laws.FnExactVictoryPoints', WHERE WHAT IT READS IS OF BULK AT MOST 1048576: true; the input reads as it did. -/
def fnExactVictoryPointsUptoRow : OpenClaim := { program := "ytnkdjddnppajaaa", sum := "f1554aa86026739b78a7f61f43b32d1c9e2b185fe24769199830f745bd9e9c20", func := "loop.example/g00854/laws.FnExactVictoryPoints", spec := "fnExactVictoryPoints", apart := false, narrowed := true }
def FnExactVictoryPointsUptoSaid : Prop := fnExactVictoryPointsUptoRow.holds Try.pinned (OpenSpec.upto fnExactVictoryPointsSpec)

/-- 'laws.FnVictory', WHERE WHAT IT READS IS OF BULK AT MOST 1048576: true; the input reads as it did. -/
def fnVictoryUptoRow : OpenClaim := { program := "ytnkdjddnppajaaa", sum := "f1554aa86026739b78a7f61f43b32d1c9e2b185fe24769199830f745bd9e9c20", func := "loop.example/g00854/laws.FnVictory", spec := "fnVictory", apart := false, narrowed := true }
def FnVictoryUptoSaid : Prop := fnVictoryUptoRow.holds Try.pinned (OpenSpec.upto fnVictorySpec)

/-- 'laws.FnExactCompareFractions', WHERE WHAT IT READS IS OF BULK AT MOST 1048576: true; the input reads as it did. -/
def fnExactCompareFractionsUptoRow : OpenClaim := { program := "ytnkdjddnppajaaa", sum := "f1554aa86026739b78a7f61f43b32d1c9e2b185fe24769199830f745bd9e9c20", func := "loop.example/g00854/laws.FnExactCompareFractions", spec := "fnExactCompareFractions", apart := false, narrowed := true }
def FnExactCompareFractionsUptoSaid : Prop := fnExactCompareFractionsUptoRow.holds Try.pinned (OpenSpec.upto fnExactCompareFractionsSpec)

/-- 'laws.FnExactMakeFraction', WHERE WHAT IT READS IS OF BULK AT MOST 1048576: true; the input reads as it did. -/
def fnExactMakeFractionUptoRow : OpenClaim := { program := "ytnkdjddnppajaaa", sum := "f1554aa86026739b78a7f61f43b32d1c9e2b185fe24769199830f745bd9e9c20", func := "loop.example/g00854/laws.FnExactMakeFraction", spec := "fnExactMakeFraction", apart := false, narrowed := true }
def FnExactMakeFractionUptoSaid : Prop := fnExactMakeFractionUptoRow.holds Try.pinned (OpenSpec.upto fnExactMakeFractionSpec)

/-- 'laws.FnExactAddFractions', WHERE WHAT IT READS IS OF BULK AT MOST 1048576: true; the input reads as it did. -/
def fnExactAddFractionsUptoRow : OpenClaim := { program := "ytnkdjddnppajaaa", sum := "f1554aa86026739b78a7f61f43b32d1c9e2b185fe24769199830f745bd9e9c20", func := "loop.example/g00854/laws.FnExactAddFractions", spec := "fnExactAddFractions", apart := false, narrowed := true }
def FnExactAddFractionsUptoSaid : Prop := fnExactAddFractionsUptoRow.holds Try.pinned (OpenSpec.upto fnExactAddFractionsSpec)

/-- 'laws.FnExactTimesFraction', WHERE WHAT IT READS IS OF BULK AT MOST 1048576: true; the input reads as it did. -/
def fnExactTimesFractionUptoRow : OpenClaim := { program := "ytnkdjddnppajaaa", sum := "f1554aa86026739b78a7f61f43b32d1c9e2b185fe24769199830f745bd9e9c20", func := "loop.example/g00854/laws.FnExactTimesFraction", spec := "fnExactTimesFraction", apart := false, narrowed := true }
def FnExactTimesFractionUptoSaid : Prop := fnExactTimesFractionUptoRow.holds Try.pinned (OpenSpec.upto fnExactTimesFractionSpec)

/-- 'laws.FnFractions', WHERE WHAT IT READS IS OF BULK AT MOST 1048576: true; the input reads as it did. -/
def fnFractionsUptoRow : OpenClaim := { program := "ytnkdjddnppajaaa", sum := "f1554aa86026739b78a7f61f43b32d1c9e2b185fe24769199830f745bd9e9c20", func := "loop.example/g00854/laws.FnFractions", spec := "fnFractions", apart := false, narrowed := true }
def FnFractionsUptoSaid : Prop := fnFractionsUptoRow.holds Try.pinned (OpenSpec.upto fnFractionsSpec)

end Rows
end Go.Proofs.Ytnkdjddnppajaaa
