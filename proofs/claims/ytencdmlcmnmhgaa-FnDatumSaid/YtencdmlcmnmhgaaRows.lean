/-
  No cell of these rows narrows 'for every input' (looked for: loops, veiled, ifaces, maps, wideKeys, modest, calm, conditions, laid).
  DERIVED. THE GIVEN ROWS OF THIS SEAT. 9 by the template 'for every input the law returns true; each argument reads behind the call as it read before'; 0 by the template 'total and deterministic' (their statements: YtencdmlcmnmhgaaTotals.lean).
  GIVEN WITH THE SEED: the statements are not yours to turn. If you find one false, say at which input.
  Laid BY PROGRAM, IN A SANDBOX (cutbox-rows.mjs): the forced cells as the released guide's own fill.sh prints them over the translation d4eeee6f0136f985… (all of the seat's roots in one cut). By AI agents, Wed Nov 11 2026. No macro, syntax, notation, axiom, sorry.
-/
import Derived.Test.YtencdmlcmnmhgaaChecked
import GoSem.Claim
import GoSem.ClaimJoined
import GoSem.ClaimMapViews
import Derived.JoinedTies
import Derived.KernelRfl
namespace Go.Proofs.Ytencdmlcmnmhgaa
/- THE CELL 'sum', in the pinned program and in every row, IS THE sha256 OF THE DUMP (.gsa) THAT YtencdmlcmnmhgaaProg.lean LOADS. Nothing in Lean hashes anything: it is a label: what it is worth is what the hold of that sum in a sandbox is worth. -/
noncomputable def Try.pinned : Pinned := { name := "ytencdmlcmnmhgaa", sum := "d4eeee6f0136f985040318aa08c238c0b2a57f272463fcd57c6f328bfad18c99", checked := Try.checked }
namespace Rows
def none {H : Type} : Left H := { results := [], args := [] }

/-- 'laws.FnExactBoardAMatch': WHATEVER THE INPUT: true; the input reads as it did. -/
def fnExactBoardAMatchSpec : ChangeSpec := { name := "fnExactBoardAMatch", fn := fun _ => fun
  | [d1, d2] => { results := [.lit (.bool true)], args := [d1, d2] }
  | _ => none }
def fnExactBoardAMatchRow : OpenClaim := { program := "ytencdmlcmnmhgaa", sum := "d4eeee6f0136f985040318aa08c238c0b2a57f272463fcd57c6f328bfad18c99", func := "loop.example/g00854/laws.FnExactBoardAMatch", spec := "fnExactBoardAMatch", unfollowed := true, recurses := true, apart := false }
def FnExactBoardAMatchSaid : Prop := fnExactBoardAMatchRow.holds Try.pinned (OpenSpec.ofChange fnExactBoardAMatchSpec)

/-- ITS FALSE NEIGHBOUR: 'it returns false'. Refute it at one input. -/
def fnExactBoardAMatchWrong : ChangeSpec := { name := "fnExactBoardAMatch", fn := fun _ => fun
  | [d1, d2] => { results := [.lit (.bool false)], args := [d1, d2] }
  | _ => none }
def FnExactBoardAMatchWrongFalsely : Prop := fnExactBoardAMatchRow.holds Try.pinned (OpenSpec.ofChange fnExactBoardAMatchWrong)

/-- 'laws.FnExactCrossImps': WHATEVER THE INPUT: true; the input reads as it did. -/
def fnExactCrossImpsSpec : ChangeSpec := { name := "fnExactCrossImps", fn := fun _ => fun
  | [d] => { results := [.lit (.bool true)], args := [d] }
  | _ => none }
def fnExactCrossImpsRow : OpenClaim := { program := "ytencdmlcmnmhgaa", sum := "d4eeee6f0136f985040318aa08c238c0b2a57f272463fcd57c6f328bfad18c99", func := "loop.example/g00854/laws.FnExactCrossImps", spec := "fnExactCrossImps", unfollowed := true, recurses := true, apart := false }
def FnExactCrossImpsSaid : Prop := fnExactCrossImpsRow.holds Try.pinned (OpenSpec.ofChange fnExactCrossImpsSpec)

/-- ITS FALSE NEIGHBOUR: 'it returns false'. Refute it at one input. -/
def fnExactCrossImpsWrong : ChangeSpec := { name := "fnExactCrossImps", fn := fun _ => fun
  | [d] => { results := [.lit (.bool false)], args := [d] }
  | _ => none }
def FnExactCrossImpsWrongFalsely : Prop := fnExactCrossImpsRow.holds Try.pinned (OpenSpec.ofChange fnExactCrossImpsWrong)

/-- 'laws.FnExactMatchImps': WHATEVER THE INPUT: true; the input reads as it did. -/
def fnExactMatchImpsSpec : ChangeSpec := { name := "fnExactMatchImps", fn := fun _ => fun
  | [d1, d2] => { results := [.lit (.bool true)], args := [d1, d2] }
  | _ => none }
def fnExactMatchImpsRow : OpenClaim := { program := "ytencdmlcmnmhgaa", sum := "d4eeee6f0136f985040318aa08c238c0b2a57f272463fcd57c6f328bfad18c99", func := "loop.example/g00854/laws.FnExactMatchImps", spec := "fnExactMatchImps", unfollowed := true, recurses := true, apart := false }
def FnExactMatchImpsSaid : Prop := fnExactMatchImpsRow.holds Try.pinned (OpenSpec.ofChange fnExactMatchImpsSpec)

/-- ITS FALSE NEIGHBOUR: 'it returns false'. Refute it at one input. -/
def fnExactMatchImpsWrong : ChangeSpec := { name := "fnExactMatchImps", fn := fun _ => fun
  | [d1, d2] => { results := [.lit (.bool false)], args := [d1, d2] }
  | _ => none }
def FnExactMatchImpsWrongFalsely : Prop := fnExactMatchImpsRow.holds Try.pinned (OpenSpec.ofChange fnExactMatchImpsWrong)

/-- 'laws.FnExactBoardImps': WHATEVER THE INPUT: true; the input reads as it did. -/
def fnExactBoardImpsSpec : ChangeSpec := { name := "fnExactBoardImps", fn := fun _ => fun
  | [d1, d2] => { results := [.lit (.bool true)], args := [d1, d2] }
  | _ => none }
def fnExactBoardImpsRow : OpenClaim := { program := "ytencdmlcmnmhgaa", sum := "d4eeee6f0136f985040318aa08c238c0b2a57f272463fcd57c6f328bfad18c99", func := "loop.example/g00854/laws.FnExactBoardImps", spec := "fnExactBoardImps", unfollowed := true, recurses := true, apart := false }
def FnExactBoardImpsSaid : Prop := fnExactBoardImpsRow.holds Try.pinned (OpenSpec.ofChange fnExactBoardImpsSpec)

/-- ITS FALSE NEIGHBOUR: 'it returns false'. Refute it at one input. -/
def fnExactBoardImpsWrong : ChangeSpec := { name := "fnExactBoardImps", fn := fun _ => fun
  | [d1, d2] => { results := [.lit (.bool false)], args := [d1, d2] }
  | _ => none }
def FnExactBoardImpsWrongFalsely : Prop := fnExactBoardImpsRow.holds Try.pinned (OpenSpec.ofChange fnExactBoardImpsWrong)

/-- 'laws.FnCross': WHATEVER THE INPUT: true; the input reads as it did. -/
def fnCrossSpec : ChangeSpec := { name := "fnCross", fn := fun _ => fun
  | [d] => { results := [.lit (.bool true)], args := [d] }
  | _ => none }
def fnCrossRow : OpenClaim := { program := "ytencdmlcmnmhgaa", sum := "d4eeee6f0136f985040318aa08c238c0b2a57f272463fcd57c6f328bfad18c99", func := "loop.example/g00854/laws.FnCross", spec := "fnCross", unfollowed := true, recurses := true, apart := false }
def FnCrossSaid : Prop := fnCrossRow.holds Try.pinned (OpenSpec.ofChange fnCrossSpec)

/-- ITS FALSE NEIGHBOUR: 'it returns false'. Refute it at one input. -/
def fnCrossWrong : ChangeSpec := { name := "fnCross", fn := fun _ => fun
  | [d] => { results := [.lit (.bool false)], args := [d] }
  | _ => none }
def FnCrossWrongFalsely : Prop := fnCrossRow.holds Try.pinned (OpenSpec.ofChange fnCrossWrong)

/-- 'laws.FnImps': WHATEVER THE INPUT: true; the input reads as it did. -/
def fnImpsSpec : ChangeSpec := { name := "fnImps", fn := fun _ => fun
  | [d] => { results := [.lit (.bool true)], args := [d] }
  | _ => none }
def fnImpsRow : OpenClaim := { program := "ytencdmlcmnmhgaa", sum := "d4eeee6f0136f985040318aa08c238c0b2a57f272463fcd57c6f328bfad18c99", func := "loop.example/g00854/laws.FnImps", spec := "fnImps", unfollowed := true, recurses := true, apart := false }
def FnImpsSaid : Prop := fnImpsRow.holds Try.pinned (OpenSpec.ofChange fnImpsSpec)

/-- ITS FALSE NEIGHBOUR: 'it returns false'. Refute it at one input. -/
def fnImpsWrong : ChangeSpec := { name := "fnImps", fn := fun _ => fun
  | [d] => { results := [.lit (.bool false)], args := [d] }
  | _ => none }
def FnImpsWrongFalsely : Prop := fnImpsRow.holds Try.pinned (OpenSpec.ofChange fnImpsWrong)

/-- 'laws.FnExactDatumOf': WHATEVER THE INPUT: true; the input reads as it did. -/
def fnExactDatumOfSpec : ChangeSpec := { name := "fnExactDatumOf", fn := fun _ => fun
  | [d1, d2] => { results := [.lit (.bool true)], args := [d1, d2] }
  | _ => none }
def fnExactDatumOfRow : OpenClaim := { program := "ytencdmlcmnmhgaa", sum := "d4eeee6f0136f985040318aa08c238c0b2a57f272463fcd57c6f328bfad18c99", func := "loop.example/g00854/laws.FnExactDatumOf", spec := "fnExactDatumOf", unfollowed := true, recurses := true, apart := false }
def FnExactDatumOfSaid : Prop := fnExactDatumOfRow.holds Try.pinned (OpenSpec.ofChange fnExactDatumOfSpec)

/-- ITS FALSE NEIGHBOUR: 'it returns false'. Refute it at one input. -/
def fnExactDatumOfWrong : ChangeSpec := { name := "fnExactDatumOf", fn := fun _ => fun
  | [d1, d2] => { results := [.lit (.bool false)], args := [d1, d2] }
  | _ => none }
def FnExactDatumOfWrongFalsely : Prop := fnExactDatumOfRow.holds Try.pinned (OpenSpec.ofChange fnExactDatumOfWrong)

/-- 'laws.FnExactButlerImps': WHATEVER THE INPUT: true; the input reads as it did. -/
def fnExactButlerImpsSpec : ChangeSpec := { name := "fnExactButlerImps", fn := fun _ => fun
  | [d1, d2] => { results := [.lit (.bool true)], args := [d1, d2] }
  | _ => none }
def fnExactButlerImpsRow : OpenClaim := { program := "ytencdmlcmnmhgaa", sum := "d4eeee6f0136f985040318aa08c238c0b2a57f272463fcd57c6f328bfad18c99", func := "loop.example/g00854/laws.FnExactButlerImps", spec := "fnExactButlerImps", unfollowed := true, recurses := true, apart := false }
def FnExactButlerImpsSaid : Prop := fnExactButlerImpsRow.holds Try.pinned (OpenSpec.ofChange fnExactButlerImpsSpec)

/-- ITS FALSE NEIGHBOUR: 'it returns false'. Refute it at one input. -/
def fnExactButlerImpsWrong : ChangeSpec := { name := "fnExactButlerImps", fn := fun _ => fun
  | [d1, d2] => { results := [.lit (.bool false)], args := [d1, d2] }
  | _ => none }
def FnExactButlerImpsWrongFalsely : Prop := fnExactButlerImpsRow.holds Try.pinned (OpenSpec.ofChange fnExactButlerImpsWrong)

/-- 'laws.FnDatum': WHATEVER THE INPUT: true; the input reads as it did. -/
def fnDatumSpec : ChangeSpec := { name := "fnDatum", fn := fun _ => fun
  | [d] => { results := [.lit (.bool true)], args := [d] }
  | _ => none }
def fnDatumRow : OpenClaim := { program := "ytencdmlcmnmhgaa", sum := "d4eeee6f0136f985040318aa08c238c0b2a57f272463fcd57c6f328bfad18c99", func := "loop.example/g00854/laws.FnDatum", spec := "fnDatum", unfollowed := true, recurses := true, apart := false }
def FnDatumSaid : Prop := fnDatumRow.holds Try.pinned (OpenSpec.ofChange fnDatumSpec)

/-- ITS FALSE NEIGHBOUR: 'it returns false'. Refute it at one input. -/
def fnDatumWrong : ChangeSpec := { name := "fnDatum", fn := fun _ => fun
  | [d] => { results := [.lit (.bool false)], args := [d] }
  | _ => none }
def FnDatumWrongFalsely : Prop := fnDatumRow.holds Try.pinned (OpenSpec.ofChange fnDatumWrong)

/- THE SECOND FORM. 'bulk': how many values and letters a reading holds, each counted each time it is reached (what is shared counts as often as it is met; a slice's spare places count too). A statement '..UptoSaid' is the law's where the arguments, and the package variables that the reading takes, are together of bulk at most 1048576: NARROWER than '..Said'. Prove '..Said' where nothing that the law and all that it calls make is longer than what came in: it says more and counts as full. Else prove '..UptoSaid'. A law counts once. -/
mutual
def uptoBulk {H : Type} : DataW H → Nat
  | .lit (.string bytes) => bytes.length + 1
  | .lit _ => 1
  | .nil => 1
  | .ptr d => uptoBulk d + 1
  | .slice elems spare => uptoBulkAll elems + uptoBulkAll spare + 1
  | .agg parts => uptoBulkAll parts + 1
  | .iface _ d => uptoBulk d + 1
  | .map entries => uptoBulkEntries entries + 1
  | .held _ => 1
def uptoBulkAll {H : Type} : List (DataW H) → Nat
  | [] => 0
  | d :: r => uptoBulk d + uptoBulkAll r
def uptoBulkEntries {H : Type} : List (Lit × DataW H) → Nat
  | [] => 0
  | x :: r => uptoBulkEntry x + uptoBulkEntries r
def uptoBulkEntry {H : Type} : Lit × DataW H → Nat
  | (.string bytes, d) => bytes.length + uptoBulk d + 1
  | (_, d) => uptoBulk d + 1
 end
def uptoSmall : (H : Type) → List (DataW H) → Bool := fun _ ds => decide (uptoBulkAll ds ≤ 1048576)
def OpenSpec.upto (s : _root_.Go.ChangeSpec) : _root_.Go.OpenSpec := { _root_.Go.OpenSpec.ofChange s with cond := some uptoSmall }

/-- 'laws.FnExactBoardAMatch', WHERE WHAT IT READS IS OF BULK AT MOST 1048576: true; the input reads as it did. -/
def fnExactBoardAMatchUptoRow : OpenClaim := { program := "ytencdmlcmnmhgaa", sum := "d4eeee6f0136f985040318aa08c238c0b2a57f272463fcd57c6f328bfad18c99", func := "loop.example/g00854/laws.FnExactBoardAMatch", spec := "fnExactBoardAMatch", unfollowed := true, recurses := true, apart := false, narrowed := true }
def FnExactBoardAMatchUptoSaid : Prop := fnExactBoardAMatchUptoRow.holds Try.pinned (OpenSpec.upto fnExactBoardAMatchSpec)

/-- 'laws.FnExactCrossImps', WHERE WHAT IT READS IS OF BULK AT MOST 1048576: true; the input reads as it did. -/
def fnExactCrossImpsUptoRow : OpenClaim := { program := "ytencdmlcmnmhgaa", sum := "d4eeee6f0136f985040318aa08c238c0b2a57f272463fcd57c6f328bfad18c99", func := "loop.example/g00854/laws.FnExactCrossImps", spec := "fnExactCrossImps", unfollowed := true, recurses := true, apart := false, narrowed := true }
def FnExactCrossImpsUptoSaid : Prop := fnExactCrossImpsUptoRow.holds Try.pinned (OpenSpec.upto fnExactCrossImpsSpec)

/-- 'laws.FnExactMatchImps', WHERE WHAT IT READS IS OF BULK AT MOST 1048576: true; the input reads as it did. -/
def fnExactMatchImpsUptoRow : OpenClaim := { program := "ytencdmlcmnmhgaa", sum := "d4eeee6f0136f985040318aa08c238c0b2a57f272463fcd57c6f328bfad18c99", func := "loop.example/g00854/laws.FnExactMatchImps", spec := "fnExactMatchImps", unfollowed := true, recurses := true, apart := false, narrowed := true }
def FnExactMatchImpsUptoSaid : Prop := fnExactMatchImpsUptoRow.holds Try.pinned (OpenSpec.upto fnExactMatchImpsSpec)

/-- 'laws.FnExactBoardImps', WHERE WHAT IT READS IS OF BULK AT MOST 1048576: true; the input reads as it did. -/
def fnExactBoardImpsUptoRow : OpenClaim := { program := "ytencdmlcmnmhgaa", sum := "d4eeee6f0136f985040318aa08c238c0b2a57f272463fcd57c6f328bfad18c99", func := "loop.example/g00854/laws.FnExactBoardImps", spec := "fnExactBoardImps", unfollowed := true, recurses := true, apart := false, narrowed := true }
def FnExactBoardImpsUptoSaid : Prop := fnExactBoardImpsUptoRow.holds Try.pinned (OpenSpec.upto fnExactBoardImpsSpec)

/-- 'laws.FnCross', WHERE WHAT IT READS IS OF BULK AT MOST 1048576: true; the input reads as it did. -/
def fnCrossUptoRow : OpenClaim := { program := "ytencdmlcmnmhgaa", sum := "d4eeee6f0136f985040318aa08c238c0b2a57f272463fcd57c6f328bfad18c99", func := "loop.example/g00854/laws.FnCross", spec := "fnCross", unfollowed := true, recurses := true, apart := false, narrowed := true }
def FnCrossUptoSaid : Prop := fnCrossUptoRow.holds Try.pinned (OpenSpec.upto fnCrossSpec)

/-- 'laws.FnImps', WHERE WHAT IT READS IS OF BULK AT MOST 1048576: true; the input reads as it did. -/
def fnImpsUptoRow : OpenClaim := { program := "ytencdmlcmnmhgaa", sum := "d4eeee6f0136f985040318aa08c238c0b2a57f272463fcd57c6f328bfad18c99", func := "loop.example/g00854/laws.FnImps", spec := "fnImps", unfollowed := true, recurses := true, apart := false, narrowed := true }
def FnImpsUptoSaid : Prop := fnImpsUptoRow.holds Try.pinned (OpenSpec.upto fnImpsSpec)

/-- 'laws.FnExactDatumOf', WHERE WHAT IT READS IS OF BULK AT MOST 1048576: true; the input reads as it did. -/
def fnExactDatumOfUptoRow : OpenClaim := { program := "ytencdmlcmnmhgaa", sum := "d4eeee6f0136f985040318aa08c238c0b2a57f272463fcd57c6f328bfad18c99", func := "loop.example/g00854/laws.FnExactDatumOf", spec := "fnExactDatumOf", unfollowed := true, recurses := true, apart := false, narrowed := true }
def FnExactDatumOfUptoSaid : Prop := fnExactDatumOfUptoRow.holds Try.pinned (OpenSpec.upto fnExactDatumOfSpec)

/-- 'laws.FnExactButlerImps', WHERE WHAT IT READS IS OF BULK AT MOST 1048576: true; the input reads as it did. -/
def fnExactButlerImpsUptoRow : OpenClaim := { program := "ytencdmlcmnmhgaa", sum := "d4eeee6f0136f985040318aa08c238c0b2a57f272463fcd57c6f328bfad18c99", func := "loop.example/g00854/laws.FnExactButlerImps", spec := "fnExactButlerImps", unfollowed := true, recurses := true, apart := false, narrowed := true }
def FnExactButlerImpsUptoSaid : Prop := fnExactButlerImpsUptoRow.holds Try.pinned (OpenSpec.upto fnExactButlerImpsSpec)

/-- 'laws.FnDatum', WHERE WHAT IT READS IS OF BULK AT MOST 1048576: true; the input reads as it did. -/
def fnDatumUptoRow : OpenClaim := { program := "ytencdmlcmnmhgaa", sum := "d4eeee6f0136f985040318aa08c238c0b2a57f272463fcd57c6f328bfad18c99", func := "loop.example/g00854/laws.FnDatum", spec := "fnDatum", unfollowed := true, recurses := true, apart := false, narrowed := true }
def FnDatumUptoSaid : Prop := fnDatumUptoRow.holds Try.pinned (OpenSpec.upto fnDatumSpec)

end Rows
end Go.Proofs.Ytencdmlcmnmhgaa
