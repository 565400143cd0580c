/-
  No cell of these rows narrows 'for every input' (looked for: loops, veiled, ifaces, maps, wideKeys, modest, calm, conditions, laid).
  DERIVED. THE GIVEN ROWS OF THIS SEAT. 12 by the template 'for every input the law returns true; each argument reads behind the call as it read before'; 0 by the template 'total and deterministic' (their statements: YtiaaibiodolcgaaTotals.lean).
  GIVEN WITH THE SEED: the statements are not yours to turn. If you find one false, say at which input.
  Laid BY PROGRAM, IN A SANDBOX (cutbox-rows.mjs): the forced cells as the released guide's own fill.sh prints them over the translation 26bc5d2e65df97f8… (all of the seat's roots in one cut). By AI agents, Wed Nov 11 2026. No macro, syntax, notation, axiom, sorry.
-/
import Derived.Test.YtiaaibiodolcgaaChecked
import GoSem.Claim
import GoSem.ClaimJoined
import GoSem.ClaimMapViews
import Derived.JoinedTies
import Derived.KernelRfl
namespace Go.Proofs.Ytiaaibiodolcgaa
/- THE CELL 'sum', in the pinned program and in every row, IS THE sha256 OF THE DUMP (.gsa) THAT YtiaaibiodolcgaaProg.lean LOADS. Nothing in Lean hashes anything: it is a label: what it is worth is what the hold of that sum in a sandbox is worth. -/
noncomputable def Try.pinned : Pinned := { name := "ytiaaibiodolcgaa", sum := "26bc5d2e65df97f867c26eed90fd0cb31c3c19ce1f35e5bfbd564ae0b80a840e", checked := Try.checked }
namespace Rows
def none {H : Type} : Left H := { results := [], args := [] }

/-- 'laws.FnExactDevelopSheet': WHATEVER THE INPUT: true; the input reads as it did. -/
def fnExactDevelopSheetSpec : ChangeSpec := { name := "fnExactDevelopSheet", fn := fun _ => fun
  | [d1, d2, d3] => { results := [.lit (.bool true)], args := [d1, d2, d3] }
  | _ => none }
def fnExactDevelopSheetRow : OpenClaim := { program := "ytiaaibiodolcgaa", sum := "26bc5d2e65df97f867c26eed90fd0cb31c3c19ce1f35e5bfbd564ae0b80a840e", func := "loop.example/g01301/laws.FnExactDevelopSheet", spec := "fnExactDevelopSheet", apart := false }
def FnExactDevelopSheetSaid : Prop := fnExactDevelopSheetRow.holds Try.pinned (OpenSpec.ofChange fnExactDevelopSheetSpec)

/-- ITS FALSE NEIGHBOUR: 'it returns false'. Refute it at one input. -/
def fnExactDevelopSheetWrong : ChangeSpec := { name := "fnExactDevelopSheet", fn := fun _ => fun
  | [d1, d2, d3] => { results := [.lit (.bool false)], args := [d1, d2, d3] }
  | _ => none }
def FnExactDevelopSheetWrongFalsely : Prop := fnExactDevelopSheetRow.holds Try.pinned (OpenSpec.ofChange fnExactDevelopSheetWrong)

/-- 'laws.FnExactMirrorSteps': WHATEVER THE INPUT: true; the input reads as it did. -/
def fnExactMirrorStepsSpec : ChangeSpec := { name := "fnExactMirrorSteps", fn := fun _ => fun
  | [d] => { results := [.lit (.bool true)], args := [d] }
  | _ => none }
def fnExactMirrorStepsRow : OpenClaim := { program := "ytiaaibiodolcgaa", sum := "26bc5d2e65df97f867c26eed90fd0cb31c3c19ce1f35e5bfbd564ae0b80a840e", func := "loop.example/g01301/laws.FnExactMirrorSteps", spec := "fnExactMirrorSteps", unfollowed := true, recurses := true, apart := false }
def FnExactMirrorStepsSaid : Prop := fnExactMirrorStepsRow.holds Try.pinned (OpenSpec.ofChange fnExactMirrorStepsSpec)

/-- ITS FALSE NEIGHBOUR: 'it returns false'. Refute it at one input. -/
def fnExactMirrorStepsWrong : ChangeSpec := { name := "fnExactMirrorSteps", fn := fun _ => fun
  | [d] => { results := [.lit (.bool false)], args := [d] }
  | _ => none }
def FnExactMirrorStepsWrongFalsely : Prop := fnExactMirrorStepsRow.holds Try.pinned (OpenSpec.ofChange fnExactMirrorStepsWrong)

/-- 'laws.FnExactShorterSteps': WHATEVER THE INPUT: true; the input reads as it did. -/
def fnExactShorterStepsSpec : ChangeSpec := { name := "fnExactShorterSteps", fn := fun _ => fun
  | [d] => { results := [.lit (.bool true)], args := [d] }
  | _ => none }
def fnExactShorterStepsRow : OpenClaim := { program := "ytiaaibiodolcgaa", sum := "26bc5d2e65df97f867c26eed90fd0cb31c3c19ce1f35e5bfbd564ae0b80a840e", func := "loop.example/g01301/laws.FnExactShorterSteps", spec := "fnExactShorterSteps", unfollowed := true, recurses := true, apart := false }
def FnExactShorterStepsSaid : Prop := fnExactShorterStepsRow.holds Try.pinned (OpenSpec.ofChange fnExactShorterStepsSpec)

/-- ITS FALSE NEIGHBOUR: 'it returns false'. Refute it at one input. -/
def fnExactShorterStepsWrong : ChangeSpec := { name := "fnExactShorterSteps", fn := fun _ => fun
  | [d] => { results := [.lit (.bool false)], args := [d] }
  | _ => none }
def FnExactShorterStepsWrongFalsely : Prop := fnExactShorterStepsRow.holds Try.pinned (OpenSpec.ofChange fnExactShorterStepsWrong)

/-- 'laws.FnExactLightOn': WHATEVER THE INPUT: true; the input reads as it did. -/
def fnExactLightOnSpec : ChangeSpec := { name := "fnExactLightOn", fn := fun _ => fun
  | [d] => { results := [.lit (.bool true)], args := [d] }
  | _ => none }
def fnExactLightOnRow : OpenClaim := { program := "ytiaaibiodolcgaa", sum := "26bc5d2e65df97f867c26eed90fd0cb31c3c19ce1f35e5bfbd564ae0b80a840e", func := "loop.example/g01301/laws.FnExactLightOn", spec := "fnExactLightOn", unfollowed := true, recurses := true, apart := false }
def FnExactLightOnSaid : Prop := fnExactLightOnRow.holds Try.pinned (OpenSpec.ofChange fnExactLightOnSpec)

/-- ITS FALSE NEIGHBOUR: 'it returns false'. Refute it at one input. -/
def fnExactLightOnWrong : ChangeSpec := { name := "fnExactLightOn", fn := fun _ => fun
  | [d] => { results := [.lit (.bool false)], args := [d] }
  | _ => none }
def FnExactLightOnWrongFalsely : Prop := fnExactLightOnRow.holds Try.pinned (OpenSpec.ofChange fnExactLightOnWrong)

/-- 'laws.FnExactBlackTime': WHATEVER THE INPUT: true; the input reads as it did. -/
def fnExactBlackTimeSpec : ChangeSpec := { name := "fnExactBlackTime", fn := fun _ => fun
  | [d1, d2] => { results := [.lit (.bool true)], args := [d1, d2] }
  | _ => none }
def fnExactBlackTimeRow : OpenClaim := { program := "ytiaaibiodolcgaa", sum := "26bc5d2e65df97f867c26eed90fd0cb31c3c19ce1f35e5bfbd564ae0b80a840e", func := "loop.example/g01301/laws.FnExactBlackTime", spec := "fnExactBlackTime", apart := false }
def FnExactBlackTimeSaid : Prop := fnExactBlackTimeRow.holds Try.pinned (OpenSpec.ofChange fnExactBlackTimeSpec)

/-- ITS FALSE NEIGHBOUR: 'it returns false'. Refute it at one input. -/
def fnExactBlackTimeWrong : ChangeSpec := { name := "fnExactBlackTime", fn := fun _ => fun
  | [d1, d2] => { results := [.lit (.bool false)], args := [d1, d2] }
  | _ => none }
def FnExactBlackTimeWrongFalsely : Prop := fnExactBlackTimeRow.holds Try.pinned (OpenSpec.ofChange fnExactBlackTimeWrong)

/-- 'laws.FnExactLightByStrips': WHATEVER THE INPUT: true; the input reads as it did. -/
def fnExactLightByStripsSpec : ChangeSpec := { name := "fnExactLightByStrips", fn := fun _ => fun
  | [d1, d2, d3] => { results := [.lit (.bool true)], args := [d1, d2, d3] }
  | _ => none }
def fnExactLightByStripsRow : OpenClaim := { program := "ytiaaibiodolcgaa", sum := "26bc5d2e65df97f867c26eed90fd0cb31c3c19ce1f35e5bfbd564ae0b80a840e", func := "loop.example/g01301/laws.FnExactLightByStrips", spec := "fnExactLightByStrips", apart := false }
def FnExactLightByStripsSaid : Prop := fnExactLightByStripsRow.holds Try.pinned (OpenSpec.ofChange fnExactLightByStripsSpec)

/-- ITS FALSE NEIGHBOUR: 'it returns false'. Refute it at one input. -/
def fnExactLightByStripsWrong : ChangeSpec := { name := "fnExactLightByStrips", fn := fun _ => fun
  | [d1, d2, d3] => { results := [.lit (.bool false)], args := [d1, d2, d3] }
  | _ => none }
def FnExactLightByStripsWrongFalsely : Prop := fnExactLightByStripsRow.holds Try.pinned (OpenSpec.ofChange fnExactLightByStripsWrong)

/-- 'laws.FnExactMisfitOf': WHATEVER THE INPUT: true; the input reads as it did. -/
def fnExactMisfitOfSpec : ChangeSpec := { name := "fnExactMisfitOf", fn := fun _ => fun
  | [d1, d2, d3, d4, d5] => { results := [.lit (.bool true)], args := [d1, d2, d3, d4, d5] }
  | _ => none }
def fnExactMisfitOfRow : OpenClaim := { program := "ytiaaibiodolcgaa", sum := "26bc5d2e65df97f867c26eed90fd0cb31c3c19ce1f35e5bfbd564ae0b80a840e", func := "loop.example/g01301/laws.FnExactMisfitOf", spec := "fnExactMisfitOf", apart := false }
def FnExactMisfitOfSaid : Prop := fnExactMisfitOfRow.holds Try.pinned (OpenSpec.ofChange fnExactMisfitOfSpec)

/-- ITS FALSE NEIGHBOUR: 'it returns false'. Refute it at one input. -/
def fnExactMisfitOfWrong : ChangeSpec := { name := "fnExactMisfitOf", fn := fun _ => fun
  | [d1, d2, d3, d4, d5] => { results := [.lit (.bool false)], args := [d1, d2, d3, d4, d5] }
  | _ => none }
def FnExactMisfitOfWrongFalsely : Prop := fnExactMisfitOfRow.holds Try.pinned (OpenSpec.ofChange fnExactMisfitOfWrong)

/-- 'laws.FnExactConvertLight': WHATEVER THE INPUT: true; the input reads as it did. -/
def fnExactConvertLightSpec : ChangeSpec := { name := "fnExactConvertLight", fn := fun _ => fun
  | [d1, d2, d3] => { results := [.lit (.bool true)], args := [d1, d2, d3] }
  | _ => none }
def fnExactConvertLightRow : OpenClaim := { program := "ytiaaibiodolcgaa", sum := "26bc5d2e65df97f867c26eed90fd0cb31c3c19ce1f35e5bfbd564ae0b80a840e", func := "loop.example/g01301/laws.FnExactConvertLight", spec := "fnExactConvertLight", apart := false }
def FnExactConvertLightSaid : Prop := fnExactConvertLightRow.holds Try.pinned (OpenSpec.ofChange fnExactConvertLightSpec)

/-- ITS FALSE NEIGHBOUR: 'it returns false'. Refute it at one input. -/
def fnExactConvertLightWrong : ChangeSpec := { name := "fnExactConvertLight", fn := fun _ => fun
  | [d1, d2, d3] => { results := [.lit (.bool false)], args := [d1, d2, d3] }
  | _ => none }
def FnExactConvertLightWrongFalsely : Prop := fnExactConvertLightRow.holds Try.pinned (OpenSpec.ofChange fnExactConvertLightWrong)

/-- 'laws.FnExactSheetsFrom': WHATEVER THE INPUT: true; the input reads as it did. -/
def fnExactSheetsFromSpec : ChangeSpec := { name := "fnExactSheetsFrom", fn := fun _ => fun
  | [d1, d2, d3, d4] => { results := [.lit (.bool true)], args := [d1, d2, d3, d4] }
  | _ => none }
def fnExactSheetsFromRow : OpenClaim := { program := "ytiaaibiodolcgaa", sum := "26bc5d2e65df97f867c26eed90fd0cb31c3c19ce1f35e5bfbd564ae0b80a840e", func := "loop.example/g01301/laws.FnExactSheetsFrom", spec := "fnExactSheetsFrom", unfollowed := true, recurses := true, apart := false }
def FnExactSheetsFromSaid : Prop := fnExactSheetsFromRow.holds Try.pinned (OpenSpec.ofChange fnExactSheetsFromSpec)

/-- ITS FALSE NEIGHBOUR: 'it returns false'. Refute it at one input. -/
def fnExactSheetsFromWrong : ChangeSpec := { name := "fnExactSheetsFrom", fn := fun _ => fun
  | [d1, d2, d3, d4] => { results := [.lit (.bool false)], args := [d1, d2, d3, d4] }
  | _ => none }
def FnExactSheetsFromWrongFalsely : Prop := fnExactSheetsFromRow.holds Try.pinned (OpenSpec.ofChange fnExactSheetsFromWrong)

/-- 'laws.FnExactScaleOf': WHATEVER THE INPUT: true; the input reads as it did. -/
def fnExactScaleOfSpec : ChangeSpec := { name := "fnExactScaleOf", fn := fun _ => fun
  | [d1, d2, d3] => { results := [.lit (.bool true)], args := [d1, d2, d3] }
  | _ => none }
def fnExactScaleOfRow : OpenClaim := { program := "ytiaaibiodolcgaa", sum := "26bc5d2e65df97f867c26eed90fd0cb31c3c19ce1f35e5bfbd564ae0b80a840e", func := "loop.example/g01301/laws.FnExactScaleOf", spec := "fnExactScaleOf", apart := false }
def FnExactScaleOfSaid : Prop := fnExactScaleOfRow.holds Try.pinned (OpenSpec.ofChange fnExactScaleOfSpec)

/-- ITS FALSE NEIGHBOUR: 'it returns false'. Refute it at one input. -/
def fnExactScaleOfWrong : ChangeSpec := { name := "fnExactScaleOf", fn := fun _ => fun
  | [d1, d2, d3] => { results := [.lit (.bool false)], args := [d1, d2, d3] }
  | _ => none }
def FnExactScaleOfWrongFalsely : Prop := fnExactScaleOfRow.holds Try.pinned (OpenSpec.ofChange fnExactScaleOfWrong)

/-- 'laws.FnExactConvertTable': WHATEVER THE INPUT: true; the input reads as it did. -/
def fnExactConvertTableSpec : ChangeSpec := { name := "fnExactConvertTable", fn := fun _ => fun
  | [d1, d2] => { results := [.lit (.bool true)], args := [d1, d2] }
  | _ => none }
def fnExactConvertTableRow : OpenClaim := { program := "ytiaaibiodolcgaa", sum := "26bc5d2e65df97f867c26eed90fd0cb31c3c19ce1f35e5bfbd564ae0b80a840e", func := "loop.example/g01301/laws.FnExactConvertTable", spec := "fnExactConvertTable", apart := false }
def FnExactConvertTableSaid : Prop := fnExactConvertTableRow.holds Try.pinned (OpenSpec.ofChange fnExactConvertTableSpec)

/-- ITS FALSE NEIGHBOUR: 'it returns false'. Refute it at one input. -/
def fnExactConvertTableWrong : ChangeSpec := { name := "fnExactConvertTable", fn := fun _ => fun
  | [d1, d2] => { results := [.lit (.bool false)], args := [d1, d2] }
  | _ => none }
def FnExactConvertTableWrongFalsely : Prop := fnExactConvertTableRow.holds Try.pinned (OpenSpec.ofChange fnExactConvertTableWrong)

/-- 'laws.FnExactLeastReplenished': WHATEVER THE INPUT: true; the input reads as it did. -/
def fnExactLeastReplenishedSpec : ChangeSpec := { name := "fnExactLeastReplenished", fn := fun _ => fun
  | [d1, d2, d3, d4] => { results := [.lit (.bool true)], args := [d1, d2, d3, d4] }
  | _ => none }
def fnExactLeastReplenishedRow : OpenClaim := { program := "ytiaaibiodolcgaa", sum := "26bc5d2e65df97f867c26eed90fd0cb31c3c19ce1f35e5bfbd564ae0b80a840e", func := "loop.example/g01301/laws.FnExactLeastReplenished", spec := "fnExactLeastReplenished", unfollowed := true, recurses := true, apart := false }
def FnExactLeastReplenishedSaid : Prop := fnExactLeastReplenishedRow.holds Try.pinned (OpenSpec.ofChange fnExactLeastReplenishedSpec)

/-- ITS FALSE NEIGHBOUR: 'it returns false'. Refute it at one input. -/
def fnExactLeastReplenishedWrong : ChangeSpec := { name := "fnExactLeastReplenished", fn := fun _ => fun
  | [d1, d2, d3, d4] => { results := [.lit (.bool false)], args := [d1, d2, d3, d4] }
  | _ => none }
def FnExactLeastReplenishedWrongFalsely : Prop := fnExactLeastReplenishedRow.holds Try.pinned (OpenSpec.ofChange fnExactLeastReplenishedWrong)

/- THE SECOND FORM. 'bulk': how many values and letters a reading holds, each counted each time it is reached (what is shared counts as often as it is met; a slice's spare places count too). A statement '..UptoSaid' is the law's where the arguments, and the package variables that the reading takes, are together of bulk at most 1048576: NARROWER than '..Said'. Prove '..Said' where nothing that the law and all that it calls make is longer than what came in: it says more and counts as full. Else prove '..UptoSaid'. A law counts once. -/
mutual
def uptoBulk {H : Type} : DataW H → Nat
  | .lit (.string bytes) => bytes.length + 1
  | .lit _ => 1
  | .nil => 1
  | .ptr d => uptoBulk d + 1
  | .slice elems spare => uptoBulkAll elems + uptoBulkAll spare + 1
  | .agg parts => uptoBulkAll parts + 1
  | .iface _ d => uptoBulk d + 1
  | .map entries => uptoBulkEntries entries + 1
  | .held _ => 1
def uptoBulkAll {H : Type} : List (DataW H) → Nat
  | [] => 0
  | d :: r => uptoBulk d + uptoBulkAll r
def uptoBulkEntries {H : Type} : List (Lit × DataW H) → Nat
  | [] => 0
  | x :: r => uptoBulkEntry x + uptoBulkEntries r
def uptoBulkEntry {H : Type} : Lit × DataW H → Nat
  | (.string bytes, d) => bytes.length + uptoBulk d + 1
  | (_, d) => uptoBulk d + 1
 end
def uptoSmall : (H : Type) → List (DataW H) → Bool := fun _ ds => decide (uptoBulkAll ds ≤ 1048576)
def OpenSpec.upto (s : _root_.Go.ChangeSpec) : _root_.Go.OpenSpec := { _root_.Go.OpenSpec.ofChange s with cond := some uptoSmall }

/-- 'laws.FnExactDevelopSheet', WHERE WHAT IT READS IS OF BULK AT MOST 1048576: true; the input reads as it did. -/
def fnExactDevelopSheetUptoRow : OpenClaim := { program := "ytiaaibiodolcgaa", sum := "26bc5d2e65df97f867c26eed90fd0cb31c3c19ce1f35e5bfbd564ae0b80a840e", func := "loop.example/g01301/laws.FnExactDevelopSheet", spec := "fnExactDevelopSheet", apart := false, narrowed := true }
def FnExactDevelopSheetUptoSaid : Prop := fnExactDevelopSheetUptoRow.holds Try.pinned (OpenSpec.upto fnExactDevelopSheetSpec)

/-- 'laws.FnExactMirrorSteps', WHERE WHAT IT READS IS OF BULK AT MOST 1048576: true; the input reads as it did. -/
def fnExactMirrorStepsUptoRow : OpenClaim := { program := "ytiaaibiodolcgaa", sum := "26bc5d2e65df97f867c26eed90fd0cb31c3c19ce1f35e5bfbd564ae0b80a840e", func := "loop.example/g01301/laws.FnExactMirrorSteps", spec := "fnExactMirrorSteps", unfollowed := true, recurses := true, apart := false, narrowed := true }
def FnExactMirrorStepsUptoSaid : Prop := fnExactMirrorStepsUptoRow.holds Try.pinned (OpenSpec.upto fnExactMirrorStepsSpec)

/-- 'laws.FnExactShorterSteps', WHERE WHAT IT READS IS OF BULK AT MOST 1048576: true; the input reads as it did. -/
def fnExactShorterStepsUptoRow : OpenClaim := { program := "ytiaaibiodolcgaa", sum := "26bc5d2e65df97f867c26eed90fd0cb31c3c19ce1f35e5bfbd564ae0b80a840e", func := "loop.example/g01301/laws.FnExactShorterSteps", spec := "fnExactShorterSteps", unfollowed := true, recurses := true, apart := false, narrowed := true }
def FnExactShorterStepsUptoSaid : Prop := fnExactShorterStepsUptoRow.holds Try.pinned (OpenSpec.upto fnExactShorterStepsSpec)

/-- 'laws.FnExactLightOn', WHERE WHAT IT READS IS OF BULK AT MOST 1048576: true; the input reads as it did. -/
def fnExactLightOnUptoRow : OpenClaim := { program := "ytiaaibiodolcgaa", sum := "26bc5d2e65df97f867c26eed90fd0cb31c3c19ce1f35e5bfbd564ae0b80a840e", func := "loop.example/g01301/laws.FnExactLightOn", spec := "fnExactLightOn", unfollowed := true, recurses := true, apart := false, narrowed := true }
def FnExactLightOnUptoSaid : Prop := fnExactLightOnUptoRow.holds Try.pinned (OpenSpec.upto fnExactLightOnSpec)

/-- 'laws.FnExactBlackTime', WHERE WHAT IT READS IS OF BULK AT MOST 1048576: true; the input reads as it did. -/
def fnExactBlackTimeUptoRow : OpenClaim := { program := "ytiaaibiodolcgaa", sum := "26bc5d2e65df97f867c26eed90fd0cb31c3c19ce1f35e5bfbd564ae0b80a840e", func := "loop.example/g01301/laws.FnExactBlackTime", spec := "fnExactBlackTime", apart := false, narrowed := true }
def FnExactBlackTimeUptoSaid : Prop := fnExactBlackTimeUptoRow.holds Try.pinned (OpenSpec.upto fnExactBlackTimeSpec)

/-- 'laws.FnExactLightByStrips', WHERE WHAT IT READS IS OF BULK AT MOST 1048576: true; the input reads as it did. -/
def fnExactLightByStripsUptoRow : OpenClaim := { program := "ytiaaibiodolcgaa", sum := "26bc5d2e65df97f867c26eed90fd0cb31c3c19ce1f35e5bfbd564ae0b80a840e", func := "loop.example/g01301/laws.FnExactLightByStrips", spec := "fnExactLightByStrips", apart := false, narrowed := true }
def FnExactLightByStripsUptoSaid : Prop := fnExactLightByStripsUptoRow.holds Try.pinned (OpenSpec.upto fnExactLightByStripsSpec)

/-- 'laws.FnExactMisfitOf', WHERE WHAT IT READS IS OF BULK AT MOST 1048576: true; the input reads as it did. -/
def fnExactMisfitOfUptoRow : OpenClaim := { program := "ytiaaibiodolcgaa", sum := "26bc5d2e65df97f867c26eed90fd0cb31c3c19ce1f35e5bfbd564ae0b80a840e", func := "loop.example/g01301/laws.FnExactMisfitOf", spec := "fnExactMisfitOf", apart := false, narrowed := true }
def FnExactMisfitOfUptoSaid : Prop := fnExactMisfitOfUptoRow.holds Try.pinned (OpenSpec.upto fnExactMisfitOfSpec)

/-- 'laws.FnExactConvertLight', WHERE WHAT IT READS IS OF BULK AT MOST 1048576: true; the input reads as it did. -/
def fnExactConvertLightUptoRow : OpenClaim := { program := "ytiaaibiodolcgaa", sum := "26bc5d2e65df97f867c26eed90fd0cb31c3c19ce1f35e5bfbd564ae0b80a840e", func := "loop.example/g01301/laws.FnExactConvertLight", spec := "fnExactConvertLight", apart := false, narrowed := true }
def FnExactConvertLightUptoSaid : Prop := fnExactConvertLightUptoRow.holds Try.pinned (OpenSpec.upto fnExactConvertLightSpec)

/-- 'laws.FnExactSheetsFrom', WHERE WHAT IT READS IS OF BULK AT MOST 1048576: true; the input reads as it did. -/
def fnExactSheetsFromUptoRow : OpenClaim := { program := "ytiaaibiodolcgaa", sum := "26bc5d2e65df97f867c26eed90fd0cb31c3c19ce1f35e5bfbd564ae0b80a840e", func := "loop.example/g01301/laws.FnExactSheetsFrom", spec := "fnExactSheetsFrom", unfollowed := true, recurses := true, apart := false, narrowed := true }
def FnExactSheetsFromUptoSaid : Prop := fnExactSheetsFromUptoRow.holds Try.pinned (OpenSpec.upto fnExactSheetsFromSpec)

/-- 'laws.FnExactScaleOf', WHERE WHAT IT READS IS OF BULK AT MOST 1048576: true; the input reads as it did. -/
def fnExactScaleOfUptoRow : OpenClaim := { program := "ytiaaibiodolcgaa", sum := "26bc5d2e65df97f867c26eed90fd0cb31c3c19ce1f35e5bfbd564ae0b80a840e", func := "loop.example/g01301/laws.FnExactScaleOf", spec := "fnExactScaleOf", apart := false, narrowed := true }
def FnExactScaleOfUptoSaid : Prop := fnExactScaleOfUptoRow.holds Try.pinned (OpenSpec.upto fnExactScaleOfSpec)

/-- 'laws.FnExactConvertTable', WHERE WHAT IT READS IS OF BULK AT MOST 1048576: true; the input reads as it did. -/
def fnExactConvertTableUptoRow : OpenClaim := { program := "ytiaaibiodolcgaa", sum := "26bc5d2e65df97f867c26eed90fd0cb31c3c19ce1f35e5bfbd564ae0b80a840e", func := "loop.example/g01301/laws.FnExactConvertTable", spec := "fnExactConvertTable", apart := false, narrowed := true }
def FnExactConvertTableUptoSaid : Prop := fnExactConvertTableUptoRow.holds Try.pinned (OpenSpec.upto fnExactConvertTableSpec)

/-- 'laws.FnExactLeastReplenished', WHERE WHAT IT READS IS OF BULK AT MOST 1048576: true; the input reads as it did. -/
def fnExactLeastReplenishedUptoRow : OpenClaim := { program := "ytiaaibiodolcgaa", sum := "26bc5d2e65df97f867c26eed90fd0cb31c3c19ce1f35e5bfbd564ae0b80a840e", func := "loop.example/g01301/laws.FnExactLeastReplenished", spec := "fnExactLeastReplenished", unfollowed := true, recurses := true, apart := false, narrowed := true }
def FnExactLeastReplenishedUptoSaid : Prop := fnExactLeastReplenishedUptoRow.holds Try.pinned (OpenSpec.upto fnExactLeastReplenishedSpec)

end Rows
end Go.Proofs.Ytiaaibiodolcgaa
