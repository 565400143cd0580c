/-
  No cell of these rows narrows 'for every input' (looked for: loops, veiled, ifaces, maps, wideKeys, modest, calm, conditions, laid).
  DERIVED. THE GIVEN ROWS OF THIS SEAT. 7 by the template 'for every input the law returns true; each argument reads behind the call as it read before'; 0 by the template 'total and deterministic' (their statements: YticnajjbmdfidaaTotals.lean).
  GIVEN WITH THE SEED: the statements are not yours to turn. If you find one false, say at which input.
  Laid BY PROGRAM, IN A SANDBOX (cutbox-rows.mjs): the forced cells as the released guide's own fill.sh prints them over the translation 9cb252b29ba2d7bf… (all of the seat's roots in one cut). By AI agents, Wed Nov 11 2026. No macro, syntax, notation, axiom, sorry.
-/
import Derived.Test.YticnajjbmdfidaaChecked
import GoSem.Claim
import GoSem.ClaimJoined
import GoSem.ClaimMapViews
import Derived.JoinedTies
import Derived.KernelRfl
namespace Go.Proofs.Yticnajjbmdfidaa
/- THE CELL 'sum', in the pinned program and in every row, IS THE sha256 OF THE DUMP (.gsa) THAT YticnajjbmdfidaaProg.lean LOADS. Nothing in Lean hashes anything: it is a label: what it is worth is what the hold of that sum in a sandbox is worth. -/
noncomputable def Try.pinned : Pinned := { name := "yticnajjbmdfidaa", sum := "9cb252b29ba2d7bf122f9d8febf9c1d7992650f02dd1ac54468c36b836f99037", checked := Try.checked }
namespace Rows
def none {H : Type} : Left H := { results := [], args := [] }

/-- 'laws.FnExactTimesOn': WHATEVER THE INPUT: true; the input reads as it did. -/
def fnExactTimesOnSpec : ChangeSpec := { name := "fnExactTimesOn", fn := fun _ => fun
  | [d] => { results := [.lit (.bool true)], args := [d] }
  | _ => none }
def fnExactTimesOnRow : OpenClaim := { program := "yticnajjbmdfidaa", sum := "9cb252b29ba2d7bf122f9d8febf9c1d7992650f02dd1ac54468c36b836f99037", func := "loop.example/g01301/laws.FnExactTimesOn", spec := "fnExactTimesOn", unfollowed := true, recurses := true, apart := false }
def FnExactTimesOnSaid : Prop := fnExactTimesOnRow.holds Try.pinned (OpenSpec.ofChange fnExactTimesOnSpec)

/-- ITS FALSE NEIGHBOUR: 'it returns false'. Refute it at one input. -/
def fnExactTimesOnWrong : ChangeSpec := { name := "fnExactTimesOn", fn := fun _ => fun
  | [d] => { results := [.lit (.bool false)], args := [d] }
  | _ => none }
def FnExactTimesOnWrongFalsely : Prop := fnExactTimesOnRow.holds Try.pinned (OpenSpec.ofChange fnExactTimesOnWrong)

/-- 'laws.FnExactLightOn': WHATEVER THE INPUT: true; the input reads as it did. -/
def fnExactLightOnSpec : ChangeSpec := { name := "fnExactLightOn", fn := fun _ => fun
  | [d] => { results := [.lit (.bool true)], args := [d] }
  | _ => none }
def fnExactLightOnRow : OpenClaim := { program := "yticnajjbmdfidaa", sum := "9cb252b29ba2d7bf122f9d8febf9c1d7992650f02dd1ac54468c36b836f99037", func := "loop.example/g01301/laws.FnExactLightOn", spec := "fnExactLightOn", unfollowed := true, recurses := true, apart := false }
def FnExactLightOnSaid : Prop := fnExactLightOnRow.holds Try.pinned (OpenSpec.ofChange fnExactLightOnSpec)

/-- ITS FALSE NEIGHBOUR: 'it returns false'. Refute it at one input. -/
def fnExactLightOnWrong : ChangeSpec := { name := "fnExactLightOn", fn := fun _ => fun
  | [d] => { results := [.lit (.bool false)], args := [d] }
  | _ => none }
def FnExactLightOnWrongFalsely : Prop := fnExactLightOnRow.holds Try.pinned (OpenSpec.ofChange fnExactLightOnWrong)

/-- 'laws.FnExactShorterSteps': WHATEVER THE INPUT: true; the input reads as it did. -/
def fnExactShorterStepsSpec : ChangeSpec := { name := "fnExactShorterSteps", fn := fun _ => fun
  | [d] => { results := [.lit (.bool true)], args := [d] }
  | _ => none }
def fnExactShorterStepsRow : OpenClaim := { program := "yticnajjbmdfidaa", sum := "9cb252b29ba2d7bf122f9d8febf9c1d7992650f02dd1ac54468c36b836f99037", func := "loop.example/g01301/laws.FnExactShorterSteps", spec := "fnExactShorterSteps", unfollowed := true, recurses := true, apart := false }
def FnExactShorterStepsSaid : Prop := fnExactShorterStepsRow.holds Try.pinned (OpenSpec.ofChange fnExactShorterStepsSpec)

/-- ITS FALSE NEIGHBOUR: 'it returns false'. Refute it at one input. -/
def fnExactShorterStepsWrong : ChangeSpec := { name := "fnExactShorterSteps", fn := fun _ => fun
  | [d] => { results := [.lit (.bool false)], args := [d] }
  | _ => none }
def FnExactShorterStepsWrongFalsely : Prop := fnExactShorterStepsRow.holds Try.pinned (OpenSpec.ofChange fnExactShorterStepsWrong)

/-- 'laws.FnExactPrintFrom': WHATEVER THE INPUT: true; the input reads as it did. -/
def fnExactPrintFromSpec : ChangeSpec := { name := "fnExactPrintFrom", fn := fun _ => fun
  | [d1, d2, d3] => { results := [.lit (.bool true)], args := [d1, d2, d3] }
  | _ => none }
def fnExactPrintFromRow : OpenClaim := { program := "yticnajjbmdfidaa", sum := "9cb252b29ba2d7bf122f9d8febf9c1d7992650f02dd1ac54468c36b836f99037", func := "loop.example/g01301/laws.FnExactPrintFrom", spec := "fnExactPrintFrom", unfollowed := true, recurses := true, apart := false }
def FnExactPrintFromSaid : Prop := fnExactPrintFromRow.holds Try.pinned (OpenSpec.ofChange fnExactPrintFromSpec)

/-- ITS FALSE NEIGHBOUR: 'it returns false'. Refute it at one input. -/
def fnExactPrintFromWrong : ChangeSpec := { name := "fnExactPrintFrom", fn := fun _ => fun
  | [d1, d2, d3] => { results := [.lit (.bool false)], args := [d1, d2, d3] }
  | _ => none }
def FnExactPrintFromWrongFalsely : Prop := fnExactPrintFromRow.holds Try.pinned (OpenSpec.ofChange fnExactPrintFromWrong)

/-- 'laws.FnExactStepsFor': WHATEVER THE INPUT: true; the input reads as it did. -/
def fnExactStepsForSpec : ChangeSpec := { name := "fnExactStepsFor", fn := fun _ => fun
  | [d1, d2, d3] => { results := [.lit (.bool true)], args := [d1, d2, d3] }
  | _ => none }
def fnExactStepsForRow : OpenClaim := { program := "yticnajjbmdfidaa", sum := "9cb252b29ba2d7bf122f9d8febf9c1d7992650f02dd1ac54468c36b836f99037", func := "loop.example/g01301/laws.FnExactStepsFor", spec := "fnExactStepsFor", apart := false }
def FnExactStepsForSaid : Prop := fnExactStepsForRow.holds Try.pinned (OpenSpec.ofChange fnExactStepsForSpec)

/-- ITS FALSE NEIGHBOUR: 'it returns false'. Refute it at one input. -/
def fnExactStepsForWrong : ChangeSpec := { name := "fnExactStepsFor", fn := fun _ => fun
  | [d1, d2, d3] => { results := [.lit (.bool false)], args := [d1, d2, d3] }
  | _ => none }
def FnExactStepsForWrongFalsely : Prop := fnExactStepsForRow.holds Try.pinned (OpenSpec.ofChange fnExactStepsForWrong)

/-- 'laws.FnTurnedNegatives': WHATEVER THE INPUT: true; the input reads as it did. -/
def fnTurnedNegativesSpec : ChangeSpec := { name := "fnTurnedNegatives", fn := fun _ => fun
  | [d1, d2] => { results := [.lit (.bool true)], args := [d1, d2] }
  | _ => none }
def fnTurnedNegativesRow : OpenClaim := { program := "yticnajjbmdfidaa", sum := "9cb252b29ba2d7bf122f9d8febf9c1d7992650f02dd1ac54468c36b836f99037", func := "loop.example/g01301/laws.FnTurnedNegatives", spec := "fnTurnedNegatives", unfollowed := true, recurses := true, apart := false }
def FnTurnedNegativesSaid : Prop := fnTurnedNegativesRow.holds Try.pinned (OpenSpec.ofChange fnTurnedNegativesSpec)

/-- ITS FALSE NEIGHBOUR: 'it returns false'. Refute it at one input. -/
def fnTurnedNegativesWrong : ChangeSpec := { name := "fnTurnedNegatives", fn := fun _ => fun
  | [d1, d2] => { results := [.lit (.bool false)], args := [d1, d2] }
  | _ => none }
def FnTurnedNegativesWrongFalsely : Prop := fnTurnedNegativesRow.holds Try.pinned (OpenSpec.ofChange fnTurnedNegativesWrong)

/-- 'laws.FnReachedPrints': WHATEVER THE INPUT: true; the input reads as it did. -/
def fnReachedPrintsSpec : ChangeSpec := { name := "fnReachedPrints", fn := fun _ => fun
  | [d1, d2] => { results := [.lit (.bool true)], args := [d1, d2] }
  | _ => none }
def fnReachedPrintsRow : OpenClaim := { program := "yticnajjbmdfidaa", sum := "9cb252b29ba2d7bf122f9d8febf9c1d7992650f02dd1ac54468c36b836f99037", func := "loop.example/g01301/laws.FnReachedPrints", spec := "fnReachedPrints", unfollowed := true, recurses := true, apart := false }
def FnReachedPrintsSaid : Prop := fnReachedPrintsRow.holds Try.pinned (OpenSpec.ofChange fnReachedPrintsSpec)

/-- ITS FALSE NEIGHBOUR: 'it returns false'. Refute it at one input. -/
def fnReachedPrintsWrong : ChangeSpec := { name := "fnReachedPrints", fn := fun _ => fun
  | [d1, d2] => { results := [.lit (.bool false)], args := [d1, d2] }
  | _ => none }
def FnReachedPrintsWrongFalsely : Prop := fnReachedPrintsRow.holds Try.pinned (OpenSpec.ofChange fnReachedPrintsWrong)

/- THE SECOND FORM. 'bulk': how many values and letters a reading holds, each counted each time it is reached (what is shared counts as often as it is met; a slice's spare places count too). A statement '..UptoSaid' is the law's where the arguments, and the package variables that the reading takes, are together of bulk at most 1048576: NARROWER than '..Said'. Prove '..Said' where nothing that the law and all that it calls make is longer than what came in: it says more and counts as full. Else prove '..UptoSaid'. A law counts once. -/
mutual
def uptoBulk {H : Type} : DataW H → Nat
  | .lit (.string bytes) => bytes.length + 1
  | .lit _ => 1
  | .nil => 1
  | .ptr d => uptoBulk d + 1
  | .slice elems spare => uptoBulkAll elems + uptoBulkAll spare + 1
  | .agg parts => uptoBulkAll parts + 1
  | .iface _ d => uptoBulk d + 1
  | .map entries => uptoBulkEntries entries + 1
  | .held _ => 1
def uptoBulkAll {H : Type} : List (DataW H) → Nat
  | [] => 0
  | d :: r => uptoBulk d + uptoBulkAll r
def uptoBulkEntries {H : Type} : List (Lit × DataW H) → Nat
  | [] => 0
  | x :: r => uptoBulkEntry x + uptoBulkEntries r
def uptoBulkEntry {H : Type} : Lit × DataW H → Nat
  | (.string bytes, d) => bytes.length + uptoBulk d + 1
  | (_, d) => uptoBulk d + 1
 end
def uptoSmall : (H : Type) → List (DataW H) → Bool := fun _ ds => decide (uptoBulkAll ds ≤ 1048576)
def OpenSpec.upto (s : _root_.Go.ChangeSpec) : _root_.Go.OpenSpec := { _root_.Go.OpenSpec.ofChange s with cond := some uptoSmall }

/-- 'laws.FnExactTimesOn', WHERE WHAT IT READS IS OF BULK AT MOST 1048576: true; the input reads as it did. -/
def fnExactTimesOnUptoRow : OpenClaim := { program := "yticnajjbmdfidaa", sum := "9cb252b29ba2d7bf122f9d8febf9c1d7992650f02dd1ac54468c36b836f99037", func := "loop.example/g01301/laws.FnExactTimesOn", spec := "fnExactTimesOn", unfollowed := true, recurses := true, apart := false, narrowed := true }
def FnExactTimesOnUptoSaid : Prop := fnExactTimesOnUptoRow.holds Try.pinned (OpenSpec.upto fnExactTimesOnSpec)

/-- 'laws.FnExactLightOn', WHERE WHAT IT READS IS OF BULK AT MOST 1048576: true; the input reads as it did. -/
def fnExactLightOnUptoRow : OpenClaim := { program := "yticnajjbmdfidaa", sum := "9cb252b29ba2d7bf122f9d8febf9c1d7992650f02dd1ac54468c36b836f99037", func := "loop.example/g01301/laws.FnExactLightOn", spec := "fnExactLightOn", unfollowed := true, recurses := true, apart := false, narrowed := true }
def FnExactLightOnUptoSaid : Prop := fnExactLightOnUptoRow.holds Try.pinned (OpenSpec.upto fnExactLightOnSpec)

/-- 'laws.FnExactShorterSteps', WHERE WHAT IT READS IS OF BULK AT MOST 1048576: true; the input reads as it did. -/
def fnExactShorterStepsUptoRow : OpenClaim := { program := "yticnajjbmdfidaa", sum := "9cb252b29ba2d7bf122f9d8febf9c1d7992650f02dd1ac54468c36b836f99037", func := "loop.example/g01301/laws.FnExactShorterSteps", spec := "fnExactShorterSteps", unfollowed := true, recurses := true, apart := false, narrowed := true }
def FnExactShorterStepsUptoSaid : Prop := fnExactShorterStepsUptoRow.holds Try.pinned (OpenSpec.upto fnExactShorterStepsSpec)

/-- 'laws.FnExactPrintFrom', WHERE WHAT IT READS IS OF BULK AT MOST 1048576: true; the input reads as it did. -/
def fnExactPrintFromUptoRow : OpenClaim := { program := "yticnajjbmdfidaa", sum := "9cb252b29ba2d7bf122f9d8febf9c1d7992650f02dd1ac54468c36b836f99037", func := "loop.example/g01301/laws.FnExactPrintFrom", spec := "fnExactPrintFrom", unfollowed := true, recurses := true, apart := false, narrowed := true }
def FnExactPrintFromUptoSaid : Prop := fnExactPrintFromUptoRow.holds Try.pinned (OpenSpec.upto fnExactPrintFromSpec)

/-- 'laws.FnExactStepsFor', WHERE WHAT IT READS IS OF BULK AT MOST 1048576: true; the input reads as it did. -/
def fnExactStepsForUptoRow : OpenClaim := { program := "yticnajjbmdfidaa", sum := "9cb252b29ba2d7bf122f9d8febf9c1d7992650f02dd1ac54468c36b836f99037", func := "loop.example/g01301/laws.FnExactStepsFor", spec := "fnExactStepsFor", apart := false, narrowed := true }
def FnExactStepsForUptoSaid : Prop := fnExactStepsForUptoRow.holds Try.pinned (OpenSpec.upto fnExactStepsForSpec)

/-- 'laws.FnTurnedNegatives', WHERE WHAT IT READS IS OF BULK AT MOST 1048576: true; the input reads as it did. -/
def fnTurnedNegativesUptoRow : OpenClaim := { program := "yticnajjbmdfidaa", sum := "9cb252b29ba2d7bf122f9d8febf9c1d7992650f02dd1ac54468c36b836f99037", func := "loop.example/g01301/laws.FnTurnedNegatives", spec := "fnTurnedNegatives", unfollowed := true, recurses := true, apart := false, narrowed := true }
def FnTurnedNegativesUptoSaid : Prop := fnTurnedNegativesUptoRow.holds Try.pinned (OpenSpec.upto fnTurnedNegativesSpec)

/-- 'laws.FnReachedPrints', WHERE WHAT IT READS IS OF BULK AT MOST 1048576: true; the input reads as it did. -/
def fnReachedPrintsUptoRow : OpenClaim := { program := "yticnajjbmdfidaa", sum := "9cb252b29ba2d7bf122f9d8febf9c1d7992650f02dd1ac54468c36b836f99037", func := "loop.example/g01301/laws.FnReachedPrints", spec := "fnReachedPrints", unfollowed := true, recurses := true, apart := false, narrowed := true }
def FnReachedPrintsUptoSaid : Prop := fnReachedPrintsUptoRow.holds Try.pinned (OpenSpec.upto fnReachedPrintsSpec)

end Rows
end Go.Proofs.Yticnajjbmdfidaa
