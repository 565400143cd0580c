/-
  No cell of these rows narrows 'for every input' (looked for: loops, veiled, ifaces, maps, wideKeys, modest, calm, conditions, laid).
  DERIVED. THE GIVEN ROWS OF THIS SEAT. 10 by the template 'for every input the law returns true; each argument reads behind the call as it read before'; 0 by the template 'total and deterministic' (their statements: YtcimollhdocphaaTotals.lean).
  GIVEN WITH THE SEED: the statements are not yours to turn. If you find one false, say at which input.
  Laid BY PROGRAM, IN A SANDBOX (cutbox-rows.mjs): the forced cells as the released guide's own fill.sh prints them over the translation 7f3545c713188138… (all of the seat's roots in one cut). By AI agents, Wed Nov 11 2026. No macro, syntax, notation, axiom, sorry.
-/
import Derived.Test.YtcimollhdocphaaChecked
import GoSem.Claim
import GoSem.ClaimJoined
import GoSem.ClaimMapViews
import Derived.JoinedTies
import Derived.KernelRfl
namespace Go.Proofs.Ytcimollhdocphaa
/- THE CELL 'sum', in the pinned program and in every row, IS THE sha256 OF THE DUMP (.gsa) THAT YtcimollhdocphaaProg.lean LOADS. Nothing in Lean hashes anything: it is a label: what it is worth is what the hold of that sum in a sandbox is worth. -/
noncomputable def Try.pinned : Pinned := { name := "ytcimollhdocphaa", sum := "7f3545c7131881381094d6a5ce3c93a57fa33dea4afee63628da78a31a4fd93b", checked := Try.checked }
namespace Rows
def none {H : Type} : Left H := { results := [], args := [] }

/-- 'laws.FnTurnedNegatives': WHATEVER THE INPUT: true; the input reads as it did. -/
def fnTurnedNegativesSpec : ChangeSpec := { name := "fnTurnedNegatives", fn := fun _ => fun
  | [d1, d2] => { results := [.lit (.bool true)], args := [d1, d2] }
  | _ => none }
def fnTurnedNegativesRow : OpenClaim := { program := "ytcimollhdocphaa", sum := "7f3545c7131881381094d6a5ce3c93a57fa33dea4afee63628da78a31a4fd93b", func := "loop.example/g01301/laws.FnTurnedNegatives", spec := "fnTurnedNegatives", unfollowed := true, recurses := true, apart := false }
def FnTurnedNegativesSaid : Prop := fnTurnedNegativesRow.holds Try.pinned (OpenSpec.ofChange fnTurnedNegativesSpec)

/-- ITS FALSE NEIGHBOUR: 'it returns false'. Refute it at one input. -/
def fnTurnedNegativesWrong : ChangeSpec := { name := "fnTurnedNegatives", fn := fun _ => fun
  | [d1, d2] => { results := [.lit (.bool false)], args := [d1, d2] }
  | _ => none }
def FnTurnedNegativesWrongFalsely : Prop := fnTurnedNegativesRow.holds Try.pinned (OpenSpec.ofChange fnTurnedNegativesWrong)

/-- 'laws.FnExactBandsOf': WHATEVER THE INPUT: true; the input reads as it did. -/
def fnExactBandsOfSpec : ChangeSpec := { name := "fnExactBandsOf", fn := fun _ => fun
  | [d1, d2, d3] => { results := [.lit (.bool true)], args := [d1, d2, d3] }
  | _ => none }
def fnExactBandsOfRow : OpenClaim := { program := "ytcimollhdocphaa", sum := "7f3545c7131881381094d6a5ce3c93a57fa33dea4afee63628da78a31a4fd93b", func := "loop.example/g01301/laws.FnExactBandsOf", spec := "fnExactBandsOf", unfollowed := true, recurses := true, apart := false }
def FnExactBandsOfSaid : Prop := fnExactBandsOfRow.holds Try.pinned (OpenSpec.ofChange fnExactBandsOfSpec)

/-- ITS FALSE NEIGHBOUR: 'it returns false'. Refute it at one input. -/
def fnExactBandsOfWrong : ChangeSpec := { name := "fnExactBandsOf", fn := fun _ => fun
  | [d1, d2, d3] => { results := [.lit (.bool false)], args := [d1, d2, d3] }
  | _ => none }
def FnExactBandsOfWrongFalsely : Prop := fnExactBandsOfRow.holds Try.pinned (OpenSpec.ofChange fnExactBandsOfWrong)

/-- 'laws.FnExactStepsFor': WHATEVER THE INPUT: true; the input reads as it did. -/
def fnExactStepsForSpec : ChangeSpec := { name := "fnExactStepsFor", fn := fun _ => fun
  | [d1, d2, d3] => { results := [.lit (.bool true)], args := [d1, d2, d3] }
  | _ => none }
def fnExactStepsForRow : OpenClaim := { program := "ytcimollhdocphaa", sum := "7f3545c7131881381094d6a5ce3c93a57fa33dea4afee63628da78a31a4fd93b", func := "loop.example/g01301/laws.FnExactStepsFor", spec := "fnExactStepsFor", apart := false }
def FnExactStepsForSaid : Prop := fnExactStepsForRow.holds Try.pinned (OpenSpec.ofChange fnExactStepsForSpec)

/-- ITS FALSE NEIGHBOUR: 'it returns false'. Refute it at one input. -/
def fnExactStepsForWrong : ChangeSpec := { name := "fnExactStepsFor", fn := fun _ => fun
  | [d1, d2, d3] => { results := [.lit (.bool false)], args := [d1, d2, d3] }
  | _ => none }
def FnExactStepsForWrongFalsely : Prop := fnExactStepsForRow.holds Try.pinned (OpenSpec.ofChange fnExactStepsForWrong)

/-- 'laws.FnExactCoveredBands': WHATEVER THE INPUT: true; the input reads as it did. -/
def fnExactCoveredBandsSpec : ChangeSpec := { name := "fnExactCoveredBands", fn := fun _ => fun
  | [d1, d2, d3] => { results := [.lit (.bool true)], args := [d1, d2, d3] }
  | _ => none }
def fnExactCoveredBandsRow : OpenClaim := { program := "ytcimollhdocphaa", sum := "7f3545c7131881381094d6a5ce3c93a57fa33dea4afee63628da78a31a4fd93b", func := "loop.example/g01301/laws.FnExactCoveredBands", spec := "fnExactCoveredBands", unfollowed := true, recurses := true, apart := false }
def FnExactCoveredBandsSaid : Prop := fnExactCoveredBandsRow.holds Try.pinned (OpenSpec.ofChange fnExactCoveredBandsSpec)

/-- ITS FALSE NEIGHBOUR: 'it returns false'. Refute it at one input. -/
def fnExactCoveredBandsWrong : ChangeSpec := { name := "fnExactCoveredBands", fn := fun _ => fun
  | [d1, d2, d3] => { results := [.lit (.bool false)], args := [d1, d2, d3] }
  | _ => none }
def FnExactCoveredBandsWrongFalsely : Prop := fnExactCoveredBandsRow.holds Try.pinned (OpenSpec.ofChange fnExactCoveredBandsWrong)

/-- 'laws.FnBaths': WHATEVER THE INPUT: true; the input reads as it did. -/
def fnBathsSpec : ChangeSpec := { name := "fnBaths", fn := fun _ => fun
  | [d1, d2] => { results := [.lit (.bool true)], args := [d1, d2] }
  | _ => none }
def fnBathsRow : OpenClaim := { program := "ytcimollhdocphaa", sum := "7f3545c7131881381094d6a5ce3c93a57fa33dea4afee63628da78a31a4fd93b", func := "loop.example/g01301/laws.FnBaths", spec := "fnBaths", apart := false }
def FnBathsSaid : Prop := fnBathsRow.holds Try.pinned (OpenSpec.ofChange fnBathsSpec)

/-- ITS FALSE NEIGHBOUR: 'it returns false'. Refute it at one input. -/
def fnBathsWrong : ChangeSpec := { name := "fnBaths", fn := fun _ => fun
  | [d1, d2] => { results := [.lit (.bool false)], args := [d1, d2] }
  | _ => none }
def FnBathsWrongFalsely : Prop := fnBathsRow.holds Try.pinned (OpenSpec.ofChange fnBathsWrong)

/-- 'laws.FnExactPrintFrom': WHATEVER THE INPUT: true; the input reads as it did. -/
def fnExactPrintFromSpec : ChangeSpec := { name := "fnExactPrintFrom", fn := fun _ => fun
  | [d1, d2, d3] => { results := [.lit (.bool true)], args := [d1, d2, d3] }
  | _ => none }
def fnExactPrintFromRow : OpenClaim := { program := "ytcimollhdocphaa", sum := "7f3545c7131881381094d6a5ce3c93a57fa33dea4afee63628da78a31a4fd93b", func := "loop.example/g01301/laws.FnExactPrintFrom", spec := "fnExactPrintFrom", unfollowed := true, recurses := true, apart := false }
def FnExactPrintFromSaid : Prop := fnExactPrintFromRow.holds Try.pinned (OpenSpec.ofChange fnExactPrintFromSpec)

/-- ITS FALSE NEIGHBOUR: 'it returns false'. Refute it at one input. -/
def fnExactPrintFromWrong : ChangeSpec := { name := "fnExactPrintFrom", fn := fun _ => fun
  | [d1, d2, d3] => { results := [.lit (.bool false)], args := [d1, d2, d3] }
  | _ => none }
def FnExactPrintFromWrongFalsely : Prop := fnExactPrintFromRow.holds Try.pinned (OpenSpec.ofChange fnExactPrintFromWrong)

/-- 'laws.FnExactFirstFailure': WHATEVER THE INPUT: true; the input reads as it did. -/
def fnExactFirstFailureSpec : ChangeSpec := { name := "fnExactFirstFailure", fn := fun _ => fun
  | [d1, d2, d3] => { results := [.lit (.bool true)], args := [d1, d2, d3] }
  | _ => none }
def fnExactFirstFailureRow : OpenClaim := { program := "ytcimollhdocphaa", sum := "7f3545c7131881381094d6a5ce3c93a57fa33dea4afee63628da78a31a4fd93b", func := "loop.example/g01301/laws.FnExactFirstFailure", spec := "fnExactFirstFailure", unfollowed := true, recurses := true, apart := false }
def FnExactFirstFailureSaid : Prop := fnExactFirstFailureRow.holds Try.pinned (OpenSpec.ofChange fnExactFirstFailureSpec)

/-- ITS FALSE NEIGHBOUR: 'it returns false'. Refute it at one input. -/
def fnExactFirstFailureWrong : ChangeSpec := { name := "fnExactFirstFailure", fn := fun _ => fun
  | [d1, d2, d3] => { results := [.lit (.bool false)], args := [d1, d2, d3] }
  | _ => none }
def FnExactFirstFailureWrongFalsely : Prop := fnExactFirstFailureRow.holds Try.pinned (OpenSpec.ofChange fnExactFirstFailureWrong)

/-- 'laws.FnExactDoActs': WHATEVER THE INPUT: true; the input reads as it did. -/
def fnExactDoActsSpec : ChangeSpec := { name := "fnExactDoActs", fn := fun _ => fun
  | [d1, d2, d3] => { results := [.lit (.bool true)], args := [d1, d2, d3] }
  | _ => none }
def fnExactDoActsRow : OpenClaim := { program := "ytcimollhdocphaa", sum := "7f3545c7131881381094d6a5ce3c93a57fa33dea4afee63628da78a31a4fd93b", func := "loop.example/g01301/laws.FnExactDoActs", spec := "fnExactDoActs", unfollowed := true, recurses := true, apart := false }
def FnExactDoActsSaid : Prop := fnExactDoActsRow.holds Try.pinned (OpenSpec.ofChange fnExactDoActsSpec)

/-- ITS FALSE NEIGHBOUR: 'it returns false'. Refute it at one input. -/
def fnExactDoActsWrong : ChangeSpec := { name := "fnExactDoActs", fn := fun _ => fun
  | [d1, d2, d3] => { results := [.lit (.bool false)], args := [d1, d2, d3] }
  | _ => none }
def FnExactDoActsWrongFalsely : Prop := fnExactDoActsRow.holds Try.pinned (OpenSpec.ofChange fnExactDoActsWrong)

/-- 'laws.FnExactStrengthsIn': WHATEVER THE INPUT: true; the input reads as it did. -/
def fnExactStrengthsInSpec : ChangeSpec := { name := "fnExactStrengthsIn", fn := fun _ => fun
  | [d1, d2, d3] => { results := [.lit (.bool true)], args := [d1, d2, d3] }
  | _ => none }
def fnExactStrengthsInRow : OpenClaim := { program := "ytcimollhdocphaa", sum := "7f3545c7131881381094d6a5ce3c93a57fa33dea4afee63628da78a31a4fd93b", func := "loop.example/g01301/laws.FnExactStrengthsIn", spec := "fnExactStrengthsIn", unfollowed := true, recurses := true, apart := false }
def FnExactStrengthsInSaid : Prop := fnExactStrengthsInRow.holds Try.pinned (OpenSpec.ofChange fnExactStrengthsInSpec)

/-- ITS FALSE NEIGHBOUR: 'it returns false'. Refute it at one input. -/
def fnExactStrengthsInWrong : ChangeSpec := { name := "fnExactStrengthsIn", fn := fun _ => fun
  | [d1, d2, d3] => { results := [.lit (.bool false)], args := [d1, d2, d3] }
  | _ => none }
def FnExactStrengthsInWrongFalsely : Prop := fnExactStrengthsInRow.holds Try.pinned (OpenSpec.ofChange fnExactStrengthsInWrong)

/-- 'laws.FnReplenished': WHATEVER THE INPUT: true; the input reads as it did. -/
def fnReplenishedSpec : ChangeSpec := { name := "fnReplenished", fn := fun _ => fun
  | [d1, d2] => { results := [.lit (.bool true)], args := [d1, d2] }
  | _ => none }
def fnReplenishedRow : OpenClaim := { program := "ytcimollhdocphaa", sum := "7f3545c7131881381094d6a5ce3c93a57fa33dea4afee63628da78a31a4fd93b", func := "loop.example/g01301/laws.FnReplenished", spec := "fnReplenished", unfollowed := true, recurses := true, apart := false }
def FnReplenishedSaid : Prop := fnReplenishedRow.holds Try.pinned (OpenSpec.ofChange fnReplenishedSpec)

/-- ITS FALSE NEIGHBOUR: 'it returns false'. Refute it at one input. -/
def fnReplenishedWrong : ChangeSpec := { name := "fnReplenished", fn := fun _ => fun
  | [d1, d2] => { results := [.lit (.bool false)], args := [d1, d2] }
  | _ => none }
def FnReplenishedWrongFalsely : Prop := fnReplenishedRow.holds Try.pinned (OpenSpec.ofChange fnReplenishedWrong)

/- THE SECOND FORM. 'bulk': how many values and letters a reading holds, each counted each time it is reached (what is shared counts as often as it is met; a slice's spare places count too). A statement '..UptoSaid' is the law's where the arguments, and the package variables that the reading takes, are together of bulk at most 1048576: NARROWER than '..Said'. Prove '..Said' where nothing that the law and all that it calls make is longer than what came in: it says more and counts as full. Else prove '..UptoSaid'. A law counts once. -/
mutual
def uptoBulk {H : Type} : DataW H → Nat
  | .lit (.string bytes) => bytes.length + 1
  | .lit _ => 1
  | .nil => 1
  | .ptr d => uptoBulk d + 1
  | .slice elems spare => uptoBulkAll elems + uptoBulkAll spare + 1
  | .agg parts => uptoBulkAll parts + 1
  | .iface _ d => uptoBulk d + 1
  | .map entries => uptoBulkEntries entries + 1
  | .held _ => 1
def uptoBulkAll {H : Type} : List (DataW H) → Nat
  | [] => 0
  | d :: r => uptoBulk d + uptoBulkAll r
def uptoBulkEntries {H : Type} : List (Lit × DataW H) → Nat
  | [] => 0
  | x :: r => uptoBulkEntry x + uptoBulkEntries r
def uptoBulkEntry {H : Type} : Lit × DataW H → Nat
  | (.string bytes, d) => bytes.length + uptoBulk d + 1
  | (_, d) => uptoBulk d + 1
 end
def uptoSmall : (H : Type) → List (DataW H) → Bool := fun _ ds => decide (uptoBulkAll ds ≤ 1048576)
def OpenSpec.upto (s : _root_.Go.ChangeSpec) : _root_.Go.OpenSpec := { _root_.Go.OpenSpec.ofChange s with cond := some uptoSmall }

/-- 'laws.FnTurnedNegatives', WHERE WHAT IT READS IS OF BULK AT MOST 1048576: true; the input reads as it did. -/
def fnTurnedNegativesUptoRow : OpenClaim := { program := "ytcimollhdocphaa", sum := "7f3545c7131881381094d6a5ce3c93a57fa33dea4afee63628da78a31a4fd93b", func := "loop.example/g01301/laws.FnTurnedNegatives", spec := "fnTurnedNegatives", unfollowed := true, recurses := true, apart := false, narrowed := true }
def FnTurnedNegativesUptoSaid : Prop := fnTurnedNegativesUptoRow.holds Try.pinned (OpenSpec.upto fnTurnedNegativesSpec)

/-- 'laws.FnExactBandsOf', WHERE WHAT IT READS IS OF BULK AT MOST 1048576: true; the input reads as it did. -/
def fnExactBandsOfUptoRow : OpenClaim := { program := "ytcimollhdocphaa", sum := "7f3545c7131881381094d6a5ce3c93a57fa33dea4afee63628da78a31a4fd93b", func := "loop.example/g01301/laws.FnExactBandsOf", spec := "fnExactBandsOf", unfollowed := true, recurses := true, apart := false, narrowed := true }
def FnExactBandsOfUptoSaid : Prop := fnExactBandsOfUptoRow.holds Try.pinned (OpenSpec.upto fnExactBandsOfSpec)

/-- 'laws.FnExactStepsFor', WHERE WHAT IT READS IS OF BULK AT MOST 1048576: true; the input reads as it did. -/
def fnExactStepsForUptoRow : OpenClaim := { program := "ytcimollhdocphaa", sum := "7f3545c7131881381094d6a5ce3c93a57fa33dea4afee63628da78a31a4fd93b", func := "loop.example/g01301/laws.FnExactStepsFor", spec := "fnExactStepsFor", apart := false, narrowed := true }
def FnExactStepsForUptoSaid : Prop := fnExactStepsForUptoRow.holds Try.pinned (OpenSpec.upto fnExactStepsForSpec)

/-- 'laws.FnExactCoveredBands', WHERE WHAT IT READS IS OF BULK AT MOST 1048576: true; the input reads as it did. -/
def fnExactCoveredBandsUptoRow : OpenClaim := { program := "ytcimollhdocphaa", sum := "7f3545c7131881381094d6a5ce3c93a57fa33dea4afee63628da78a31a4fd93b", func := "loop.example/g01301/laws.FnExactCoveredBands", spec := "fnExactCoveredBands", unfollowed := true, recurses := true, apart := false, narrowed := true }
def FnExactCoveredBandsUptoSaid : Prop := fnExactCoveredBandsUptoRow.holds Try.pinned (OpenSpec.upto fnExactCoveredBandsSpec)

/-- 'laws.FnBaths', WHERE WHAT IT READS IS OF BULK AT MOST 1048576: true; the input reads as it did. -/
def fnBathsUptoRow : OpenClaim := { program := "ytcimollhdocphaa", sum := "7f3545c7131881381094d6a5ce3c93a57fa33dea4afee63628da78a31a4fd93b", func := "loop.example/g01301/laws.FnBaths", spec := "fnBaths", apart := false, narrowed := true }
def FnBathsUptoSaid : Prop := fnBathsUptoRow.holds Try.pinned (OpenSpec.upto fnBathsSpec)

/-- 'laws.FnExactPrintFrom', WHERE WHAT IT READS IS OF BULK AT MOST 1048576: true; the input reads as it did. -/
def fnExactPrintFromUptoRow : OpenClaim := { program := "ytcimollhdocphaa", sum := "7f3545c7131881381094d6a5ce3c93a57fa33dea4afee63628da78a31a4fd93b", func := "loop.example/g01301/laws.FnExactPrintFrom", spec := "fnExactPrintFrom", unfollowed := true, recurses := true, apart := false, narrowed := true }
def FnExactPrintFromUptoSaid : Prop := fnExactPrintFromUptoRow.holds Try.pinned (OpenSpec.upto fnExactPrintFromSpec)

/-- 'laws.FnExactFirstFailure', WHERE WHAT IT READS IS OF BULK AT MOST 1048576: true; the input reads as it did. -/
def fnExactFirstFailureUptoRow : OpenClaim := { program := "ytcimollhdocphaa", sum := "7f3545c7131881381094d6a5ce3c93a57fa33dea4afee63628da78a31a4fd93b", func := "loop.example/g01301/laws.FnExactFirstFailure", spec := "fnExactFirstFailure", unfollowed := true, recurses := true, apart := false, narrowed := true }
def FnExactFirstFailureUptoSaid : Prop := fnExactFirstFailureUptoRow.holds Try.pinned (OpenSpec.upto fnExactFirstFailureSpec)

/-- 'laws.FnExactDoActs', WHERE WHAT IT READS IS OF BULK AT MOST 1048576: true; the input reads as it did. -/
def fnExactDoActsUptoRow : OpenClaim := { program := "ytcimollhdocphaa", sum := "7f3545c7131881381094d6a5ce3c93a57fa33dea4afee63628da78a31a4fd93b", func := "loop.example/g01301/laws.FnExactDoActs", spec := "fnExactDoActs", unfollowed := true, recurses := true, apart := false, narrowed := true }
def FnExactDoActsUptoSaid : Prop := fnExactDoActsUptoRow.holds Try.pinned (OpenSpec.upto fnExactDoActsSpec)

/-- 'laws.FnExactStrengthsIn', WHERE WHAT IT READS IS OF BULK AT MOST 1048576: true; the input reads as it did. -/
def fnExactStrengthsInUptoRow : OpenClaim := { program := "ytcimollhdocphaa", sum := "7f3545c7131881381094d6a5ce3c93a57fa33dea4afee63628da78a31a4fd93b", func := "loop.example/g01301/laws.FnExactStrengthsIn", spec := "fnExactStrengthsIn", unfollowed := true, recurses := true, apart := false, narrowed := true }
def FnExactStrengthsInUptoSaid : Prop := fnExactStrengthsInUptoRow.holds Try.pinned (OpenSpec.upto fnExactStrengthsInSpec)

/-- 'laws.FnReplenished', WHERE WHAT IT READS IS OF BULK AT MOST 1048576: true; the input reads as it did. -/
def fnReplenishedUptoRow : OpenClaim := { program := "ytcimollhdocphaa", sum := "7f3545c7131881381094d6a5ce3c93a57fa33dea4afee63628da78a31a4fd93b", func := "loop.example/g01301/laws.FnReplenished", spec := "fnReplenished", unfollowed := true, recurses := true, apart := false, narrowed := true }
def FnReplenishedUptoSaid : Prop := fnReplenishedUptoRow.holds Try.pinned (OpenSpec.upto fnReplenishedSpec)

end Rows
end Go.Proofs.Ytcimollhdocphaa
