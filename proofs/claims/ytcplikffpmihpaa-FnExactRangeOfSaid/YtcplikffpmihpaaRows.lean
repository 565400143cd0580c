/-
  No cell of these rows narrows 'for every input' (looked for: loops, veiled, ifaces, maps, wideKeys, modest, calm, conditions, laid).
  DERIVED. THE GIVEN ROWS OF THIS SEAT. 12 by the template 'for every input the law returns true; each argument reads behind the call as it read before'; 0 by the template 'total and deterministic' (their statements: YtcplikffpmihpaaTotals.lean).
  GIVEN WITH THE SEED: the statements are not yours to turn. If you find one false, say at which input.
  Laid BY PROGRAM, IN A SANDBOX (cutbox-rows.mjs): the forced cells as the released guide's own fill.sh prints them over the translation 2ca48ca056848905… (all of the seat's roots in one cut). By AI agents, Wed Nov 11 2026. No macro, syntax, notation, axiom, sorry.
-/
import Derived.Test.YtcplikffpmihpaaChecked
import GoSem.Claim
import GoSem.ClaimJoined
import GoSem.ClaimMapViews
import Derived.JoinedTies
import Derived.KernelRfl
namespace Go.Proofs.Ytcplikffpmihpaa
/- THE CELL 'sum', in the pinned program and in every row, IS THE sha256 OF THE DUMP (.gsa) THAT YtcplikffpmihpaaProg.lean LOADS. Nothing in Lean hashes anything: it is a label: what it is worth is what the hold of that sum in a sandbox is worth. -/
noncomputable def Try.pinned : Pinned := { name := "ytcplikffpmihpaa", sum := "2ca48ca0568489054cf4bd17e8748fa76f84d5a2ead65fda0f27c0ae360e870c", checked := Try.checked }
namespace Rows
def none {H : Type} : Left H := { results := [], args := [] }

/-- 'laws.FnExactTurnNegative': WHATEVER THE INPUT: true; the input reads as it did. -/
def fnExactTurnNegativeSpec : ChangeSpec := { name := "fnExactTurnNegative", fn := fun _ => fun
  | [d] => { results := [.lit (.bool true)], args := [d] }
  | _ => none }
def fnExactTurnNegativeRow : OpenClaim := { program := "ytcplikffpmihpaa", sum := "2ca48ca0568489054cf4bd17e8748fa76f84d5a2ead65fda0f27c0ae360e870c", func := "loop.example/g01301/laws.FnExactTurnNegative", spec := "fnExactTurnNegative", unfollowed := true, recurses := true, apart := false }
def FnExactTurnNegativeSaid : Prop := fnExactTurnNegativeRow.holds Try.pinned (OpenSpec.ofChange fnExactTurnNegativeSpec)

/-- ITS FALSE NEIGHBOUR: 'it returns false'. Refute it at one input. -/
def fnExactTurnNegativeWrong : ChangeSpec := { name := "fnExactTurnNegative", fn := fun _ => fun
  | [d] => { results := [.lit (.bool false)], args := [d] }
  | _ => none }
def FnExactTurnNegativeWrongFalsely : Prop := fnExactTurnNegativeRow.holds Try.pinned (OpenSpec.ofChange fnExactTurnNegativeWrong)

/-- 'laws.FnExactDifferIn': WHATEVER THE INPUT: true; the input reads as it did. -/
def fnExactDifferInSpec : ChangeSpec := { name := "fnExactDifferIn", fn := fun _ => fun
  | [d1, d2, d3] => { results := [.lit (.bool true)], args := [d1, d2, d3] }
  | _ => none }
def fnExactDifferInRow : OpenClaim := { program := "ytcplikffpmihpaa", sum := "2ca48ca0568489054cf4bd17e8748fa76f84d5a2ead65fda0f27c0ae360e870c", func := "loop.example/g01301/laws.FnExactDifferIn", spec := "fnExactDifferIn", apart := false }
def FnExactDifferInSaid : Prop := fnExactDifferInRow.holds Try.pinned (OpenSpec.ofChange fnExactDifferInSpec)

/-- ITS FALSE NEIGHBOUR: 'it returns false'. Refute it at one input. -/
def fnExactDifferInWrong : ChangeSpec := { name := "fnExactDifferIn", fn := fun _ => fun
  | [d1, d2, d3] => { results := [.lit (.bool false)], args := [d1, d2, d3] }
  | _ => none }
def FnExactDifferInWrongFalsely : Prop := fnExactDifferInRow.holds Try.pinned (OpenSpec.ofChange fnExactDifferInWrong)

/-- 'laws.FnExactReplenish': WHATEVER THE INPUT: true; the input reads as it did. -/
def fnExactReplenishSpec : ChangeSpec := { name := "fnExactReplenish", fn := fun _ => fun
  | [d1, d2, d3] => { results := [.lit (.bool true)], args := [d1, d2, d3] }
  | _ => none }
def fnExactReplenishRow : OpenClaim := { program := "ytcplikffpmihpaa", sum := "2ca48ca0568489054cf4bd17e8748fa76f84d5a2ead65fda0f27c0ae360e870c", func := "loop.example/g01301/laws.FnExactReplenish", spec := "fnExactReplenish", apart := false }
def FnExactReplenishSaid : Prop := fnExactReplenishRow.holds Try.pinned (OpenSpec.ofChange fnExactReplenishSpec)

/-- ITS FALSE NEIGHBOUR: 'it returns false'. Refute it at one input. -/
def fnExactReplenishWrong : ChangeSpec := { name := "fnExactReplenish", fn := fun _ => fun
  | [d1, d2, d3] => { results := [.lit (.bool false)], args := [d1, d2, d3] }
  | _ => none }
def FnExactReplenishWrongFalsely : Prop := fnExactReplenishRow.holds Try.pinned (OpenSpec.ofChange fnExactReplenishWrong)

/-- 'laws.FnExactEnlargePart': WHATEVER THE INPUT: true; the input reads as it did. -/
def fnExactEnlargePartSpec : ChangeSpec := { name := "fnExactEnlargePart", fn := fun _ => fun
  | [d1, d2, d3] => { results := [.lit (.bool true)], args := [d1, d2, d3] }
  | _ => none }
def fnExactEnlargePartRow : OpenClaim := { program := "ytcplikffpmihpaa", sum := "2ca48ca0568489054cf4bd17e8748fa76f84d5a2ead65fda0f27c0ae360e870c", func := "loop.example/g01301/laws.FnExactEnlargePart", spec := "fnExactEnlargePart", unfollowed := true, recurses := true, apart := false }
def FnExactEnlargePartSaid : Prop := fnExactEnlargePartRow.holds Try.pinned (OpenSpec.ofChange fnExactEnlargePartSpec)

/-- ITS FALSE NEIGHBOUR: 'it returns false'. Refute it at one input. -/
def fnExactEnlargePartWrong : ChangeSpec := { name := "fnExactEnlargePart", fn := fun _ => fun
  | [d1, d2, d3] => { results := [.lit (.bool false)], args := [d1, d2, d3] }
  | _ => none }
def FnExactEnlargePartWrongFalsely : Prop := fnExactEnlargePartRow.holds Try.pinned (OpenSpec.ofChange fnExactEnlargePartWrong)

/-- 'laws.FnExactRestBath': WHATEVER THE INPUT: true; the input reads as it did. -/
def fnExactRestBathSpec : ChangeSpec := { name := "fnExactRestBath", fn := fun _ => fun
  | [d1, d2, d3] => { results := [.lit (.bool true)], args := [d1, d2, d3] }
  | _ => none }
def fnExactRestBathRow : OpenClaim := { program := "ytcplikffpmihpaa", sum := "2ca48ca0568489054cf4bd17e8748fa76f84d5a2ead65fda0f27c0ae360e870c", func := "loop.example/g01301/laws.FnExactRestBath", spec := "fnExactRestBath", apart := false }
def FnExactRestBathSaid : Prop := fnExactRestBathRow.holds Try.pinned (OpenSpec.ofChange fnExactRestBathSpec)

/-- ITS FALSE NEIGHBOUR: 'it returns false'. Refute it at one input. -/
def fnExactRestBathWrong : ChangeSpec := { name := "fnExactRestBath", fn := fun _ => fun
  | [d1, d2, d3] => { results := [.lit (.bool false)], args := [d1, d2, d3] }
  | _ => none }
def FnExactRestBathWrongFalsely : Prop := fnExactRestBathRow.holds Try.pinned (OpenSpec.ofChange fnExactRestBathWrong)

/-- 'laws.FnExactNearestBand': WHATEVER THE INPUT: true; the input reads as it did. -/
def fnExactNearestBandSpec : ChangeSpec := { name := "fnExactNearestBand", fn := fun _ => fun
  | [d1, d2] => { results := [.lit (.bool true)], args := [d1, d2] }
  | _ => none }
def fnExactNearestBandRow : OpenClaim := { program := "ytcplikffpmihpaa", sum := "2ca48ca0568489054cf4bd17e8748fa76f84d5a2ead65fda0f27c0ae360e870c", func := "loop.example/g01301/laws.FnExactNearestBand", spec := "fnExactNearestBand", unfollowed := true, recurses := true, apart := false }
def FnExactNearestBandSaid : Prop := fnExactNearestBandRow.holds Try.pinned (OpenSpec.ofChange fnExactNearestBandSpec)

/-- ITS FALSE NEIGHBOUR: 'it returns false'. Refute it at one input. -/
def fnExactNearestBandWrong : ChangeSpec := { name := "fnExactNearestBand", fn := fun _ => fun
  | [d1, d2] => { results := [.lit (.bool false)], args := [d1, d2] }
  | _ => none }
def FnExactNearestBandWrongFalsely : Prop := fnExactNearestBandRow.holds Try.pinned (OpenSpec.ofChange fnExactNearestBandWrong)

/-- 'laws.FnExactRangeOf': WHATEVER THE INPUT: true; the input reads as it did. -/
def fnExactRangeOfSpec : ChangeSpec := { name := "fnExactRangeOf", fn := fun _ => fun
  | [d] => { results := [.lit (.bool true)], args := [d] }
  | _ => none }
def fnExactRangeOfRow : OpenClaim := { program := "ytcplikffpmihpaa", sum := "2ca48ca0568489054cf4bd17e8748fa76f84d5a2ead65fda0f27c0ae360e870c", func := "loop.example/g01301/laws.FnExactRangeOf", spec := "fnExactRangeOf", apart := false }
def FnExactRangeOfSaid : Prop := fnExactRangeOfRow.holds Try.pinned (OpenSpec.ofChange fnExactRangeOfSpec)

/-- ITS FALSE NEIGHBOUR: 'it returns false'. Refute it at one input. -/
def fnExactRangeOfWrong : ChangeSpec := { name := "fnExactRangeOf", fn := fun _ => fun
  | [d] => { results := [.lit (.bool false)], args := [d] }
  | _ => none }
def FnExactRangeOfWrongFalsely : Prop := fnExactRangeOfRow.holds Try.pinned (OpenSpec.ofChange fnExactRangeOfWrong)

/-- 'laws.FnExactReplenishFor': WHATEVER THE INPUT: true; the input reads as it did. -/
def fnExactReplenishForSpec : ChangeSpec := { name := "fnExactReplenishFor", fn := fun _ => fun
  | [d1, d2, d3] => { results := [.lit (.bool true)], args := [d1, d2, d3] }
  | _ => none }
def fnExactReplenishForRow : OpenClaim := { program := "ytcplikffpmihpaa", sum := "2ca48ca0568489054cf4bd17e8748fa76f84d5a2ead65fda0f27c0ae360e870c", func := "loop.example/g01301/laws.FnExactReplenishFor", spec := "fnExactReplenishFor", unfollowed := true, recurses := true, apart := false }
def FnExactReplenishForSaid : Prop := fnExactReplenishForRow.holds Try.pinned (OpenSpec.ofChange fnExactReplenishForSpec)

/-- ITS FALSE NEIGHBOUR: 'it returns false'. Refute it at one input. -/
def fnExactReplenishForWrong : ChangeSpec := { name := "fnExactReplenishFor", fn := fun _ => fun
  | [d1, d2, d3] => { results := [.lit (.bool false)], args := [d1, d2, d3] }
  | _ => none }
def FnExactReplenishForWrongFalsely : Prop := fnExactReplenishForRow.holds Try.pinned (OpenSpec.ofChange fnExactReplenishForWrong)

/-- 'laws.FnExactSheetsLeft': WHATEVER THE INPUT: true; the input reads as it did. -/
def fnExactSheetsLeftSpec : ChangeSpec := { name := "fnExactSheetsLeft", fn := fun _ => fun
  | [d1, d2, d3, d4] => { results := [.lit (.bool true)], args := [d1, d2, d3, d4] }
  | _ => none }
def fnExactSheetsLeftRow : OpenClaim := { program := "ytcplikffpmihpaa", sum := "2ca48ca0568489054cf4bd17e8748fa76f84d5a2ead65fda0f27c0ae360e870c", func := "loop.example/g01301/laws.FnExactSheetsLeft", spec := "fnExactSheetsLeft", apart := false }
def FnExactSheetsLeftSaid : Prop := fnExactSheetsLeftRow.holds Try.pinned (OpenSpec.ofChange fnExactSheetsLeftSpec)

/-- ITS FALSE NEIGHBOUR: 'it returns false'. Refute it at one input. -/
def fnExactSheetsLeftWrong : ChangeSpec := { name := "fnExactSheetsLeft", fn := fun _ => fun
  | [d1, d2, d3, d4] => { results := [.lit (.bool false)], args := [d1, d2, d3, d4] }
  | _ => none }
def FnExactSheetsLeftWrongFalsely : Prop := fnExactSheetsLeftRow.holds Try.pinned (OpenSpec.ofChange fnExactSheetsLeftWrong)

/-- 'laws.FnExactDevelopTime': WHATEVER THE INPUT: true; the input reads as it did. -/
def fnExactDevelopTimeSpec : ChangeSpec := { name := "fnExactDevelopTime", fn := fun _ => fun
  | [d1, d2, d3, d4] => { results := [.lit (.bool true)], args := [d1, d2, d3, d4] }
  | _ => none }
def fnExactDevelopTimeRow : OpenClaim := { program := "ytcplikffpmihpaa", sum := "2ca48ca0568489054cf4bd17e8748fa76f84d5a2ead65fda0f27c0ae360e870c", func := "loop.example/g01301/laws.FnExactDevelopTime", spec := "fnExactDevelopTime", apart := false }
def FnExactDevelopTimeSaid : Prop := fnExactDevelopTimeRow.holds Try.pinned (OpenSpec.ofChange fnExactDevelopTimeSpec)

/-- ITS FALSE NEIGHBOUR: 'it returns false'. Refute it at one input. -/
def fnExactDevelopTimeWrong : ChangeSpec := { name := "fnExactDevelopTime", fn := fun _ => fun
  | [d1, d2, d3, d4] => { results := [.lit (.bool false)], args := [d1, d2, d3, d4] }
  | _ => none }
def FnExactDevelopTimeWrongFalsely : Prop := fnExactDevelopTimeRow.holds Try.pinned (OpenSpec.ofChange fnExactDevelopTimeWrong)

/-- 'laws.FnExactTimesOn': WHATEVER THE INPUT: true; the input reads as it did. -/
def fnExactTimesOnSpec : ChangeSpec := { name := "fnExactTimesOn", fn := fun _ => fun
  | [d] => { results := [.lit (.bool true)], args := [d] }
  | _ => none }
def fnExactTimesOnRow : OpenClaim := { program := "ytcplikffpmihpaa", sum := "2ca48ca0568489054cf4bd17e8748fa76f84d5a2ead65fda0f27c0ae360e870c", func := "loop.example/g01301/laws.FnExactTimesOn", spec := "fnExactTimesOn", unfollowed := true, recurses := true, apart := false }
def FnExactTimesOnSaid : Prop := fnExactTimesOnRow.holds Try.pinned (OpenSpec.ofChange fnExactTimesOnSpec)

/-- ITS FALSE NEIGHBOUR: 'it returns false'. Refute it at one input. -/
def fnExactTimesOnWrong : ChangeSpec := { name := "fnExactTimesOn", fn := fun _ => fun
  | [d] => { results := [.lit (.bool false)], args := [d] }
  | _ => none }
def FnExactTimesOnWrongFalsely : Prop := fnExactTimesOnRow.holds Try.pinned (OpenSpec.ofChange fnExactTimesOnWrong)

/-- 'laws.FnExactCoveredLights': WHATEVER THE INPUT: true; the input reads as it did. -/
def fnExactCoveredLightsSpec : ChangeSpec := { name := "fnExactCoveredLights", fn := fun _ => fun
  | [d] => { results := [.lit (.bool true)], args := [d] }
  | _ => none }
def fnExactCoveredLightsRow : OpenClaim := { program := "ytcplikffpmihpaa", sum := "2ca48ca0568489054cf4bd17e8748fa76f84d5a2ead65fda0f27c0ae360e870c", func := "loop.example/g01301/laws.FnExactCoveredLights", spec := "fnExactCoveredLights", apart := false }
def FnExactCoveredLightsSaid : Prop := fnExactCoveredLightsRow.holds Try.pinned (OpenSpec.ofChange fnExactCoveredLightsSpec)

/-- ITS FALSE NEIGHBOUR: 'it returns false'. Refute it at one input. -/
def fnExactCoveredLightsWrong : ChangeSpec := { name := "fnExactCoveredLights", fn := fun _ => fun
  | [d] => { results := [.lit (.bool false)], args := [d] }
  | _ => none }
def FnExactCoveredLightsWrongFalsely : Prop := fnExactCoveredLightsRow.holds Try.pinned (OpenSpec.ofChange fnExactCoveredLightsWrong)

/- THE SECOND FORM. 'bulk': how many values and letters a reading holds, each counted each time it is reached (what is shared counts as often as it is met; a slice's spare places count too). A statement '..UptoSaid' is the law's where the arguments, and the package variables that the reading takes, are together of bulk at most 1048576: NARROWER than '..Said'. Prove '..Said' where nothing that the law and all that it calls make is longer than what came in: it says more and counts as full. Else prove '..UptoSaid'. A law counts once. -/
mutual
def uptoBulk {H : Type} : DataW H → Nat
  | .lit (.string bytes) => bytes.length + 1
  | .lit _ => 1
  | .nil => 1
  | .ptr d => uptoBulk d + 1
  | .slice elems spare => uptoBulkAll elems + uptoBulkAll spare + 1
  | .agg parts => uptoBulkAll parts + 1
  | .iface _ d => uptoBulk d + 1
  | .map entries => uptoBulkEntries entries + 1
  | .held _ => 1
def uptoBulkAll {H : Type} : List (DataW H) → Nat
  | [] => 0
  | d :: r => uptoBulk d + uptoBulkAll r
def uptoBulkEntries {H : Type} : List (Lit × DataW H) → Nat
  | [] => 0
  | x :: r => uptoBulkEntry x + uptoBulkEntries r
def uptoBulkEntry {H : Type} : Lit × DataW H → Nat
  | (.string bytes, d) => bytes.length + uptoBulk d + 1
  | (_, d) => uptoBulk d + 1
 end
def uptoSmall : (H : Type) → List (DataW H) → Bool := fun _ ds => decide (uptoBulkAll ds ≤ 1048576)
def OpenSpec.upto (s : _root_.Go.ChangeSpec) : _root_.Go.OpenSpec := { _root_.Go.OpenSpec.ofChange s with cond := some uptoSmall }

/-- 'laws.FnExactTurnNegative', WHERE WHAT IT READS IS OF BULK AT MOST 1048576: true; the input reads as it did. -/
def fnExactTurnNegativeUptoRow : OpenClaim := { program := "ytcplikffpmihpaa", sum := "2ca48ca0568489054cf4bd17e8748fa76f84d5a2ead65fda0f27c0ae360e870c", func := "loop.example/g01301/laws.FnExactTurnNegative", spec := "fnExactTurnNegative", unfollowed := true, recurses := true, apart := false, narrowed := true }
def FnExactTurnNegativeUptoSaid : Prop := fnExactTurnNegativeUptoRow.holds Try.pinned (OpenSpec.upto fnExactTurnNegativeSpec)

/-- 'laws.FnExactDifferIn', WHERE WHAT IT READS IS OF BULK AT MOST 1048576: true; the input reads as it did. -/
def fnExactDifferInUptoRow : OpenClaim := { program := "ytcplikffpmihpaa", sum := "2ca48ca0568489054cf4bd17e8748fa76f84d5a2ead65fda0f27c0ae360e870c", func := "loop.example/g01301/laws.FnExactDifferIn", spec := "fnExactDifferIn", apart := false, narrowed := true }
def FnExactDifferInUptoSaid : Prop := fnExactDifferInUptoRow.holds Try.pinned (OpenSpec.upto fnExactDifferInSpec)

/-- 'laws.FnExactReplenish', WHERE WHAT IT READS IS OF BULK AT MOST 1048576: true; the input reads as it did. -/
def fnExactReplenishUptoRow : OpenClaim := { program := "ytcplikffpmihpaa", sum := "2ca48ca0568489054cf4bd17e8748fa76f84d5a2ead65fda0f27c0ae360e870c", func := "loop.example/g01301/laws.FnExactReplenish", spec := "fnExactReplenish", apart := false, narrowed := true }
def FnExactReplenishUptoSaid : Prop := fnExactReplenishUptoRow.holds Try.pinned (OpenSpec.upto fnExactReplenishSpec)

/-- 'laws.FnExactEnlargePart', WHERE WHAT IT READS IS OF BULK AT MOST 1048576: true; the input reads as it did. -/
def fnExactEnlargePartUptoRow : OpenClaim := { program := "ytcplikffpmihpaa", sum := "2ca48ca0568489054cf4bd17e8748fa76f84d5a2ead65fda0f27c0ae360e870c", func := "loop.example/g01301/laws.FnExactEnlargePart", spec := "fnExactEnlargePart", unfollowed := true, recurses := true, apart := false, narrowed := true }
def FnExactEnlargePartUptoSaid : Prop := fnExactEnlargePartUptoRow.holds Try.pinned (OpenSpec.upto fnExactEnlargePartSpec)

/-- 'laws.FnExactRestBath', WHERE WHAT IT READS IS OF BULK AT MOST 1048576: true; the input reads as it did. -/
def fnExactRestBathUptoRow : OpenClaim := { program := "ytcplikffpmihpaa", sum := "2ca48ca0568489054cf4bd17e8748fa76f84d5a2ead65fda0f27c0ae360e870c", func := "loop.example/g01301/laws.FnExactRestBath", spec := "fnExactRestBath", apart := false, narrowed := true }
def FnExactRestBathUptoSaid : Prop := fnExactRestBathUptoRow.holds Try.pinned (OpenSpec.upto fnExactRestBathSpec)

/-- 'laws.FnExactNearestBand', WHERE WHAT IT READS IS OF BULK AT MOST 1048576: true; the input reads as it did. -/
def fnExactNearestBandUptoRow : OpenClaim := { program := "ytcplikffpmihpaa", sum := "2ca48ca0568489054cf4bd17e8748fa76f84d5a2ead65fda0f27c0ae360e870c", func := "loop.example/g01301/laws.FnExactNearestBand", spec := "fnExactNearestBand", unfollowed := true, recurses := true, apart := false, narrowed := true }
def FnExactNearestBandUptoSaid : Prop := fnExactNearestBandUptoRow.holds Try.pinned (OpenSpec.upto fnExactNearestBandSpec)

/-- 'laws.FnExactRangeOf', WHERE WHAT IT READS IS OF BULK AT MOST 1048576: true; the input reads as it did. -/
def fnExactRangeOfUptoRow : OpenClaim := { program := "ytcplikffpmihpaa", sum := "2ca48ca0568489054cf4bd17e8748fa76f84d5a2ead65fda0f27c0ae360e870c", func := "loop.example/g01301/laws.FnExactRangeOf", spec := "fnExactRangeOf", apart := false, narrowed := true }
def FnExactRangeOfUptoSaid : Prop := fnExactRangeOfUptoRow.holds Try.pinned (OpenSpec.upto fnExactRangeOfSpec)

/-- 'laws.FnExactReplenishFor', WHERE WHAT IT READS IS OF BULK AT MOST 1048576: true; the input reads as it did. -/
def fnExactReplenishForUptoRow : OpenClaim := { program := "ytcplikffpmihpaa", sum := "2ca48ca0568489054cf4bd17e8748fa76f84d5a2ead65fda0f27c0ae360e870c", func := "loop.example/g01301/laws.FnExactReplenishFor", spec := "fnExactReplenishFor", unfollowed := true, recurses := true, apart := false, narrowed := true }
def FnExactReplenishForUptoSaid : Prop := fnExactReplenishForUptoRow.holds Try.pinned (OpenSpec.upto fnExactReplenishForSpec)

/-- 'laws.FnExactSheetsLeft', WHERE WHAT IT READS IS OF BULK AT MOST 1048576: true; the input reads as it did. -/
def fnExactSheetsLeftUptoRow : OpenClaim := { program := "ytcplikffpmihpaa", sum := "2ca48ca0568489054cf4bd17e8748fa76f84d5a2ead65fda0f27c0ae360e870c", func := "loop.example/g01301/laws.FnExactSheetsLeft", spec := "fnExactSheetsLeft", apart := false, narrowed := true }
def FnExactSheetsLeftUptoSaid : Prop := fnExactSheetsLeftUptoRow.holds Try.pinned (OpenSpec.upto fnExactSheetsLeftSpec)

/-- 'laws.FnExactDevelopTime', WHERE WHAT IT READS IS OF BULK AT MOST 1048576: true; the input reads as it did. -/
def fnExactDevelopTimeUptoRow : OpenClaim := { program := "ytcplikffpmihpaa", sum := "2ca48ca0568489054cf4bd17e8748fa76f84d5a2ead65fda0f27c0ae360e870c", func := "loop.example/g01301/laws.FnExactDevelopTime", spec := "fnExactDevelopTime", apart := false, narrowed := true }
def FnExactDevelopTimeUptoSaid : Prop := fnExactDevelopTimeUptoRow.holds Try.pinned (OpenSpec.upto fnExactDevelopTimeSpec)

/-- 'laws.FnExactTimesOn', WHERE WHAT IT READS IS OF BULK AT MOST 1048576: true; the input reads as it did. -/
def fnExactTimesOnUptoRow : OpenClaim := { program := "ytcplikffpmihpaa", sum := "2ca48ca0568489054cf4bd17e8748fa76f84d5a2ead65fda0f27c0ae360e870c", func := "loop.example/g01301/laws.FnExactTimesOn", spec := "fnExactTimesOn", unfollowed := true, recurses := true, apart := false, narrowed := true }
def FnExactTimesOnUptoSaid : Prop := fnExactTimesOnUptoRow.holds Try.pinned (OpenSpec.upto fnExactTimesOnSpec)

/-- 'laws.FnExactCoveredLights', WHERE WHAT IT READS IS OF BULK AT MOST 1048576: true; the input reads as it did. -/
def fnExactCoveredLightsUptoRow : OpenClaim := { program := "ytcplikffpmihpaa", sum := "2ca48ca0568489054cf4bd17e8748fa76f84d5a2ead65fda0f27c0ae360e870c", func := "loop.example/g01301/laws.FnExactCoveredLights", spec := "fnExactCoveredLights", apart := false, narrowed := true }
def FnExactCoveredLightsUptoSaid : Prop := fnExactCoveredLightsUptoRow.holds Try.pinned (OpenSpec.upto fnExactCoveredLightsSpec)

end Rows
end Go.Proofs.Ytcplikffpmihpaa
