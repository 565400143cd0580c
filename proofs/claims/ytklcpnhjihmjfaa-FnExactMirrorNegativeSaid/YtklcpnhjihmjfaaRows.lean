/-
  No cell of these rows narrows 'for every input' (looked for: loops, veiled, ifaces, maps, wideKeys, modest, calm, conditions, laid).
  DERIVED. THE GIVEN ROWS OF THIS SEAT. 12 by the template 'for every input the law returns true; each argument reads behind the call as it read before'; 0 by the template 'total and deterministic' (their statements: YtklcpnhjihmjfaaTotals.lean).
  GIVEN WITH THE SEED: the statements are not yours to turn. If you find one false, say at which input.
  Laid BY PROGRAM, IN A SANDBOX (cutbox-rows.mjs): the forced cells as the released guide's own fill.sh prints them over the translation 295a7b6ab76b5dc8… (all of the seat's roots in one cut). By AI agents, Wed Nov 11 2026. No macro, syntax, notation, axiom, sorry.
-/
import Derived.Test.YtklcpnhjihmjfaaChecked
import GoSem.Claim
import GoSem.ClaimJoined
import GoSem.ClaimMapViews
import Derived.JoinedTies
import Derived.KernelRfl
namespace Go.Proofs.Ytklcpnhjihmjfaa
/- THE CELL 'sum', in the pinned program and in every row, IS THE sha256 OF THE DUMP (.gsa) THAT YtklcpnhjihmjfaaProg.lean LOADS. Nothing in Lean hashes anything: it is a label: what it is worth is what the hold of that sum in a sandbox is worth. -/
noncomputable def Try.pinned : Pinned := { name := "ytklcpnhjihmjfaa", sum := "295a7b6ab76b5dc830b3eb7be4f9cf4e5de590d0ccf698ef87816e6d0d225c55", checked := Try.checked }
namespace Rows
def none {H : Type} : Left H := { results := [], args := [] }

/-- 'laws.FnExactValidDeveloper': WHATEVER THE INPUT: true; the input reads as it did. -/
def fnExactValidDeveloperSpec : ChangeSpec := { name := "fnExactValidDeveloper", fn := fun _ => fun
  | [d] => { results := [.lit (.bool true)], args := [d] }
  | _ => none }
def fnExactValidDeveloperRow : OpenClaim := { program := "ytklcpnhjihmjfaa", sum := "295a7b6ab76b5dc830b3eb7be4f9cf4e5de590d0ccf698ef87816e6d0d225c55", func := "loop.example/g01301/laws.FnExactValidDeveloper", spec := "fnExactValidDeveloper", apart := false }
def FnExactValidDeveloperSaid : Prop := fnExactValidDeveloperRow.holds Try.pinned (OpenSpec.ofChange fnExactValidDeveloperSpec)

/-- ITS FALSE NEIGHBOUR: 'it returns false'. Refute it at one input. -/
def fnExactValidDeveloperWrong : ChangeSpec := { name := "fnExactValidDeveloper", fn := fun _ => fun
  | [d] => { results := [.lit (.bool false)], args := [d] }
  | _ => none }
def FnExactValidDeveloperWrongFalsely : Prop := fnExactValidDeveloperRow.holds Try.pinned (OpenSpec.ofChange fnExactValidDeveloperWrong)

/-- 'laws.FnExactValidStrip': WHATEVER THE INPUT: true; the input reads as it did. -/
def fnExactValidStripSpec : ChangeSpec := { name := "fnExactValidStrip", fn := fun _ => fun
  | [d] => { results := [.lit (.bool true)], args := [d] }
  | _ => none }
def fnExactValidStripRow : OpenClaim := { program := "ytklcpnhjihmjfaa", sum := "295a7b6ab76b5dc830b3eb7be4f9cf4e5de590d0ccf698ef87816e6d0d225c55", func := "loop.example/g01301/laws.FnExactValidStrip", spec := "fnExactValidStrip", apart := false }
def FnExactValidStripSaid : Prop := fnExactValidStripRow.holds Try.pinned (OpenSpec.ofChange fnExactValidStripSpec)

/-- ITS FALSE NEIGHBOUR: 'it returns false'. Refute it at one input. -/
def fnExactValidStripWrong : ChangeSpec := { name := "fnExactValidStrip", fn := fun _ => fun
  | [d] => { results := [.lit (.bool false)], args := [d] }
  | _ => none }
def FnExactValidStripWrongFalsely : Prop := fnExactValidStripRow.holds Try.pinned (OpenSpec.ofChange fnExactValidStripWrong)

/-- 'laws.FnExactValidBath': WHATEVER THE INPUT: true; the input reads as it did. -/
def fnExactValidBathSpec : ChangeSpec := { name := "fnExactValidBath", fn := fun _ => fun
  | [d1, d2] => { results := [.lit (.bool true)], args := [d1, d2] }
  | _ => none }
def fnExactValidBathRow : OpenClaim := { program := "ytklcpnhjihmjfaa", sum := "295a7b6ab76b5dc830b3eb7be4f9cf4e5de590d0ccf698ef87816e6d0d225c55", func := "loop.example/g01301/laws.FnExactValidBath", spec := "fnExactValidBath", apart := false }
def FnExactValidBathSaid : Prop := fnExactValidBathRow.holds Try.pinned (OpenSpec.ofChange fnExactValidBathSpec)

/-- ITS FALSE NEIGHBOUR: 'it returns false'. Refute it at one input. -/
def fnExactValidBathWrong : ChangeSpec := { name := "fnExactValidBath", fn := fun _ => fun
  | [d1, d2] => { results := [.lit (.bool false)], args := [d1, d2] }
  | _ => none }
def FnExactValidBathWrongFalsely : Prop := fnExactValidBathRow.holds Try.pinned (OpenSpec.ofChange fnExactValidBathWrong)

/-- 'laws.FnExactSlowerBy': WHATEVER THE INPUT: true; the input reads as it did. -/
def fnExactSlowerBySpec : ChangeSpec := { name := "fnExactSlowerBy", fn := fun _ => fun
  | [d] => { results := [.lit (.bool true)], args := [d] }
  | _ => none }
def fnExactSlowerByRow : OpenClaim := { program := "ytklcpnhjihmjfaa", sum := "295a7b6ab76b5dc830b3eb7be4f9cf4e5de590d0ccf698ef87816e6d0d225c55", func := "loop.example/g01301/laws.FnExactSlowerBy", spec := "fnExactSlowerBy", apart := false }
def FnExactSlowerBySaid : Prop := fnExactSlowerByRow.holds Try.pinned (OpenSpec.ofChange fnExactSlowerBySpec)

/-- ITS FALSE NEIGHBOUR: 'it returns false'. Refute it at one input. -/
def fnExactSlowerByWrong : ChangeSpec := { name := "fnExactSlowerBy", fn := fun _ => fun
  | [d] => { results := [.lit (.bool false)], args := [d] }
  | _ => none }
def FnExactSlowerByWrongFalsely : Prop := fnExactSlowerByRow.holds Try.pinned (OpenSpec.ofChange fnExactSlowerByWrong)

/-- 'laws.FnExactNewBath': WHATEVER THE INPUT: true; the input reads as it did. -/
def fnExactNewBathSpec : ChangeSpec := { name := "fnExactNewBath", fn := fun _ => fun
  | [d1, d2] => { results := [.lit (.bool true)], args := [d1, d2] }
  | _ => none }
def fnExactNewBathRow : OpenClaim := { program := "ytklcpnhjihmjfaa", sum := "295a7b6ab76b5dc830b3eb7be4f9cf4e5de590d0ccf698ef87816e6d0d225c55", func := "loop.example/g01301/laws.FnExactNewBath", spec := "fnExactNewBath", apart := false }
def FnExactNewBathSaid : Prop := fnExactNewBathRow.holds Try.pinned (OpenSpec.ofChange fnExactNewBathSpec)

/-- ITS FALSE NEIGHBOUR: 'it returns false'. Refute it at one input. -/
def fnExactNewBathWrong : ChangeSpec := { name := "fnExactNewBath", fn := fun _ => fun
  | [d1, d2] => { results := [.lit (.bool false)], args := [d1, d2] }
  | _ => none }
def FnExactNewBathWrongFalsely : Prop := fnExactNewBathRow.holds Try.pinned (OpenSpec.ofChange fnExactNewBathWrong)

/-- 'laws.FnExactStrengthOf': WHATEVER THE INPUT: true; the input reads as it did. -/
def fnExactStrengthOfSpec : ChangeSpec := { name := "fnExactStrengthOf", fn := fun _ => fun
  | [d1, d2] => { results := [.lit (.bool true)], args := [d1, d2] }
  | _ => none }
def fnExactStrengthOfRow : OpenClaim := { program := "ytklcpnhjihmjfaa", sum := "295a7b6ab76b5dc830b3eb7be4f9cf4e5de590d0ccf698ef87816e6d0d225c55", func := "loop.example/g01301/laws.FnExactStrengthOf", spec := "fnExactStrengthOf", apart := false }
def FnExactStrengthOfSaid : Prop := fnExactStrengthOfRow.holds Try.pinned (OpenSpec.ofChange fnExactStrengthOfSpec)

/-- ITS FALSE NEIGHBOUR: 'it returns false'. Refute it at one input. -/
def fnExactStrengthOfWrong : ChangeSpec := { name := "fnExactStrengthOf", fn := fun _ => fun
  | [d1, d2] => { results := [.lit (.bool false)], args := [d1, d2] }
  | _ => none }
def FnExactStrengthOfWrongFalsely : Prop := fnExactStrengthOfRow.holds Try.pinned (OpenSpec.ofChange fnExactStrengthOfWrong)

/-- 'laws.FnExactFinerStrip': WHATEVER THE INPUT: true; the input reads as it did. -/
def fnExactFinerStripSpec : ChangeSpec := { name := "fnExactFinerStrip", fn := fun _ => fun
  | [d1, d2] => { results := [.lit (.bool true)], args := [d1, d2] }
  | _ => none }
def fnExactFinerStripRow : OpenClaim := { program := "ytklcpnhjihmjfaa", sum := "295a7b6ab76b5dc830b3eb7be4f9cf4e5de590d0ccf698ef87816e6d0d225c55", func := "loop.example/g01301/laws.FnExactFinerStrip", spec := "fnExactFinerStrip", apart := false }
def FnExactFinerStripSaid : Prop := fnExactFinerStripRow.holds Try.pinned (OpenSpec.ofChange fnExactFinerStripSpec)

/-- ITS FALSE NEIGHBOUR: 'it returns false'. Refute it at one input. -/
def fnExactFinerStripWrong : ChangeSpec := { name := "fnExactFinerStrip", fn := fun _ => fun
  | [d1, d2] => { results := [.lit (.bool false)], args := [d1, d2] }
  | _ => none }
def FnExactFinerStripWrongFalsely : Prop := fnExactFinerStripRow.holds Try.pinned (OpenSpec.ofChange fnExactFinerStripWrong)

/-- 'laws.FnExactMirrorNegative': WHATEVER THE INPUT: true; the input reads as it did. -/
def fnExactMirrorNegativeSpec : ChangeSpec := { name := "fnExactMirrorNegative", fn := fun _ => fun
  | [d] => { results := [.lit (.bool true)], args := [d] }
  | _ => none }
def fnExactMirrorNegativeRow : OpenClaim := { program := "ytklcpnhjihmjfaa", sum := "295a7b6ab76b5dc830b3eb7be4f9cf4e5de590d0ccf698ef87816e6d0d225c55", func := "loop.example/g01301/laws.FnExactMirrorNegative", spec := "fnExactMirrorNegative", unfollowed := true, recurses := true, apart := false }
def FnExactMirrorNegativeSaid : Prop := fnExactMirrorNegativeRow.holds Try.pinned (OpenSpec.ofChange fnExactMirrorNegativeSpec)

/-- ITS FALSE NEIGHBOUR: 'it returns false'. Refute it at one input. -/
def fnExactMirrorNegativeWrong : ChangeSpec := { name := "fnExactMirrorNegative", fn := fun _ => fun
  | [d] => { results := [.lit (.bool false)], args := [d] }
  | _ => none }
def FnExactMirrorNegativeWrongFalsely : Prop := fnExactMirrorNegativeRow.holds Try.pinned (OpenSpec.ofChange fnExactMirrorNegativeWrong)

/-- 'laws.FnExactFirstBand': WHATEVER THE INPUT: true; the input reads as it did. -/
def fnExactFirstBandSpec : ChangeSpec := { name := "fnExactFirstBand", fn := fun _ => fun
  | [d1, d2] => { results := [.lit (.bool true)], args := [d1, d2] }
  | _ => none }
def fnExactFirstBandRow : OpenClaim := { program := "ytklcpnhjihmjfaa", sum := "295a7b6ab76b5dc830b3eb7be4f9cf4e5de590d0ccf698ef87816e6d0d225c55", func := "loop.example/g01301/laws.FnExactFirstBand", spec := "fnExactFirstBand", unfollowed := true, recurses := true, apart := false }
def FnExactFirstBandSaid : Prop := fnExactFirstBandRow.holds Try.pinned (OpenSpec.ofChange fnExactFirstBandSpec)

/-- ITS FALSE NEIGHBOUR: 'it returns false'. Refute it at one input. -/
def fnExactFirstBandWrong : ChangeSpec := { name := "fnExactFirstBand", fn := fun _ => fun
  | [d1, d2] => { results := [.lit (.bool false)], args := [d1, d2] }
  | _ => none }
def FnExactFirstBandWrongFalsely : Prop := fnExactFirstBandRow.holds Try.pinned (OpenSpec.ofChange fnExactFirstBandWrong)

/-- 'laws.FnExactValidSteps': WHATEVER THE INPUT: true; the input reads as it did. -/
def fnExactValidStepsSpec : ChangeSpec := { name := "fnExactValidSteps", fn := fun _ => fun
  | [d] => { results := [.lit (.bool true)], args := [d] }
  | _ => none }
def fnExactValidStepsRow : OpenClaim := { program := "ytklcpnhjihmjfaa", sum := "295a7b6ab76b5dc830b3eb7be4f9cf4e5de590d0ccf698ef87816e6d0d225c55", func := "loop.example/g01301/laws.FnExactValidSteps", spec := "fnExactValidSteps", unfollowed := true, recurses := true, apart := false }
def FnExactValidStepsSaid : Prop := fnExactValidStepsRow.holds Try.pinned (OpenSpec.ofChange fnExactValidStepsSpec)

/-- ITS FALSE NEIGHBOUR: 'it returns false'. Refute it at one input. -/
def fnExactValidStepsWrong : ChangeSpec := { name := "fnExactValidSteps", fn := fun _ => fun
  | [d] => { results := [.lit (.bool false)], args := [d] }
  | _ => none }
def FnExactValidStepsWrongFalsely : Prop := fnExactValidStepsRow.holds Try.pinned (OpenSpec.ofChange fnExactValidStepsWrong)

/-- 'laws.FnExactMixBaths': WHATEVER THE INPUT: true; the input reads as it did. -/
def fnExactMixBathsSpec : ChangeSpec := { name := "fnExactMixBaths", fn := fun _ => fun
  | [d1, d2, d3] => { results := [.lit (.bool true)], args := [d1, d2, d3] }
  | _ => none }
def fnExactMixBathsRow : OpenClaim := { program := "ytklcpnhjihmjfaa", sum := "295a7b6ab76b5dc830b3eb7be4f9cf4e5de590d0ccf698ef87816e6d0d225c55", func := "loop.example/g01301/laws.FnExactMixBaths", spec := "fnExactMixBaths", apart := false }
def FnExactMixBathsSaid : Prop := fnExactMixBathsRow.holds Try.pinned (OpenSpec.ofChange fnExactMixBathsSpec)

/-- ITS FALSE NEIGHBOUR: 'it returns false'. Refute it at one input. -/
def fnExactMixBathsWrong : ChangeSpec := { name := "fnExactMixBaths", fn := fun _ => fun
  | [d1, d2, d3] => { results := [.lit (.bool false)], args := [d1, d2, d3] }
  | _ => none }
def FnExactMixBathsWrongFalsely : Prop := fnExactMixBathsRow.holds Try.pinned (OpenSpec.ofChange fnExactMixBathsWrong)

/-- 'laws.FnExactLightsOf': WHATEVER THE INPUT: true; the input reads as it did. -/
def fnExactLightsOfSpec : ChangeSpec := { name := "fnExactLightsOf", fn := fun _ => fun
  | [d] => { results := [.lit (.bool true)], args := [d] }
  | _ => none }
def fnExactLightsOfRow : OpenClaim := { program := "ytklcpnhjihmjfaa", sum := "295a7b6ab76b5dc830b3eb7be4f9cf4e5de590d0ccf698ef87816e6d0d225c55", func := "loop.example/g01301/laws.FnExactLightsOf", spec := "fnExactLightsOf", apart := false }
def FnExactLightsOfSaid : Prop := fnExactLightsOfRow.holds Try.pinned (OpenSpec.ofChange fnExactLightsOfSpec)

/-- ITS FALSE NEIGHBOUR: 'it returns false'. Refute it at one input. -/
def fnExactLightsOfWrong : ChangeSpec := { name := "fnExactLightsOf", fn := fun _ => fun
  | [d] => { results := [.lit (.bool false)], args := [d] }
  | _ => none }
def FnExactLightsOfWrongFalsely : Prop := fnExactLightsOfRow.holds Try.pinned (OpenSpec.ofChange fnExactLightsOfWrong)

/- THE SECOND FORM. 'bulk': how many values and letters a reading holds, each counted each time it is reached (what is shared counts as often as it is met; a slice's spare places count too). A statement '..UptoSaid' is the law's where the arguments, and the package variables that the reading takes, are together of bulk at most 1048576: NARROWER than '..Said'. Prove '..Said' where nothing that the law and all that it calls make is longer than what came in: it says more and counts as full. Else prove '..UptoSaid'. A law counts once. -/
mutual
def uptoBulk {H : Type} : DataW H → Nat
  | .lit (.string bytes) => bytes.length + 1
  | .lit _ => 1
  | .nil => 1
  | .ptr d => uptoBulk d + 1
  | .slice elems spare => uptoBulkAll elems + uptoBulkAll spare + 1
  | .agg parts => uptoBulkAll parts + 1
  | .iface _ d => uptoBulk d + 1
  | .map entries => uptoBulkEntries entries + 1
  | .held _ => 1
def uptoBulkAll {H : Type} : List (DataW H) → Nat
  | [] => 0
  | d :: r => uptoBulk d + uptoBulkAll r
def uptoBulkEntries {H : Type} : List (Lit × DataW H) → Nat
  | [] => 0
  | x :: r => uptoBulkEntry x + uptoBulkEntries r
def uptoBulkEntry {H : Type} : Lit × DataW H → Nat
  | (.string bytes, d) => bytes.length + uptoBulk d + 1
  | (_, d) => uptoBulk d + 1
 end
def uptoSmall : (H : Type) → List (DataW H) → Bool := fun _ ds => decide (uptoBulkAll ds ≤ 1048576)
def OpenSpec.upto (s : _root_.Go.ChangeSpec) : _root_.Go.OpenSpec := { _root_.Go.OpenSpec.ofChange s with cond := some uptoSmall }

/-- 'laws.FnExactValidDeveloper', WHERE WHAT IT READS IS OF BULK AT MOST 1048576: true; the input reads as it did. -/
def fnExactValidDeveloperUptoRow : OpenClaim := { program := "ytklcpnhjihmjfaa", sum := "295a7b6ab76b5dc830b3eb7be4f9cf4e5de590d0ccf698ef87816e6d0d225c55", func := "loop.example/g01301/laws.FnExactValidDeveloper", spec := "fnExactValidDeveloper", apart := false, narrowed := true }
def FnExactValidDeveloperUptoSaid : Prop := fnExactValidDeveloperUptoRow.holds Try.pinned (OpenSpec.upto fnExactValidDeveloperSpec)

/-- 'laws.FnExactValidStrip', WHERE WHAT IT READS IS OF BULK AT MOST 1048576: true; the input reads as it did. -/
def fnExactValidStripUptoRow : OpenClaim := { program := "ytklcpnhjihmjfaa", sum := "295a7b6ab76b5dc830b3eb7be4f9cf4e5de590d0ccf698ef87816e6d0d225c55", func := "loop.example/g01301/laws.FnExactValidStrip", spec := "fnExactValidStrip", apart := false, narrowed := true }
def FnExactValidStripUptoSaid : Prop := fnExactValidStripUptoRow.holds Try.pinned (OpenSpec.upto fnExactValidStripSpec)

/-- 'laws.FnExactValidBath', WHERE WHAT IT READS IS OF BULK AT MOST 1048576: true; the input reads as it did. -/
def fnExactValidBathUptoRow : OpenClaim := { program := "ytklcpnhjihmjfaa", sum := "295a7b6ab76b5dc830b3eb7be4f9cf4e5de590d0ccf698ef87816e6d0d225c55", func := "loop.example/g01301/laws.FnExactValidBath", spec := "fnExactValidBath", apart := false, narrowed := true }
def FnExactValidBathUptoSaid : Prop := fnExactValidBathUptoRow.holds Try.pinned (OpenSpec.upto fnExactValidBathSpec)

/-- 'laws.FnExactSlowerBy', WHERE WHAT IT READS IS OF BULK AT MOST 1048576: true; the input reads as it did. -/
def fnExactSlowerByUptoRow : OpenClaim := { program := "ytklcpnhjihmjfaa", sum := "295a7b6ab76b5dc830b3eb7be4f9cf4e5de590d0ccf698ef87816e6d0d225c55", func := "loop.example/g01301/laws.FnExactSlowerBy", spec := "fnExactSlowerBy", apart := false, narrowed := true }
def FnExactSlowerByUptoSaid : Prop := fnExactSlowerByUptoRow.holds Try.pinned (OpenSpec.upto fnExactSlowerBySpec)

/-- 'laws.FnExactNewBath', WHERE WHAT IT READS IS OF BULK AT MOST 1048576: true; the input reads as it did. -/
def fnExactNewBathUptoRow : OpenClaim := { program := "ytklcpnhjihmjfaa", sum := "295a7b6ab76b5dc830b3eb7be4f9cf4e5de590d0ccf698ef87816e6d0d225c55", func := "loop.example/g01301/laws.FnExactNewBath", spec := "fnExactNewBath", apart := false, narrowed := true }
def FnExactNewBathUptoSaid : Prop := fnExactNewBathUptoRow.holds Try.pinned (OpenSpec.upto fnExactNewBathSpec)

/-- 'laws.FnExactStrengthOf', WHERE WHAT IT READS IS OF BULK AT MOST 1048576: true; the input reads as it did. -/
def fnExactStrengthOfUptoRow : OpenClaim := { program := "ytklcpnhjihmjfaa", sum := "295a7b6ab76b5dc830b3eb7be4f9cf4e5de590d0ccf698ef87816e6d0d225c55", func := "loop.example/g01301/laws.FnExactStrengthOf", spec := "fnExactStrengthOf", apart := false, narrowed := true }
def FnExactStrengthOfUptoSaid : Prop := fnExactStrengthOfUptoRow.holds Try.pinned (OpenSpec.upto fnExactStrengthOfSpec)

/-- 'laws.FnExactFinerStrip', WHERE WHAT IT READS IS OF BULK AT MOST 1048576: true; the input reads as it did. -/
def fnExactFinerStripUptoRow : OpenClaim := { program := "ytklcpnhjihmjfaa", sum := "295a7b6ab76b5dc830b3eb7be4f9cf4e5de590d0ccf698ef87816e6d0d225c55", func := "loop.example/g01301/laws.FnExactFinerStrip", spec := "fnExactFinerStrip", apart := false, narrowed := true }
def FnExactFinerStripUptoSaid : Prop := fnExactFinerStripUptoRow.holds Try.pinned (OpenSpec.upto fnExactFinerStripSpec)

/-- 'laws.FnExactMirrorNegative', WHERE WHAT IT READS IS OF BULK AT MOST 1048576: true; the input reads as it did. -/
def fnExactMirrorNegativeUptoRow : OpenClaim := { program := "ytklcpnhjihmjfaa", sum := "295a7b6ab76b5dc830b3eb7be4f9cf4e5de590d0ccf698ef87816e6d0d225c55", func := "loop.example/g01301/laws.FnExactMirrorNegative", spec := "fnExactMirrorNegative", unfollowed := true, recurses := true, apart := false, narrowed := true }
def FnExactMirrorNegativeUptoSaid : Prop := fnExactMirrorNegativeUptoRow.holds Try.pinned (OpenSpec.upto fnExactMirrorNegativeSpec)

/-- 'laws.FnExactFirstBand', WHERE WHAT IT READS IS OF BULK AT MOST 1048576: true; the input reads as it did. -/
def fnExactFirstBandUptoRow : OpenClaim := { program := "ytklcpnhjihmjfaa", sum := "295a7b6ab76b5dc830b3eb7be4f9cf4e5de590d0ccf698ef87816e6d0d225c55", func := "loop.example/g01301/laws.FnExactFirstBand", spec := "fnExactFirstBand", unfollowed := true, recurses := true, apart := false, narrowed := true }
def FnExactFirstBandUptoSaid : Prop := fnExactFirstBandUptoRow.holds Try.pinned (OpenSpec.upto fnExactFirstBandSpec)

/-- 'laws.FnExactValidSteps', WHERE WHAT IT READS IS OF BULK AT MOST 1048576: true; the input reads as it did. -/
def fnExactValidStepsUptoRow : OpenClaim := { program := "ytklcpnhjihmjfaa", sum := "295a7b6ab76b5dc830b3eb7be4f9cf4e5de590d0ccf698ef87816e6d0d225c55", func := "loop.example/g01301/laws.FnExactValidSteps", spec := "fnExactValidSteps", unfollowed := true, recurses := true, apart := false, narrowed := true }
def FnExactValidStepsUptoSaid : Prop := fnExactValidStepsUptoRow.holds Try.pinned (OpenSpec.upto fnExactValidStepsSpec)

/-- 'laws.FnExactMixBaths', WHERE WHAT IT READS IS OF BULK AT MOST 1048576: true; the input reads as it did. -/
def fnExactMixBathsUptoRow : OpenClaim := { program := "ytklcpnhjihmjfaa", sum := "295a7b6ab76b5dc830b3eb7be4f9cf4e5de590d0ccf698ef87816e6d0d225c55", func := "loop.example/g01301/laws.FnExactMixBaths", spec := "fnExactMixBaths", apart := false, narrowed := true }
def FnExactMixBathsUptoSaid : Prop := fnExactMixBathsUptoRow.holds Try.pinned (OpenSpec.upto fnExactMixBathsSpec)

/-- 'laws.FnExactLightsOf', WHERE WHAT IT READS IS OF BULK AT MOST 1048576: true; the input reads as it did. -/
def fnExactLightsOfUptoRow : OpenClaim := { program := "ytklcpnhjihmjfaa", sum := "295a7b6ab76b5dc830b3eb7be4f9cf4e5de590d0ccf698ef87816e6d0d225c55", func := "loop.example/g01301/laws.FnExactLightsOf", spec := "fnExactLightsOf", apart := false, narrowed := true }
def FnExactLightsOfUptoSaid : Prop := fnExactLightsOfUptoRow.holds Try.pinned (OpenSpec.upto fnExactLightsOfSpec)

end Rows
end Go.Proofs.Ytklcpnhjihmjfaa
