/-
  No cell of these rows narrows 'for every input' (looked for: loops, veiled, ifaces, maps, wideKeys, modest, calm, conditions, laid).
  DERIVED. THE GIVEN ROWS OF THIS SEAT. 4 by the template 'for every input the law returns true; each argument reads behind the call as it read before'; 0 by the template 'total and deterministic' (their statements: YtldhgldknefjdaaTotals.lean).
  GIVEN WITH THE SEED: the statements are not yours to turn. If you find one false, say at which input.
  Laid BY PROGRAM, IN A SANDBOX (cutbox-rows.mjs): the forced cells as the released guide's own fill.sh prints them over the translation 5d7eb13755647428… (all of the seat's roots in one cut). By AI agents, Wed Nov 11 2026. No macro, syntax, notation, axiom, sorry.
-/
import Derived.Test.YtldhgldknefjdaaChecked
import GoSem.Claim
import GoSem.ClaimJoined
import GoSem.ClaimMapViews
import Derived.JoinedTies
import Derived.KernelRfl
namespace Go.Proofs.Ytldhgldknefjdaa
/- THE CELL 'sum', in the pinned program and in every row, IS THE sha256 OF THE DUMP (.gsa) THAT YtldhgldknefjdaaProg.lean LOADS. Nothing in Lean hashes anything: it is a label: what it is worth is what the hold of that sum in a sandbox is worth. -/
noncomputable def Try.pinned : Pinned := { name := "ytldhgldknefjdaa", sum := "5d7eb13755647428d33b835231e0eba1a6ced386a678c4fb4152d2a232452b40", checked := Try.checked }
namespace Rows
def none {H : Type} : Left H := { results := [], args := [] }

/-- 'laws.FnExactBandsOf': WHATEVER THE INPUT: true; the input reads as it did. -/
def fnExactBandsOfSpec : ChangeSpec := { name := "fnExactBandsOf", fn := fun _ => fun
  | [d1, d2, d3] => { results := [.lit (.bool true)], args := [d1, d2, d3] }
  | _ => none }
def fnExactBandsOfRow : OpenClaim := { program := "ytldhgldknefjdaa", sum := "5d7eb13755647428d33b835231e0eba1a6ced386a678c4fb4152d2a232452b40", func := "loop.example/g01301/laws.FnExactBandsOf", spec := "fnExactBandsOf", unfollowed := true, recurses := true, apart := false }
def FnExactBandsOfSaid : Prop := fnExactBandsOfRow.holds Try.pinned (OpenSpec.ofChange fnExactBandsOfSpec)

/-- ITS FALSE NEIGHBOUR: 'it returns false'. Refute it at one input. -/
def fnExactBandsOfWrong : ChangeSpec := { name := "fnExactBandsOf", fn := fun _ => fun
  | [d1, d2, d3] => { results := [.lit (.bool false)], args := [d1, d2, d3] }
  | _ => none }
def FnExactBandsOfWrongFalsely : Prop := fnExactBandsOfRow.holds Try.pinned (OpenSpec.ofChange fnExactBandsOfWrong)

/-- 'laws.FnExactCoveredBands': WHATEVER THE INPUT: true; the input reads as it did. -/
def fnExactCoveredBandsSpec : ChangeSpec := { name := "fnExactCoveredBands", fn := fun _ => fun
  | [d1, d2, d3] => { results := [.lit (.bool true)], args := [d1, d2, d3] }
  | _ => none }
def fnExactCoveredBandsRow : OpenClaim := { program := "ytldhgldknefjdaa", sum := "5d7eb13755647428d33b835231e0eba1a6ced386a678c4fb4152d2a232452b40", func := "loop.example/g01301/laws.FnExactCoveredBands", spec := "fnExactCoveredBands", unfollowed := true, recurses := true, apart := false }
def FnExactCoveredBandsSaid : Prop := fnExactCoveredBandsRow.holds Try.pinned (OpenSpec.ofChange fnExactCoveredBandsSpec)

/-- ITS FALSE NEIGHBOUR: 'it returns false'. Refute it at one input. -/
def fnExactCoveredBandsWrong : ChangeSpec := { name := "fnExactCoveredBands", fn := fun _ => fun
  | [d1, d2, d3] => { results := [.lit (.bool false)], args := [d1, d2, d3] }
  | _ => none }
def FnExactCoveredBandsWrongFalsely : Prop := fnExactCoveredBandsRow.holds Try.pinned (OpenSpec.ofChange fnExactCoveredBandsWrong)

/-- 'laws.FnBaths': WHATEVER THE INPUT: true; the input reads as it did. -/
def fnBathsSpec : ChangeSpec := { name := "fnBaths", fn := fun _ => fun
  | [d1, d2] => { results := [.lit (.bool true)], args := [d1, d2] }
  | _ => none }
def fnBathsRow : OpenClaim := { program := "ytldhgldknefjdaa", sum := "5d7eb13755647428d33b835231e0eba1a6ced386a678c4fb4152d2a232452b40", func := "loop.example/g01301/laws.FnBaths", spec := "fnBaths", apart := false }
def FnBathsSaid : Prop := fnBathsRow.holds Try.pinned (OpenSpec.ofChange fnBathsSpec)

/-- ITS FALSE NEIGHBOUR: 'it returns false'. Refute it at one input. -/
def fnBathsWrong : ChangeSpec := { name := "fnBaths", fn := fun _ => fun
  | [d1, d2] => { results := [.lit (.bool false)], args := [d1, d2] }
  | _ => none }
def FnBathsWrongFalsely : Prop := fnBathsRow.holds Try.pinned (OpenSpec.ofChange fnBathsWrong)

/-- 'laws.FnReplenished': WHATEVER THE INPUT: true; the input reads as it did. -/
def fnReplenishedSpec : ChangeSpec := { name := "fnReplenished", fn := fun _ => fun
  | [d1, d2] => { results := [.lit (.bool true)], args := [d1, d2] }
  | _ => none }
def fnReplenishedRow : OpenClaim := { program := "ytldhgldknefjdaa", sum := "5d7eb13755647428d33b835231e0eba1a6ced386a678c4fb4152d2a232452b40", func := "loop.example/g01301/laws.FnReplenished", spec := "fnReplenished", unfollowed := true, recurses := true, apart := false }
def FnReplenishedSaid : Prop := fnReplenishedRow.holds Try.pinned (OpenSpec.ofChange fnReplenishedSpec)

/-- ITS FALSE NEIGHBOUR: 'it returns false'. Refute it at one input. -/
def fnReplenishedWrong : ChangeSpec := { name := "fnReplenished", fn := fun _ => fun
  | [d1, d2] => { results := [.lit (.bool false)], args := [d1, d2] }
  | _ => none }
def FnReplenishedWrongFalsely : Prop := fnReplenishedRow.holds Try.pinned (OpenSpec.ofChange fnReplenishedWrong)

/- THE SECOND FORM. 'bulk': how many values and letters a reading holds, each counted each time it is reached (what is shared counts as often as it is met; a slice's spare places count too). A statement '..UptoSaid' is the law's where the arguments, and the package variables that the reading takes, are together of bulk at most 1048576: NARROWER than '..Said'. Prove '..Said' where nothing that the law and all that it calls make is longer than what came in: it says more and counts as full. Else prove '..UptoSaid'. A law counts once. -/
mutual
def uptoBulk {H : Type} : DataW H → Nat
  | .lit (.string bytes) => bytes.length + 1
  | .lit _ => 1
  | .nil => 1
  | .ptr d => uptoBulk d + 1
  | .slice elems spare => uptoBulkAll elems + uptoBulkAll spare + 1
  | .agg parts => uptoBulkAll parts + 1
  | .iface _ d => uptoBulk d + 1
  | .map entries => uptoBulkEntries entries + 1
  | .held _ => 1
def uptoBulkAll {H : Type} : List (DataW H) → Nat
  | [] => 0
  | d :: r => uptoBulk d + uptoBulkAll r
def uptoBulkEntries {H : Type} : List (Lit × DataW H) → Nat
  | [] => 0
  | x :: r => uptoBulkEntry x + uptoBulkEntries r
def uptoBulkEntry {H : Type} : Lit × DataW H → Nat
  | (.string bytes, d) => bytes.length + uptoBulk d + 1
  | (_, d) => uptoBulk d + 1
 end
def uptoSmall : (H : Type) → List (DataW H) → Bool := fun _ ds => decide (uptoBulkAll ds ≤ 1048576)
def OpenSpec.upto (s : _root_.Go.ChangeSpec) : _root_.Go.OpenSpec := { _root_.Go.OpenSpec.ofChange s with cond := some uptoSmall }

/-- 'laws.FnExactBandsOf', WHERE WHAT IT READS IS OF BULK AT MOST 1048576: true; the input reads as it did. -/
def fnExactBandsOfUptoRow : OpenClaim := { program := "ytldhgldknefjdaa", sum := "5d7eb13755647428d33b835231e0eba1a6ced386a678c4fb4152d2a232452b40", func := "loop.example/g01301/laws.FnExactBandsOf", spec := "fnExactBandsOf", unfollowed := true, recurses := true, apart := false, narrowed := true }
def FnExactBandsOfUptoSaid : Prop := fnExactBandsOfUptoRow.holds Try.pinned (OpenSpec.upto fnExactBandsOfSpec)

/-- 'laws.FnExactCoveredBands', WHERE WHAT IT READS IS OF BULK AT MOST 1048576: true; the input reads as it did. -/
def fnExactCoveredBandsUptoRow : OpenClaim := { program := "ytldhgldknefjdaa", sum := "5d7eb13755647428d33b835231e0eba1a6ced386a678c4fb4152d2a232452b40", func := "loop.example/g01301/laws.FnExactCoveredBands", spec := "fnExactCoveredBands", unfollowed := true, recurses := true, apart := false, narrowed := true }
def FnExactCoveredBandsUptoSaid : Prop := fnExactCoveredBandsUptoRow.holds Try.pinned (OpenSpec.upto fnExactCoveredBandsSpec)

/-- 'laws.FnBaths', WHERE WHAT IT READS IS OF BULK AT MOST 1048576: true; the input reads as it did. -/
def fnBathsUptoRow : OpenClaim := { program := "ytldhgldknefjdaa", sum := "5d7eb13755647428d33b835231e0eba1a6ced386a678c4fb4152d2a232452b40", func := "loop.example/g01301/laws.FnBaths", spec := "fnBaths", apart := false, narrowed := true }
def FnBathsUptoSaid : Prop := fnBathsUptoRow.holds Try.pinned (OpenSpec.upto fnBathsSpec)

/-- 'laws.FnReplenished', WHERE WHAT IT READS IS OF BULK AT MOST 1048576: true; the input reads as it did. -/
def fnReplenishedUptoRow : OpenClaim := { program := "ytldhgldknefjdaa", sum := "5d7eb13755647428d33b835231e0eba1a6ced386a678c4fb4152d2a232452b40", func := "loop.example/g01301/laws.FnReplenished", spec := "fnReplenished", unfollowed := true, recurses := true, apart := false, narrowed := true }
def FnReplenishedUptoSaid : Prop := fnReplenishedUptoRow.holds Try.pinned (OpenSpec.upto fnReplenishedSpec)

end Rows
end Go.Proofs.Ytldhgldknefjdaa
