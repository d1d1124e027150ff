/-
  No cell of these rows narrows 'for every input' (looked for: loops, veiled, ifaces, maps, wideKeys, modest, calm, conditions, laid).
  DERIVED. THE GIVEN ROWS OF THIS SEAT. 9 by the template 'for every input the law returns true; each argument reads behind the call as it read before'; 0 by the template 'total and deterministic' (their statements: YtilodamhgepjoaaTotals.lean).
  GIVEN WITH THE SEED: the statements are not yours to turn. If you find one false, say at which input.
  Laid BY PROGRAM, IN A SANDBOX (cutbox-rows.mjs): the forced cells as the released guide's own fill.sh prints them over the translation e4b663f7cebacb45… (all of the seat's roots in one cut). By AI agents, Wed Nov 11 2026. No macro, syntax, notation, axiom, sorry.
-/
import Derived.Test.YtilodamhgepjoaaChecked
import GoSem.Claim
import GoSem.ClaimJoined
import GoSem.ClaimMapViews
import Derived.JoinedTies
import Derived.KernelRfl
namespace Go.Proofs.Ytilodamhgepjoaa
/- THE CELL 'sum', in the pinned program and in every row, IS THE sha256 OF THE DUMP (.gsa) THAT YtilodamhgepjoaaProg.lean LOADS. Nothing in Lean hashes anything: it is a label: what it is worth is what the hold of that sum in a sandbox is worth. -/
noncomputable def Try.pinned : Pinned := { name := "ytilodamhgepjoaa", sum := "e4b663f7cebacb45ba9b5ddd099d269967b8e62f05ae5caeee89d60e448d4e32", checked := Try.checked }
namespace Rows
def none {H : Type} : Left H := { results := [], args := [] }

/-- 'changeforgelaw4.ShallowCutMatchesSpec': WHATEVER THE INPUT: true; the input reads as it did. -/
def shallowCutMatchesSpecSpec : ChangeSpec := { name := "shallowCutMatchesSpec", fn := fun _ => fun
  | [d1, d2, d3] => { results := [.lit (.bool true)], args := [d1, d2, d3] }
  | _ => none }
def shallowCutMatchesSpecRow : OpenClaim := { program := "ytilodamhgepjoaa", sum := "e4b663f7cebacb45ba9b5ddd099d269967b8e62f05ae5caeee89d60e448d4e32", func := "changeforge/changeforgelaw4.ShallowCutMatchesSpec", spec := "shallowCutMatchesSpec", unfollowed := true, recurses := true, apart := false }
def ShallowCutMatchesSpecSaid : Prop := shallowCutMatchesSpecRow.holds Try.pinned (OpenSpec.ofChange shallowCutMatchesSpecSpec)

/-- ITS FALSE NEIGHBOUR: 'it returns false'. Refute it at one input. -/
def shallowCutMatchesSpecWrong : ChangeSpec := { name := "shallowCutMatchesSpec", fn := fun _ => fun
  | [d1, d2, d3] => { results := [.lit (.bool false)], args := [d1, d2, d3] }
  | _ => none }
def ShallowCutMatchesSpecWrongFalsely : Prop := shallowCutMatchesSpecRow.holds Try.pinned (OpenSpec.ofChange shallowCutMatchesSpecWrong)

/-- 'changeforgelaw4.ShallowSelectionMatchesSpec': WHATEVER THE INPUT: true; the input reads as it did. -/
def shallowSelectionMatchesSpecSpec : ChangeSpec := { name := "shallowSelectionMatchesSpec", fn := fun _ => fun
  | [d1, d2, d3] => { results := [.lit (.bool true)], args := [d1, d2, d3] }
  | _ => none }
def shallowSelectionMatchesSpecRow : OpenClaim := { program := "ytilodamhgepjoaa", sum := "e4b663f7cebacb45ba9b5ddd099d269967b8e62f05ae5caeee89d60e448d4e32", func := "changeforge/changeforgelaw4.ShallowSelectionMatchesSpec", spec := "shallowSelectionMatchesSpec", unfollowed := true, recurses := true, apart := false }
def ShallowSelectionMatchesSpecSaid : Prop := shallowSelectionMatchesSpecRow.holds Try.pinned (OpenSpec.ofChange shallowSelectionMatchesSpecSpec)

/-- ITS FALSE NEIGHBOUR: 'it returns false'. Refute it at one input. -/
def shallowSelectionMatchesSpecWrong : ChangeSpec := { name := "shallowSelectionMatchesSpec", fn := fun _ => fun
  | [d1, d2, d3] => { results := [.lit (.bool false)], args := [d1, d2, d3] }
  | _ => none }
def ShallowSelectionMatchesSpecWrongFalsely : Prop := shallowSelectionMatchesSpecRow.holds Try.pinned (OpenSpec.ofChange shallowSelectionMatchesSpecWrong)

/-- 'changeforgelaw4.ShallowDeepenAdds': WHATEVER THE INPUT: true; the input reads as it did. -/
def shallowDeepenAddsSpec : ChangeSpec := { name := "shallowDeepenAdds", fn := fun _ => fun
  | [d1, d2, d3, d4] => { results := [.lit (.bool true)], args := [d1, d2, d3, d4] }
  | _ => none }
def shallowDeepenAddsRow : OpenClaim := { program := "ytilodamhgepjoaa", sum := "e4b663f7cebacb45ba9b5ddd099d269967b8e62f05ae5caeee89d60e448d4e32", func := "changeforge/changeforgelaw4.ShallowDeepenAdds", spec := "shallowDeepenAdds", unfollowed := true, recurses := true, apart := false }
def ShallowDeepenAddsSaid : Prop := shallowDeepenAddsRow.holds Try.pinned (OpenSpec.ofChange shallowDeepenAddsSpec)

/-- ITS FALSE NEIGHBOUR: 'it returns false'. Refute it at one input. -/
def shallowDeepenAddsWrong : ChangeSpec := { name := "shallowDeepenAdds", fn := fun _ => fun
  | [d1, d2, d3, d4] => { results := [.lit (.bool false)], args := [d1, d2, d3, d4] }
  | _ => none }
def ShallowDeepenAddsWrongFalsely : Prop := shallowDeepenAddsRow.holds Try.pinned (OpenSpec.ofChange shallowDeepenAddsWrong)

/-- 'changeforgelaw4.ShallowBoundaryDecides': WHATEVER THE INPUT: true; the input reads as it did. -/
def shallowBoundaryDecidesSpec : ChangeSpec := { name := "shallowBoundaryDecides", fn := fun _ => fun
  | [d1, d2] => { results := [.lit (.bool true)], args := [d1, d2] }
  | _ => none }
def shallowBoundaryDecidesRow : OpenClaim := { program := "ytilodamhgepjoaa", sum := "e4b663f7cebacb45ba9b5ddd099d269967b8e62f05ae5caeee89d60e448d4e32", func := "changeforge/changeforgelaw4.ShallowBoundaryDecides", spec := "shallowBoundaryDecides", unfollowed := true, recurses := true, apart := false }
def ShallowBoundaryDecidesSaid : Prop := shallowBoundaryDecidesRow.holds Try.pinned (OpenSpec.ofChange shallowBoundaryDecidesSpec)

/-- ITS FALSE NEIGHBOUR: 'it returns false'. Refute it at one input. -/
def shallowBoundaryDecidesWrong : ChangeSpec := { name := "shallowBoundaryDecides", fn := fun _ => fun
  | [d1, d2] => { results := [.lit (.bool false)], args := [d1, d2] }
  | _ => none }
def ShallowBoundaryDecidesWrongFalsely : Prop := shallowBoundaryDecidesRow.holds Try.pinned (OpenSpec.ofChange shallowBoundaryDecidesWrong)

/-- 'changeforgelaw4.ShallowExtractKeepsAncestry': WHATEVER THE INPUT: true; the input reads as it did. -/
def shallowExtractKeepsAncestrySpec : ChangeSpec := { name := "shallowExtractKeepsAncestry", fn := fun _ => fun
  | [d1, d2] => { results := [.lit (.bool true)], args := [d1, d2] }
  | _ => none }
def shallowExtractKeepsAncestryRow : OpenClaim := { program := "ytilodamhgepjoaa", sum := "e4b663f7cebacb45ba9b5ddd099d269967b8e62f05ae5caeee89d60e448d4e32", func := "changeforge/changeforgelaw4.ShallowExtractKeepsAncestry", spec := "shallowExtractKeepsAncestry", unfollowed := true, recurses := true, apart := false }
def ShallowExtractKeepsAncestrySaid : Prop := shallowExtractKeepsAncestryRow.holds Try.pinned (OpenSpec.ofChange shallowExtractKeepsAncestrySpec)

/-- ITS FALSE NEIGHBOUR: 'it returns false'. Refute it at one input. -/
def shallowExtractKeepsAncestryWrong : ChangeSpec := { name := "shallowExtractKeepsAncestry", fn := fun _ => fun
  | [d1, d2] => { results := [.lit (.bool false)], args := [d1, d2] }
  | _ => none }
def ShallowExtractKeepsAncestryWrongFalsely : Prop := shallowExtractKeepsAncestryRow.holds Try.pinned (OpenSpec.ofChange shallowExtractKeepsAncestryWrong)

/-- 'changeforgelaw4.NegotiateMatchesSpec': WHATEVER THE INPUT: true; the input reads as it did. -/
def negotiateMatchesSpecSpec : ChangeSpec := { name := "negotiateMatchesSpec", fn := fun _ => fun
  | [d1, d2, d3, d4] => { results := [.lit (.bool true)], args := [d1, d2, d3, d4] }
  | _ => none }
def negotiateMatchesSpecRow : OpenClaim := { program := "ytilodamhgepjoaa", sum := "e4b663f7cebacb45ba9b5ddd099d269967b8e62f05ae5caeee89d60e448d4e32", func := "changeforge/changeforgelaw4.NegotiateMatchesSpec", spec := "negotiateMatchesSpec", unfollowed := true, recurses := true, apart := false }
def NegotiateMatchesSpecSaid : Prop := negotiateMatchesSpecRow.holds Try.pinned (OpenSpec.ofChange negotiateMatchesSpecSpec)

/-- ITS FALSE NEIGHBOUR: 'it returns false'. Refute it at one input. -/
def negotiateMatchesSpecWrong : ChangeSpec := { name := "negotiateMatchesSpec", fn := fun _ => fun
  | [d1, d2, d3, d4] => { results := [.lit (.bool false)], args := [d1, d2, d3, d4] }
  | _ => none }
def NegotiateMatchesSpecWrongFalsely : Prop := negotiateMatchesSpecRow.holds Try.pinned (OpenSpec.ofChange negotiateMatchesSpecWrong)

/-- 'changeforgelaw4.NegotiateSendsMissing': WHATEVER THE INPUT: true; the input reads as it did. -/
def negotiateSendsMissingSpec : ChangeSpec := { name := "negotiateSendsMissing", fn := fun _ => fun
  | [d1, d2, d3, d4] => { results := [.lit (.bool true)], args := [d1, d2, d3, d4] }
  | _ => none }
def negotiateSendsMissingRow : OpenClaim := { program := "ytilodamhgepjoaa", sum := "e4b663f7cebacb45ba9b5ddd099d269967b8e62f05ae5caeee89d60e448d4e32", func := "changeforge/changeforgelaw4.NegotiateSendsMissing", spec := "negotiateSendsMissing", unfollowed := true, recurses := true, apart := false }
def NegotiateSendsMissingSaid : Prop := negotiateSendsMissingRow.holds Try.pinned (OpenSpec.ofChange negotiateSendsMissingSpec)

/-- ITS FALSE NEIGHBOUR: 'it returns false'. Refute it at one input. -/
def negotiateSendsMissingWrong : ChangeSpec := { name := "negotiateSendsMissing", fn := fun _ => fun
  | [d1, d2, d3, d4] => { results := [.lit (.bool false)], args := [d1, d2, d3, d4] }
  | _ => none }
def NegotiateSendsMissingWrongFalsely : Prop := negotiateSendsMissingRow.holds Try.pinned (OpenSpec.ofChange negotiateSendsMissingWrong)

/-- 'changeforgelaw4.NegotiateCompletes': WHATEVER THE INPUT: true; the input reads as it did. -/
def negotiateCompletesSpec : ChangeSpec := { name := "negotiateCompletes", fn := fun _ => fun
  | [d1, d2, d3, d4] => { results := [.lit (.bool true)], args := [d1, d2, d3, d4] }
  | _ => none }
def negotiateCompletesRow : OpenClaim := { program := "ytilodamhgepjoaa", sum := "e4b663f7cebacb45ba9b5ddd099d269967b8e62f05ae5caeee89d60e448d4e32", func := "changeforge/changeforgelaw4.NegotiateCompletes", spec := "negotiateCompletes", unfollowed := true, recurses := true, apart := false }
def NegotiateCompletesSaid : Prop := negotiateCompletesRow.holds Try.pinned (OpenSpec.ofChange negotiateCompletesSpec)

/-- ITS FALSE NEIGHBOUR: 'it returns false'. Refute it at one input. -/
def negotiateCompletesWrong : ChangeSpec := { name := "negotiateCompletes", fn := fun _ => fun
  | [d1, d2, d3, d4] => { results := [.lit (.bool false)], args := [d1, d2, d3, d4] }
  | _ => none }
def NegotiateCompletesWrongFalsely : Prop := negotiateCompletesRow.holds Try.pinned (OpenSpec.ofChange negotiateCompletesWrong)

/-- 'changeforgelaw4.NegotiateNothingTwice': WHATEVER THE INPUT: true; the input reads as it did. -/
def negotiateNothingTwiceSpec : ChangeSpec := { name := "negotiateNothingTwice", fn := fun _ => fun
  | [d1, d2, d3, d4] => { results := [.lit (.bool true)], args := [d1, d2, d3, d4] }
  | _ => none }
def negotiateNothingTwiceRow : OpenClaim := { program := "ytilodamhgepjoaa", sum := "e4b663f7cebacb45ba9b5ddd099d269967b8e62f05ae5caeee89d60e448d4e32", func := "changeforge/changeforgelaw4.NegotiateNothingTwice", spec := "negotiateNothingTwice", unfollowed := true, recurses := true, apart := false }
def NegotiateNothingTwiceSaid : Prop := negotiateNothingTwiceRow.holds Try.pinned (OpenSpec.ofChange negotiateNothingTwiceSpec)

/-- ITS FALSE NEIGHBOUR: 'it returns false'. Refute it at one input. -/
def negotiateNothingTwiceWrong : ChangeSpec := { name := "negotiateNothingTwice", fn := fun _ => fun
  | [d1, d2, d3, d4] => { results := [.lit (.bool false)], args := [d1, d2, d3, d4] }
  | _ => none }
def NegotiateNothingTwiceWrongFalsely : Prop := negotiateNothingTwiceRow.holds Try.pinned (OpenSpec.ofChange negotiateNothingTwiceWrong)

/- THE SECOND FORM. 'bulk': how many values and letters a reading holds, each counted each time it is reached (what is shared counts as often as it is met; a slice's spare places count too). A statement '..UptoSaid' is the law's where the arguments, and the package variables that the reading takes, are together of bulk at most 1048576: NARROWER than '..Said'. Prove '..Said' where nothing that the law and all that it calls make is longer than what came in: it says more and counts as full. Else prove '..UptoSaid'. A law counts once. -/
mutual
def uptoBulk {H : Type} : DataW H → Nat
  | .lit (.string bytes) => bytes.length + 1
  | .lit _ => 1
  | .nil => 1
  | .ptr d => uptoBulk d + 1
  | .slice elems spare => uptoBulkAll elems + uptoBulkAll spare + 1
  | .agg parts => uptoBulkAll parts + 1
  | .iface _ d => uptoBulk d + 1
  | .map entries => uptoBulkEntries entries + 1
  | .held _ => 1
def uptoBulkAll {H : Type} : List (DataW H) → Nat
  | [] => 0
  | d :: r => uptoBulk d + uptoBulkAll r
def uptoBulkEntries {H : Type} : List (Lit × DataW H) → Nat
  | [] => 0
  | x :: r => uptoBulkEntry x + uptoBulkEntries r
def uptoBulkEntry {H : Type} : Lit × DataW H → Nat
  | (.string bytes, d) => bytes.length + uptoBulk d + 1
  | (_, d) => uptoBulk d + 1
 end
def uptoSmall : (H : Type) → List (DataW H) → Bool := fun _ ds => decide (uptoBulkAll ds ≤ 1048576)
def OpenSpec.upto (s : _root_.Go.ChangeSpec) : _root_.Go.OpenSpec := { _root_.Go.OpenSpec.ofChange s with cond := some uptoSmall }

/-- 'changeforgelaw4.ShallowCutMatchesSpec', WHERE WHAT IT READS IS OF BULK AT MOST 1048576: true; the input reads as it did. -/
def shallowCutMatchesSpecUptoRow : OpenClaim := { program := "ytilodamhgepjoaa", sum := "e4b663f7cebacb45ba9b5ddd099d269967b8e62f05ae5caeee89d60e448d4e32", func := "changeforge/changeforgelaw4.ShallowCutMatchesSpec", spec := "shallowCutMatchesSpec", unfollowed := true, recurses := true, apart := false, narrowed := true }
def ShallowCutMatchesSpecUptoSaid : Prop := shallowCutMatchesSpecUptoRow.holds Try.pinned (OpenSpec.upto shallowCutMatchesSpecSpec)

/-- 'changeforgelaw4.ShallowSelectionMatchesSpec', WHERE WHAT IT READS IS OF BULK AT MOST 1048576: true; the input reads as it did. -/
def shallowSelectionMatchesSpecUptoRow : OpenClaim := { program := "ytilodamhgepjoaa", sum := "e4b663f7cebacb45ba9b5ddd099d269967b8e62f05ae5caeee89d60e448d4e32", func := "changeforge/changeforgelaw4.ShallowSelectionMatchesSpec", spec := "shallowSelectionMatchesSpec", unfollowed := true, recurses := true, apart := false, narrowed := true }
def ShallowSelectionMatchesSpecUptoSaid : Prop := shallowSelectionMatchesSpecUptoRow.holds Try.pinned (OpenSpec.upto shallowSelectionMatchesSpecSpec)

/-- 'changeforgelaw4.ShallowDeepenAdds', WHERE WHAT IT READS IS OF BULK AT MOST 1048576: true; the input reads as it did. -/
def shallowDeepenAddsUptoRow : OpenClaim := { program := "ytilodamhgepjoaa", sum := "e4b663f7cebacb45ba9b5ddd099d269967b8e62f05ae5caeee89d60e448d4e32", func := "changeforge/changeforgelaw4.ShallowDeepenAdds", spec := "shallowDeepenAdds", unfollowed := true, recurses := true, apart := false, narrowed := true }
def ShallowDeepenAddsUptoSaid : Prop := shallowDeepenAddsUptoRow.holds Try.pinned (OpenSpec.upto shallowDeepenAddsSpec)

/-- 'changeforgelaw4.ShallowBoundaryDecides', WHERE WHAT IT READS IS OF BULK AT MOST 1048576: true; the input reads as it did. -/
def shallowBoundaryDecidesUptoRow : OpenClaim := { program := "ytilodamhgepjoaa", sum := "e4b663f7cebacb45ba9b5ddd099d269967b8e62f05ae5caeee89d60e448d4e32", func := "changeforge/changeforgelaw4.ShallowBoundaryDecides", spec := "shallowBoundaryDecides", unfollowed := true, recurses := true, apart := false, narrowed := true }
def ShallowBoundaryDecidesUptoSaid : Prop := shallowBoundaryDecidesUptoRow.holds Try.pinned (OpenSpec.upto shallowBoundaryDecidesSpec)

/-- 'changeforgelaw4.ShallowExtractKeepsAncestry', WHERE WHAT IT READS IS OF BULK AT MOST 1048576: true; the input reads as it did. -/
def shallowExtractKeepsAncestryUptoRow : OpenClaim := { program := "ytilodamhgepjoaa", sum := "e4b663f7cebacb45ba9b5ddd099d269967b8e62f05ae5caeee89d60e448d4e32", func := "changeforge/changeforgelaw4.ShallowExtractKeepsAncestry", spec := "shallowExtractKeepsAncestry", unfollowed := true, recurses := true, apart := false, narrowed := true }
def ShallowExtractKeepsAncestryUptoSaid : Prop := shallowExtractKeepsAncestryUptoRow.holds Try.pinned (OpenSpec.upto shallowExtractKeepsAncestrySpec)

/-- 'changeforgelaw4.NegotiateMatchesSpec', WHERE WHAT IT READS IS OF BULK AT MOST 1048576: true; the input reads as it did. -/
def negotiateMatchesSpecUptoRow : OpenClaim := { program := "ytilodamhgepjoaa", sum := "e4b663f7cebacb45ba9b5ddd099d269967b8e62f05ae5caeee89d60e448d4e32", func := "changeforge/changeforgelaw4.NegotiateMatchesSpec", spec := "negotiateMatchesSpec", unfollowed := true, recurses := true, apart := false, narrowed := true }
def NegotiateMatchesSpecUptoSaid : Prop := negotiateMatchesSpecUptoRow.holds Try.pinned (OpenSpec.upto negotiateMatchesSpecSpec)

/-- 'changeforgelaw4.NegotiateSendsMissing', WHERE WHAT IT READS IS OF BULK AT MOST 1048576: true; the input reads as it did. -/
def negotiateSendsMissingUptoRow : OpenClaim := { program := "ytilodamhgepjoaa", sum := "e4b663f7cebacb45ba9b5ddd099d269967b8e62f05ae5caeee89d60e448d4e32", func := "changeforge/changeforgelaw4.NegotiateSendsMissing", spec := "negotiateSendsMissing", unfollowed := true, recurses := true, apart := false, narrowed := true }
def NegotiateSendsMissingUptoSaid : Prop := negotiateSendsMissingUptoRow.holds Try.pinned (OpenSpec.upto negotiateSendsMissingSpec)

/-- 'changeforgelaw4.NegotiateCompletes', WHERE WHAT IT READS IS OF BULK AT MOST 1048576: true; the input reads as it did. -/
def negotiateCompletesUptoRow : OpenClaim := { program := "ytilodamhgepjoaa", sum := "e4b663f7cebacb45ba9b5ddd099d269967b8e62f05ae5caeee89d60e448d4e32", func := "changeforge/changeforgelaw4.NegotiateCompletes", spec := "negotiateCompletes", unfollowed := true, recurses := true, apart := false, narrowed := true }
def NegotiateCompletesUptoSaid : Prop := negotiateCompletesUptoRow.holds Try.pinned (OpenSpec.upto negotiateCompletesSpec)

/-- 'changeforgelaw4.NegotiateNothingTwice', WHERE WHAT IT READS IS OF BULK AT MOST 1048576: true; the input reads as it did. -/
def negotiateNothingTwiceUptoRow : OpenClaim := { program := "ytilodamhgepjoaa", sum := "e4b663f7cebacb45ba9b5ddd099d269967b8e62f05ae5caeee89d60e448d4e32", func := "changeforge/changeforgelaw4.NegotiateNothingTwice", spec := "negotiateNothingTwice", unfollowed := true, recurses := true, apart := false, narrowed := true }
def NegotiateNothingTwiceUptoSaid : Prop := negotiateNothingTwiceUptoRow.holds Try.pinned (OpenSpec.upto negotiateNothingTwiceSpec)

end Rows
end Go.Proofs.Ytilodamhgepjoaa
