/-
  NARROWER THAN 'FOR EVERY INPUT', by the rows' own cells (each row's printed sentence says how): GcCollectMatchesSpec: laid · GcIdempotent: laid · GcLeasesExpire: laid · GcMarkMatchesSpec: laid · GcBreaksNoLinks: laid · TopCollectFiltered: laid.
  DERIVED. THE GIVEN ROWS OF THIS SEAT. 6 by the template 'for every input the law returns true; each argument reads behind the call as it read before'; 0 by the template 'total and deterministic' (their statements: YtenkbkcddcnmeaaDoorTotals.lean).
  GIVEN WITH THE SEED: the statements are not yours to turn. If you find one false, say at which input.
  Laid BY PROGRAM, IN A SANDBOX (cutbox-rows.mjs): the forced cells as the released guide's own fill.sh prints them over the translation 57dd6eb62b3810ce… (all of the seat's roots in one cut). By AI agents, Wed Nov 11 2026. No macro, syntax, notation, axiom, sorry.
-/
import Derived.Test.YtenkbkcddcnmeaaDoorChecked
import GoSem.PinnedTables
import GoSem.Claim
import GoSem.ClaimJoined
import GoSem.ClaimMapViews
import Derived.JoinedTies
import Derived.KernelRfl
namespace Go.Proofs.YtenkbkcddcnmeaaDoor
/- THE CELL 'sum', in the pinned program and in every row, IS THE sha256 OF THE DUMP (.gsa) THAT YtenkbkcddcnmeaaDoorProg.lean LOADS. Nothing in Lean hashes anything: it is a label: what it is worth is what the hold of that sum in a sandbox is worth. -/
noncomputable def Tryd.pinned : Pinned := { name := "ytenkbkcddcnmeaadoor", sum := "57dd6eb62b3810ceb16bc62f1f2f52bbcaaa907724e0a1260098d9df9c3d2d34", checked := Tryd.checked }
namespace Rows
def none {H : Type} : Left H := { results := [], args := [] }

/- WHAT THE LISTED PACKAGE-LEVEL VARIABLES READ AS WHEN THE CALL BEGINS. Each datum BY PROGRAM (the guide's laid-datum.mjs) off the statement by which the dump's own 'gosem.cut.vars' lays the variable. In a bare row this is a premise. The card (YtenkbkcddcnmeaaDoorCards.lean) ties it to the program's text. -/
def laid_unicode_utf8_acceptRanges {H : Type} : DataW H := .agg [.agg [.lit (.int .u8 128), .lit (.int .u8 191)], .agg [.lit (.int .u8 160), .lit (.int .u8 191)], .agg [.lit (.int .u8 128), .lit (.int .u8 159)], .agg [.lit (.int .u8 144), .lit (.int .u8 191)], .agg [.lit (.int .u8 128), .lit (.int .u8 143)], .agg [.lit (.int .u8 0), .lit (.int .u8 0)], .agg [.lit (.int .u8 0), .lit (.int .u8 0)], .agg [.lit (.int .u8 0), .lit (.int .u8 0)], .agg [.lit (.int .u8 0), .lit (.int .u8 0)], .agg [.lit (.int .u8 0), .lit (.int .u8 0)], .agg [.lit (.int .u8 0), .lit (.int .u8 0)], .agg [.lit (.int .u8 0), .lit (.int .u8 0)], .agg [.lit (.int .u8 0), .lit (.int .u8 0)], .agg [.lit (.int .u8 0), .lit (.int .u8 0)], .agg [.lit (.int .u8 0), .lit (.int .u8 0)], .agg [.lit (.int .u8 0), .lit (.int .u8 0)]]
/-- One of Go's own tables, pinned by name: the form's constant. -/
def laid_unicode_utf8_first : DataW Unit := Go.Pinned.utf8First

/-- 'changeforgelaw4.GcCollectMatchesSpec': WHATEVER THE INPUT: true; the input reads as it did. -/
def gcCollectMatchesSpecSpec : ChangeSpec := { name := "gcCollectMatchesSpec", fn := fun _ => fun
  | [d1, d2, d3, d4] => { results := [.lit (.bool true)], args := [d1, d2, d3, d4] }
  | _ => none }
def gcCollectMatchesSpecRow : OpenClaim := { program := "ytenkbkcddcnmeaadoor", sum := "57dd6eb62b3810ceb16bc62f1f2f52bbcaaa907724e0a1260098d9df9c3d2d34", func := "changeforge/changeforgelaw4.GcCollectMatchesSpec", spec := "gcCollectMatchesSpec", inPlace := ["slices.overlaps[changeforge/api.StoredObject]", "internal/bytealg.IndexByteString", "internal/bytealg.IndexString"], unfollowed := true, recurses := true, named := ["math/bits.divideError", "math/bits.overflowError", "unicode/utf8.first", "unicode/utf8.acceptRanges", "internal/bytealg.MaxLen"], apart := false, laid := [("unicode/utf8.acceptRanges", laid_unicode_utf8_acceptRanges), ("unicode/utf8.first", laid_unicode_utf8_first)] }
def GcCollectMatchesSpecSaid : Prop := gcCollectMatchesSpecRow.holds Tryd.pinned (OpenSpec.ofChange gcCollectMatchesSpecSpec)

/-- ITS FALSE NEIGHBOUR: 'it returns false'. Refute it at one input. -/
def gcCollectMatchesSpecWrong : ChangeSpec := { name := "gcCollectMatchesSpec", fn := fun _ => fun
  | [d1, d2, d3, d4] => { results := [.lit (.bool false)], args := [d1, d2, d3, d4] }
  | _ => none }
def GcCollectMatchesSpecWrongFalsely : Prop := gcCollectMatchesSpecRow.holds Tryd.pinned (OpenSpec.ofChange gcCollectMatchesSpecWrong)

/-- 'changeforgelaw4.GcIdempotent': WHATEVER THE INPUT: true; the input reads as it did. -/
def gcIdempotentSpec : ChangeSpec := { name := "gcIdempotent", fn := fun _ => fun
  | [d1, d2, d3, d4] => { results := [.lit (.bool true)], args := [d1, d2, d3, d4] }
  | _ => none }
def gcIdempotentRow : OpenClaim := { program := "ytenkbkcddcnmeaadoor", sum := "57dd6eb62b3810ceb16bc62f1f2f52bbcaaa907724e0a1260098d9df9c3d2d34", func := "changeforge/changeforgelaw4.GcIdempotent", spec := "gcIdempotent", inPlace := ["slices.overlaps[changeforge/api.StoredObject]", "internal/bytealg.IndexByteString", "internal/bytealg.IndexString"], unfollowed := true, recurses := true, named := ["math/bits.divideError", "math/bits.overflowError", "unicode/utf8.first", "unicode/utf8.acceptRanges", "internal/bytealg.MaxLen"], apart := false, laid := [("unicode/utf8.acceptRanges", laid_unicode_utf8_acceptRanges), ("unicode/utf8.first", laid_unicode_utf8_first)] }
def GcIdempotentSaid : Prop := gcIdempotentRow.holds Tryd.pinned (OpenSpec.ofChange gcIdempotentSpec)

/-- ITS FALSE NEIGHBOUR: 'it returns false'. Refute it at one input. -/
def gcIdempotentWrong : ChangeSpec := { name := "gcIdempotent", fn := fun _ => fun
  | [d1, d2, d3, d4] => { results := [.lit (.bool false)], args := [d1, d2, d3, d4] }
  | _ => none }
def GcIdempotentWrongFalsely : Prop := gcIdempotentRow.holds Tryd.pinned (OpenSpec.ofChange gcIdempotentWrong)

/-- 'changeforgelaw4.GcLeasesExpire': WHATEVER THE INPUT: true; the input reads as it did. -/
def gcLeasesExpireSpec : ChangeSpec := { name := "gcLeasesExpire", fn := fun _ => fun
  | [d1, d2, d3, d4, d5] => { results := [.lit (.bool true)], args := [d1, d2, d3, d4, d5] }
  | _ => none }
def gcLeasesExpireRow : OpenClaim := { program := "ytenkbkcddcnmeaadoor", sum := "57dd6eb62b3810ceb16bc62f1f2f52bbcaaa907724e0a1260098d9df9c3d2d34", func := "changeforge/changeforgelaw4.GcLeasesExpire", spec := "gcLeasesExpire", inPlace := ["slices.overlaps[changeforge/api.StoredObject]", "internal/bytealg.IndexByteString", "internal/bytealg.IndexString"], unfollowed := true, recurses := true, named := ["math/bits.divideError", "math/bits.overflowError", "unicode/utf8.first", "unicode/utf8.acceptRanges", "internal/bytealg.MaxLen"], apart := false, laid := [("unicode/utf8.acceptRanges", laid_unicode_utf8_acceptRanges), ("unicode/utf8.first", laid_unicode_utf8_first)] }
def GcLeasesExpireSaid : Prop := gcLeasesExpireRow.holds Tryd.pinned (OpenSpec.ofChange gcLeasesExpireSpec)

/-- ITS FALSE NEIGHBOUR: 'it returns false'. Refute it at one input. -/
def gcLeasesExpireWrong : ChangeSpec := { name := "gcLeasesExpire", fn := fun _ => fun
  | [d1, d2, d3, d4, d5] => { results := [.lit (.bool false)], args := [d1, d2, d3, d4, d5] }
  | _ => none }
def GcLeasesExpireWrongFalsely : Prop := gcLeasesExpireRow.holds Tryd.pinned (OpenSpec.ofChange gcLeasesExpireWrong)

/-- 'changeforgelaw4.GcMarkMatchesSpec': WHATEVER THE INPUT: true; the input reads as it did. -/
def gcMarkMatchesSpecSpec : ChangeSpec := { name := "gcMarkMatchesSpec", fn := fun _ => fun
  | [d1, d2] => { results := [.lit (.bool true)], args := [d1, d2] }
  | _ => none }
def gcMarkMatchesSpecRow : OpenClaim := { program := "ytenkbkcddcnmeaadoor", sum := "57dd6eb62b3810ceb16bc62f1f2f52bbcaaa907724e0a1260098d9df9c3d2d34", func := "changeforge/changeforgelaw4.GcMarkMatchesSpec", spec := "gcMarkMatchesSpec", inPlace := ["slices.overlaps[changeforge/api.StoredObject]", "internal/bytealg.IndexByteString", "internal/bytealg.IndexString"], unfollowed := true, recurses := true, named := ["math/bits.divideError", "math/bits.overflowError", "unicode/utf8.first", "unicode/utf8.acceptRanges", "internal/bytealg.MaxLen"], apart := false, laid := [("unicode/utf8.acceptRanges", laid_unicode_utf8_acceptRanges), ("unicode/utf8.first", laid_unicode_utf8_first)] }
def GcMarkMatchesSpecSaid : Prop := gcMarkMatchesSpecRow.holds Tryd.pinned (OpenSpec.ofChange gcMarkMatchesSpecSpec)

/-- ITS FALSE NEIGHBOUR: 'it returns false'. Refute it at one input. -/
def gcMarkMatchesSpecWrong : ChangeSpec := { name := "gcMarkMatchesSpec", fn := fun _ => fun
  | [d1, d2] => { results := [.lit (.bool false)], args := [d1, d2] }
  | _ => none }
def GcMarkMatchesSpecWrongFalsely : Prop := gcMarkMatchesSpecRow.holds Tryd.pinned (OpenSpec.ofChange gcMarkMatchesSpecWrong)

/-- 'changeforgelaw4.GcBreaksNoLinks': WHATEVER THE INPUT: true; the input reads as it did. -/
def gcBreaksNoLinksSpec : ChangeSpec := { name := "gcBreaksNoLinks", fn := fun _ => fun
  | [d1, d2, d3, d4] => { results := [.lit (.bool true)], args := [d1, d2, d3, d4] }
  | _ => none }
def gcBreaksNoLinksRow : OpenClaim := { program := "ytenkbkcddcnmeaadoor", sum := "57dd6eb62b3810ceb16bc62f1f2f52bbcaaa907724e0a1260098d9df9c3d2d34", func := "changeforge/changeforgelaw4.GcBreaksNoLinks", spec := "gcBreaksNoLinks", inPlace := ["slices.overlaps[changeforge/api.StoredObject]", "internal/bytealg.IndexByteString", "internal/bytealg.IndexString"], unfollowed := true, recurses := true, named := ["math/bits.divideError", "math/bits.overflowError", "unicode/utf8.first", "unicode/utf8.acceptRanges", "internal/bytealg.MaxLen"], apart := false, laid := [("unicode/utf8.acceptRanges", laid_unicode_utf8_acceptRanges), ("unicode/utf8.first", laid_unicode_utf8_first)] }
def GcBreaksNoLinksSaid : Prop := gcBreaksNoLinksRow.holds Tryd.pinned (OpenSpec.ofChange gcBreaksNoLinksSpec)

/-- ITS FALSE NEIGHBOUR: 'it returns false'. Refute it at one input. -/
def gcBreaksNoLinksWrong : ChangeSpec := { name := "gcBreaksNoLinks", fn := fun _ => fun
  | [d1, d2, d3, d4] => { results := [.lit (.bool false)], args := [d1, d2, d3, d4] }
  | _ => none }
def GcBreaksNoLinksWrongFalsely : Prop := gcBreaksNoLinksRow.holds Tryd.pinned (OpenSpec.ofChange gcBreaksNoLinksWrong)

/-- 'changeforgetop.TopCollectFiltered': WHATEVER THE INPUT: true; the input reads as it did. -/
def topCollectFilteredSpec : ChangeSpec := { name := "topCollectFiltered", fn := fun _ => fun
  | [d1, d2, d3, d4, d5] => { results := [.lit (.bool true)], args := [d1, d2, d3, d4, d5] }
  | _ => none }
def topCollectFilteredRow : OpenClaim := { program := "ytenkbkcddcnmeaadoor", sum := "57dd6eb62b3810ceb16bc62f1f2f52bbcaaa907724e0a1260098d9df9c3d2d34", func := "changeforge/changeforgetop.TopCollectFiltered", spec := "topCollectFiltered", inPlace := ["slices.overlaps[changeforge/api.StoredObject]", "internal/bytealg.IndexByteString", "internal/bytealg.IndexString"], unfollowed := true, recurses := true, named := ["math/bits.divideError", "math/bits.overflowError", "unicode/utf8.first", "unicode/utf8.acceptRanges", "internal/bytealg.MaxLen"], apart := false, laid := [("unicode/utf8.acceptRanges", laid_unicode_utf8_acceptRanges), ("unicode/utf8.first", laid_unicode_utf8_first)] }
def TopCollectFilteredSaid : Prop := topCollectFilteredRow.holds Tryd.pinned (OpenSpec.ofChange topCollectFilteredSpec)

/-- ITS FALSE NEIGHBOUR: 'it returns false'. Refute it at one input. -/
def topCollectFilteredWrong : ChangeSpec := { name := "topCollectFiltered", fn := fun _ => fun
  | [d1, d2, d3, d4, d5] => { results := [.lit (.bool false)], args := [d1, d2, d3, d4, d5] }
  | _ => none }
def TopCollectFilteredWrongFalsely : Prop := topCollectFilteredRow.holds Tryd.pinned (OpenSpec.ofChange topCollectFilteredWrong)

/- THE SECOND FORM. 'bulk': how many values and letters a reading holds, each counted each time it is reached (what is shared counts as often as it is met; a slice's spare places count too). A statement '..UptoSaid' is the law's where the arguments, and the package variables that the reading takes, are together of bulk at most 1048576: NARROWER than '..Said'. Prove '..Said' where nothing that the law and all that it calls make is longer than what came in: it says more and counts as full. Else prove '..UptoSaid'. A law counts once. -/
mutual
def uptoBulk {H : Type} : DataW H → Nat
  | .lit (.string bytes) => bytes.length + 1
  | .lit _ => 1
  | .nil => 1
  | .ptr d => uptoBulk d + 1
  | .slice elems spare => uptoBulkAll elems + uptoBulkAll spare + 1
  | .agg parts => uptoBulkAll parts + 1
  | .iface _ d => uptoBulk d + 1
  | .map entries => uptoBulkEntries entries + 1
  | .held _ => 1
def uptoBulkAll {H : Type} : List (DataW H) → Nat
  | [] => 0
  | d :: r => uptoBulk d + uptoBulkAll r
def uptoBulkEntries {H : Type} : List (Lit × DataW H) → Nat
  | [] => 0
  | x :: r => uptoBulkEntry x + uptoBulkEntries r
def uptoBulkEntry {H : Type} : Lit × DataW H → Nat
  | (.string bytes, d) => bytes.length + uptoBulk d + 1
  | (_, d) => uptoBulk d + 1
 end
def uptoSmall : (H : Type) → List (DataW H) → Bool := fun _ ds => decide (uptoBulkAll ds ≤ 1048576)
def OpenSpec.upto (s : _root_.Go.ChangeSpec) : _root_.Go.OpenSpec := { _root_.Go.OpenSpec.ofChange s with cond := some uptoSmall }

/-- 'changeforgelaw4.GcCollectMatchesSpec', WHERE WHAT IT READS IS OF BULK AT MOST 1048576: true; the input reads as it did. -/
def gcCollectMatchesSpecUptoRow : OpenClaim := { program := "ytenkbkcddcnmeaadoor", sum := "57dd6eb62b3810ceb16bc62f1f2f52bbcaaa907724e0a1260098d9df9c3d2d34", func := "changeforge/changeforgelaw4.GcCollectMatchesSpec", spec := "gcCollectMatchesSpec", inPlace := ["slices.overlaps[changeforge/api.StoredObject]", "internal/bytealg.IndexByteString", "internal/bytealg.IndexString"], unfollowed := true, recurses := true, named := ["math/bits.divideError", "math/bits.overflowError", "unicode/utf8.first", "unicode/utf8.acceptRanges", "internal/bytealg.MaxLen"], apart := false, laid := [("unicode/utf8.acceptRanges", laid_unicode_utf8_acceptRanges), ("unicode/utf8.first", laid_unicode_utf8_first)], narrowed := true }
def GcCollectMatchesSpecUptoSaid : Prop := gcCollectMatchesSpecUptoRow.holds Tryd.pinned (OpenSpec.upto gcCollectMatchesSpecSpec)

/-- 'changeforgelaw4.GcIdempotent', WHERE WHAT IT READS IS OF BULK AT MOST 1048576: true; the input reads as it did. -/
def gcIdempotentUptoRow : OpenClaim := { program := "ytenkbkcddcnmeaadoor", sum := "57dd6eb62b3810ceb16bc62f1f2f52bbcaaa907724e0a1260098d9df9c3d2d34", func := "changeforge/changeforgelaw4.GcIdempotent", spec := "gcIdempotent", inPlace := ["slices.overlaps[changeforge/api.StoredObject]", "internal/bytealg.IndexByteString", "internal/bytealg.IndexString"], unfollowed := true, recurses := true, named := ["math/bits.divideError", "math/bits.overflowError", "unicode/utf8.first", "unicode/utf8.acceptRanges", "internal/bytealg.MaxLen"], apart := false, laid := [("unicode/utf8.acceptRanges", laid_unicode_utf8_acceptRanges), ("unicode/utf8.first", laid_unicode_utf8_first)], narrowed := true }
def GcIdempotentUptoSaid : Prop := gcIdempotentUptoRow.holds Tryd.pinned (OpenSpec.upto gcIdempotentSpec)

/-- 'changeforgelaw4.GcLeasesExpire', WHERE WHAT IT READS IS OF BULK AT MOST 1048576: true; the input reads as it did. -/
def gcLeasesExpireUptoRow : OpenClaim := { program := "ytenkbkcddcnmeaadoor", sum := "57dd6eb62b3810ceb16bc62f1f2f52bbcaaa907724e0a1260098d9df9c3d2d34", func := "changeforge/changeforgelaw4.GcLeasesExpire", spec := "gcLeasesExpire", inPlace := ["slices.overlaps[changeforge/api.StoredObject]", "internal/bytealg.IndexByteString", "internal/bytealg.IndexString"], unfollowed := true, recurses := true, named := ["math/bits.divideError", "math/bits.overflowError", "unicode/utf8.first", "unicode/utf8.acceptRanges", "internal/bytealg.MaxLen"], apart := false, laid := [("unicode/utf8.acceptRanges", laid_unicode_utf8_acceptRanges), ("unicode/utf8.first", laid_unicode_utf8_first)], narrowed := true }
def GcLeasesExpireUptoSaid : Prop := gcLeasesExpireUptoRow.holds Tryd.pinned (OpenSpec.upto gcLeasesExpireSpec)

/-- 'changeforgelaw4.GcMarkMatchesSpec', WHERE WHAT IT READS IS OF BULK AT MOST 1048576: true; the input reads as it did. -/
def gcMarkMatchesSpecUptoRow : OpenClaim := { program := "ytenkbkcddcnmeaadoor", sum := "57dd6eb62b3810ceb16bc62f1f2f52bbcaaa907724e0a1260098d9df9c3d2d34", func := "changeforge/changeforgelaw4.GcMarkMatchesSpec", spec := "gcMarkMatchesSpec", inPlace := ["slices.overlaps[changeforge/api.StoredObject]", "internal/bytealg.IndexByteString", "internal/bytealg.IndexString"], unfollowed := true, recurses := true, named := ["math/bits.divideError", "math/bits.overflowError", "unicode/utf8.first", "unicode/utf8.acceptRanges", "internal/bytealg.MaxLen"], apart := false, laid := [("unicode/utf8.acceptRanges", laid_unicode_utf8_acceptRanges), ("unicode/utf8.first", laid_unicode_utf8_first)], narrowed := true }
def GcMarkMatchesSpecUptoSaid : Prop := gcMarkMatchesSpecUptoRow.holds Tryd.pinned (OpenSpec.upto gcMarkMatchesSpecSpec)

/-- 'changeforgelaw4.GcBreaksNoLinks', WHERE WHAT IT READS IS OF BULK AT MOST 1048576: true; the input reads as it did. -/
def gcBreaksNoLinksUptoRow : OpenClaim := { program := "ytenkbkcddcnmeaadoor", sum := "57dd6eb62b3810ceb16bc62f1f2f52bbcaaa907724e0a1260098d9df9c3d2d34", func := "changeforge/changeforgelaw4.GcBreaksNoLinks", spec := "gcBreaksNoLinks", inPlace := ["slices.overlaps[changeforge/api.StoredObject]", "internal/bytealg.IndexByteString", "internal/bytealg.IndexString"], unfollowed := true, recurses := true, named := ["math/bits.divideError", "math/bits.overflowError", "unicode/utf8.first", "unicode/utf8.acceptRanges", "internal/bytealg.MaxLen"], apart := false, laid := [("unicode/utf8.acceptRanges", laid_unicode_utf8_acceptRanges), ("unicode/utf8.first", laid_unicode_utf8_first)], narrowed := true }
def GcBreaksNoLinksUptoSaid : Prop := gcBreaksNoLinksUptoRow.holds Tryd.pinned (OpenSpec.upto gcBreaksNoLinksSpec)

/-- 'changeforgetop.TopCollectFiltered', WHERE WHAT IT READS IS OF BULK AT MOST 1048576: true; the input reads as it did. -/
def topCollectFilteredUptoRow : OpenClaim := { program := "ytenkbkcddcnmeaadoor", sum := "57dd6eb62b3810ceb16bc62f1f2f52bbcaaa907724e0a1260098d9df9c3d2d34", func := "changeforge/changeforgetop.TopCollectFiltered", spec := "topCollectFiltered", inPlace := ["slices.overlaps[changeforge/api.StoredObject]", "internal/bytealg.IndexByteString", "internal/bytealg.IndexString"], unfollowed := true, recurses := true, named := ["math/bits.divideError", "math/bits.overflowError", "unicode/utf8.first", "unicode/utf8.acceptRanges", "internal/bytealg.MaxLen"], apart := false, laid := [("unicode/utf8.acceptRanges", laid_unicode_utf8_acceptRanges), ("unicode/utf8.first", laid_unicode_utf8_first)], narrowed := true }
def TopCollectFilteredUptoSaid : Prop := topCollectFilteredUptoRow.holds Tryd.pinned (OpenSpec.upto topCollectFilteredSpec)

end Rows
end Go.Proofs.YtenkbkcddcnmeaaDoor
