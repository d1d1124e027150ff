/-
  DERIVED. GIVEN WITH THE SEED: THE CARDS: each row of YtenkbkcddcnmeaaDoorRows.lean that lists a variable, with what it lists TIED to the program's text (the seventh form; the later family's looks); each row that meets fmt, with fmt's text TOLD by the authors' own Lean function (tested against real Go, not proved from fmt's source: count such statements apart). THE CARD IS WHAT COUNTS. Prove the row's statement (the work); the ties are given (YtenkbkcddcnmeaaDoorTie.lean); close each card by the builder's one call (the guide's Derived/Test/ToyasCard.lean, 'card_holds'). Laid BY PROGRAM, IN A SANDBOX (cutbox-door.mjs). By AI agents, Wed Nov 11 2026. No macro, syntax, notation, axiom, sorry.
-/
import Derived.Test.YtenkbkcddcnmeaaDoorRows
import GoSem.ClaimSeven
namespace Go.Proofs.YtenkbkcddcnmeaaDoor
namespace Rows

/-- THE TIED CARD OF 'changeforgelaw4.GcCollectMatchesSpec'. -/
def gcCollectMatchesSpecCard : Claim7 := { stood := { row := gcCollectMatchesSpecRow, standIns := [], harness := (true, "e735f3cdd02bd8967d66236f74743591e7ee9a4efc9c243e1c8247e2e4aafc04"), looks := false }, kinds := [], alts := [], laidByText := true, laidKinds := [.data, .pinned], laidTests := true, laidLooks := .later }
def GcCollectMatchesSpecCardSaid : Prop := Claim7.holds Tryd.pinned (.plain (OpenSpec.ofChange gcCollectMatchesSpecSpec)) gcCollectMatchesSpecCard

/-- THE TIED CARD OF 'changeforgelaw4.GcIdempotent'. -/
def gcIdempotentCard : Claim7 := { stood := { row := gcIdempotentRow, standIns := [], harness := (true, "e735f3cdd02bd8967d66236f74743591e7ee9a4efc9c243e1c8247e2e4aafc04"), looks := false }, kinds := [], alts := [], laidByText := true, laidKinds := [.data, .pinned], laidTests := true, laidLooks := .later }
def GcIdempotentCardSaid : Prop := Claim7.holds Tryd.pinned (.plain (OpenSpec.ofChange gcIdempotentSpec)) gcIdempotentCard

/-- THE TIED CARD OF 'changeforgelaw4.GcLeasesExpire'. -/
def gcLeasesExpireCard : Claim7 := { stood := { row := gcLeasesExpireRow, standIns := [], harness := (true, "e735f3cdd02bd8967d66236f74743591e7ee9a4efc9c243e1c8247e2e4aafc04"), looks := false }, kinds := [], alts := [], laidByText := true, laidKinds := [.data, .pinned], laidTests := true, laidLooks := .later }
def GcLeasesExpireCardSaid : Prop := Claim7.holds Tryd.pinned (.plain (OpenSpec.ofChange gcLeasesExpireSpec)) gcLeasesExpireCard

/-- THE TIED CARD OF 'changeforgelaw4.GcMarkMatchesSpec'. -/
def gcMarkMatchesSpecCard : Claim7 := { stood := { row := gcMarkMatchesSpecRow, standIns := [], harness := (true, "e735f3cdd02bd8967d66236f74743591e7ee9a4efc9c243e1c8247e2e4aafc04"), looks := false }, kinds := [], alts := [], laidByText := true, laidKinds := [.data, .pinned], laidTests := true, laidLooks := .later }
def GcMarkMatchesSpecCardSaid : Prop := Claim7.holds Tryd.pinned (.plain (OpenSpec.ofChange gcMarkMatchesSpecSpec)) gcMarkMatchesSpecCard

/-- THE TIED CARD OF 'changeforgelaw4.GcBreaksNoLinks'. -/
def gcBreaksNoLinksCard : Claim7 := { stood := { row := gcBreaksNoLinksRow, standIns := [], harness := (true, "e735f3cdd02bd8967d66236f74743591e7ee9a4efc9c243e1c8247e2e4aafc04"), looks := false }, kinds := [], alts := [], laidByText := true, laidKinds := [.data, .pinned], laidTests := true, laidLooks := .later }
def GcBreaksNoLinksCardSaid : Prop := Claim7.holds Tryd.pinned (.plain (OpenSpec.ofChange gcBreaksNoLinksSpec)) gcBreaksNoLinksCard

/-- THE TIED CARD OF 'changeforgetop.TopCollectFiltered'. -/
def topCollectFilteredCard : Claim7 := { stood := { row := topCollectFilteredRow, standIns := [], harness := (true, "e735f3cdd02bd8967d66236f74743591e7ee9a4efc9c243e1c8247e2e4aafc04"), looks := false }, kinds := [], alts := [], laidByText := true, laidKinds := [.data, .pinned], laidTests := true, laidLooks := .later }
def TopCollectFilteredCardSaid : Prop := Claim7.holds Tryd.pinned (.plain (OpenSpec.ofChange topCollectFilteredSpec)) topCollectFilteredCard

/-- THE SECOND FORM's CARD OF 'changeforgelaw4.GcCollectMatchesSpec'. -/
def gcCollectMatchesSpecUptoCard : Claim7 := { stood := { row := gcCollectMatchesSpecUptoRow, standIns := [], harness := (true, "e735f3cdd02bd8967d66236f74743591e7ee9a4efc9c243e1c8247e2e4aafc04"), looks := false }, kinds := [], alts := [], laidByText := true, laidKinds := [.data, .pinned], laidTests := true, laidLooks := .later }
def GcCollectMatchesSpecUptoCardSaid : Prop := Claim7.holds Tryd.pinned (.plain (OpenSpec.upto gcCollectMatchesSpecSpec)) gcCollectMatchesSpecUptoCard

/-- THE SECOND FORM's CARD OF 'changeforgelaw4.GcIdempotent'. -/
def gcIdempotentUptoCard : Claim7 := { stood := { row := gcIdempotentUptoRow, standIns := [], harness := (true, "e735f3cdd02bd8967d66236f74743591e7ee9a4efc9c243e1c8247e2e4aafc04"), looks := false }, kinds := [], alts := [], laidByText := true, laidKinds := [.data, .pinned], laidTests := true, laidLooks := .later }
def GcIdempotentUptoCardSaid : Prop := Claim7.holds Tryd.pinned (.plain (OpenSpec.upto gcIdempotentSpec)) gcIdempotentUptoCard

/-- THE SECOND FORM's CARD OF 'changeforgelaw4.GcLeasesExpire'. -/
def gcLeasesExpireUptoCard : Claim7 := { stood := { row := gcLeasesExpireUptoRow, standIns := [], harness := (true, "e735f3cdd02bd8967d66236f74743591e7ee9a4efc9c243e1c8247e2e4aafc04"), looks := false }, kinds := [], alts := [], laidByText := true, laidKinds := [.data, .pinned], laidTests := true, laidLooks := .later }
def GcLeasesExpireUptoCardSaid : Prop := Claim7.holds Tryd.pinned (.plain (OpenSpec.upto gcLeasesExpireSpec)) gcLeasesExpireUptoCard

/-- THE SECOND FORM's CARD OF 'changeforgelaw4.GcMarkMatchesSpec'. -/
def gcMarkMatchesSpecUptoCard : Claim7 := { stood := { row := gcMarkMatchesSpecUptoRow, standIns := [], harness := (true, "e735f3cdd02bd8967d66236f74743591e7ee9a4efc9c243e1c8247e2e4aafc04"), looks := false }, kinds := [], alts := [], laidByText := true, laidKinds := [.data, .pinned], laidTests := true, laidLooks := .later }
def GcMarkMatchesSpecUptoCardSaid : Prop := Claim7.holds Tryd.pinned (.plain (OpenSpec.upto gcMarkMatchesSpecSpec)) gcMarkMatchesSpecUptoCard

/-- THE SECOND FORM's CARD OF 'changeforgelaw4.GcBreaksNoLinks'. -/
def gcBreaksNoLinksUptoCard : Claim7 := { stood := { row := gcBreaksNoLinksUptoRow, standIns := [], harness := (true, "e735f3cdd02bd8967d66236f74743591e7ee9a4efc9c243e1c8247e2e4aafc04"), looks := false }, kinds := [], alts := [], laidByText := true, laidKinds := [.data, .pinned], laidTests := true, laidLooks := .later }
def GcBreaksNoLinksUptoCardSaid : Prop := Claim7.holds Tryd.pinned (.plain (OpenSpec.upto gcBreaksNoLinksSpec)) gcBreaksNoLinksUptoCard

/-- THE SECOND FORM's CARD OF 'changeforgetop.TopCollectFiltered'. -/
def topCollectFilteredUptoCard : Claim7 := { stood := { row := topCollectFilteredUptoRow, standIns := [], harness := (true, "e735f3cdd02bd8967d66236f74743591e7ee9a4efc9c243e1c8247e2e4aafc04"), looks := false }, kinds := [], alts := [], laidByText := true, laidKinds := [.data, .pinned], laidTests := true, laidLooks := .later }
def TopCollectFilteredUptoCardSaid : Prop := Claim7.holds Tryd.pinned (.plain (OpenSpec.upto topCollectFilteredSpec)) topCollectFilteredUptoCard
end Rows
end Go.Proofs.YtenkbkcddcnmeaaDoor
