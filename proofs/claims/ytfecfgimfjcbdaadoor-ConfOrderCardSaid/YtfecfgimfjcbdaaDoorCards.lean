/-
  DERIVED. GIVEN WITH THE SEED: THE CARDS: each row of YtfecfgimfjcbdaaDoorRows.lean that lists a variable, with what it lists TIED to the program's text (the seventh form; the later family's looks); each row that meets fmt, with fmt's text TOLD by the authors' own Lean function (tested against real Go, not proved from fmt's source: count such statements apart). THE CARD IS WHAT COUNTS. Prove the row's statement (the work); the ties are given (YtfecfgimfjcbdaaDoorTie.lean); close each card by the builder's one call (the guide's Derived/Test/ToyasCard.lean, 'card_holds'). Laid BY PROGRAM, IN A SANDBOX (cutbox-door.mjs). By AI agents, Wed Nov 11 2026. No macro, syntax, notation, axiom, sorry.
-/
import Derived.Test.YtfecfgimfjcbdaaDoorRows
import GoSem.ClaimSeven
namespace Go.Proofs.YtfecfgimfjcbdaaDoor
namespace Rows

/-- THE TIED CARD OF 'replicalaw12.ConfChecks'. -/
def confChecksCard : Claim7 := { stood := { row := confChecksRow, standIns := [], harness := (true, "d00b676bce2552af46cfae2229684cff95e92bfc764e18822df88b7b060a56ac"), looks := true }, kinds := [], alts := [], laidByText := true, laidKinds := [.data, .pinned], laidTests := true, laidLooks := .later }
def ConfChecksCardSaid : Prop := Claim7.holds Tryd.pinned (.plain (OpenSpec.ofChange confChecksSpec)) confChecksCard

/-- THE TIED CARD OF 'replicalaw12.ConfStatuses'. -/
def confStatusesCard : Claim7 := { stood := { row := confStatusesRow, standIns := [], harness := (true, "d00b676bce2552af46cfae2229684cff95e92bfc764e18822df88b7b060a56ac"), looks := true }, kinds := [], alts := [], laidByText := true, laidKinds := [.data, .data, .data], laidTests := true, laidLooks := .later }
def ConfStatusesCardSaid : Prop := Claim7.holds Tryd.pinned (.plain (OpenSpec.ofChange confStatusesSpec)) confStatusesCard

/-- THE TIED CARD OF 'replicalaw12.ConfLineBack'. -/
def confLineBackCard : Claim7 := { stood := { row := confLineBackRow, standIns := [], harness := (true, "d00b676bce2552af46cfae2229684cff95e92bfc764e18822df88b7b060a56ac"), looks := true }, kinds := [], alts := [], laidByText := true, laidKinds := [.data, .data, .data], laidTests := true, laidLooks := .later }
def ConfLineBackCardSaid : Prop := Claim7.holds Tryd.pinned (.plain (OpenSpec.ofChange confLineBackSpec)) confLineBackCard

/-- THE TIED CARD OF 'replicalaw12.ConfLineOnly'. -/
def confLineOnlyCard : Claim7 := { stood := { row := confLineOnlyRow, standIns := [], harness := (true, "d00b676bce2552af46cfae2229684cff95e92bfc764e18822df88b7b060a56ac"), looks := true }, kinds := [], alts := [], laidByText := true, laidKinds := [.data, .data, .data], laidTests := true, laidLooks := .later }
def ConfLineOnlyCardSaid : Prop := Claim7.holds Tryd.pinned (.plain (OpenSpec.ofChange confLineOnlySpec)) confLineOnlyCard

/-- THE TIED CARD OF 'replicalaw12.ConfLinePlace'. -/
def confLinePlaceCard : Claim7 := { stood := { row := confLinePlaceRow, standIns := [], harness := (true, "d00b676bce2552af46cfae2229684cff95e92bfc764e18822df88b7b060a56ac"), looks := true }, kinds := [], alts := [], laidByText := true, laidKinds := [.data, .data, .data], laidTests := true, laidLooks := .later }
def ConfLinePlaceCardSaid : Prop := Claim7.holds Tryd.pinned (.plain (OpenSpec.ofChange confLinePlaceSpec)) confLinePlaceCard

/-- THE TIED CARD OF 'replicalaw12.ConfPrints'. -/
def confPrintsCard : Claim7 := { stood := { row := confPrintsRow, standIns := [], harness := (true, "d00b676bce2552af46cfae2229684cff95e92bfc764e18822df88b7b060a56ac"), looks := true }, kinds := [], alts := [], laidByText := true, laidKinds := [.data, .data, .data, .data, .pinned], laidTests := true, laidLooks := .later }
def ConfPrintsCardSaid : Prop := Claim7.holds Tryd.pinned (.plain (OpenSpec.ofChange confPrintsSpec)) confPrintsCard

/-- THE TIED CARD OF 'replicalaw12.ConfFirst'. -/
def confFirstCard : Claim7 := { stood := { row := confFirstRow, standIns := [], harness := (true, "d00b676bce2552af46cfae2229684cff95e92bfc764e18822df88b7b060a56ac"), looks := true }, kinds := [], alts := [], laidByText := true, laidKinds := [.data, .data, .data, .sentinel, .sentinel], laidTests := true, laidLooks := .later }
def ConfFirstCardSaid : Prop := Claim7.holds Tryd.pinned (.plain (OpenSpec.ofChange confFirstSpec)) confFirstCard

/-- THE TIED CARD OF 'replicalaw12.ConfBack'. -/
def confBackCard : Claim7 := { stood := { row := confBackRow, standIns := [], harness := (true, "d00b676bce2552af46cfae2229684cff95e92bfc764e18822df88b7b060a56ac"), looks := true }, kinds := [], alts := [], laidByText := true, laidKinds := [.data, .data, .data, .data, .sentinel, .sentinel, .pinned], laidTests := true, laidLooks := .later }
def ConfBackCardSaid : Prop := Claim7.holds Tryd.pinned (.plain (OpenSpec.ofChange confBackSpec)) confBackCard

/-- THE TIED CARD OF 'replicalaw12.ConfRead'. -/
def confReadCard : Claim7 := { stood := { row := confReadRow, standIns := [], harness := (true, "d00b676bce2552af46cfae2229684cff95e92bfc764e18822df88b7b060a56ac"), looks := true }, kinds := [], alts := [], laidByText := true, laidKinds := [.data, .data, .data, .data, .sentinel, .sentinel, .pinned], laidTests := true, laidLooks := .later }
def ConfReadCardSaid : Prop := Claim7.holds Tryd.pinned (.plain (OpenSpec.ofChange confReadSpec)) confReadCard

/-- THE TIED CARD OF 'replicalaw12.ConfLoose'. -/
def confLooseCard : Claim7 := { stood := { row := confLooseRow, standIns := [], harness := (true, "d00b676bce2552af46cfae2229684cff95e92bfc764e18822df88b7b060a56ac"), looks := true }, kinds := [], alts := [], laidByText := true, laidKinds := [.data, .data, .data, .data, .sentinel, .sentinel, .pinned], laidTests := true, laidLooks := .later }
def ConfLooseCardSaid : Prop := Claim7.holds Tryd.pinned (.plain (OpenSpec.ofChange confLooseSpec)) confLooseCard

/-- THE TIED CARD OF 'replicalaw12.ConfOrder'. -/
def confOrderCard : Claim7 := { stood := { row := confOrderRow, standIns := [], harness := (true, "d00b676bce2552af46cfae2229684cff95e92bfc764e18822df88b7b060a56ac"), looks := true }, kinds := [], alts := [], laidByText := true, laidKinds := [.data, .data, .data, .data, .sentinel, .sentinel, .pinned], laidTests := true, laidLooks := .later }
def ConfOrderCardSaid : Prop := Claim7.holds Tryd.pinned (.plain (OpenSpec.ofChange confOrderSpec)) confOrderCard

/-- THE SECOND FORM's CARD OF 'replicalaw12.ConfChecks'. -/
def confChecksUptoCard : Claim7 := { stood := { row := confChecksUptoRow, standIns := [], harness := (true, "d00b676bce2552af46cfae2229684cff95e92bfc764e18822df88b7b060a56ac"), looks := true }, kinds := [], alts := [], laidByText := true, laidKinds := [.data, .pinned], laidTests := true, laidLooks := .later }
def ConfChecksUptoCardSaid : Prop := Claim7.holds Tryd.pinned (.plain (OpenSpec.upto confChecksSpec)) confChecksUptoCard

/-- THE SECOND FORM's CARD OF 'replicalaw12.ConfStatuses'. -/
def confStatusesUptoCard : Claim7 := { stood := { row := confStatusesUptoRow, standIns := [], harness := (true, "d00b676bce2552af46cfae2229684cff95e92bfc764e18822df88b7b060a56ac"), looks := true }, kinds := [], alts := [], laidByText := true, laidKinds := [.data, .data, .data], laidTests := true, laidLooks := .later }
def ConfStatusesUptoCardSaid : Prop := Claim7.holds Tryd.pinned (.plain (OpenSpec.upto confStatusesSpec)) confStatusesUptoCard

/-- THE SECOND FORM's CARD OF 'replicalaw12.ConfLineBack'. -/
def confLineBackUptoCard : Claim7 := { stood := { row := confLineBackUptoRow, standIns := [], harness := (true, "d00b676bce2552af46cfae2229684cff95e92bfc764e18822df88b7b060a56ac"), looks := true }, kinds := [], alts := [], laidByText := true, laidKinds := [.data, .data, .data], laidTests := true, laidLooks := .later }
def ConfLineBackUptoCardSaid : Prop := Claim7.holds Tryd.pinned (.plain (OpenSpec.upto confLineBackSpec)) confLineBackUptoCard

/-- THE SECOND FORM's CARD OF 'replicalaw12.ConfLineOnly'. -/
def confLineOnlyUptoCard : Claim7 := { stood := { row := confLineOnlyUptoRow, standIns := [], harness := (true, "d00b676bce2552af46cfae2229684cff95e92bfc764e18822df88b7b060a56ac"), looks := true }, kinds := [], alts := [], laidByText := true, laidKinds := [.data, .data, .data], laidTests := true, laidLooks := .later }
def ConfLineOnlyUptoCardSaid : Prop := Claim7.holds Tryd.pinned (.plain (OpenSpec.upto confLineOnlySpec)) confLineOnlyUptoCard

/-- THE SECOND FORM's CARD OF 'replicalaw12.ConfLinePlace'. -/
def confLinePlaceUptoCard : Claim7 := { stood := { row := confLinePlaceUptoRow, standIns := [], harness := (true, "d00b676bce2552af46cfae2229684cff95e92bfc764e18822df88b7b060a56ac"), looks := true }, kinds := [], alts := [], laidByText := true, laidKinds := [.data, .data, .data], laidTests := true, laidLooks := .later }
def ConfLinePlaceUptoCardSaid : Prop := Claim7.holds Tryd.pinned (.plain (OpenSpec.upto confLinePlaceSpec)) confLinePlaceUptoCard

/-- THE SECOND FORM's CARD OF 'replicalaw12.ConfPrints'. -/
def confPrintsUptoCard : Claim7 := { stood := { row := confPrintsUptoRow, standIns := [], harness := (true, "d00b676bce2552af46cfae2229684cff95e92bfc764e18822df88b7b060a56ac"), looks := true }, kinds := [], alts := [], laidByText := true, laidKinds := [.data, .data, .data, .data, .pinned], laidTests := true, laidLooks := .later }
def ConfPrintsUptoCardSaid : Prop := Claim7.holds Tryd.pinned (.plain (OpenSpec.upto confPrintsSpec)) confPrintsUptoCard

/-- THE SECOND FORM's CARD OF 'replicalaw12.ConfFirst'. -/
def confFirstUptoCard : Claim7 := { stood := { row := confFirstUptoRow, standIns := [], harness := (true, "d00b676bce2552af46cfae2229684cff95e92bfc764e18822df88b7b060a56ac"), looks := true }, kinds := [], alts := [], laidByText := true, laidKinds := [.data, .data, .data, .sentinel, .sentinel], laidTests := true, laidLooks := .later }
def ConfFirstUptoCardSaid : Prop := Claim7.holds Tryd.pinned (.plain (OpenSpec.upto confFirstSpec)) confFirstUptoCard

/-- THE SECOND FORM's CARD OF 'replicalaw12.ConfBack'. -/
def confBackUptoCard : Claim7 := { stood := { row := confBackUptoRow, standIns := [], harness := (true, "d00b676bce2552af46cfae2229684cff95e92bfc764e18822df88b7b060a56ac"), looks := true }, kinds := [], alts := [], laidByText := true, laidKinds := [.data, .data, .data, .data, .sentinel, .sentinel, .pinned], laidTests := true, laidLooks := .later }
def ConfBackUptoCardSaid : Prop := Claim7.holds Tryd.pinned (.plain (OpenSpec.upto confBackSpec)) confBackUptoCard

/-- THE SECOND FORM's CARD OF 'replicalaw12.ConfRead'. -/
def confReadUptoCard : Claim7 := { stood := { row := confReadUptoRow, standIns := [], harness := (true, "d00b676bce2552af46cfae2229684cff95e92bfc764e18822df88b7b060a56ac"), looks := true }, kinds := [], alts := [], laidByText := true, laidKinds := [.data, .data, .data, .data, .sentinel, .sentinel, .pinned], laidTests := true, laidLooks := .later }
def ConfReadUptoCardSaid : Prop := Claim7.holds Tryd.pinned (.plain (OpenSpec.upto confReadSpec)) confReadUptoCard

/-- THE SECOND FORM's CARD OF 'replicalaw12.ConfLoose'. -/
def confLooseUptoCard : Claim7 := { stood := { row := confLooseUptoRow, standIns := [], harness := (true, "d00b676bce2552af46cfae2229684cff95e92bfc764e18822df88b7b060a56ac"), looks := true }, kinds := [], alts := [], laidByText := true, laidKinds := [.data, .data, .data, .data, .sentinel, .sentinel, .pinned], laidTests := true, laidLooks := .later }
def ConfLooseUptoCardSaid : Prop := Claim7.holds Tryd.pinned (.plain (OpenSpec.upto confLooseSpec)) confLooseUptoCard

/-- THE SECOND FORM's CARD OF 'replicalaw12.ConfOrder'. -/
def confOrderUptoCard : Claim7 := { stood := { row := confOrderUptoRow, standIns := [], harness := (true, "d00b676bce2552af46cfae2229684cff95e92bfc764e18822df88b7b060a56ac"), looks := true }, kinds := [], alts := [], laidByText := true, laidKinds := [.data, .data, .data, .data, .sentinel, .sentinel, .pinned], laidTests := true, laidLooks := .later }
def ConfOrderUptoCardSaid : Prop := Claim7.holds Tryd.pinned (.plain (OpenSpec.upto confOrderSpec)) confOrderUptoCard
end Rows
end Go.Proofs.YtfecfgimfjcbdaaDoor
