/-
  DERIVED. GIVEN WITH THE SEED: THE CARDS: each row of YtlgkjboamfgbeaaDoorRows.lean that lists a variable, with what it lists TIED to the program's text (the seventh form; the later family's looks); each row that meets fmt, with fmt's text TOLD by the authors' own Lean function (tested against real Go, not proved from fmt's source: count such statements apart). THE CARD IS WHAT COUNTS. Prove the row's statement (the work); the ties are given (YtlgkjboamfgbeaaDoorTie.lean); close each card by the builder's one call (the guide's Derived/Test/ToyasCard.lean, 'card_holds'). Laid BY PROGRAM, IN A SANDBOX (cutbox-door.mjs). By AI agents, Wed Nov 11 2026. No macro, syntax, notation, axiom, sorry.
-/
import Derived.Test.YtlgkjboamfgbeaaDoorRows
import GoSem.ClaimSeven
namespace Go.Proofs.YtlgkjboamfgbeaaDoor
namespace Rows

/-- THE TIED CARD OF 'waywardenlaw15.PulseBegins'. -/
def pulseBeginsCard : Claim7 := { stood := { row := pulseBeginsRow, standIns := [], harness := (true, "12590f2da28f99cacb30af99e0cd4c9045a42087000b1ea953777869f10be5d8"), looks := true }, kinds := [], alts := [], laidByText := true, laidKinds := [.data], laidTests := true, laidLooks := .later }
def PulseBeginsCardSaid : Prop := Claim7.holds Tryd.pinned (.plain (OpenSpec.ofChange pulseBeginsSpec)) pulseBeginsCard

/-- THE TIED CARD OF 'waywardenlaw15.PulseBeats'. -/
def pulseBeatsCard : Claim7 := { stood := { row := pulseBeatsRow, standIns := [], harness := (true, "12590f2da28f99cacb30af99e0cd4c9045a42087000b1ea953777869f10be5d8"), looks := true }, kinds := [], alts := [], laidByText := true, laidKinds := [.data], laidTests := true, laidLooks := .later }
def PulseBeatsCardSaid : Prop := Claim7.holds Tryd.pinned (.plain (OpenSpec.ofChange pulseBeatsSpec)) pulseBeatsCard

/-- THE TIED CARD OF 'waywardenlaw15.PulseNext'. -/
def pulseNextCard : Claim7 := { stood := { row := pulseNextRow, standIns := [], harness := (true, "12590f2da28f99cacb30af99e0cd4c9045a42087000b1ea953777869f10be5d8"), looks := true }, kinds := [], alts := [], laidByText := true, laidKinds := [.data], laidTests := true, laidLooks := .later }
def PulseNextCardSaid : Prop := Claim7.holds Tryd.pinned (.plain (OpenSpec.ofChange pulseNextSpec)) pulseNextCard

/-- THE TIED CARD OF 'waywardenlaw15.PulseHolds'. -/
def pulseHoldsCard : Claim7 := { stood := { row := pulseHoldsRow, standIns := [], harness := (true, "12590f2da28f99cacb30af99e0cd4c9045a42087000b1ea953777869f10be5d8"), looks := true }, kinds := [], alts := [], laidByText := true, laidKinds := [.data], laidTests := true, laidLooks := .later }
def PulseHoldsCardSaid : Prop := Claim7.holds Tryd.pinned (.plain (OpenSpec.ofChange pulseHoldsSpec)) pulseHoldsCard

/-- THE TIED CARD OF 'waywardenlaw15.PulseRuns'. -/
def pulseRunsCard : Claim7 := { stood := { row := pulseRunsRow, standIns := [], harness := (true, "12590f2da28f99cacb30af99e0cd4c9045a42087000b1ea953777869f10be5d8"), looks := true }, kinds := [], alts := [], laidByText := true, laidKinds := [.data], laidTests := true, laidLooks := .later }
def PulseRunsCardSaid : Prop := Claim7.holds Tryd.pinned (.plain (OpenSpec.ofChange pulseRunsSpec)) pulseRunsCard

/-- THE SECOND FORM's CARD OF 'waywardenlaw15.PulseBegins'. -/
def pulseBeginsUptoCard : Claim7 := { stood := { row := pulseBeginsUptoRow, standIns := [], harness := (true, "12590f2da28f99cacb30af99e0cd4c9045a42087000b1ea953777869f10be5d8"), looks := true }, kinds := [], alts := [], laidByText := true, laidKinds := [.data], laidTests := true, laidLooks := .later }
def PulseBeginsUptoCardSaid : Prop := Claim7.holds Tryd.pinned (.plain (OpenSpec.upto pulseBeginsSpec)) pulseBeginsUptoCard

/-- THE SECOND FORM's CARD OF 'waywardenlaw15.PulseBeats'. -/
def pulseBeatsUptoCard : Claim7 := { stood := { row := pulseBeatsUptoRow, standIns := [], harness := (true, "12590f2da28f99cacb30af99e0cd4c9045a42087000b1ea953777869f10be5d8"), looks := true }, kinds := [], alts := [], laidByText := true, laidKinds := [.data], laidTests := true, laidLooks := .later }
def PulseBeatsUptoCardSaid : Prop := Claim7.holds Tryd.pinned (.plain (OpenSpec.upto pulseBeatsSpec)) pulseBeatsUptoCard

/-- THE SECOND FORM's CARD OF 'waywardenlaw15.PulseNext'. -/
def pulseNextUptoCard : Claim7 := { stood := { row := pulseNextUptoRow, standIns := [], harness := (true, "12590f2da28f99cacb30af99e0cd4c9045a42087000b1ea953777869f10be5d8"), looks := true }, kinds := [], alts := [], laidByText := true, laidKinds := [.data], laidTests := true, laidLooks := .later }
def PulseNextUptoCardSaid : Prop := Claim7.holds Tryd.pinned (.plain (OpenSpec.upto pulseNextSpec)) pulseNextUptoCard

/-- THE SECOND FORM's CARD OF 'waywardenlaw15.PulseHolds'. -/
def pulseHoldsUptoCard : Claim7 := { stood := { row := pulseHoldsUptoRow, standIns := [], harness := (true, "12590f2da28f99cacb30af99e0cd4c9045a42087000b1ea953777869f10be5d8"), looks := true }, kinds := [], alts := [], laidByText := true, laidKinds := [.data], laidTests := true, laidLooks := .later }
def PulseHoldsUptoCardSaid : Prop := Claim7.holds Tryd.pinned (.plain (OpenSpec.upto pulseHoldsSpec)) pulseHoldsUptoCard

/-- THE SECOND FORM's CARD OF 'waywardenlaw15.PulseRuns'. -/
def pulseRunsUptoCard : Claim7 := { stood := { row := pulseRunsUptoRow, standIns := [], harness := (true, "12590f2da28f99cacb30af99e0cd4c9045a42087000b1ea953777869f10be5d8"), looks := true }, kinds := [], alts := [], laidByText := true, laidKinds := [.data], laidTests := true, laidLooks := .later }
def PulseRunsUptoCardSaid : Prop := Claim7.holds Tryd.pinned (.plain (OpenSpec.upto pulseRunsSpec)) pulseRunsUptoCard
end Rows
end Go.Proofs.YtlgkjboamfgbeaaDoor
