/-
  DERIVED. GIVEN WITH THE SEED: THE CARDS: each row of YtcinggnhfgkahaaDoorRows.lean that lists a variable, with what it lists TIED to the program's text (the seventh form; the later family's looks); each row that meets fmt, with fmt's text TOLD by the authors' own Lean function (tested against real Go, not proved from fmt's source: count such statements apart). THE CARD IS WHAT COUNTS. Prove the row's statement (the work); the ties are given (YtcinggnhfgkahaaDoorTie.lean); close each card by the builder's one call (the guide's Derived/Test/ToyasCard.lean, 'card_holds'). Laid BY PROGRAM, IN A SANDBOX (cutbox-door.mjs). By AI agents, Wed Nov 11 2026. No macro, syntax, notation, axiom, sorry.
-/
import Derived.Test.YtcinggnhfgkahaaDoorRows
import GoSem.ClaimSeven
namespace Go.Proofs.YtcinggnhfgkahaaDoor
namespace Rows

/-- THE TIED CARD OF 'waywardenlaw08.ConfigChecks'. -/
def configChecksCard : Claim7 := { stood := { row := configChecksRow, standIns := [], harness := (true, "88be02dbc369eca4c6db9cd56edc4688603c1290e778dfb489dc9f72f8ababdd"), looks := true }, kinds := [], alts := [], laidByText := true, laidKinds := [.data], laidTests := true, laidLooks := .later }
def ConfigChecksCardSaid : Prop := Claim7.holds Tryd.pinned (.plain (OpenSpec.ofChange configChecksSpec)) configChecksCard

/-- THE TIED CARD OF 'waywardenlaw08.ConfigWaits'. -/
def configWaitsCard : Claim7 := { stood := { row := configWaitsRow, standIns := [], harness := (true, "88be02dbc369eca4c6db9cd56edc4688603c1290e778dfb489dc9f72f8ababdd"), looks := true }, kinds := [], alts := [], laidByText := true, laidKinds := [.data], laidTests := true, laidLooks := .later }
def ConfigWaitsCardSaid : Prop := Claim7.holds Tryd.pinned (.plain (OpenSpec.ofChange configWaitsSpec)) configWaitsCard

/-- THE TIED CARD OF 'waywardenlaw08.ConfigBound'. -/
def configBoundCard : Claim7 := { stood := { row := configBoundRow, standIns := [], harness := (true, "88be02dbc369eca4c6db9cd56edc4688603c1290e778dfb489dc9f72f8ababdd"), looks := true }, kinds := [], alts := [], laidByText := true, laidKinds := [.data], laidTests := true, laidLooks := .later }
def ConfigBoundCardSaid : Prop := Claim7.holds Tryd.pinned (.plain (OpenSpec.ofChange configBoundSpec)) configBoundCard

/-- THE TIED CARD OF 'waywardenlaw08.ConfigHolds'. -/
def configHoldsCard : Claim7 := { stood := { row := configHoldsRow, standIns := [], harness := (true, "88be02dbc369eca4c6db9cd56edc4688603c1290e778dfb489dc9f72f8ababdd"), looks := true }, kinds := [], alts := [], laidByText := true, laidKinds := [.data], laidTests := true, laidLooks := .later }
def ConfigHoldsCardSaid : Prop := Claim7.holds Tryd.pinned (.plain (OpenSpec.ofChange configHoldsSpec)) configHoldsCard

/-- THE TIED CARD OF 'waywardenlaw08.ConfigSpans'. -/
def configSpansCard : Claim7 := { stood := { row := configSpansRow, standIns := [], harness := (true, "88be02dbc369eca4c6db9cd56edc4688603c1290e778dfb489dc9f72f8ababdd"), looks := true }, kinds := [], alts := [], laidByText := true, laidKinds := [.data], laidTests := true, laidLooks := .later }
def ConfigSpansCardSaid : Prop := Claim7.holds Tryd.pinned (.plain (OpenSpec.ofChange configSpansSpec)) configSpansCard

/-- THE SECOND FORM's CARD OF 'waywardenlaw08.ConfigChecks'. -/
def configChecksUptoCard : Claim7 := { stood := { row := configChecksUptoRow, standIns := [], harness := (true, "88be02dbc369eca4c6db9cd56edc4688603c1290e778dfb489dc9f72f8ababdd"), looks := true }, kinds := [], alts := [], laidByText := true, laidKinds := [.data], laidTests := true, laidLooks := .later }
def ConfigChecksUptoCardSaid : Prop := Claim7.holds Tryd.pinned (.plain (OpenSpec.upto configChecksSpec)) configChecksUptoCard

/-- THE SECOND FORM's CARD OF 'waywardenlaw08.ConfigWaits'. -/
def configWaitsUptoCard : Claim7 := { stood := { row := configWaitsUptoRow, standIns := [], harness := (true, "88be02dbc369eca4c6db9cd56edc4688603c1290e778dfb489dc9f72f8ababdd"), looks := true }, kinds := [], alts := [], laidByText := true, laidKinds := [.data], laidTests := true, laidLooks := .later }
def ConfigWaitsUptoCardSaid : Prop := Claim7.holds Tryd.pinned (.plain (OpenSpec.upto configWaitsSpec)) configWaitsUptoCard

/-- THE SECOND FORM's CARD OF 'waywardenlaw08.ConfigBound'. -/
def configBoundUptoCard : Claim7 := { stood := { row := configBoundUptoRow, standIns := [], harness := (true, "88be02dbc369eca4c6db9cd56edc4688603c1290e778dfb489dc9f72f8ababdd"), looks := true }, kinds := [], alts := [], laidByText := true, laidKinds := [.data], laidTests := true, laidLooks := .later }
def ConfigBoundUptoCardSaid : Prop := Claim7.holds Tryd.pinned (.plain (OpenSpec.upto configBoundSpec)) configBoundUptoCard

/-- THE SECOND FORM's CARD OF 'waywardenlaw08.ConfigHolds'. -/
def configHoldsUptoCard : Claim7 := { stood := { row := configHoldsUptoRow, standIns := [], harness := (true, "88be02dbc369eca4c6db9cd56edc4688603c1290e778dfb489dc9f72f8ababdd"), looks := true }, kinds := [], alts := [], laidByText := true, laidKinds := [.data], laidTests := true, laidLooks := .later }
def ConfigHoldsUptoCardSaid : Prop := Claim7.holds Tryd.pinned (.plain (OpenSpec.upto configHoldsSpec)) configHoldsUptoCard

/-- THE SECOND FORM's CARD OF 'waywardenlaw08.ConfigSpans'. -/
def configSpansUptoCard : Claim7 := { stood := { row := configSpansUptoRow, standIns := [], harness := (true, "88be02dbc369eca4c6db9cd56edc4688603c1290e778dfb489dc9f72f8ababdd"), looks := true }, kinds := [], alts := [], laidByText := true, laidKinds := [.data], laidTests := true, laidLooks := .later }
def ConfigSpansUptoCardSaid : Prop := Claim7.holds Tryd.pinned (.plain (OpenSpec.upto configSpansSpec)) configSpansUptoCard
end Rows
end Go.Proofs.YtcinggnhfgkahaaDoor
