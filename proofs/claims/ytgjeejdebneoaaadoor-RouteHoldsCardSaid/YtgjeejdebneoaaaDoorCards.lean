/-
  DERIVED. GIVEN WITH THE SEED: THE CARDS: each row of YtgjeejdebneoaaaDoorRows.lean that lists a variable, with what it lists TIED to the program's text (the seventh form; the later family's looks); each row that meets fmt, with fmt's text TOLD by the authors' own Lean function (tested against real Go, not proved from fmt's source: count such statements apart). THE CARD IS WHAT COUNTS. Prove the row's statement (the work); the ties are given (YtgjeejdebneoaaaDoorTie.lean); close each card by the builder's one call (the guide's Derived/Test/ToyasCard.lean, 'card_holds'). Laid BY PROGRAM, IN A SANDBOX (cutbox-door.mjs). By AI agents, Wed Nov 11 2026. No macro, syntax, notation, axiom, sorry.
-/
import Derived.Test.YtgjeejdebneoaaaDoorRows
import GoSem.ClaimSeven
namespace Go.Proofs.YtgjeejdebneoaaaDoor
namespace Rows

/-- THE TIED CARD OF 'waywardenlaw11.RouteHears'. -/
def routeHearsCard : Claim7 := { stood := { row := routeHearsRow, standIns := [], harness := (true, "fa7a6b8d6e63b04128d297fb6348363ac6a997e45da56af36931578250117a84"), looks := true }, kinds := [], alts := [], laidByText := true, laidKinds := [.data], laidTests := true, laidLooks := .later }
def RouteHearsCardSaid : Prop := Claim7.holds Tryd.pinned (.plain (OpenSpec.ofChange routeHearsSpec)) routeHearsCard

/-- THE TIED CARD OF 'waywardenlaw11.RouteLife'. -/
def routeLifeCard : Claim7 := { stood := { row := routeLifeRow, standIns := [], harness := (true, "fa7a6b8d6e63b04128d297fb6348363ac6a997e45da56af36931578250117a84"), looks := true }, kinds := [], alts := [], laidByText := true, laidKinds := [.data], laidTests := true, laidLooks := .later }
def RouteLifeCardSaid : Prop := Claim7.holds Tryd.pinned (.plain (OpenSpec.ofChange routeLifeSpec)) routeLifeCard

/-- THE TIED CARD OF 'waywardenlaw11.RouteChecks'. -/
def routeChecksCard : Claim7 := { stood := { row := routeChecksRow, standIns := [], harness := (true, "fa7a6b8d6e63b04128d297fb6348363ac6a997e45da56af36931578250117a84"), looks := true }, kinds := [], alts := [], laidByText := true, laidKinds := [.data], laidTests := true, laidLooks := .later }
def RouteChecksCardSaid : Prop := Claim7.holds Tryd.pinned (.plain (OpenSpec.ofChange routeChecksSpec)) routeChecksCard

/-- THE TIED CARD OF 'waywardenlaw11.RouteEnds'. -/
def routeEndsCard : Claim7 := { stood := { row := routeEndsRow, standIns := [], harness := (true, "fa7a6b8d6e63b04128d297fb6348363ac6a997e45da56af36931578250117a84"), looks := true }, kinds := [], alts := [], laidByText := true, laidKinds := [.data], laidTests := true, laidLooks := .later }
def RouteEndsCardSaid : Prop := Claim7.holds Tryd.pinned (.plain (OpenSpec.ofChange routeEndsSpec)) routeEndsCard

/-- THE TIED CARD OF 'waywardenlaw11.RouteHolds'. -/
def routeHoldsCard : Claim7 := { stood := { row := routeHoldsRow, standIns := [], harness := (true, "fa7a6b8d6e63b04128d297fb6348363ac6a997e45da56af36931578250117a84"), looks := true }, kinds := [], alts := [], laidByText := true, laidKinds := [.data], laidTests := true, laidLooks := .later }
def RouteHoldsCardSaid : Prop := Claim7.holds Tryd.pinned (.plain (OpenSpec.ofChange routeHoldsSpec)) routeHoldsCard

/-- THE SECOND FORM's CARD OF 'waywardenlaw11.RouteHears'. -/
def routeHearsUptoCard : Claim7 := { stood := { row := routeHearsUptoRow, standIns := [], harness := (true, "fa7a6b8d6e63b04128d297fb6348363ac6a997e45da56af36931578250117a84"), looks := true }, kinds := [], alts := [], laidByText := true, laidKinds := [.data], laidTests := true, laidLooks := .later }
def RouteHearsUptoCardSaid : Prop := Claim7.holds Tryd.pinned (.plain (OpenSpec.upto routeHearsSpec)) routeHearsUptoCard

/-- THE SECOND FORM's CARD OF 'waywardenlaw11.RouteLife'. -/
def routeLifeUptoCard : Claim7 := { stood := { row := routeLifeUptoRow, standIns := [], harness := (true, "fa7a6b8d6e63b04128d297fb6348363ac6a997e45da56af36931578250117a84"), looks := true }, kinds := [], alts := [], laidByText := true, laidKinds := [.data], laidTests := true, laidLooks := .later }
def RouteLifeUptoCardSaid : Prop := Claim7.holds Tryd.pinned (.plain (OpenSpec.upto routeLifeSpec)) routeLifeUptoCard

/-- THE SECOND FORM's CARD OF 'waywardenlaw11.RouteChecks'. -/
def routeChecksUptoCard : Claim7 := { stood := { row := routeChecksUptoRow, standIns := [], harness := (true, "fa7a6b8d6e63b04128d297fb6348363ac6a997e45da56af36931578250117a84"), looks := true }, kinds := [], alts := [], laidByText := true, laidKinds := [.data], laidTests := true, laidLooks := .later }
def RouteChecksUptoCardSaid : Prop := Claim7.holds Tryd.pinned (.plain (OpenSpec.upto routeChecksSpec)) routeChecksUptoCard

/-- THE SECOND FORM's CARD OF 'waywardenlaw11.RouteEnds'. -/
def routeEndsUptoCard : Claim7 := { stood := { row := routeEndsUptoRow, standIns := [], harness := (true, "fa7a6b8d6e63b04128d297fb6348363ac6a997e45da56af36931578250117a84"), looks := true }, kinds := [], alts := [], laidByText := true, laidKinds := [.data], laidTests := true, laidLooks := .later }
def RouteEndsUptoCardSaid : Prop := Claim7.holds Tryd.pinned (.plain (OpenSpec.upto routeEndsSpec)) routeEndsUptoCard

/-- THE SECOND FORM's CARD OF 'waywardenlaw11.RouteHolds'. -/
def routeHoldsUptoCard : Claim7 := { stood := { row := routeHoldsUptoRow, standIns := [], harness := (true, "fa7a6b8d6e63b04128d297fb6348363ac6a997e45da56af36931578250117a84"), looks := true }, kinds := [], alts := [], laidByText := true, laidKinds := [.data], laidTests := true, laidLooks := .later }
def RouteHoldsUptoCardSaid : Prop := Claim7.holds Tryd.pinned (.plain (OpenSpec.upto routeHoldsSpec)) routeHoldsUptoCard
end Rows
end Go.Proofs.YtgjeejdebneoaaaDoor
