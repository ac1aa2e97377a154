/-
  DERIVED. GIVEN WITH THE SEED: THE CARDS: each row of YtonjaoabehkecaaDoorRows.lean that lists a variable, with what it lists TIED to the program's text (the seventh form; the later family's looks); each row that meets fmt, with fmt's text TOLD by the authors' own Lean function (tested against real Go, not proved from fmt's source: count such statements apart). THE CARD IS WHAT COUNTS. Prove the row's statement (the work); the ties are given (YtonjaoabehkecaaDoorTie.lean); close each card by the builder's one call (the guide's Derived/Test/ToyasCard.lean, 'card_holds'). Laid BY PROGRAM, IN A SANDBOX (cutbox-door.mjs). By AI agents, Wed Nov 11 2026. No macro, syntax, notation, axiom, sorry.
-/
import Derived.Test.YtonjaoabehkecaaDoorRows
import GoSem.ClaimSeven
namespace Go.Proofs.YtonjaoabehkecaaDoor
namespace Rows

/-- THE TIED CARD OF 'waywardenlaw03.OctetPuts'. -/
def octetPutsCard : Claim7 := { stood := { row := octetPutsRow, standIns := [], harness := (true, "156350e26c0c99ad417f20306f7ab7f48931e079ea60d5153c5bc966c026c307"), looks := false }, kinds := [], alts := [], laidByText := true, laidKinds := [.data], laidTests := true, laidLooks := .later }
def OctetPutsCardSaid : Prop := Claim7.holds Tryd.pinned (.plain (OpenSpec.ofChange octetPutsSpec)) octetPutsCard

/-- THE TIED CARD OF 'waywardenlaw03.OctetReads'. -/
def octetReadsCard : Claim7 := { stood := { row := octetReadsRow, standIns := [], harness := (true, "156350e26c0c99ad417f20306f7ab7f48931e079ea60d5153c5bc966c026c307"), looks := false }, kinds := [], alts := [], laidByText := true, laidKinds := [.data], laidTests := true, laidLooks := .later }
def OctetReadsCardSaid : Prop := Claim7.holds Tryd.pinned (.plain (OpenSpec.ofChange octetReadsSpec)) octetReadsCard

/-- THE TIED CARD OF 'waywardenlaw03.OctetHolds'. -/
def octetHoldsCard : Claim7 := { stood := { row := octetHoldsRow, standIns := [], harness := (true, "156350e26c0c99ad417f20306f7ab7f48931e079ea60d5153c5bc966c026c307"), looks := false }, kinds := [], alts := [], laidByText := true, laidKinds := [.data], laidTests := true, laidLooks := .later }
def OctetHoldsCardSaid : Prop := Claim7.holds Tryd.pinned (.plain (OpenSpec.ofChange octetHoldsSpec)) octetHoldsCard

/-- THE TIED CARD OF 'waywardenlaw03.OctetEach'. -/
def octetEachCard : Claim7 := { stood := { row := octetEachRow, standIns := [], harness := (true, "156350e26c0c99ad417f20306f7ab7f48931e079ea60d5153c5bc966c026c307"), looks := false }, kinds := [], alts := [], laidByText := true, laidKinds := [.data], laidTests := true, laidLooks := .later }
def OctetEachCardSaid : Prop := Claim7.holds Tryd.pinned (.plain (OpenSpec.ofChange octetEachSpec)) octetEachCard

/-- THE TIED CARD OF 'waywardenlaw03.OctetPlays'. -/
def octetPlaysCard : Claim7 := { stood := { row := octetPlaysRow, standIns := [], harness := (true, "156350e26c0c99ad417f20306f7ab7f48931e079ea60d5153c5bc966c026c307"), looks := false }, kinds := [], alts := [], laidByText := true, laidKinds := [.data], laidTests := true, laidLooks := .later }
def OctetPlaysCardSaid : Prop := Claim7.holds Tryd.pinned (.plain (OpenSpec.ofChange octetPlaysSpec)) octetPlaysCard

/-- THE SECOND FORM's CARD OF 'waywardenlaw03.OctetPuts'. -/
def octetPutsUptoCard : Claim7 := { stood := { row := octetPutsUptoRow, standIns := [], harness := (true, "156350e26c0c99ad417f20306f7ab7f48931e079ea60d5153c5bc966c026c307"), looks := false }, kinds := [], alts := [], laidByText := true, laidKinds := [.data], laidTests := true, laidLooks := .later }
def OctetPutsUptoCardSaid : Prop := Claim7.holds Tryd.pinned (.plain (OpenSpec.upto octetPutsSpec)) octetPutsUptoCard

/-- THE SECOND FORM's CARD OF 'waywardenlaw03.OctetReads'. -/
def octetReadsUptoCard : Claim7 := { stood := { row := octetReadsUptoRow, standIns := [], harness := (true, "156350e26c0c99ad417f20306f7ab7f48931e079ea60d5153c5bc966c026c307"), looks := false }, kinds := [], alts := [], laidByText := true, laidKinds := [.data], laidTests := true, laidLooks := .later }
def OctetReadsUptoCardSaid : Prop := Claim7.holds Tryd.pinned (.plain (OpenSpec.upto octetReadsSpec)) octetReadsUptoCard

/-- THE SECOND FORM's CARD OF 'waywardenlaw03.OctetHolds'. -/
def octetHoldsUptoCard : Claim7 := { stood := { row := octetHoldsUptoRow, standIns := [], harness := (true, "156350e26c0c99ad417f20306f7ab7f48931e079ea60d5153c5bc966c026c307"), looks := false }, kinds := [], alts := [], laidByText := true, laidKinds := [.data], laidTests := true, laidLooks := .later }
def OctetHoldsUptoCardSaid : Prop := Claim7.holds Tryd.pinned (.plain (OpenSpec.upto octetHoldsSpec)) octetHoldsUptoCard

/-- THE SECOND FORM's CARD OF 'waywardenlaw03.OctetEach'. -/
def octetEachUptoCard : Claim7 := { stood := { row := octetEachUptoRow, standIns := [], harness := (true, "156350e26c0c99ad417f20306f7ab7f48931e079ea60d5153c5bc966c026c307"), looks := false }, kinds := [], alts := [], laidByText := true, laidKinds := [.data], laidTests := true, laidLooks := .later }
def OctetEachUptoCardSaid : Prop := Claim7.holds Tryd.pinned (.plain (OpenSpec.upto octetEachSpec)) octetEachUptoCard

/-- THE SECOND FORM's CARD OF 'waywardenlaw03.OctetPlays'. -/
def octetPlaysUptoCard : Claim7 := { stood := { row := octetPlaysUptoRow, standIns := [], harness := (true, "156350e26c0c99ad417f20306f7ab7f48931e079ea60d5153c5bc966c026c307"), looks := false }, kinds := [], alts := [], laidByText := true, laidKinds := [.data], laidTests := true, laidLooks := .later }
def OctetPlaysUptoCardSaid : Prop := Claim7.holds Tryd.pinned (.plain (OpenSpec.upto octetPlaysSpec)) octetPlaysUptoCard
end Rows
end Go.Proofs.YtonjaoabehkecaaDoor
