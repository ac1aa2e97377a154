/-
  DERIVED. GIVEN WITH THE SEED: THE CARDS: each row of YtpadlillbofpnaaDoorRows.lean that lists a variable, with what it lists TIED to the program's text (the seventh form; the later family's looks); each row that meets fmt, with fmt's text TOLD by the authors' own Lean function (tested against real Go, not proved from fmt's source: count such statements apart). THE CARD IS WHAT COUNTS. Prove the row's statement (the work); the ties are given (YtpadlillbofpnaaDoorTie.lean); close each card by the builder's one call (the guide's Derived/Test/ToyasCard.lean, 'card_holds'). Laid BY PROGRAM, IN A SANDBOX (cutbox-door.mjs). By AI agents, Wed Nov 11 2026. No macro, syntax, notation, axiom, sorry.
-/
import Derived.Test.YtpadlillbofpnaaDoorRows
import GoSem.ClaimSeven
namespace Go.Proofs.YtpadlillbofpnaaDoor
namespace Rows

/-- THE TIED CARD OF 'waywardenlaw05.PacketDecodes'. -/
def packetDecodesCard : Claim7 := { stood := { row := packetDecodesRow, standIns := [], harness := (true, "15efee5c0ecfb6f3ee6ebfe5d28ba34b223790c61bb58bc0b8341a12c6d9c2ab"), looks := true }, kinds := [], alts := [], laidByText := true, laidKinds := [.data], laidTests := true, laidLooks := .later }
def PacketDecodesCardSaid : Prop := Claim7.holds Tryd.pinned (.plain (OpenSpec.ofChange packetDecodesSpec)) packetDecodesCard

/-- THE TIED CARD OF 'waywardenlaw05.PacketCuts'. -/
def packetCutsCard : Claim7 := { stood := { row := packetCutsRow, standIns := [], harness := (true, "15efee5c0ecfb6f3ee6ebfe5d28ba34b223790c61bb58bc0b8341a12c6d9c2ab"), looks := true }, kinds := [], alts := [], laidByText := true, laidKinds := [.data], laidTests := true, laidLooks := .later }
def PacketCutsCardSaid : Prop := Claim7.holds Tryd.pinned (.plain (OpenSpec.ofChange packetCutsSpec)) packetCutsCard

/-- THE TIED CARD OF 'waywardenlaw05.PacketEncodes'. -/
def packetEncodesCard : Claim7 := { stood := { row := packetEncodesRow, standIns := [], harness := (true, "15efee5c0ecfb6f3ee6ebfe5d28ba34b223790c61bb58bc0b8341a12c6d9c2ab"), looks := true }, kinds := [], alts := [], laidByText := true, laidKinds := [.data], laidTests := true, laidLooks := .later }
def PacketEncodesCardSaid : Prop := Claim7.holds Tryd.pinned (.plain (OpenSpec.ofChange packetEncodesSpec)) packetEncodesCard

/-- THE TIED CARD OF 'waywardenlaw05.PacketEach'. -/
def packetEachCard : Claim7 := { stood := { row := packetEachRow, standIns := [], harness := (true, "15efee5c0ecfb6f3ee6ebfe5d28ba34b223790c61bb58bc0b8341a12c6d9c2ab"), looks := true }, kinds := [], alts := [], laidByText := true, laidKinds := [.data], laidTests := true, laidLooks := .later }
def PacketEachCardSaid : Prop := Claim7.holds Tryd.pinned (.plain (OpenSpec.ofChange packetEachSpec)) packetEachCard

/-- THE TIED CARD OF 'waywardenlaw05.PacketHolds'. -/
def packetHoldsCard : Claim7 := { stood := { row := packetHoldsRow, standIns := [], harness := (true, "15efee5c0ecfb6f3ee6ebfe5d28ba34b223790c61bb58bc0b8341a12c6d9c2ab"), looks := true }, kinds := [], alts := [], laidByText := true, laidKinds := [.data], laidTests := true, laidLooks := .later }
def PacketHoldsCardSaid : Prop := Claim7.holds Tryd.pinned (.plain (OpenSpec.ofChange packetHoldsSpec)) packetHoldsCard

/-- THE SECOND FORM's CARD OF 'waywardenlaw05.PacketDecodes'. -/
def packetDecodesUptoCard : Claim7 := { stood := { row := packetDecodesUptoRow, standIns := [], harness := (true, "15efee5c0ecfb6f3ee6ebfe5d28ba34b223790c61bb58bc0b8341a12c6d9c2ab"), looks := true }, kinds := [], alts := [], laidByText := true, laidKinds := [.data], laidTests := true, laidLooks := .later }
def PacketDecodesUptoCardSaid : Prop := Claim7.holds Tryd.pinned (.plain (OpenSpec.upto packetDecodesSpec)) packetDecodesUptoCard

/-- THE SECOND FORM's CARD OF 'waywardenlaw05.PacketCuts'. -/
def packetCutsUptoCard : Claim7 := { stood := { row := packetCutsUptoRow, standIns := [], harness := (true, "15efee5c0ecfb6f3ee6ebfe5d28ba34b223790c61bb58bc0b8341a12c6d9c2ab"), looks := true }, kinds := [], alts := [], laidByText := true, laidKinds := [.data], laidTests := true, laidLooks := .later }
def PacketCutsUptoCardSaid : Prop := Claim7.holds Tryd.pinned (.plain (OpenSpec.upto packetCutsSpec)) packetCutsUptoCard

/-- THE SECOND FORM's CARD OF 'waywardenlaw05.PacketEncodes'. -/
def packetEncodesUptoCard : Claim7 := { stood := { row := packetEncodesUptoRow, standIns := [], harness := (true, "15efee5c0ecfb6f3ee6ebfe5d28ba34b223790c61bb58bc0b8341a12c6d9c2ab"), looks := true }, kinds := [], alts := [], laidByText := true, laidKinds := [.data], laidTests := true, laidLooks := .later }
def PacketEncodesUptoCardSaid : Prop := Claim7.holds Tryd.pinned (.plain (OpenSpec.upto packetEncodesSpec)) packetEncodesUptoCard

/-- THE SECOND FORM's CARD OF 'waywardenlaw05.PacketEach'. -/
def packetEachUptoCard : Claim7 := { stood := { row := packetEachUptoRow, standIns := [], harness := (true, "15efee5c0ecfb6f3ee6ebfe5d28ba34b223790c61bb58bc0b8341a12c6d9c2ab"), looks := true }, kinds := [], alts := [], laidByText := true, laidKinds := [.data], laidTests := true, laidLooks := .later }
def PacketEachUptoCardSaid : Prop := Claim7.holds Tryd.pinned (.plain (OpenSpec.upto packetEachSpec)) packetEachUptoCard

/-- THE SECOND FORM's CARD OF 'waywardenlaw05.PacketHolds'. -/
def packetHoldsUptoCard : Claim7 := { stood := { row := packetHoldsUptoRow, standIns := [], harness := (true, "15efee5c0ecfb6f3ee6ebfe5d28ba34b223790c61bb58bc0b8341a12c6d9c2ab"), looks := true }, kinds := [], alts := [], laidByText := true, laidKinds := [.data], laidTests := true, laidLooks := .later }
def PacketHoldsUptoCardSaid : Prop := Claim7.holds Tryd.pinned (.plain (OpenSpec.upto packetHoldsSpec)) packetHoldsUptoCard
end Rows
end Go.Proofs.YtpadlillbofpnaaDoor
