/-
  DERIVED. GIVEN WITH THE SEED: THE CARDS: each row of YtlanfceilajifaaGreatDoorRows.lean that lists a variable, with what it lists TIED to the program's text (the seventh form; the later family's looks); each row that meets fmt, with fmt's text TOLD by the authors' own Lean function (tested against real Go, not proved from fmt's source: count such statements apart). THE CARD IS WHAT COUNTS. Prove the row's statement (the work); the ties are given (YtlanfceilajifaaGreatDoorTie.lean); close each card by the builder's one call (the guide's Derived/Test/ToyasCard.lean, 'card_holds'). Laid BY PROGRAM, IN A SANDBOX (cutbox-door.mjs). By AI agents, Wed Nov 11 2026. No macro, syntax, notation, axiom, sorry.
-/
import Derived.Test.YtlanfceilajifaaGreatDoorRows
import GoSem.ClaimSeven
namespace Go.Proofs.YtlanfceilajifaaGreatDoor
namespace Rows

/-- THE TIED CARD OF 'waywardenlaw16.GuardLooks'. -/
def guardLooksCard : Claim7 := { stood := { row := guardLooksRow, standIns := [], harness := (true, "db092ba1830cb18eb42fdec95ce626d24e309e2c6339580aa7b0d10a6b871f46"), looks := true }, kinds := [], alts := [], laidByText := true, laidKinds := [.data, .data], laidTests := true, laidLooks := .later }
def GuardLooksCardSaid : Prop := Claim7.holds Tryz.pinned (.plain (OpenSpec.ofChange guardLooksSpec)) guardLooksCard

/-- THE TIED CARD OF 'waywardenlaw16.GuardTells'. -/
def guardTellsCard : Claim7 := { stood := { row := guardTellsRow, standIns := [], harness := (true, "db092ba1830cb18eb42fdec95ce626d24e309e2c6339580aa7b0d10a6b871f46"), looks := true }, kinds := [], alts := [], laidByText := true, laidKinds := [.data, .data], laidTests := true, laidLooks := .later }
def GuardTellsCardSaid : Prop := Claim7.holds Tryz.pinned (.plain (OpenSpec.ofChange guardTellsSpec)) guardTellsCard

/-- THE TIED CARD OF 'waywardenlaw16.GuardHolds'. -/
def guardHoldsCard : Claim7 := { stood := { row := guardHoldsRow, standIns := [], harness := (true, "db092ba1830cb18eb42fdec95ce626d24e309e2c6339580aa7b0d10a6b871f46"), looks := true }, kinds := [], alts := [], laidByText := true, laidKinds := [.data, .data], laidTests := true, laidLooks := .later }
def GuardHoldsCardSaid : Prop := Claim7.holds Tryz.pinned (.plain (OpenSpec.ofChange guardHoldsSpec)) guardHoldsCard

/-- THE TIED CARD OF 'waywardenlaw16.GuardCounts'. -/
def guardCountsCard : Claim7 := { stood := { row := guardCountsRow, standIns := [], harness := (true, "db092ba1830cb18eb42fdec95ce626d24e309e2c6339580aa7b0d10a6b871f46"), looks := true }, kinds := [], alts := [], laidByText := true, laidKinds := [.data, .data], laidTests := true, laidLooks := .later }
def GuardCountsCardSaid : Prop := Claim7.holds Tryz.pinned (.plain (OpenSpec.ofChange guardCountsSpec)) guardCountsCard

/-- THE TIED CARD OF 'waywardenlaw16.GuardCopies'. -/
def guardCopiesCard : Claim7 := { stood := { row := guardCopiesRow, standIns := [], harness := (true, "db092ba1830cb18eb42fdec95ce626d24e309e2c6339580aa7b0d10a6b871f46"), looks := true }, kinds := [], alts := [], laidByText := true, laidKinds := [.data, .data], laidTests := true, laidLooks := .later }
def GuardCopiesCardSaid : Prop := Claim7.holds Tryz.pinned (.plain (OpenSpec.ofChange guardCopiesSpec)) guardCopiesCard

/-- THE SECOND FORM's CARD OF 'waywardenlaw16.GuardLooks'. -/
def guardLooksUptoCard : Claim7 := { stood := { row := guardLooksUptoRow, standIns := [], harness := (true, "db092ba1830cb18eb42fdec95ce626d24e309e2c6339580aa7b0d10a6b871f46"), looks := true }, kinds := [], alts := [], laidByText := true, laidKinds := [.data, .data], laidTests := true, laidLooks := .later }
def GuardLooksUptoCardSaid : Prop := Claim7.holds Tryz.pinned (.plain (OpenSpec.upto guardLooksSpec)) guardLooksUptoCard

/-- THE SECOND FORM's CARD OF 'waywardenlaw16.GuardTells'. -/
def guardTellsUptoCard : Claim7 := { stood := { row := guardTellsUptoRow, standIns := [], harness := (true, "db092ba1830cb18eb42fdec95ce626d24e309e2c6339580aa7b0d10a6b871f46"), looks := true }, kinds := [], alts := [], laidByText := true, laidKinds := [.data, .data], laidTests := true, laidLooks := .later }
def GuardTellsUptoCardSaid : Prop := Claim7.holds Tryz.pinned (.plain (OpenSpec.upto guardTellsSpec)) guardTellsUptoCard

/-- THE SECOND FORM's CARD OF 'waywardenlaw16.GuardHolds'. -/
def guardHoldsUptoCard : Claim7 := { stood := { row := guardHoldsUptoRow, standIns := [], harness := (true, "db092ba1830cb18eb42fdec95ce626d24e309e2c6339580aa7b0d10a6b871f46"), looks := true }, kinds := [], alts := [], laidByText := true, laidKinds := [.data, .data], laidTests := true, laidLooks := .later }
def GuardHoldsUptoCardSaid : Prop := Claim7.holds Tryz.pinned (.plain (OpenSpec.upto guardHoldsSpec)) guardHoldsUptoCard

/-- THE SECOND FORM's CARD OF 'waywardenlaw16.GuardCounts'. -/
def guardCountsUptoCard : Claim7 := { stood := { row := guardCountsUptoRow, standIns := [], harness := (true, "db092ba1830cb18eb42fdec95ce626d24e309e2c6339580aa7b0d10a6b871f46"), looks := true }, kinds := [], alts := [], laidByText := true, laidKinds := [.data, .data], laidTests := true, laidLooks := .later }
def GuardCountsUptoCardSaid : Prop := Claim7.holds Tryz.pinned (.plain (OpenSpec.upto guardCountsSpec)) guardCountsUptoCard

/-- THE SECOND FORM's CARD OF 'waywardenlaw16.GuardCopies'. -/
def guardCopiesUptoCard : Claim7 := { stood := { row := guardCopiesUptoRow, standIns := [], harness := (true, "db092ba1830cb18eb42fdec95ce626d24e309e2c6339580aa7b0d10a6b871f46"), looks := true }, kinds := [], alts := [], laidByText := true, laidKinds := [.data, .data], laidTests := true, laidLooks := .later }
def GuardCopiesUptoCardSaid : Prop := Claim7.holds Tryz.pinned (.plain (OpenSpec.upto guardCopiesSpec)) guardCopiesUptoCard
end Rows
end Go.Proofs.YtlanfceilajifaaGreatDoor
