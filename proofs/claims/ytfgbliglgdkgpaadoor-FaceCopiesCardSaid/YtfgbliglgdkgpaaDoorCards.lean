/-
  DERIVED. GIVEN WITH THE SEED: THE CARDS: each row of YtfgbliglgdkgpaaDoorRows.lean that lists a variable, with what it lists TIED to the program's text (the seventh form; the later family's looks); each row that meets fmt, with fmt's text TOLD by the authors' own Lean function (tested against real Go, not proved from fmt's source: count such statements apart). THE CARD IS WHAT COUNTS. Prove the row's statement (the work); the ties are given (YtfgbliglgdkgpaaDoorTie.lean); close each card by the builder's one call (the guide's Derived/Test/ToyasCard.lean, 'card_holds'). Laid BY PROGRAM, IN A SANDBOX (cutbox-door.mjs). By AI agents, Wed Nov 11 2026. No macro, syntax, notation, axiom, sorry.
-/
import Derived.Test.YtfgbliglgdkgpaaDoorRows
import GoSem.ClaimSeven
namespace Go.Proofs.YtfgbliglgdkgpaaDoor
namespace Rows

/-- THE TIED CARD OF 'waywardenlaw09.FaceHolds'. -/
def faceHoldsCard : Claim7 := { stood := { row := faceHoldsRow, standIns := [], harness := (true, "f7ea221318dc9c3b6cbcf224845e056678551f53b33dff704378e224892620ed"), looks := true }, kinds := [], alts := [], laidByText := true, laidKinds := [.data], laidTests := true, laidLooks := .later }
def FaceHoldsCardSaid : Prop := Claim7.holds Tryd.pinned (.plain (OpenSpec.ofChange faceHoldsSpec)) faceHoldsCard

/-- THE TIED CARD OF 'waywardenlaw09.FaceNew'. -/
def faceNewCard : Claim7 := { stood := { row := faceNewRow, standIns := [], harness := (true, "f7ea221318dc9c3b6cbcf224845e056678551f53b33dff704378e224892620ed"), looks := true }, kinds := [], alts := [], laidByText := true, laidKinds := [.data], laidTests := true, laidLooks := .later }
def FaceNewCardSaid : Prop := Claim7.holds Tryd.pinned (.plain (OpenSpec.ofChange faceNewSpec)) faceNewCard

/-- THE TIED CARD OF 'waywardenlaw09.FaceUps'. -/
def faceUpsCard : Claim7 := { stood := { row := faceUpsRow, standIns := [], harness := (true, "f7ea221318dc9c3b6cbcf224845e056678551f53b33dff704378e224892620ed"), looks := true }, kinds := [], alts := [], laidByText := true, laidKinds := [.data], laidTests := true, laidLooks := .later }
def FaceUpsCardSaid : Prop := Claim7.holds Tryd.pinned (.plain (OpenSpec.ofChange faceUpsSpec)) faceUpsCard

/-- THE TIED CARD OF 'waywardenlaw09.FacePlays'. -/
def facePlaysCard : Claim7 := { stood := { row := facePlaysRow, standIns := [], harness := (true, "f7ea221318dc9c3b6cbcf224845e056678551f53b33dff704378e224892620ed"), looks := true }, kinds := [], alts := [], laidByText := true, laidKinds := [.data], laidTests := true, laidLooks := .later }
def FacePlaysCardSaid : Prop := Claim7.holds Tryd.pinned (.plain (OpenSpec.ofChange facePlaysSpec)) facePlaysCard

/-- THE TIED CARD OF 'waywardenlaw09.FaceCopies'. -/
def faceCopiesCard : Claim7 := { stood := { row := faceCopiesRow, standIns := [], harness := (true, "f7ea221318dc9c3b6cbcf224845e056678551f53b33dff704378e224892620ed"), looks := true }, kinds := [], alts := [], laidByText := true, laidKinds := [.data], laidTests := true, laidLooks := .later }
def FaceCopiesCardSaid : Prop := Claim7.holds Tryd.pinned (.plain (OpenSpec.ofChange faceCopiesSpec)) faceCopiesCard

/-- THE SECOND FORM's CARD OF 'waywardenlaw09.FaceHolds'. -/
def faceHoldsUptoCard : Claim7 := { stood := { row := faceHoldsUptoRow, standIns := [], harness := (true, "f7ea221318dc9c3b6cbcf224845e056678551f53b33dff704378e224892620ed"), looks := true }, kinds := [], alts := [], laidByText := true, laidKinds := [.data], laidTests := true, laidLooks := .later }
def FaceHoldsUptoCardSaid : Prop := Claim7.holds Tryd.pinned (.plain (OpenSpec.upto faceHoldsSpec)) faceHoldsUptoCard

/-- THE SECOND FORM's CARD OF 'waywardenlaw09.FaceNew'. -/
def faceNewUptoCard : Claim7 := { stood := { row := faceNewUptoRow, standIns := [], harness := (true, "f7ea221318dc9c3b6cbcf224845e056678551f53b33dff704378e224892620ed"), looks := true }, kinds := [], alts := [], laidByText := true, laidKinds := [.data], laidTests := true, laidLooks := .later }
def FaceNewUptoCardSaid : Prop := Claim7.holds Tryd.pinned (.plain (OpenSpec.upto faceNewSpec)) faceNewUptoCard

/-- THE SECOND FORM's CARD OF 'waywardenlaw09.FaceUps'. -/
def faceUpsUptoCard : Claim7 := { stood := { row := faceUpsUptoRow, standIns := [], harness := (true, "f7ea221318dc9c3b6cbcf224845e056678551f53b33dff704378e224892620ed"), looks := true }, kinds := [], alts := [], laidByText := true, laidKinds := [.data], laidTests := true, laidLooks := .later }
def FaceUpsUptoCardSaid : Prop := Claim7.holds Tryd.pinned (.plain (OpenSpec.upto faceUpsSpec)) faceUpsUptoCard

/-- THE SECOND FORM's CARD OF 'waywardenlaw09.FacePlays'. -/
def facePlaysUptoCard : Claim7 := { stood := { row := facePlaysUptoRow, standIns := [], harness := (true, "f7ea221318dc9c3b6cbcf224845e056678551f53b33dff704378e224892620ed"), looks := true }, kinds := [], alts := [], laidByText := true, laidKinds := [.data], laidTests := true, laidLooks := .later }
def FacePlaysUptoCardSaid : Prop := Claim7.holds Tryd.pinned (.plain (OpenSpec.upto facePlaysSpec)) facePlaysUptoCard

/-- THE SECOND FORM's CARD OF 'waywardenlaw09.FaceCopies'. -/
def faceCopiesUptoCard : Claim7 := { stood := { row := faceCopiesUptoRow, standIns := [], harness := (true, "f7ea221318dc9c3b6cbcf224845e056678551f53b33dff704378e224892620ed"), looks := true }, kinds := [], alts := [], laidByText := true, laidKinds := [.data], laidTests := true, laidLooks := .later }
def FaceCopiesUptoCardSaid : Prop := Claim7.holds Tryd.pinned (.plain (OpenSpec.upto faceCopiesSpec)) faceCopiesUptoCard
end Rows
end Go.Proofs.YtfgbliglgdkgpaaDoor
