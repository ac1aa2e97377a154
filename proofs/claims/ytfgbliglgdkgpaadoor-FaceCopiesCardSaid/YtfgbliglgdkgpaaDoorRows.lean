/-
  NARROWER THAN 'FOR EVERY INPUT', by the rows' own cells (each row's printed sentence says how): FaceHolds: laid · FaceNew: laid · FaceUps: laid · FacePlays: laid · FaceCopies: laid.
  DERIVED. THE GIVEN ROWS OF THIS SEAT. 5 by the template 'for every input the law returns true; each argument reads behind the call as it read before'; 0 by the template 'total and deterministic' (their statements: YtfgbliglgdkgpaaDoorTotals.lean).
  GIVEN WITH THE SEED: the statements are not yours to turn. If you find one false, say at which input.
  Laid BY PROGRAM, IN A SANDBOX (cutbox-rows.mjs): the forced cells as the released guide's own fill.sh prints them over the translation f4380576787c0f39… (all of the seat's roots in one cut). By AI agents, Wed Nov 11 2026. No macro, syntax, notation, axiom, sorry.
-/
import Derived.Test.YtfgbliglgdkgpaaDoorChecked
import GoSem.Claim
import GoSem.ClaimJoined
import GoSem.ClaimMapViews
import Derived.JoinedTies
import Derived.KernelRfl
namespace Go.Proofs.YtfgbliglgdkgpaaDoor
/- THE CELL 'sum', in the pinned program and in every row, IS THE sha256 OF THE DUMP (.gsa) THAT YtfgbliglgdkgpaaDoorProg.lean LOADS. Nothing in Lean hashes anything: it is a label: what it is worth is what the hold of that sum in a sandbox is worth. -/
noncomputable def Tryd.pinned : Pinned := { name := "ytfgbliglgdkgpaadoor", sum := "f4380576787c0f390287053c387790e62ab43f277357a1caddeaa1bd8b7a5568", checked := Tryd.checked }
namespace Rows
def none {H : Type} : Left H := { results := [], args := [] }

/- WHAT THE LISTED PACKAGE-LEVEL VARIABLES READ AS WHEN THE CALL BEGINS. Each datum BY PROGRAM (the guide's laid-datum.mjs) off the statement by which the dump's own 'gosem.cut.vars' lays the variable. In a bare row this is a premise. The card (YtfgbliglgdkgpaaDoorCards.lean) ties it to the program's text. -/
def laid_waywarden_prefix_rels {H : Type} : DataW H := .agg [.agg [.lit (.int .i64 4), .lit (.int .i64 2)], .agg [.lit (.int .i64 3), .lit (.int .i64 1)]]

/-- 'waywardenlaw09.FaceHolds': WHATEVER THE INPUT: true; the input reads as it did. -/
def faceHoldsSpec : ChangeSpec := { name := "faceHolds", fn := fun _ => fun
  | [d1, d2] => { results := [.lit (.bool true)], args := [d1, d2] }
  | _ => none }
def faceHoldsRow : OpenClaim := { program := "ytfgbliglgdkgpaadoor", sum := "f4380576787c0f390287053c387790e62ab43f277357a1caddeaa1bd8b7a5568", func := "waywarden/waywardenlaw09.FaceHolds", spec := "faceHolds", unfollowed := true, recurses := true, named := ["waywarden/prefix.rels"], apart := false, laid := [("waywarden/prefix.rels", laid_waywarden_prefix_rels)] }
def FaceHoldsSaid : Prop := faceHoldsRow.holds Tryd.pinned (OpenSpec.ofChange faceHoldsSpec)

/-- ITS FALSE NEIGHBOUR: 'it returns false'. Refute it at one input. -/
def faceHoldsWrong : ChangeSpec := { name := "faceHolds", fn := fun _ => fun
  | [d1, d2] => { results := [.lit (.bool false)], args := [d1, d2] }
  | _ => none }
def FaceHoldsWrongFalsely : Prop := faceHoldsRow.holds Tryd.pinned (OpenSpec.ofChange faceHoldsWrong)

/-- 'waywardenlaw09.FaceNew': WHATEVER THE INPUT: true; the input reads as it did. -/
def faceNewSpec : ChangeSpec := { name := "faceNew", fn := fun _ => fun
  | [d] => { results := [.lit (.bool true)], args := [d] }
  | _ => none }
def faceNewRow : OpenClaim := { program := "ytfgbliglgdkgpaadoor", sum := "f4380576787c0f390287053c387790e62ab43f277357a1caddeaa1bd8b7a5568", func := "waywarden/waywardenlaw09.FaceNew", spec := "faceNew", unfollowed := true, recurses := true, named := ["waywarden/prefix.rels"], apart := false, laid := [("waywarden/prefix.rels", laid_waywarden_prefix_rels)] }
def FaceNewSaid : Prop := faceNewRow.holds Tryd.pinned (OpenSpec.ofChange faceNewSpec)

/-- ITS FALSE NEIGHBOUR: 'it returns false'. Refute it at one input. -/
def faceNewWrong : ChangeSpec := { name := "faceNew", fn := fun _ => fun
  | [d] => { results := [.lit (.bool false)], args := [d] }
  | _ => none }
def FaceNewWrongFalsely : Prop := faceNewRow.holds Tryd.pinned (OpenSpec.ofChange faceNewWrong)

/-- 'waywardenlaw09.FaceUps': WHATEVER THE INPUT: true; the input reads as it did. -/
def faceUpsSpec : ChangeSpec := { name := "faceUps", fn := fun _ => fun
  | [d1, d2, d3] => { results := [.lit (.bool true)], args := [d1, d2, d3] }
  | _ => none }
def faceUpsRow : OpenClaim := { program := "ytfgbliglgdkgpaadoor", sum := "f4380576787c0f390287053c387790e62ab43f277357a1caddeaa1bd8b7a5568", func := "waywarden/waywardenlaw09.FaceUps", spec := "faceUps", unfollowed := true, recurses := true, named := ["waywarden/prefix.rels"], apart := false, laid := [("waywarden/prefix.rels", laid_waywarden_prefix_rels)] }
def FaceUpsSaid : Prop := faceUpsRow.holds Tryd.pinned (OpenSpec.ofChange faceUpsSpec)

/-- ITS FALSE NEIGHBOUR: 'it returns false'. Refute it at one input. -/
def faceUpsWrong : ChangeSpec := { name := "faceUps", fn := fun _ => fun
  | [d1, d2, d3] => { results := [.lit (.bool false)], args := [d1, d2, d3] }
  | _ => none }
def FaceUpsWrongFalsely : Prop := faceUpsRow.holds Tryd.pinned (OpenSpec.ofChange faceUpsWrong)

/-- 'waywardenlaw09.FacePlays': WHATEVER THE INPUT: true; the input reads as it did. -/
def facePlaysSpec : ChangeSpec := { name := "facePlays", fn := fun _ => fun
  | [d1, d2, d3] => { results := [.lit (.bool true)], args := [d1, d2, d3] }
  | _ => none }
def facePlaysRow : OpenClaim := { program := "ytfgbliglgdkgpaadoor", sum := "f4380576787c0f390287053c387790e62ab43f277357a1caddeaa1bd8b7a5568", func := "waywarden/waywardenlaw09.FacePlays", spec := "facePlays", unfollowed := true, recurses := true, named := ["waywarden/prefix.rels"], apart := false, laid := [("waywarden/prefix.rels", laid_waywarden_prefix_rels)] }
def FacePlaysSaid : Prop := facePlaysRow.holds Tryd.pinned (OpenSpec.ofChange facePlaysSpec)

/-- ITS FALSE NEIGHBOUR: 'it returns false'. Refute it at one input. -/
def facePlaysWrong : ChangeSpec := { name := "facePlays", fn := fun _ => fun
  | [d1, d2, d3] => { results := [.lit (.bool false)], args := [d1, d2, d3] }
  | _ => none }
def FacePlaysWrongFalsely : Prop := facePlaysRow.holds Tryd.pinned (OpenSpec.ofChange facePlaysWrong)

/-- 'waywardenlaw09.FaceCopies': WHATEVER THE INPUT: true; the input reads as it did. -/
def faceCopiesSpec : ChangeSpec := { name := "faceCopies", fn := fun _ => fun
  | [d1, d2, d3, d4] => { results := [.lit (.bool true)], args := [d1, d2, d3, d4] }
  | _ => none }
def faceCopiesRow : OpenClaim := { program := "ytfgbliglgdkgpaadoor", sum := "f4380576787c0f390287053c387790e62ab43f277357a1caddeaa1bd8b7a5568", func := "waywarden/waywardenlaw09.FaceCopies", spec := "faceCopies", unfollowed := true, recurses := true, named := ["waywarden/prefix.rels"], apart := false, laid := [("waywarden/prefix.rels", laid_waywarden_prefix_rels)] }
def FaceCopiesSaid : Prop := faceCopiesRow.holds Tryd.pinned (OpenSpec.ofChange faceCopiesSpec)

/-- ITS FALSE NEIGHBOUR: 'it returns false'. Refute it at one input. -/
def faceCopiesWrong : ChangeSpec := { name := "faceCopies", fn := fun _ => fun
  | [d1, d2, d3, d4] => { results := [.lit (.bool false)], args := [d1, d2, d3, d4] }
  | _ => none }
def FaceCopiesWrongFalsely : Prop := faceCopiesRow.holds Tryd.pinned (OpenSpec.ofChange faceCopiesWrong)

/- THE SECOND FORM. 'bulk': how many values and letters a reading holds, each counted each time it is reached (what is shared counts as often as it is met; a slice's spare places count too). A statement '..UptoSaid' is the law's where the arguments, and the package variables that the reading takes, are together of bulk at most 1048576: NARROWER than '..Said'. Prove '..Said' where nothing that the law and all that it calls make is longer than what came in: it says more and counts as full. Else prove '..UptoSaid'. A law counts once. -/
mutual
def uptoBulk {H : Type} : DataW H → Nat
  | .lit (.string bytes) => bytes.length + 1
  | .lit _ => 1
  | .nil => 1
  | .ptr d => uptoBulk d + 1
  | .slice elems spare => uptoBulkAll elems + uptoBulkAll spare + 1
  | .agg parts => uptoBulkAll parts + 1
  | .iface _ d => uptoBulk d + 1
  | .map entries => uptoBulkEntries entries + 1
  | .held _ => 1
def uptoBulkAll {H : Type} : List (DataW H) → Nat
  | [] => 0
  | d :: r => uptoBulk d + uptoBulkAll r
def uptoBulkEntries {H : Type} : List (Lit × DataW H) → Nat
  | [] => 0
  | x :: r => uptoBulkEntry x + uptoBulkEntries r
def uptoBulkEntry {H : Type} : Lit × DataW H → Nat
  | (.string bytes, d) => bytes.length + uptoBulk d + 1
  | (_, d) => uptoBulk d + 1
 end
def uptoSmall : (H : Type) → List (DataW H) → Bool := fun _ ds => decide (uptoBulkAll ds ≤ 1048576)
def OpenSpec.upto (s : _root_.Go.ChangeSpec) : _root_.Go.OpenSpec := { _root_.Go.OpenSpec.ofChange s with cond := some uptoSmall }

/-- 'waywardenlaw09.FaceHolds', WHERE WHAT IT READS IS OF BULK AT MOST 1048576: true; the input reads as it did. -/
def faceHoldsUptoRow : OpenClaim := { program := "ytfgbliglgdkgpaadoor", sum := "f4380576787c0f390287053c387790e62ab43f277357a1caddeaa1bd8b7a5568", func := "waywarden/waywardenlaw09.FaceHolds", spec := "faceHolds", unfollowed := true, recurses := true, named := ["waywarden/prefix.rels"], apart := false, laid := [("waywarden/prefix.rels", laid_waywarden_prefix_rels)], narrowed := true }
def FaceHoldsUptoSaid : Prop := faceHoldsUptoRow.holds Tryd.pinned (OpenSpec.upto faceHoldsSpec)

/-- 'waywardenlaw09.FaceNew', WHERE WHAT IT READS IS OF BULK AT MOST 1048576: true; the input reads as it did. -/
def faceNewUptoRow : OpenClaim := { program := "ytfgbliglgdkgpaadoor", sum := "f4380576787c0f390287053c387790e62ab43f277357a1caddeaa1bd8b7a5568", func := "waywarden/waywardenlaw09.FaceNew", spec := "faceNew", unfollowed := true, recurses := true, named := ["waywarden/prefix.rels"], apart := false, laid := [("waywarden/prefix.rels", laid_waywarden_prefix_rels)], narrowed := true }
def FaceNewUptoSaid : Prop := faceNewUptoRow.holds Tryd.pinned (OpenSpec.upto faceNewSpec)

/-- 'waywardenlaw09.FaceUps', WHERE WHAT IT READS IS OF BULK AT MOST 1048576: true; the input reads as it did. -/
def faceUpsUptoRow : OpenClaim := { program := "ytfgbliglgdkgpaadoor", sum := "f4380576787c0f390287053c387790e62ab43f277357a1caddeaa1bd8b7a5568", func := "waywarden/waywardenlaw09.FaceUps", spec := "faceUps", unfollowed := true, recurses := true, named := ["waywarden/prefix.rels"], apart := false, laid := [("waywarden/prefix.rels", laid_waywarden_prefix_rels)], narrowed := true }
def FaceUpsUptoSaid : Prop := faceUpsUptoRow.holds Tryd.pinned (OpenSpec.upto faceUpsSpec)

/-- 'waywardenlaw09.FacePlays', WHERE WHAT IT READS IS OF BULK AT MOST 1048576: true; the input reads as it did. -/
def facePlaysUptoRow : OpenClaim := { program := "ytfgbliglgdkgpaadoor", sum := "f4380576787c0f390287053c387790e62ab43f277357a1caddeaa1bd8b7a5568", func := "waywarden/waywardenlaw09.FacePlays", spec := "facePlays", unfollowed := true, recurses := true, named := ["waywarden/prefix.rels"], apart := false, laid := [("waywarden/prefix.rels", laid_waywarden_prefix_rels)], narrowed := true }
def FacePlaysUptoSaid : Prop := facePlaysUptoRow.holds Tryd.pinned (OpenSpec.upto facePlaysSpec)

/-- 'waywardenlaw09.FaceCopies', WHERE WHAT IT READS IS OF BULK AT MOST 1048576: true; the input reads as it did. -/
def faceCopiesUptoRow : OpenClaim := { program := "ytfgbliglgdkgpaadoor", sum := "f4380576787c0f390287053c387790e62ab43f277357a1caddeaa1bd8b7a5568", func := "waywarden/waywardenlaw09.FaceCopies", spec := "faceCopies", unfollowed := true, recurses := true, named := ["waywarden/prefix.rels"], apart := false, laid := [("waywarden/prefix.rels", laid_waywarden_prefix_rels)], narrowed := true }
def FaceCopiesUptoSaid : Prop := faceCopiesUptoRow.holds Tryd.pinned (OpenSpec.upto faceCopiesSpec)

end Rows
end Go.Proofs.YtfgbliglgdkgpaaDoor
