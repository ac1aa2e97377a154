/-
  NARROWER THAN 'FOR EVERY INPUT', by the rows' own cells (each row's printed sentence says how): PacketDecodes: laid · PacketCuts: laid · PacketEncodes: laid · PacketEach: laid · PacketHolds: laid.
  DERIVED. THE GIVEN ROWS OF THIS SEAT. 5 by the template 'for every input the law returns true; each argument reads behind the call as it read before'; 0 by the template 'total and deterministic' (their statements: YtpadlillbofpnaaDoorTotals.lean).
  GIVEN WITH THE SEED: the statements are not yours to turn. If you find one false, say at which input.
  Laid BY PROGRAM, IN A SANDBOX (cutbox-rows.mjs): the forced cells as the released guide's own fill.sh prints them over the translation 63e4845908576546… (all of the seat's roots in one cut). By AI agents, Wed Nov 11 2026. No macro, syntax, notation, axiom, sorry.
-/
import Derived.Test.YtpadlillbofpnaaDoorChecked
import GoSem.Claim
import GoSem.ClaimJoined
import GoSem.ClaimMapViews
import Derived.JoinedTies
import Derived.KernelRfl
namespace Go.Proofs.YtpadlillbofpnaaDoor
/- THE CELL 'sum', in the pinned program and in every row, IS THE sha256 OF THE DUMP (.gsa) THAT YtpadlillbofpnaaDoorProg.lean LOADS. Nothing in Lean hashes anything: it is a label: what it is worth is what the hold of that sum in a sandbox is worth. -/
noncomputable def Tryd.pinned : Pinned := { name := "ytpadlillbofpnaadoor", sum := "63e4845908576546dcacd29e7bcbf0381241701ed351bcfa448cdc0d2f3c0615", checked := Tryd.checked }
namespace Rows
def none {H : Type} : Left H := { results := [], args := [] }

/- WHAT THE LISTED PACKAGE-LEVEL VARIABLES READ AS WHEN THE CALL BEGINS. Each datum BY PROGRAM (the guide's laid-datum.mjs) off the statement by which the dump's own 'gosem.cut.vars' lays the variable. In a bare row this is a premise. The card (YtpadlillbofpnaaDoorCards.lean) ties it to the program's text. -/
def laid_waywarden_octet_widths {H : Type} : DataW H := .agg [.lit (.int .i64 1), .lit (.int .i64 2), .lit (.int .i64 4)]

/-- 'waywardenlaw05.PacketDecodes': WHATEVER THE INPUT: true; the input reads as it did. -/
def packetDecodesSpec : ChangeSpec := { name := "packetDecodes", fn := fun _ => fun
  | [d] => { results := [.lit (.bool true)], args := [d] }
  | _ => none }
def packetDecodesRow : OpenClaim := { program := "ytpadlillbofpnaadoor", sum := "63e4845908576546dcacd29e7bcbf0381241701ed351bcfa448cdc0d2f3c0615", func := "waywarden/waywardenlaw05.PacketDecodes", spec := "packetDecodes", unfollowed := true, recurses := true, named := ["waywarden/octet.widths"], apart := false, laid := [("waywarden/octet.widths", laid_waywarden_octet_widths)] }
def PacketDecodesSaid : Prop := packetDecodesRow.holds Tryd.pinned (OpenSpec.ofChange packetDecodesSpec)

/-- ITS FALSE NEIGHBOUR: 'it returns false'. Refute it at one input. -/
def packetDecodesWrong : ChangeSpec := { name := "packetDecodes", fn := fun _ => fun
  | [d] => { results := [.lit (.bool false)], args := [d] }
  | _ => none }
def PacketDecodesWrongFalsely : Prop := packetDecodesRow.holds Tryd.pinned (OpenSpec.ofChange packetDecodesWrong)

/-- 'waywardenlaw05.PacketCuts': WHATEVER THE INPUT: true; the input reads as it did. -/
def packetCutsSpec : ChangeSpec := { name := "packetCuts", fn := fun _ => fun
  | [d1, d2] => { results := [.lit (.bool true)], args := [d1, d2] }
  | _ => none }
def packetCutsRow : OpenClaim := { program := "ytpadlillbofpnaadoor", sum := "63e4845908576546dcacd29e7bcbf0381241701ed351bcfa448cdc0d2f3c0615", func := "waywarden/waywardenlaw05.PacketCuts", spec := "packetCuts", unfollowed := true, recurses := true, named := ["waywarden/octet.widths"], apart := false, laid := [("waywarden/octet.widths", laid_waywarden_octet_widths)] }
def PacketCutsSaid : Prop := packetCutsRow.holds Tryd.pinned (OpenSpec.ofChange packetCutsSpec)

/-- ITS FALSE NEIGHBOUR: 'it returns false'. Refute it at one input. -/
def packetCutsWrong : ChangeSpec := { name := "packetCuts", fn := fun _ => fun
  | [d1, d2] => { results := [.lit (.bool false)], args := [d1, d2] }
  | _ => none }
def PacketCutsWrongFalsely : Prop := packetCutsRow.holds Tryd.pinned (OpenSpec.ofChange packetCutsWrong)

/-- 'waywardenlaw05.PacketEncodes': WHATEVER THE INPUT: true; the input reads as it did. -/
def packetEncodesSpec : ChangeSpec := { name := "packetEncodes", fn := fun _ => fun
  | [d] => { results := [.lit (.bool true)], args := [d] }
  | _ => none }
def packetEncodesRow : OpenClaim := { program := "ytpadlillbofpnaadoor", sum := "63e4845908576546dcacd29e7bcbf0381241701ed351bcfa448cdc0d2f3c0615", func := "waywarden/waywardenlaw05.PacketEncodes", spec := "packetEncodes", unfollowed := true, recurses := true, named := ["waywarden/octet.widths"], apart := false, laid := [("waywarden/octet.widths", laid_waywarden_octet_widths)] }
def PacketEncodesSaid : Prop := packetEncodesRow.holds Tryd.pinned (OpenSpec.ofChange packetEncodesSpec)

/-- ITS FALSE NEIGHBOUR: 'it returns false'. Refute it at one input. -/
def packetEncodesWrong : ChangeSpec := { name := "packetEncodes", fn := fun _ => fun
  | [d] => { results := [.lit (.bool false)], args := [d] }
  | _ => none }
def PacketEncodesWrongFalsely : Prop := packetEncodesRow.holds Tryd.pinned (OpenSpec.ofChange packetEncodesWrong)

/-- 'waywardenlaw05.PacketEach': WHATEVER THE INPUT: true; the input reads as it did. -/
def packetEachSpec : ChangeSpec := { name := "packetEach", fn := fun _ => fun
  | [d1, d2] => { results := [.lit (.bool true)], args := [d1, d2] }
  | _ => none }
def packetEachRow : OpenClaim := { program := "ytpadlillbofpnaadoor", sum := "63e4845908576546dcacd29e7bcbf0381241701ed351bcfa448cdc0d2f3c0615", func := "waywarden/waywardenlaw05.PacketEach", spec := "packetEach", unfollowed := true, recurses := true, named := ["waywarden/octet.widths"], apart := false, laid := [("waywarden/octet.widths", laid_waywarden_octet_widths)] }
def PacketEachSaid : Prop := packetEachRow.holds Tryd.pinned (OpenSpec.ofChange packetEachSpec)

/-- ITS FALSE NEIGHBOUR: 'it returns false'. Refute it at one input. -/
def packetEachWrong : ChangeSpec := { name := "packetEach", fn := fun _ => fun
  | [d1, d2] => { results := [.lit (.bool false)], args := [d1, d2] }
  | _ => none }
def PacketEachWrongFalsely : Prop := packetEachRow.holds Tryd.pinned (OpenSpec.ofChange packetEachWrong)

/-- 'waywardenlaw05.PacketHolds': WHATEVER THE INPUT: true; the input reads as it did. -/
def packetHoldsSpec : ChangeSpec := { name := "packetHolds", fn := fun _ => fun
  | [d1, d2, d3, d4] => { results := [.lit (.bool true)], args := [d1, d2, d3, d4] }
  | _ => none }
def packetHoldsRow : OpenClaim := { program := "ytpadlillbofpnaadoor", sum := "63e4845908576546dcacd29e7bcbf0381241701ed351bcfa448cdc0d2f3c0615", func := "waywarden/waywardenlaw05.PacketHolds", spec := "packetHolds", unfollowed := true, recurses := true, named := ["waywarden/octet.widths"], apart := false, laid := [("waywarden/octet.widths", laid_waywarden_octet_widths)] }
def PacketHoldsSaid : Prop := packetHoldsRow.holds Tryd.pinned (OpenSpec.ofChange packetHoldsSpec)

/-- ITS FALSE NEIGHBOUR: 'it returns false'. Refute it at one input. -/
def packetHoldsWrong : ChangeSpec := { name := "packetHolds", fn := fun _ => fun
  | [d1, d2, d3, d4] => { results := [.lit (.bool false)], args := [d1, d2, d3, d4] }
  | _ => none }
def PacketHoldsWrongFalsely : Prop := packetHoldsRow.holds Tryd.pinned (OpenSpec.ofChange packetHoldsWrong)

/- THE SECOND FORM. 'bulk': how many values and letters a reading holds, each counted each time it is reached (what is shared counts as often as it is met; a slice's spare places count too). A statement '..UptoSaid' is the law's where the arguments, and the package variables that the reading takes, are together of bulk at most 1048576: NARROWER than '..Said'. Prove '..Said' where nothing that the law and all that it calls make is longer than what came in: it says more and counts as full. Else prove '..UptoSaid'. A law counts once. -/
mutual
def uptoBulk {H : Type} : DataW H → Nat
  | .lit (.string bytes) => bytes.length + 1
  | .lit _ => 1
  | .nil => 1
  | .ptr d => uptoBulk d + 1
  | .slice elems spare => uptoBulkAll elems + uptoBulkAll spare + 1
  | .agg parts => uptoBulkAll parts + 1
  | .iface _ d => uptoBulk d + 1
  | .map entries => uptoBulkEntries entries + 1
  | .held _ => 1
def uptoBulkAll {H : Type} : List (DataW H) → Nat
  | [] => 0
  | d :: r => uptoBulk d + uptoBulkAll r
def uptoBulkEntries {H : Type} : List (Lit × DataW H) → Nat
  | [] => 0
  | x :: r => uptoBulkEntry x + uptoBulkEntries r
def uptoBulkEntry {H : Type} : Lit × DataW H → Nat
  | (.string bytes, d) => bytes.length + uptoBulk d + 1
  | (_, d) => uptoBulk d + 1
 end
def uptoSmall : (H : Type) → List (DataW H) → Bool := fun _ ds => decide (uptoBulkAll ds ≤ 1048576)
def OpenSpec.upto (s : _root_.Go.ChangeSpec) : _root_.Go.OpenSpec := { _root_.Go.OpenSpec.ofChange s with cond := some uptoSmall }

/-- 'waywardenlaw05.PacketDecodes', WHERE WHAT IT READS IS OF BULK AT MOST 1048576: true; the input reads as it did. -/
def packetDecodesUptoRow : OpenClaim := { program := "ytpadlillbofpnaadoor", sum := "63e4845908576546dcacd29e7bcbf0381241701ed351bcfa448cdc0d2f3c0615", func := "waywarden/waywardenlaw05.PacketDecodes", spec := "packetDecodes", unfollowed := true, recurses := true, named := ["waywarden/octet.widths"], apart := false, laid := [("waywarden/octet.widths", laid_waywarden_octet_widths)], narrowed := true }
def PacketDecodesUptoSaid : Prop := packetDecodesUptoRow.holds Tryd.pinned (OpenSpec.upto packetDecodesSpec)

/-- 'waywardenlaw05.PacketCuts', WHERE WHAT IT READS IS OF BULK AT MOST 1048576: true; the input reads as it did. -/
def packetCutsUptoRow : OpenClaim := { program := "ytpadlillbofpnaadoor", sum := "63e4845908576546dcacd29e7bcbf0381241701ed351bcfa448cdc0d2f3c0615", func := "waywarden/waywardenlaw05.PacketCuts", spec := "packetCuts", unfollowed := true, recurses := true, named := ["waywarden/octet.widths"], apart := false, laid := [("waywarden/octet.widths", laid_waywarden_octet_widths)], narrowed := true }
def PacketCutsUptoSaid : Prop := packetCutsUptoRow.holds Tryd.pinned (OpenSpec.upto packetCutsSpec)

/-- 'waywardenlaw05.PacketEncodes', WHERE WHAT IT READS IS OF BULK AT MOST 1048576: true; the input reads as it did. -/
def packetEncodesUptoRow : OpenClaim := { program := "ytpadlillbofpnaadoor", sum := "63e4845908576546dcacd29e7bcbf0381241701ed351bcfa448cdc0d2f3c0615", func := "waywarden/waywardenlaw05.PacketEncodes", spec := "packetEncodes", unfollowed := true, recurses := true, named := ["waywarden/octet.widths"], apart := false, laid := [("waywarden/octet.widths", laid_waywarden_octet_widths)], narrowed := true }
def PacketEncodesUptoSaid : Prop := packetEncodesUptoRow.holds Tryd.pinned (OpenSpec.upto packetEncodesSpec)

/-- 'waywardenlaw05.PacketEach', WHERE WHAT IT READS IS OF BULK AT MOST 1048576: true; the input reads as it did. -/
def packetEachUptoRow : OpenClaim := { program := "ytpadlillbofpnaadoor", sum := "63e4845908576546dcacd29e7bcbf0381241701ed351bcfa448cdc0d2f3c0615", func := "waywarden/waywardenlaw05.PacketEach", spec := "packetEach", unfollowed := true, recurses := true, named := ["waywarden/octet.widths"], apart := false, laid := [("waywarden/octet.widths", laid_waywarden_octet_widths)], narrowed := true }
def PacketEachUptoSaid : Prop := packetEachUptoRow.holds Tryd.pinned (OpenSpec.upto packetEachSpec)

/-- 'waywardenlaw05.PacketHolds', WHERE WHAT IT READS IS OF BULK AT MOST 1048576: true; the input reads as it did. -/
def packetHoldsUptoRow : OpenClaim := { program := "ytpadlillbofpnaadoor", sum := "63e4845908576546dcacd29e7bcbf0381241701ed351bcfa448cdc0d2f3c0615", func := "waywarden/waywardenlaw05.PacketHolds", spec := "packetHolds", unfollowed := true, recurses := true, named := ["waywarden/octet.widths"], apart := false, laid := [("waywarden/octet.widths", laid_waywarden_octet_widths)], narrowed := true }
def PacketHoldsUptoSaid : Prop := packetHoldsUptoRow.holds Tryd.pinned (OpenSpec.upto packetHoldsSpec)

end Rows
end Go.Proofs.YtpadlillbofpnaaDoor
