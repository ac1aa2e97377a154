/-
  NARROWER THAN 'FOR EVERY INPUT', by the rows' own cells (each row's printed sentence says how): OctetPuts: laid · OctetReads: laid · OctetHolds: laid · OctetEach: laid · OctetPlays: laid.
  DERIVED. THE GIVEN ROWS OF THIS SEAT. 5 by the template 'for every input the law returns true; each argument reads behind the call as it read before'; 0 by the template 'total and deterministic' (their statements: YtonjaoabehkecaaDoorTotals.lean).
  GIVEN WITH THE SEED: the statements are not yours to turn. If you find one false, say at which input.
  Laid BY PROGRAM, IN A SANDBOX (cutbox-rows.mjs): the forced cells as the released guide's own fill.sh prints them over the translation ef252994cfdb61aa… (all of the seat's roots in one cut). By AI agents, Wed Nov 11 2026. No macro, syntax, notation, axiom, sorry.
-/
import Derived.Test.YtonjaoabehkecaaDoorChecked
import GoSem.Claim
import GoSem.ClaimJoined
import GoSem.ClaimMapViews
import Derived.JoinedTies
import Derived.KernelRfl
namespace Go.Proofs.YtonjaoabehkecaaDoor
/- THE CELL 'sum', in the pinned program and in every row, IS THE sha256 OF THE DUMP (.gsa) THAT YtonjaoabehkecaaDoorProg.lean LOADS. Nothing in Lean hashes anything: it is a label: what it is worth is what the hold of that sum in a sandbox is worth. -/
noncomputable def Tryd.pinned : Pinned := { name := "ytonjaoabehkecaadoor", sum := "ef252994cfdb61aaa972d1ad0ffe579b0db66ef7e599d42fff323b139f3e828e", checked := Tryd.checked }
namespace Rows
def none {H : Type} : Left H := { results := [], args := [] }

/- WHAT THE LISTED PACKAGE-LEVEL VARIABLES READ AS WHEN THE CALL BEGINS. Each datum BY PROGRAM (the guide's laid-datum.mjs) off the statement by which the dump's own 'gosem.cut.vars' lays the variable. In a bare row this is a premise. The card (YtonjaoabehkecaaDoorCards.lean) ties it to the program's text. -/
def laid_waywarden_octet_widths {H : Type} : DataW H := .agg [.lit (.int .i64 1), .lit (.int .i64 2), .lit (.int .i64 4)]

/-- 'waywardenlaw03.OctetPuts': WHATEVER THE INPUT: true; the input reads as it did. -/
def octetPutsSpec : ChangeSpec := { name := "octetPuts", fn := fun _ => fun
  | [d1, d2, d3, d4] => { results := [.lit (.bool true)], args := [d1, d2, d3, d4] }
  | _ => none }
def octetPutsRow : OpenClaim := { program := "ytonjaoabehkecaadoor", sum := "ef252994cfdb61aaa972d1ad0ffe579b0db66ef7e599d42fff323b139f3e828e", func := "waywarden/waywardenlaw03.OctetPuts", spec := "octetPuts", named := ["waywarden/octet.widths"], apart := false, laid := [("waywarden/octet.widths", laid_waywarden_octet_widths)] }
def OctetPutsSaid : Prop := octetPutsRow.holds Tryd.pinned (OpenSpec.ofChange octetPutsSpec)

/-- ITS FALSE NEIGHBOUR: 'it returns false'. Refute it at one input. -/
def octetPutsWrong : ChangeSpec := { name := "octetPuts", fn := fun _ => fun
  | [d1, d2, d3, d4] => { results := [.lit (.bool false)], args := [d1, d2, d3, d4] }
  | _ => none }
def OctetPutsWrongFalsely : Prop := octetPutsRow.holds Tryd.pinned (OpenSpec.ofChange octetPutsWrong)

/-- 'waywardenlaw03.OctetReads': WHATEVER THE INPUT: true; the input reads as it did. -/
def octetReadsSpec : ChangeSpec := { name := "octetReads", fn := fun _ => fun
  | [d1, d2, d3] => { results := [.lit (.bool true)], args := [d1, d2, d3] }
  | _ => none }
def octetReadsRow : OpenClaim := { program := "ytonjaoabehkecaadoor", sum := "ef252994cfdb61aaa972d1ad0ffe579b0db66ef7e599d42fff323b139f3e828e", func := "waywarden/waywardenlaw03.OctetReads", spec := "octetReads", named := ["waywarden/octet.widths"], apart := false, laid := [("waywarden/octet.widths", laid_waywarden_octet_widths)] }
def OctetReadsSaid : Prop := octetReadsRow.holds Tryd.pinned (OpenSpec.ofChange octetReadsSpec)

/-- ITS FALSE NEIGHBOUR: 'it returns false'. Refute it at one input. -/
def octetReadsWrong : ChangeSpec := { name := "octetReads", fn := fun _ => fun
  | [d1, d2, d3] => { results := [.lit (.bool false)], args := [d1, d2, d3] }
  | _ => none }
def OctetReadsWrongFalsely : Prop := octetReadsRow.holds Tryd.pinned (OpenSpec.ofChange octetReadsWrong)

/-- 'waywardenlaw03.OctetHolds': WHATEVER THE INPUT: true; the input reads as it did. -/
def octetHoldsSpec : ChangeSpec := { name := "octetHolds", fn := fun _ => fun
  | [d1, d2, d3, d4] => { results := [.lit (.bool true)], args := [d1, d2, d3, d4] }
  | _ => none }
def octetHoldsRow : OpenClaim := { program := "ytonjaoabehkecaadoor", sum := "ef252994cfdb61aaa972d1ad0ffe579b0db66ef7e599d42fff323b139f3e828e", func := "waywarden/waywardenlaw03.OctetHolds", spec := "octetHolds", named := ["waywarden/octet.widths"], apart := false, laid := [("waywarden/octet.widths", laid_waywarden_octet_widths)] }
def OctetHoldsSaid : Prop := octetHoldsRow.holds Tryd.pinned (OpenSpec.ofChange octetHoldsSpec)

/-- ITS FALSE NEIGHBOUR: 'it returns false'. Refute it at one input. -/
def octetHoldsWrong : ChangeSpec := { name := "octetHolds", fn := fun _ => fun
  | [d1, d2, d3, d4] => { results := [.lit (.bool false)], args := [d1, d2, d3, d4] }
  | _ => none }
def OctetHoldsWrongFalsely : Prop := octetHoldsRow.holds Tryd.pinned (OpenSpec.ofChange octetHoldsWrong)

/-- 'waywardenlaw03.OctetEach': WHATEVER THE INPUT: true; the input reads as it did. -/
def octetEachSpec : ChangeSpec := { name := "octetEach", fn := fun _ => fun
  | [d1, d2, d3] => { results := [.lit (.bool true)], args := [d1, d2, d3] }
  | _ => none }
def octetEachRow : OpenClaim := { program := "ytonjaoabehkecaadoor", sum := "ef252994cfdb61aaa972d1ad0ffe579b0db66ef7e599d42fff323b139f3e828e", func := "waywarden/waywardenlaw03.OctetEach", spec := "octetEach", unfollowed := true, recurses := true, named := ["waywarden/octet.widths"], apart := false, laid := [("waywarden/octet.widths", laid_waywarden_octet_widths)] }
def OctetEachSaid : Prop := octetEachRow.holds Tryd.pinned (OpenSpec.ofChange octetEachSpec)

/-- ITS FALSE NEIGHBOUR: 'it returns false'. Refute it at one input. -/
def octetEachWrong : ChangeSpec := { name := "octetEach", fn := fun _ => fun
  | [d1, d2, d3] => { results := [.lit (.bool false)], args := [d1, d2, d3] }
  | _ => none }
def OctetEachWrongFalsely : Prop := octetEachRow.holds Tryd.pinned (OpenSpec.ofChange octetEachWrong)

/-- 'waywardenlaw03.OctetPlays': WHATEVER THE INPUT: true; the input reads as it did. -/
def octetPlaysSpec : ChangeSpec := { name := "octetPlays", fn := fun _ => fun
  | [d1, d2] => { results := [.lit (.bool true)], args := [d1, d2] }
  | _ => none }
def octetPlaysRow : OpenClaim := { program := "ytonjaoabehkecaadoor", sum := "ef252994cfdb61aaa972d1ad0ffe579b0db66ef7e599d42fff323b139f3e828e", func := "waywarden/waywardenlaw03.OctetPlays", spec := "octetPlays", named := ["waywarden/octet.widths"], apart := false, laid := [("waywarden/octet.widths", laid_waywarden_octet_widths)] }
def OctetPlaysSaid : Prop := octetPlaysRow.holds Tryd.pinned (OpenSpec.ofChange octetPlaysSpec)

/-- ITS FALSE NEIGHBOUR: 'it returns false'. Refute it at one input. -/
def octetPlaysWrong : ChangeSpec := { name := "octetPlays", fn := fun _ => fun
  | [d1, d2] => { results := [.lit (.bool false)], args := [d1, d2] }
  | _ => none }
def OctetPlaysWrongFalsely : Prop := octetPlaysRow.holds Tryd.pinned (OpenSpec.ofChange octetPlaysWrong)

/- THE SECOND FORM. 'bulk': how many values and letters a reading holds, each counted each time it is reached (what is shared counts as often as it is met; a slice's spare places count too). A statement '..UptoSaid' is the law's where the arguments, and the package variables that the reading takes, are together of bulk at most 1048576: NARROWER than '..Said'. Prove '..Said' where nothing that the law and all that it calls make is longer than what came in: it says more and counts as full. Else prove '..UptoSaid'. A law counts once. -/
mutual
def uptoBulk {H : Type} : DataW H → Nat
  | .lit (.string bytes) => bytes.length + 1
  | .lit _ => 1
  | .nil => 1
  | .ptr d => uptoBulk d + 1
  | .slice elems spare => uptoBulkAll elems + uptoBulkAll spare + 1
  | .agg parts => uptoBulkAll parts + 1
  | .iface _ d => uptoBulk d + 1
  | .map entries => uptoBulkEntries entries + 1
  | .held _ => 1
def uptoBulkAll {H : Type} : List (DataW H) → Nat
  | [] => 0
  | d :: r => uptoBulk d + uptoBulkAll r
def uptoBulkEntries {H : Type} : List (Lit × DataW H) → Nat
  | [] => 0
  | x :: r => uptoBulkEntry x + uptoBulkEntries r
def uptoBulkEntry {H : Type} : Lit × DataW H → Nat
  | (.string bytes, d) => bytes.length + uptoBulk d + 1
  | (_, d) => uptoBulk d + 1
 end
def uptoSmall : (H : Type) → List (DataW H) → Bool := fun _ ds => decide (uptoBulkAll ds ≤ 1048576)
def OpenSpec.upto (s : _root_.Go.ChangeSpec) : _root_.Go.OpenSpec := { _root_.Go.OpenSpec.ofChange s with cond := some uptoSmall }

/-- 'waywardenlaw03.OctetPuts', WHERE WHAT IT READS IS OF BULK AT MOST 1048576: true; the input reads as it did. -/
def octetPutsUptoRow : OpenClaim := { program := "ytonjaoabehkecaadoor", sum := "ef252994cfdb61aaa972d1ad0ffe579b0db66ef7e599d42fff323b139f3e828e", func := "waywarden/waywardenlaw03.OctetPuts", spec := "octetPuts", named := ["waywarden/octet.widths"], apart := false, laid := [("waywarden/octet.widths", laid_waywarden_octet_widths)], narrowed := true }
def OctetPutsUptoSaid : Prop := octetPutsUptoRow.holds Tryd.pinned (OpenSpec.upto octetPutsSpec)

/-- 'waywardenlaw03.OctetReads', WHERE WHAT IT READS IS OF BULK AT MOST 1048576: true; the input reads as it did. -/
def octetReadsUptoRow : OpenClaim := { program := "ytonjaoabehkecaadoor", sum := "ef252994cfdb61aaa972d1ad0ffe579b0db66ef7e599d42fff323b139f3e828e", func := "waywarden/waywardenlaw03.OctetReads", spec := "octetReads", named := ["waywarden/octet.widths"], apart := false, laid := [("waywarden/octet.widths", laid_waywarden_octet_widths)], narrowed := true }
def OctetReadsUptoSaid : Prop := octetReadsUptoRow.holds Tryd.pinned (OpenSpec.upto octetReadsSpec)

/-- 'waywardenlaw03.OctetHolds', WHERE WHAT IT READS IS OF BULK AT MOST 1048576: true; the input reads as it did. -/
def octetHoldsUptoRow : OpenClaim := { program := "ytonjaoabehkecaadoor", sum := "ef252994cfdb61aaa972d1ad0ffe579b0db66ef7e599d42fff323b139f3e828e", func := "waywarden/waywardenlaw03.OctetHolds", spec := "octetHolds", named := ["waywarden/octet.widths"], apart := false, laid := [("waywarden/octet.widths", laid_waywarden_octet_widths)], narrowed := true }
def OctetHoldsUptoSaid : Prop := octetHoldsUptoRow.holds Tryd.pinned (OpenSpec.upto octetHoldsSpec)

/-- 'waywardenlaw03.OctetEach', WHERE WHAT IT READS IS OF BULK AT MOST 1048576: true; the input reads as it did. -/
def octetEachUptoRow : OpenClaim := { program := "ytonjaoabehkecaadoor", sum := "ef252994cfdb61aaa972d1ad0ffe579b0db66ef7e599d42fff323b139f3e828e", func := "waywarden/waywardenlaw03.OctetEach", spec := "octetEach", unfollowed := true, recurses := true, named := ["waywarden/octet.widths"], apart := false, laid := [("waywarden/octet.widths", laid_waywarden_octet_widths)], narrowed := true }
def OctetEachUptoSaid : Prop := octetEachUptoRow.holds Tryd.pinned (OpenSpec.upto octetEachSpec)

/-- 'waywardenlaw03.OctetPlays', WHERE WHAT IT READS IS OF BULK AT MOST 1048576: true; the input reads as it did. -/
def octetPlaysUptoRow : OpenClaim := { program := "ytonjaoabehkecaadoor", sum := "ef252994cfdb61aaa972d1ad0ffe579b0db66ef7e599d42fff323b139f3e828e", func := "waywarden/waywardenlaw03.OctetPlays", spec := "octetPlays", named := ["waywarden/octet.widths"], apart := false, laid := [("waywarden/octet.widths", laid_waywarden_octet_widths)], narrowed := true }
def OctetPlaysUptoSaid : Prop := octetPlaysUptoRow.holds Tryd.pinned (OpenSpec.upto octetPlaysSpec)

end Rows
end Go.Proofs.YtonjaoabehkecaaDoor
