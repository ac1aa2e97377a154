/-
  NARROWER THAN 'FOR EVERY INPUT', by the rows' own cells (each row's printed sentence says how): GuardLooks: laid · GuardTells: laid · GuardHolds: laid · GuardCounts: laid · GuardCopies: laid.
  DERIVED. THE GIVEN ROWS OF THIS SEAT. 5 by the template 'for every input the law returns true; each argument reads behind the call as it read before'; 0 by the template 'total and deterministic' (their statements: YtlanfceilajifaaGreatDoorTotals.lean).
  GIVEN WITH THE SEED: the statements are not yours to turn. If you find one false, say at which input.
  Laid BY PROGRAM, IN A SANDBOX (cutbox-rows.mjs): the forced cells as the released guide's own fill.sh prints them over the translation b0f4c4a07647e922… (all of the seat's roots in one cut). By AI agents, Wed Nov 11 2026. No macro, syntax, notation, axiom, sorry.
-/
import Derived.Test.YtlanfceilajifaaGreatDoorChecked
import GoSem.Claim
import GoSem.ClaimJoined
import GoSem.ClaimMapViews
import Derived.JoinedTies
import Derived.KernelRfl
namespace Go.Proofs.YtlanfceilajifaaGreatDoor
/- THE CELL 'sum', in the pinned program and in every row, IS THE sha256 OF THE DUMP (.gsa) THAT YtlanfceilajifaaGreatDoorProg.lean LOADS. Nothing in Lean hashes anything: it is a label: what it is worth is what the hold of that sum in a sandbox is worth. -/
noncomputable def Tryz.pinned : Pinned := { name := "ytlanfceilajifaagreatdoor", sum := "b0f4c4a07647e9220437bfa6f983068c5594a17003e2c1ea7753f48f7f60f99c", checked := Tryz.checked }
namespace Rows
def none {H : Type} : Left H := { results := [], args := [] }

/- WHAT THE LISTED PACKAGE-LEVEL VARIABLES READ AS WHEN THE CALL BEGINS. Each datum BY PROGRAM (the guide's laid-datum.mjs) off the statement by which the dump's own 'gosem.cut.vars' lays the variable. In a bare row this is a premise. The card (YtlanfceilajifaaGreatDoorCards.lean) ties it to the program's text. -/
def laid_waywarden_octet_widths {H : Type} : DataW H := .agg [.lit (.int .i64 1), .lit (.int .i64 2), .lit (.int .i64 4)]
def laid_waywarden_prefix_rels {H : Type} : DataW H := .agg [.agg [.lit (.int .i64 4), .lit (.int .i64 2)], .agg [.lit (.int .i64 3), .lit (.int .i64 1)]]

/-- 'waywardenlaw16.GuardLooks': WHATEVER THE INPUT: true; the input reads as it did. -/
def guardLooksSpec : ChangeSpec := { name := "guardLooks", fn := fun _ => fun
  | [d1, d2, d3, d4] => { results := [.lit (.bool true)], args := [d1, d2, d3, d4] }
  | _ => none }
def guardLooksRow : OpenClaim := { program := "ytlanfceilajifaagreatdoor", sum := "b0f4c4a07647e9220437bfa6f983068c5594a17003e2c1ea7753f48f7f60f99c", func := "waywarden/waywardenlaw16.GuardLooks", spec := "guardLooks", unfollowed := true, recurses := true, named := ["waywarden/prefix.rels", "waywarden/octet.widths"], apart := false, laid := [("waywarden/octet.widths", laid_waywarden_octet_widths), ("waywarden/prefix.rels", laid_waywarden_prefix_rels)] }
def GuardLooksSaid : Prop := guardLooksRow.holds Tryz.pinned (OpenSpec.ofChange guardLooksSpec)

/-- ITS FALSE NEIGHBOUR: 'it returns false'. Refute it at one input. -/
def guardLooksWrong : ChangeSpec := { name := "guardLooks", fn := fun _ => fun
  | [d1, d2, d3, d4] => { results := [.lit (.bool false)], args := [d1, d2, d3, d4] }
  | _ => none }
def GuardLooksWrongFalsely : Prop := guardLooksRow.holds Tryz.pinned (OpenSpec.ofChange guardLooksWrong)

/-- 'waywardenlaw16.GuardTells': WHATEVER THE INPUT: true; the input reads as it did. -/
def guardTellsSpec : ChangeSpec := { name := "guardTells", fn := fun _ => fun
  | [d1, d2] => { results := [.lit (.bool true)], args := [d1, d2] }
  | _ => none }
def guardTellsRow : OpenClaim := { program := "ytlanfceilajifaagreatdoor", sum := "b0f4c4a07647e9220437bfa6f983068c5594a17003e2c1ea7753f48f7f60f99c", func := "waywarden/waywardenlaw16.GuardTells", spec := "guardTells", unfollowed := true, recurses := true, named := ["waywarden/prefix.rels", "waywarden/octet.widths"], apart := false, laid := [("waywarden/octet.widths", laid_waywarden_octet_widths), ("waywarden/prefix.rels", laid_waywarden_prefix_rels)] }
def GuardTellsSaid : Prop := guardTellsRow.holds Tryz.pinned (OpenSpec.ofChange guardTellsSpec)

/-- ITS FALSE NEIGHBOUR: 'it returns false'. Refute it at one input. -/
def guardTellsWrong : ChangeSpec := { name := "guardTells", fn := fun _ => fun
  | [d1, d2] => { results := [.lit (.bool false)], args := [d1, d2] }
  | _ => none }
def GuardTellsWrongFalsely : Prop := guardTellsRow.holds Tryz.pinned (OpenSpec.ofChange guardTellsWrong)

/-- 'waywardenlaw16.GuardHolds': WHATEVER THE INPUT: true; the input reads as it did. -/
def guardHoldsSpec : ChangeSpec := { name := "guardHolds", fn := fun _ => fun
  | [d1, d2, d3, d4, d5, d6] => { results := [.lit (.bool true)], args := [d1, d2, d3, d4, d5, d6] }
  | _ => none }
def guardHoldsRow : OpenClaim := { program := "ytlanfceilajifaagreatdoor", sum := "b0f4c4a07647e9220437bfa6f983068c5594a17003e2c1ea7753f48f7f60f99c", func := "waywarden/waywardenlaw16.GuardHolds", spec := "guardHolds", unfollowed := true, recurses := true, named := ["waywarden/prefix.rels", "waywarden/octet.widths"], apart := false, laid := [("waywarden/octet.widths", laid_waywarden_octet_widths), ("waywarden/prefix.rels", laid_waywarden_prefix_rels)] }
def GuardHoldsSaid : Prop := guardHoldsRow.holds Tryz.pinned (OpenSpec.ofChange guardHoldsSpec)

/-- ITS FALSE NEIGHBOUR: 'it returns false'. Refute it at one input. -/
def guardHoldsWrong : ChangeSpec := { name := "guardHolds", fn := fun _ => fun
  | [d1, d2, d3, d4, d5, d6] => { results := [.lit (.bool false)], args := [d1, d2, d3, d4, d5, d6] }
  | _ => none }
def GuardHoldsWrongFalsely : Prop := guardHoldsRow.holds Tryz.pinned (OpenSpec.ofChange guardHoldsWrong)

/-- 'waywardenlaw16.GuardCounts': WHATEVER THE INPUT: true; the input reads as it did. -/
def guardCountsSpec : ChangeSpec := { name := "guardCounts", fn := fun _ => fun
  | [d] => { results := [.lit (.bool true)], args := [d] }
  | _ => none }
def guardCountsRow : OpenClaim := { program := "ytlanfceilajifaagreatdoor", sum := "b0f4c4a07647e9220437bfa6f983068c5594a17003e2c1ea7753f48f7f60f99c", func := "waywarden/waywardenlaw16.GuardCounts", spec := "guardCounts", unfollowed := true, recurses := true, named := ["waywarden/prefix.rels", "waywarden/octet.widths"], apart := false, laid := [("waywarden/octet.widths", laid_waywarden_octet_widths), ("waywarden/prefix.rels", laid_waywarden_prefix_rels)] }
def GuardCountsSaid : Prop := guardCountsRow.holds Tryz.pinned (OpenSpec.ofChange guardCountsSpec)

/-- ITS FALSE NEIGHBOUR: 'it returns false'. Refute it at one input. -/
def guardCountsWrong : ChangeSpec := { name := "guardCounts", fn := fun _ => fun
  | [d] => { results := [.lit (.bool false)], args := [d] }
  | _ => none }
def GuardCountsWrongFalsely : Prop := guardCountsRow.holds Tryz.pinned (OpenSpec.ofChange guardCountsWrong)

/-- 'waywardenlaw16.GuardCopies': WHATEVER THE INPUT: true; the input reads as it did. -/
def guardCopiesSpec : ChangeSpec := { name := "guardCopies", fn := fun _ => fun
  | [d1, d2, d3, d4] => { results := [.lit (.bool true)], args := [d1, d2, d3, d4] }
  | _ => none }
def guardCopiesRow : OpenClaim := { program := "ytlanfceilajifaagreatdoor", sum := "b0f4c4a07647e9220437bfa6f983068c5594a17003e2c1ea7753f48f7f60f99c", func := "waywarden/waywardenlaw16.GuardCopies", spec := "guardCopies", unfollowed := true, recurses := true, named := ["waywarden/prefix.rels", "waywarden/octet.widths"], apart := false, laid := [("waywarden/octet.widths", laid_waywarden_octet_widths), ("waywarden/prefix.rels", laid_waywarden_prefix_rels)] }
def GuardCopiesSaid : Prop := guardCopiesRow.holds Tryz.pinned (OpenSpec.ofChange guardCopiesSpec)

/-- ITS FALSE NEIGHBOUR: 'it returns false'. Refute it at one input. -/
def guardCopiesWrong : ChangeSpec := { name := "guardCopies", fn := fun _ => fun
  | [d1, d2, d3, d4] => { results := [.lit (.bool false)], args := [d1, d2, d3, d4] }
  | _ => none }
def GuardCopiesWrongFalsely : Prop := guardCopiesRow.holds Tryz.pinned (OpenSpec.ofChange guardCopiesWrong)

/- THE SECOND FORM. 'bulk': how many values and letters a reading holds, each counted each time it is reached (what is shared counts as often as it is met; a slice's spare places count too). A statement '..UptoSaid' is the law's where the arguments, and the package variables that the reading takes, are together of bulk at most 1048576: NARROWER than '..Said'. Prove '..Said' where nothing that the law and all that it calls make is longer than what came in: it says more and counts as full. Else prove '..UptoSaid'. A law counts once. -/
mutual
def uptoBulk {H : Type} : DataW H → Nat
  | .lit (.string bytes) => bytes.length + 1
  | .lit _ => 1
  | .nil => 1
  | .ptr d => uptoBulk d + 1
  | .slice elems spare => uptoBulkAll elems + uptoBulkAll spare + 1
  | .agg parts => uptoBulkAll parts + 1
  | .iface _ d => uptoBulk d + 1
  | .map entries => uptoBulkEntries entries + 1
  | .held _ => 1
def uptoBulkAll {H : Type} : List (DataW H) → Nat
  | [] => 0
  | d :: r => uptoBulk d + uptoBulkAll r
def uptoBulkEntries {H : Type} : List (Lit × DataW H) → Nat
  | [] => 0
  | x :: r => uptoBulkEntry x + uptoBulkEntries r
def uptoBulkEntry {H : Type} : Lit × DataW H → Nat
  | (.string bytes, d) => bytes.length + uptoBulk d + 1
  | (_, d) => uptoBulk d + 1
 end
def uptoSmall : (H : Type) → List (DataW H) → Bool := fun _ ds => decide (uptoBulkAll ds ≤ 1048576)
def OpenSpec.upto (s : _root_.Go.ChangeSpec) : _root_.Go.OpenSpec := { _root_.Go.OpenSpec.ofChange s with cond := some uptoSmall }

/-- 'waywardenlaw16.GuardLooks', WHERE WHAT IT READS IS OF BULK AT MOST 1048576: true; the input reads as it did. -/
def guardLooksUptoRow : OpenClaim := { program := "ytlanfceilajifaagreatdoor", sum := "b0f4c4a07647e9220437bfa6f983068c5594a17003e2c1ea7753f48f7f60f99c", func := "waywarden/waywardenlaw16.GuardLooks", spec := "guardLooks", unfollowed := true, recurses := true, named := ["waywarden/prefix.rels", "waywarden/octet.widths"], apart := false, laid := [("waywarden/octet.widths", laid_waywarden_octet_widths), ("waywarden/prefix.rels", laid_waywarden_prefix_rels)], narrowed := true }
def GuardLooksUptoSaid : Prop := guardLooksUptoRow.holds Tryz.pinned (OpenSpec.upto guardLooksSpec)

/-- 'waywardenlaw16.GuardTells', WHERE WHAT IT READS IS OF BULK AT MOST 1048576: true; the input reads as it did. -/
def guardTellsUptoRow : OpenClaim := { program := "ytlanfceilajifaagreatdoor", sum := "b0f4c4a07647e9220437bfa6f983068c5594a17003e2c1ea7753f48f7f60f99c", func := "waywarden/waywardenlaw16.GuardTells", spec := "guardTells", unfollowed := true, recurses := true, named := ["waywarden/prefix.rels", "waywarden/octet.widths"], apart := false, laid := [("waywarden/octet.widths", laid_waywarden_octet_widths), ("waywarden/prefix.rels", laid_waywarden_prefix_rels)], narrowed := true }
def GuardTellsUptoSaid : Prop := guardTellsUptoRow.holds Tryz.pinned (OpenSpec.upto guardTellsSpec)

/-- 'waywardenlaw16.GuardHolds', WHERE WHAT IT READS IS OF BULK AT MOST 1048576: true; the input reads as it did. -/
def guardHoldsUptoRow : OpenClaim := { program := "ytlanfceilajifaagreatdoor", sum := "b0f4c4a07647e9220437bfa6f983068c5594a17003e2c1ea7753f48f7f60f99c", func := "waywarden/waywardenlaw16.GuardHolds", spec := "guardHolds", unfollowed := true, recurses := true, named := ["waywarden/prefix.rels", "waywarden/octet.widths"], apart := false, laid := [("waywarden/octet.widths", laid_waywarden_octet_widths), ("waywarden/prefix.rels", laid_waywarden_prefix_rels)], narrowed := true }
def GuardHoldsUptoSaid : Prop := guardHoldsUptoRow.holds Tryz.pinned (OpenSpec.upto guardHoldsSpec)

/-- 'waywardenlaw16.GuardCounts', WHERE WHAT IT READS IS OF BULK AT MOST 1048576: true; the input reads as it did. -/
def guardCountsUptoRow : OpenClaim := { program := "ytlanfceilajifaagreatdoor", sum := "b0f4c4a07647e9220437bfa6f983068c5594a17003e2c1ea7753f48f7f60f99c", func := "waywarden/waywardenlaw16.GuardCounts", spec := "guardCounts", unfollowed := true, recurses := true, named := ["waywarden/prefix.rels", "waywarden/octet.widths"], apart := false, laid := [("waywarden/octet.widths", laid_waywarden_octet_widths), ("waywarden/prefix.rels", laid_waywarden_prefix_rels)], narrowed := true }
def GuardCountsUptoSaid : Prop := guardCountsUptoRow.holds Tryz.pinned (OpenSpec.upto guardCountsSpec)

/-- 'waywardenlaw16.GuardCopies', WHERE WHAT IT READS IS OF BULK AT MOST 1048576: true; the input reads as it did. -/
def guardCopiesUptoRow : OpenClaim := { program := "ytlanfceilajifaagreatdoor", sum := "b0f4c4a07647e9220437bfa6f983068c5594a17003e2c1ea7753f48f7f60f99c", func := "waywarden/waywardenlaw16.GuardCopies", spec := "guardCopies", unfollowed := true, recurses := true, named := ["waywarden/prefix.rels", "waywarden/octet.widths"], apart := false, laid := [("waywarden/octet.widths", laid_waywarden_octet_widths), ("waywarden/prefix.rels", laid_waywarden_prefix_rels)], narrowed := true }
def GuardCopiesUptoSaid : Prop := guardCopiesUptoRow.holds Tryz.pinned (OpenSpec.upto guardCopiesSpec)

end Rows
end Go.Proofs.YtlanfceilajifaaGreatDoor
