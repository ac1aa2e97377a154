/-
  No cell of these rows narrows 'for every input' (looked for: loops, veiled, ifaces, maps, wideKeys, modest, calm, conditions, laid).
  DERIVED. THE GIVEN ROWS OF THIS SEAT. 5 by the template 'for every input the law returns true; each argument reads behind the call as it read before'; 0 by the template 'total and deterministic' (their statements: YtgdkobknjgbdbaaTotals.lean).
  GIVEN WITH THE SEED: the statements are not yours to turn. If you find one false, say at which input.
  Laid BY PROGRAM, IN A SANDBOX (cutbox-rows.mjs): the forced cells as the released guide's own fill.sh prints them over the translation f7ad19fa02150646… (all of the seat's roots in one cut). By AI agents, Wed Nov 11 2026. No macro, syntax, notation, axiom, sorry.
-/
import Derived.Test.YtgdkobknjgbdbaaChecked
import GoSem.Claim
import GoSem.ClaimJoined
import GoSem.ClaimMapViews
import Derived.JoinedTies
import Derived.KernelRfl
namespace Go.Proofs.Ytgdkobknjgbdbaa
/- THE CELL 'sum', in the pinned program and in every row, IS THE sha256 OF THE DUMP (.gsa) THAT YtgdkobknjgbdbaaProg.lean LOADS. Nothing in Lean hashes anything: it is a label: what it is worth is what the hold of that sum in a sandbox is worth. -/
noncomputable def Try.pinned : Pinned := { name := "ytgdkobknjgbdbaa", sum := "f7ad19fa02150646ae704e6e616ebb6fcaeaaedf8290123a6a95e0b5b4575680", checked := Try.checked }
namespace Rows
def none {H : Type} : Left H := { results := [], args := [] }

/-- 'waywardenlaw19.FlightHolds': WHATEVER THE INPUT: true; the input reads as it did. -/
def flightHoldsSpec : ChangeSpec := { name := "flightHolds", fn := fun _ => fun
  | [d1, d2, d3, d4] => { results := [.lit (.bool true)], args := [d1, d2, d3, d4] }
  | _ => none }
def flightHoldsRow : OpenClaim := { program := "ytgdkobknjgbdbaa", sum := "f7ad19fa02150646ae704e6e616ebb6fcaeaaedf8290123a6a95e0b5b4575680", func := "waywarden/waywardenlaw19.FlightHolds", spec := "flightHolds", unfollowed := true, recurses := true, apart := false }
def FlightHoldsSaid : Prop := flightHoldsRow.holds Try.pinned (OpenSpec.ofChange flightHoldsSpec)

/-- ITS FALSE NEIGHBOUR: 'it returns false'. Refute it at one input. -/
def flightHoldsWrong : ChangeSpec := { name := "flightHolds", fn := fun _ => fun
  | [d1, d2, d3, d4] => { results := [.lit (.bool false)], args := [d1, d2, d3, d4] }
  | _ => none }
def FlightHoldsWrongFalsely : Prop := flightHoldsRow.holds Try.pinned (OpenSpec.ofChange flightHoldsWrong)

/-- 'waywardenlaw19.FlightAll': WHATEVER THE INPUT: true; the input reads as it did. -/
def flightAllSpec : ChangeSpec := { name := "flightAll", fn := fun _ => fun
  | [d1, d2, d3] => { results := [.lit (.bool true)], args := [d1, d2, d3] }
  | _ => none }
def flightAllRow : OpenClaim := { program := "ytgdkobknjgbdbaa", sum := "f7ad19fa02150646ae704e6e616ebb6fcaeaaedf8290123a6a95e0b5b4575680", func := "waywarden/waywardenlaw19.FlightAll", spec := "flightAll", unfollowed := true, recurses := true, apart := false }
def FlightAllSaid : Prop := flightAllRow.holds Try.pinned (OpenSpec.ofChange flightAllSpec)

/-- ITS FALSE NEIGHBOUR: 'it returns false'. Refute it at one input. -/
def flightAllWrong : ChangeSpec := { name := "flightAll", fn := fun _ => fun
  | [d1, d2, d3] => { results := [.lit (.bool false)], args := [d1, d2, d3] }
  | _ => none }
def FlightAllWrongFalsely : Prop := flightAllRow.holds Try.pinned (OpenSpec.ofChange flightAllWrong)

/-- 'waywardenlaw19.FlightPlays': WHATEVER THE INPUT: true; the input reads as it did. -/
def flightPlaysSpec : ChangeSpec := { name := "flightPlays", fn := fun _ => fun
  | [d1, d2] => { results := [.lit (.bool true)], args := [d1, d2] }
  | _ => none }
def flightPlaysRow : OpenClaim := { program := "ytgdkobknjgbdbaa", sum := "f7ad19fa02150646ae704e6e616ebb6fcaeaaedf8290123a6a95e0b5b4575680", func := "waywarden/waywardenlaw19.FlightPlays", spec := "flightPlays", unfollowed := true, recurses := true, apart := false }
def FlightPlaysSaid : Prop := flightPlaysRow.holds Try.pinned (OpenSpec.ofChange flightPlaysSpec)

/-- ITS FALSE NEIGHBOUR: 'it returns false'. Refute it at one input. -/
def flightPlaysWrong : ChangeSpec := { name := "flightPlays", fn := fun _ => fun
  | [d1, d2] => { results := [.lit (.bool false)], args := [d1, d2] }
  | _ => none }
def FlightPlaysWrongFalsely : Prop := flightPlaysRow.holds Try.pinned (OpenSpec.ofChange flightPlaysWrong)

/-- 'waywardenlaw19.FlightNone': WHATEVER THE INPUT: true; the input reads as it did. -/
def flightNoneSpec : ChangeSpec := { name := "flightNone", fn := fun _ => fun
  | [d1, d2, d3] => { results := [.lit (.bool true)], args := [d1, d2, d3] }
  | _ => none }
def flightNoneRow : OpenClaim := { program := "ytgdkobknjgbdbaa", sum := "f7ad19fa02150646ae704e6e616ebb6fcaeaaedf8290123a6a95e0b5b4575680", func := "waywarden/waywardenlaw19.FlightNone", spec := "flightNone", unfollowed := true, recurses := true, apart := false }
def FlightNoneSaid : Prop := flightNoneRow.holds Try.pinned (OpenSpec.ofChange flightNoneSpec)

/-- ITS FALSE NEIGHBOUR: 'it returns false'. Refute it at one input. -/
def flightNoneWrong : ChangeSpec := { name := "flightNone", fn := fun _ => fun
  | [d1, d2, d3] => { results := [.lit (.bool false)], args := [d1, d2, d3] }
  | _ => none }
def FlightNoneWrongFalsely : Prop := flightNoneRow.holds Try.pinned (OpenSpec.ofChange flightNoneWrong)

/-- 'waywardenlaw19.FlightCopies': WHATEVER THE INPUT: true; the input reads as it did. -/
def flightCopiesSpec : ChangeSpec := { name := "flightCopies", fn := fun _ => fun
  | [d1, d2, d3] => { results := [.lit (.bool true)], args := [d1, d2, d3] }
  | _ => none }
def flightCopiesRow : OpenClaim := { program := "ytgdkobknjgbdbaa", sum := "f7ad19fa02150646ae704e6e616ebb6fcaeaaedf8290123a6a95e0b5b4575680", func := "waywarden/waywardenlaw19.FlightCopies", spec := "flightCopies", unfollowed := true, recurses := true, apart := false }
def FlightCopiesSaid : Prop := flightCopiesRow.holds Try.pinned (OpenSpec.ofChange flightCopiesSpec)

/-- ITS FALSE NEIGHBOUR: 'it returns false'. Refute it at one input. -/
def flightCopiesWrong : ChangeSpec := { name := "flightCopies", fn := fun _ => fun
  | [d1, d2, d3] => { results := [.lit (.bool false)], args := [d1, d2, d3] }
  | _ => none }
def FlightCopiesWrongFalsely : Prop := flightCopiesRow.holds Try.pinned (OpenSpec.ofChange flightCopiesWrong)

/- THE SECOND FORM. 'bulk': how many values and letters a reading holds, each counted each time it is reached (what is shared counts as often as it is met; a slice's spare places count too). A statement '..UptoSaid' is the law's where the arguments, and the package variables that the reading takes, are together of bulk at most 1048576: NARROWER than '..Said'. Prove '..Said' where nothing that the law and all that it calls make is longer than what came in: it says more and counts as full. Else prove '..UptoSaid'. A law counts once. -/
mutual
def uptoBulk {H : Type} : DataW H → Nat
  | .lit (.string bytes) => bytes.length + 1
  | .lit _ => 1
  | .nil => 1
  | .ptr d => uptoBulk d + 1
  | .slice elems spare => uptoBulkAll elems + uptoBulkAll spare + 1
  | .agg parts => uptoBulkAll parts + 1
  | .iface _ d => uptoBulk d + 1
  | .map entries => uptoBulkEntries entries + 1
  | .held _ => 1
def uptoBulkAll {H : Type} : List (DataW H) → Nat
  | [] => 0
  | d :: r => uptoBulk d + uptoBulkAll r
def uptoBulkEntries {H : Type} : List (Lit × DataW H) → Nat
  | [] => 0
  | x :: r => uptoBulkEntry x + uptoBulkEntries r
def uptoBulkEntry {H : Type} : Lit × DataW H → Nat
  | (.string bytes, d) => bytes.length + uptoBulk d + 1
  | (_, d) => uptoBulk d + 1
 end
def uptoSmall : (H : Type) → List (DataW H) → Bool := fun _ ds => decide (uptoBulkAll ds ≤ 1048576)
def OpenSpec.upto (s : _root_.Go.ChangeSpec) : _root_.Go.OpenSpec := { _root_.Go.OpenSpec.ofChange s with cond := some uptoSmall }

/-- 'waywardenlaw19.FlightHolds', WHERE WHAT IT READS IS OF BULK AT MOST 1048576: true; the input reads as it did. -/
def flightHoldsUptoRow : OpenClaim := { program := "ytgdkobknjgbdbaa", sum := "f7ad19fa02150646ae704e6e616ebb6fcaeaaedf8290123a6a95e0b5b4575680", func := "waywarden/waywardenlaw19.FlightHolds", spec := "flightHolds", unfollowed := true, recurses := true, apart := false, narrowed := true }
def FlightHoldsUptoSaid : Prop := flightHoldsUptoRow.holds Try.pinned (OpenSpec.upto flightHoldsSpec)

/-- 'waywardenlaw19.FlightAll', WHERE WHAT IT READS IS OF BULK AT MOST 1048576: true; the input reads as it did. -/
def flightAllUptoRow : OpenClaim := { program := "ytgdkobknjgbdbaa", sum := "f7ad19fa02150646ae704e6e616ebb6fcaeaaedf8290123a6a95e0b5b4575680", func := "waywarden/waywardenlaw19.FlightAll", spec := "flightAll", unfollowed := true, recurses := true, apart := false, narrowed := true }
def FlightAllUptoSaid : Prop := flightAllUptoRow.holds Try.pinned (OpenSpec.upto flightAllSpec)

/-- 'waywardenlaw19.FlightPlays', WHERE WHAT IT READS IS OF BULK AT MOST 1048576: true; the input reads as it did. -/
def flightPlaysUptoRow : OpenClaim := { program := "ytgdkobknjgbdbaa", sum := "f7ad19fa02150646ae704e6e616ebb6fcaeaaedf8290123a6a95e0b5b4575680", func := "waywarden/waywardenlaw19.FlightPlays", spec := "flightPlays", unfollowed := true, recurses := true, apart := false, narrowed := true }
def FlightPlaysUptoSaid : Prop := flightPlaysUptoRow.holds Try.pinned (OpenSpec.upto flightPlaysSpec)

/-- 'waywardenlaw19.FlightNone', WHERE WHAT IT READS IS OF BULK AT MOST 1048576: true; the input reads as it did. -/
def flightNoneUptoRow : OpenClaim := { program := "ytgdkobknjgbdbaa", sum := "f7ad19fa02150646ae704e6e616ebb6fcaeaaedf8290123a6a95e0b5b4575680", func := "waywarden/waywardenlaw19.FlightNone", spec := "flightNone", unfollowed := true, recurses := true, apart := false, narrowed := true }
def FlightNoneUptoSaid : Prop := flightNoneUptoRow.holds Try.pinned (OpenSpec.upto flightNoneSpec)

/-- 'waywardenlaw19.FlightCopies', WHERE WHAT IT READS IS OF BULK AT MOST 1048576: true; the input reads as it did. -/
def flightCopiesUptoRow : OpenClaim := { program := "ytgdkobknjgbdbaa", sum := "f7ad19fa02150646ae704e6e616ebb6fcaeaaedf8290123a6a95e0b5b4575680", func := "waywarden/waywardenlaw19.FlightCopies", spec := "flightCopies", unfollowed := true, recurses := true, apart := false, narrowed := true }
def FlightCopiesUptoSaid : Prop := flightCopiesUptoRow.holds Try.pinned (OpenSpec.upto flightCopiesSpec)

end Rows
end Go.Proofs.Ytgdkobknjgbdbaa
