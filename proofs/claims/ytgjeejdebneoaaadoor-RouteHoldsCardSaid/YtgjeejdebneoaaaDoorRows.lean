/-
  NARROWER THAN 'FOR EVERY INPUT', by the rows' own cells (each row's printed sentence says how): RouteHears: laid · RouteLife: laid · RouteChecks: laid · RouteEnds: laid · RouteHolds: laid.
  DERIVED. THE GIVEN ROWS OF THIS SEAT. 5 by the template 'for every input the law returns true; each argument reads behind the call as it read before'; 0 by the template 'total and deterministic' (their statements: YtgjeejdebneoaaaDoorTotals.lean).
  GIVEN WITH THE SEED: the statements are not yours to turn. If you find one false, say at which input.
  Laid BY PROGRAM, IN A SANDBOX (cutbox-rows.mjs): the forced cells as the released guide's own fill.sh prints them over the translation 0ebd7e4ca6a63ffd… (all of the seat's roots in one cut). By AI agents, Wed Nov 11 2026. No macro, syntax, notation, axiom, sorry.
-/
import Derived.Test.YtgjeejdebneoaaaDoorChecked
import GoSem.Claim
import GoSem.ClaimJoined
import GoSem.ClaimMapViews
import Derived.JoinedTies
import Derived.KernelRfl
namespace Go.Proofs.YtgjeejdebneoaaaDoor
/- THE CELL 'sum', in the pinned program and in every row, IS THE sha256 OF THE DUMP (.gsa) THAT YtgjeejdebneoaaaDoorProg.lean LOADS. Nothing in Lean hashes anything: it is a label: what it is worth is what the hold of that sum in a sandbox is worth. -/
noncomputable def Tryd.pinned : Pinned := { name := "ytgjeejdebneoaaadoor", sum := "0ebd7e4ca6a63ffd89a2b2033f49096803b79734186f00b3c2f061eb34854266", checked := Tryd.checked }
namespace Rows
def none {H : Type} : Left H := { results := [], args := [] }

/- WHAT THE LISTED PACKAGE-LEVEL VARIABLES READ AS WHEN THE CALL BEGINS. Each datum BY PROGRAM (the guide's laid-datum.mjs) off the statement by which the dump's own 'gosem.cut.vars' lays the variable. In a bare row this is a premise. The card (YtgjeejdebneoaaaDoorCards.lean) ties it to the program's text. -/
def laid_waywarden_config_capBounds {H : Type} : DataW H := .agg [.lit (.int .i64 1), .lit (.int .i64 256)]

/-- 'waywardenlaw11.RouteHears': WHATEVER THE INPUT: true; the input reads as it did. -/
def routeHearsSpec : ChangeSpec := { name := "routeHears", fn := fun _ => fun
  | [d1, d2, d3, d4] => { results := [.lit (.bool true)], args := [d1, d2, d3, d4] }
  | _ => none }
def routeHearsRow : OpenClaim := { program := "ytgjeejdebneoaaadoor", sum := "0ebd7e4ca6a63ffd89a2b2033f49096803b79734186f00b3c2f061eb34854266", func := "waywarden/waywardenlaw11.RouteHears", spec := "routeHears", unfollowed := true, recurses := true, named := ["waywarden/config.capBounds"], apart := false, laid := [("waywarden/config.capBounds", laid_waywarden_config_capBounds)] }
def RouteHearsSaid : Prop := routeHearsRow.holds Tryd.pinned (OpenSpec.ofChange routeHearsSpec)

/-- ITS FALSE NEIGHBOUR: 'it returns false'. Refute it at one input. -/
def routeHearsWrong : ChangeSpec := { name := "routeHears", fn := fun _ => fun
  | [d1, d2, d3, d4] => { results := [.lit (.bool false)], args := [d1, d2, d3, d4] }
  | _ => none }
def RouteHearsWrongFalsely : Prop := routeHearsRow.holds Tryd.pinned (OpenSpec.ofChange routeHearsWrong)

/-- 'waywardenlaw11.RouteLife': WHATEVER THE INPUT: true; the input reads as it did. -/
def routeLifeSpec : ChangeSpec := { name := "routeLife", fn := fun _ => fun
  | [d1, d2, d3] => { results := [.lit (.bool true)], args := [d1, d2, d3] }
  | _ => none }
def routeLifeRow : OpenClaim := { program := "ytgjeejdebneoaaadoor", sum := "0ebd7e4ca6a63ffd89a2b2033f49096803b79734186f00b3c2f061eb34854266", func := "waywarden/waywardenlaw11.RouteLife", spec := "routeLife", unfollowed := true, recurses := true, named := ["waywarden/config.capBounds"], apart := false, laid := [("waywarden/config.capBounds", laid_waywarden_config_capBounds)] }
def RouteLifeSaid : Prop := routeLifeRow.holds Tryd.pinned (OpenSpec.ofChange routeLifeSpec)

/-- ITS FALSE NEIGHBOUR: 'it returns false'. Refute it at one input. -/
def routeLifeWrong : ChangeSpec := { name := "routeLife", fn := fun _ => fun
  | [d1, d2, d3] => { results := [.lit (.bool false)], args := [d1, d2, d3] }
  | _ => none }
def RouteLifeWrongFalsely : Prop := routeLifeRow.holds Tryd.pinned (OpenSpec.ofChange routeLifeWrong)

/-- 'waywardenlaw11.RouteChecks': WHATEVER THE INPUT: true; the input reads as it did. -/
def routeChecksSpec : ChangeSpec := { name := "routeChecks", fn := fun _ => fun
  | [d1, d2, d3] => { results := [.lit (.bool true)], args := [d1, d2, d3] }
  | _ => none }
def routeChecksRow : OpenClaim := { program := "ytgjeejdebneoaaadoor", sum := "0ebd7e4ca6a63ffd89a2b2033f49096803b79734186f00b3c2f061eb34854266", func := "waywarden/waywardenlaw11.RouteChecks", spec := "routeChecks", unfollowed := true, recurses := true, named := ["waywarden/config.capBounds"], apart := false, laid := [("waywarden/config.capBounds", laid_waywarden_config_capBounds)] }
def RouteChecksSaid : Prop := routeChecksRow.holds Tryd.pinned (OpenSpec.ofChange routeChecksSpec)

/-- ITS FALSE NEIGHBOUR: 'it returns false'. Refute it at one input. -/
def routeChecksWrong : ChangeSpec := { name := "routeChecks", fn := fun _ => fun
  | [d1, d2, d3] => { results := [.lit (.bool false)], args := [d1, d2, d3] }
  | _ => none }
def RouteChecksWrongFalsely : Prop := routeChecksRow.holds Tryd.pinned (OpenSpec.ofChange routeChecksWrong)

/-- 'waywardenlaw11.RouteEnds': WHATEVER THE INPUT: true; the input reads as it did. -/
def routeEndsSpec : ChangeSpec := { name := "routeEnds", fn := fun _ => fun
  | [d1, d2, d3] => { results := [.lit (.bool true)], args := [d1, d2, d3] }
  | _ => none }
def routeEndsRow : OpenClaim := { program := "ytgjeejdebneoaaadoor", sum := "0ebd7e4ca6a63ffd89a2b2033f49096803b79734186f00b3c2f061eb34854266", func := "waywarden/waywardenlaw11.RouteEnds", spec := "routeEnds", unfollowed := true, recurses := true, named := ["waywarden/config.capBounds"], apart := false, laid := [("waywarden/config.capBounds", laid_waywarden_config_capBounds)] }
def RouteEndsSaid : Prop := routeEndsRow.holds Tryd.pinned (OpenSpec.ofChange routeEndsSpec)

/-- ITS FALSE NEIGHBOUR: 'it returns false'. Refute it at one input. -/
def routeEndsWrong : ChangeSpec := { name := "routeEnds", fn := fun _ => fun
  | [d1, d2, d3] => { results := [.lit (.bool false)], args := [d1, d2, d3] }
  | _ => none }
def RouteEndsWrongFalsely : Prop := routeEndsRow.holds Tryd.pinned (OpenSpec.ofChange routeEndsWrong)

/-- 'waywardenlaw11.RouteHolds': WHATEVER THE INPUT: true; the input reads as it did. -/
def routeHoldsSpec : ChangeSpec := { name := "routeHolds", fn := fun _ => fun
  | [d1, d2, d3] => { results := [.lit (.bool true)], args := [d1, d2, d3] }
  | _ => none }
def routeHoldsRow : OpenClaim := { program := "ytgjeejdebneoaaadoor", sum := "0ebd7e4ca6a63ffd89a2b2033f49096803b79734186f00b3c2f061eb34854266", func := "waywarden/waywardenlaw11.RouteHolds", spec := "routeHolds", unfollowed := true, recurses := true, named := ["waywarden/config.capBounds"], apart := false, laid := [("waywarden/config.capBounds", laid_waywarden_config_capBounds)] }
def RouteHoldsSaid : Prop := routeHoldsRow.holds Tryd.pinned (OpenSpec.ofChange routeHoldsSpec)

/-- ITS FALSE NEIGHBOUR: 'it returns false'. Refute it at one input. -/
def routeHoldsWrong : ChangeSpec := { name := "routeHolds", fn := fun _ => fun
  | [d1, d2, d3] => { results := [.lit (.bool false)], args := [d1, d2, d3] }
  | _ => none }
def RouteHoldsWrongFalsely : Prop := routeHoldsRow.holds Tryd.pinned (OpenSpec.ofChange routeHoldsWrong)

/- THE SECOND FORM. 'bulk': how many values and letters a reading holds, each counted each time it is reached (what is shared counts as often as it is met; a slice's spare places count too). A statement '..UptoSaid' is the law's where the arguments, and the package variables that the reading takes, are together of bulk at most 1048576: NARROWER than '..Said'. Prove '..Said' where nothing that the law and all that it calls make is longer than what came in: it says more and counts as full. Else prove '..UptoSaid'. A law counts once. -/
mutual
def uptoBulk {H : Type} : DataW H → Nat
  | .lit (.string bytes) => bytes.length + 1
  | .lit _ => 1
  | .nil => 1
  | .ptr d => uptoBulk d + 1
  | .slice elems spare => uptoBulkAll elems + uptoBulkAll spare + 1
  | .agg parts => uptoBulkAll parts + 1
  | .iface _ d => uptoBulk d + 1
  | .map entries => uptoBulkEntries entries + 1
  | .held _ => 1
def uptoBulkAll {H : Type} : List (DataW H) → Nat
  | [] => 0
  | d :: r => uptoBulk d + uptoBulkAll r
def uptoBulkEntries {H : Type} : List (Lit × DataW H) → Nat
  | [] => 0
  | x :: r => uptoBulkEntry x + uptoBulkEntries r
def uptoBulkEntry {H : Type} : Lit × DataW H → Nat
  | (.string bytes, d) => bytes.length + uptoBulk d + 1
  | (_, d) => uptoBulk d + 1
 end
def uptoSmall : (H : Type) → List (DataW H) → Bool := fun _ ds => decide (uptoBulkAll ds ≤ 1048576)
def OpenSpec.upto (s : _root_.Go.ChangeSpec) : _root_.Go.OpenSpec := { _root_.Go.OpenSpec.ofChange s with cond := some uptoSmall }

/-- 'waywardenlaw11.RouteHears', WHERE WHAT IT READS IS OF BULK AT MOST 1048576: true; the input reads as it did. -/
def routeHearsUptoRow : OpenClaim := { program := "ytgjeejdebneoaaadoor", sum := "0ebd7e4ca6a63ffd89a2b2033f49096803b79734186f00b3c2f061eb34854266", func := "waywarden/waywardenlaw11.RouteHears", spec := "routeHears", unfollowed := true, recurses := true, named := ["waywarden/config.capBounds"], apart := false, laid := [("waywarden/config.capBounds", laid_waywarden_config_capBounds)], narrowed := true }
def RouteHearsUptoSaid : Prop := routeHearsUptoRow.holds Tryd.pinned (OpenSpec.upto routeHearsSpec)

/-- 'waywardenlaw11.RouteLife', WHERE WHAT IT READS IS OF BULK AT MOST 1048576: true; the input reads as it did. -/
def routeLifeUptoRow : OpenClaim := { program := "ytgjeejdebneoaaadoor", sum := "0ebd7e4ca6a63ffd89a2b2033f49096803b79734186f00b3c2f061eb34854266", func := "waywarden/waywardenlaw11.RouteLife", spec := "routeLife", unfollowed := true, recurses := true, named := ["waywarden/config.capBounds"], apart := false, laid := [("waywarden/config.capBounds", laid_waywarden_config_capBounds)], narrowed := true }
def RouteLifeUptoSaid : Prop := routeLifeUptoRow.holds Tryd.pinned (OpenSpec.upto routeLifeSpec)

/-- 'waywardenlaw11.RouteChecks', WHERE WHAT IT READS IS OF BULK AT MOST 1048576: true; the input reads as it did. -/
def routeChecksUptoRow : OpenClaim := { program := "ytgjeejdebneoaaadoor", sum := "0ebd7e4ca6a63ffd89a2b2033f49096803b79734186f00b3c2f061eb34854266", func := "waywarden/waywardenlaw11.RouteChecks", spec := "routeChecks", unfollowed := true, recurses := true, named := ["waywarden/config.capBounds"], apart := false, laid := [("waywarden/config.capBounds", laid_waywarden_config_capBounds)], narrowed := true }
def RouteChecksUptoSaid : Prop := routeChecksUptoRow.holds Tryd.pinned (OpenSpec.upto routeChecksSpec)

/-- 'waywardenlaw11.RouteEnds', WHERE WHAT IT READS IS OF BULK AT MOST 1048576: true; the input reads as it did. -/
def routeEndsUptoRow : OpenClaim := { program := "ytgjeejdebneoaaadoor", sum := "0ebd7e4ca6a63ffd89a2b2033f49096803b79734186f00b3c2f061eb34854266", func := "waywarden/waywardenlaw11.RouteEnds", spec := "routeEnds", unfollowed := true, recurses := true, named := ["waywarden/config.capBounds"], apart := false, laid := [("waywarden/config.capBounds", laid_waywarden_config_capBounds)], narrowed := true }
def RouteEndsUptoSaid : Prop := routeEndsUptoRow.holds Tryd.pinned (OpenSpec.upto routeEndsSpec)

/-- 'waywardenlaw11.RouteHolds', WHERE WHAT IT READS IS OF BULK AT MOST 1048576: true; the input reads as it did. -/
def routeHoldsUptoRow : OpenClaim := { program := "ytgjeejdebneoaaadoor", sum := "0ebd7e4ca6a63ffd89a2b2033f49096803b79734186f00b3c2f061eb34854266", func := "waywarden/waywardenlaw11.RouteHolds", spec := "routeHolds", unfollowed := true, recurses := true, named := ["waywarden/config.capBounds"], apart := false, laid := [("waywarden/config.capBounds", laid_waywarden_config_capBounds)], narrowed := true }
def RouteHoldsUptoSaid : Prop := routeHoldsUptoRow.holds Tryd.pinned (OpenSpec.upto routeHoldsSpec)

end Rows
end Go.Proofs.YtgjeejdebneoaaaDoor
