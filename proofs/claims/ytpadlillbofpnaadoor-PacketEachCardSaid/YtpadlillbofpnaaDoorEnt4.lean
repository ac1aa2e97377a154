/- entry: Name, All; the references of Of and Prefix. -/
import Derived.Test.YtpadlillbofpnaaDoorEnt3
namespace Go.Proofs.YtpadlillbofpnaaDoor
set_option linter.unusedVariables false
set_option linter.unusedSimpArgs false
open Go.RowKit
set_option maxRecDepth 100000

theorem all_any (w : World) : Calls Tryd.prog 39 #[] w fun e w' => e = .returned (.agg #[.int .i64 0, .int .i64 0, .int .u32 0, .int .u32 0, .int .u32 0, .int .u32 16]) ∧ Below w.heap.size w w' := by
  go_enter Tryd.func39, Tryd.ntmps39
  go_wp2
  go_returns
  exact ⟨rfl, by go_grown⟩
theorem refAll_any (w : World) : Calls Tryd.prog 40 #[] w fun e w' => e = .returned (.agg #[.int .i64 0, .int .i64 0, .int .u32 0, .int .u32 0, .int .u32 0, .int .u32 16]) ∧ Below w.heap.size w w' := by
  go_enter Tryd.func40, Tryd.ntmps40
  go_wp2
  go_returns
  exact ⟨rfl, by go_grown⟩
/-- a reason's name -/
def nameF (r : Int) : ByteArray :=
  if r = 0 then ⟨#[102, 105, 110, 101]⟩ else if r = 1 then ⟨#[102, 97, 109, 105, 108, 121]⟩ else if r = 2 then ⟨#[109, 97, 115, 107]⟩ else if r = 3 then ⟨#[98, 105, 116, 115]⟩ else if r = 4 then ⟨#[107, 105, 110, 100]⟩ else if r = 5 then ⟨#[110, 101, 120, 116]⟩ else if r = 6 then ⟨#[109, 101, 116, 114, 105, 99]⟩ else ⟨#[]⟩

end Go.Proofs.YtpadlillbofpnaaDoor
