/- num: an error's number. -/
import Derived.Test.YtgjeejdebneoaaaDoorRows
import Derived.Test.YtgjeejdebneoaaaDoorBase
namespace Go.Proofs.YtgjeejdebneoaaaDoor
set_option linter.unusedVariables false
set_option linter.unusedSimpArgs false
open Go.RowKit
theorem num_any (n : Int) (w : World) :
    Calls Tryd.prog 12 #[.int .i64 n] w fun e w' => e = .returned (.int .i64 n) ∧ w = w' := by
  go_enter Tryd.func12, Tryd.ntmps12
  go_wp2
  go_ret; exact ⟨rfl, rfl⟩
end Go.Proofs.YtgjeejdebneoaaaDoor
