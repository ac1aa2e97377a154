/- num: an error's number. -/
import Derived.Test.YtonjaoabehkecaaDoorRows
import Derived.Test.YtonjaoabehkecaaDoorBase
namespace Go.Proofs.YtonjaoabehkecaaDoor
set_option linter.unusedVariables false
set_option linter.unusedSimpArgs false
open Go.RowKit
theorem num_any (n : Int) (w : World) :
    Calls Tryd.prog 11 #[.int .i64 n] w fun e w' => e = .returned (.int .i64 n) ∧ w = w' := by
  go_enter Tryd.func11, Tryd.ntmps11
  go_wp2
  go_ret; exact ⟨rfl, rfl⟩
end Go.Proofs.YtonjaoabehkecaaDoor
