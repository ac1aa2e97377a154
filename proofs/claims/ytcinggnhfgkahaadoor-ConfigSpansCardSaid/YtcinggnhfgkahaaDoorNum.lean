/- num: an error's number. -/
import Derived.Test.YtcinggnhfgkahaaDoorRows
import Derived.Test.YtcinggnhfgkahaaDoorBase
namespace Go.Proofs.YtcinggnhfgkahaaDoor
set_option linter.unusedVariables false
set_option linter.unusedSimpArgs false
open Go.RowKit
theorem num_any (n : Int) (w : World) :
    Calls Tryd.prog 10 #[.int .i64 n] w fun e w' => e = .returned (.int .i64 n) ∧ w = w' := by
  go_enter Tryd.func10, Tryd.ntmps10
  go_wp2
  go_ret; exact ⟨rfl, rfl⟩
end Go.Proofs.YtcinggnhfgkahaaDoor
