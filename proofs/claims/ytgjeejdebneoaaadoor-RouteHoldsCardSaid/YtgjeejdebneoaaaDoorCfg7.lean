/- config: Bound. -/
import Derived.Test.YtgjeejdebneoaaaDoorCfg6
namespace Go.Proofs.YtgjeejdebneoaaaDoor
set_option linter.unusedVariables false
set_option linter.unusedSimpArgs false
open Go.RowKit
set_option maxRecDepth 100000

/-- the bound of a configuration, and the error -/
def bndC (ok : Bool) (p j t h g d : Int) : Int × Int := if ok = false ∨ d < 0 ∨ 1000000 < d then (0, 2) else if t ≤ p + j + d then (0, 180) else (32 * (t + h + g + p + j + d), 0)

end Go.Proofs.YtgjeejdebneoaaaDoor
