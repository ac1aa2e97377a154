/- face: a call of the law's. -/
import Derived.Test.YtfgbliglgdkgpaaDoorBase
namespace Go.Proofs.YtfgbliglgdkgpaaDoor
set_option linter.unusedVariables false
set_option linter.unusedSimpArgs false
/-- a call -/
structure Ac9 where
  wh : Int
  i : Int
  up : Bool
deriving Inhabited
def ac9L (x : Ac9) : List Value := [.int .i64 x.wh, .int .i64 x.i, .bool x.up]
def ac9A (x : Ac9) : Array Value := #[.int .i64 x.wh, .int .i64 x.i, .bool x.up]
theorem ac9L_len (x : Ac9) : (ac9L x).length = 3 := rfl
end Go.Proofs.YtfgbliglgdkgpaaDoor
