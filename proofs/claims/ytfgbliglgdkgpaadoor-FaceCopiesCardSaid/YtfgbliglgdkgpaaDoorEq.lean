/- '==' and '!=' of two prefixes, and of two entries. -/
import Derived.Test.YtfgbliglgdkgpaaDoorRows
import Derived.Test.YtfgbliglgdkgpaaDoorBase2
namespace Go.Proofs.YtfgbliglgdkgpaaDoor
set_option linter.unusedVariables false
set_option linter.unusedSimpArgs false
open Go.RowKit

theorem eq_pfx (a b n m : Int) (w : World) : (binOp .eql 33 (.agg #[.int .u32 a, .int .i64 n]) (.agg #[.int .u32 b, .int .i64 m])).run Tryd.prog w = .ok (.bool (a == b && n == m)) w := by
  have h1 : Tryd.prog.underlying 33 = some (.struct (Tryd.prog.fieldsOf 33)) := by simp [Program.fieldsOf, Tryd.underlying33]
  have h2 := run_equalIn_struct (P := Tryd.prog) w 9999 33 #[.int .u32 a, .int .i64 n] #[.int .u32 b, .int .i64 m] h1 (by kernel_rfl)
  simp only [binOp]
  simp only [Op.equal, Op.maxDepth, Sem.run_bind, h2]
  by_cases ha : a = b <;> by_cases hn : n = m <;> simp [go_sem, ha, hn]
end Go.Proofs.YtfgbliglgdkgpaaDoor
